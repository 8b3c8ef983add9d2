/- Lemmas of the proof. Conditions: as stated. -/
import Derived.Test.YtfmnggcfhalfnaaGreatQW13
import Derived.Test.YtfmnggcfhalfnaaGreatQW14
import Derived.Test.YtfmnggcfhalfnaaGreatQW16
set_option linter.unusedVariables false
set_option linter.unusedSimpArgs false
set_option maxRecDepth 100000
set_option maxHeartbeats 8000000
namespace Go.Proofs.YtfmnggcfhalfnaaGreat
open Go.RowKit
section
variable {α:Type} {f:α→List UInt8} {l:List α} {d:List UInt8} {i:Nat}
theorem xN (h1:∀k (h:k<l.length),k<i→Op.bytesLess (f l[k]) d=true) (hi:i<l.length) (he:f l[i]=d):l.findIdx? (fun x=>f x==d)=some i:=by
 rw [List.findIdx?_eq_some_iff_getElem];exact⟨hi,by simp [he],fun k hk=>by
  have:=kJ (h1 k (by omega) hk);simp [this]⟩
theorem ui (hr:RisesBy f l) (h1:∀k (h:k<l.length),k<i→Op.bytesLess (f l[k]) d=true) (h2:∀k (h:k<l.length),i≤k→Op.bytesLess (f l[k]) d=false) (hn:¬ ∃h:i<l.length,f l[i]=d) :
  (∀x∈l,f x≠d)∧∀k (h:k<l.length),i≤k→Op.bytesLess d (f l[k])=true:=by
 have hp:=List.pairwise_iff_getElem.1 hr;have h3:∀k (h:k<l.length),i≤k→Op.bytesLess d (f l[k])=true:=fun k h hk=>by
  have hi:i<l.length:=by omega
  have h4:Op.bytesLess d (f l[i])=true:=by
   rcases ko d (f l[i]) with h | h | h
   ·exact h
   ·exact absurd ⟨hi,h.symm⟩ hn
   ·rw [h2 i hi (Nat.le_refl _)]at h;cases h
  rcases Nat.lt_or_ge i k with h5 | h5
  ·exact zy h4 (hp i k hi h h5)
  ·obtain rfl:i=k:=by omega
   exact h4
 refine⟨fun x hx e=> ?_,h3⟩;obtain⟨k,hk,rfl⟩:=List.mem_iff_getElem.1 hx;rcases Nat.lt_or_ge k i with h5 | h5
 ·exact kJ (h1 k hk h5) e
 ·exact kJ (h3 k hk h5) e.symm
theorem ZM (hr:RisesBy f l) (h1:∀k (h:k<l.length),k<i→Op.bytesLess (f l[k]) d=true) (h2:∀k (h:k<l.length),i≤k→Op.bytesLess (f l[k]) d=false) (hn:¬ ∃h:i<l.length,f l[i]=d) {x:α} (hx:f x=d) :
  RisesBy f (l.take i++x::l.drop i)∧(l.take i++x::l.drop i).Perm (x::l):=by
 have h3:=(ui hr h1 h2 hn).2;have ht:∀a∈l.take i,Op.bytesLess (f a) d=true:=fun a ha=>by
  obtain⟨k,hk,rfl⟩:=List.mem_iff_getElem.1 ha;rw [List.length_take]at hk;rw [List.getElem_take];exact h1 k (by omega) (by omega)
 have hd:∀a∈l.drop i,Op.bytesLess d (f a)=true:=fun a ha=>by
  obtain⟨k,hk,rfl⟩:=List.mem_iff_getElem.1 ha;rw [List.length_drop]at hk;rw [List.getElem_drop];exact h3 (i+k) (by omega) (by omega)
 refine⟨List.pairwise_append.2 ⟨hr.sublist (List.take_sublist _ _),List.pairwise_cons.2 ⟨fun a ha=>by rw [hx];exact hd a ha,hr.sublist (List.drop_sublist _ _)⟩,fun a ha b hb=> ?_⟩,?_⟩
 ·rcases List.mem_cons.1 hb with rfl | hb
  ·rw [hx];exact ht a ha
  ·exact zy (ht a ha) (hd b hb)
 ·have:=(List.perm_middle (a:=x) (l₁:=l.take i) (l₂:=l.drop i))
  rwa [List.take_append_drop]at this
theorem jS (hr:RisesBy f l) (h1:∀k (h:k<l.length),k<i→Op.bytesLess (f l[k]) d=true) (h2:∀k (h:k<l.length),i≤k→Op.bytesLess (f l[k]) d=false) (hn:¬ ∃h:i<l.length,f l[i]=d) {x:α} (hx:f x=d) :
  l.take i++x::l.drop i=srt f (x::l):=by
 obtain⟨a,b⟩:=ZM hr h1 h2 hn hx;exact uY a b
theorem jR (hr:RisesBy f l) (h1:∀k (h:k<l.length),k<i→Op.bytesLess (f l[k]) d=true) (h2:∀k (h:k<l.length),i≤k→Op.bytesLess (f l[k]) d=false) (hn:¬ ∃h:i<l.length,f l[i]=d):l.findIdx? (fun x=>f x==d)=none:=by
 rw [List.findIdx?_eq_none_iff];intro x hx;have:=(ui hr h1 h2 hn).1 x hx;simp [this]
end
def kg (l:List EntP) (x:EntP):List EntP:=match l.findIdx? (fun y=>y.key==x.key) with | some i=>l.set i { x with pins:=(match l[i]? with | some y=>y.pins | none=>0) } | none=>srt (·.key) (x::l)
def putB (l:List BlobP) (d:List UInt8):List BlobP:=match l.findIdx? (fun b=>b.dig==shaS d) with | some _=>l | none=>srt (·.dig) (⟨shaS d,d,0,false⟩::l)
theorem ZY {α:Type} {f:α→List UInt8} {l:List α} {x:α} (hr:RisesBy f l) (hn:l.findIdx? (fun y=>f y==f x)=none):RisesBy f (srt f (x::l)):=qQ (by
 rw [List.map_cons,List.nodup_cons]
 refine⟨fun h=> ?_,kb.nodup (RisesBy.map hr)⟩
 obtain⟨y,hy,e⟩:=List.mem_map.1 h
 have:=List.findIdx?_eq_none_iff.1 hn y hy
 simp [e]at this)
theorem uQ {l:List EntP} {i:Nat} {x:EntP} (hr:RisesBy (·.key) l) (hi:i<l.length) (hk:x.key=l[i].key):RisesBy (·.key) (l.set i x):=by
 have h:(l.set i x).map (·.key)=l.map (·.key):=by
  rw [List.map_set,hk];apply List.ext_getElem?;intro k;rw [List.getElem?_set];split
  ·rename_i e;subst e;rw [List.length_map,if_pos hi,List.getElem?_map,List.getElem?_eq_getElem hi];rfl
  ·rfl
 have h1:kb ((l.set i x).map (·.key)):=by rw [h];exact hr.map
 exact List.pairwise_map.1 h1
theorem uM {l:List EntP} {x:EntP} (hg:GoodE l) (hx:GoodE1 x) (hlen:l.length<10):GoodE (kg l x):=by
 unfold kg;cases hf:l.findIdx? (fun y=>y.key==x.key) with
 | none =>
  refine⟨?_,fun y hy=> ?_,ZY hg.ris hf⟩
  ·rw [(zm _ _).length_eq];simp;omega
  ·rcases List.mem_cons.1 ((zm _ _).mem_iff.1 hy) with rfl | h
   ·exact hx
   ·exact hg.one y h
 | some i =>
  obtain⟨hi,he,_⟩:=List.findIdx?_eq_some_iff_getElem.1 hf;have he':l[i].key=x.key:=by simpa using he
  show GoodE (l.set i { x with pins:=(match l[i]? with | some y=>y.pins | none=>0) });rw [List.getElem?_eq_getElem hi];refine⟨by rw [List.length_set];exact hg.len,fun y hy=> ?_,uQ hg.ris hi he'.symm⟩;rcases List.mem_or_eq_of_mem_set hy with h | h
  ·exact hg.one y h
  ·subst h;obtain⟨a,b,c,e⟩:=hx;exact⟨a,b,(hg.one _ (List.getElem_mem hi)).2.2.1,e⟩
theorem RwX.put4 {α:Type} {S:Shp α} {e:TypeId} {w:World} {base g cap:Nat} {l:List α} {N:Nat→Prop} {i:Nat} {x:α} {u0 u1 u2 u3:Value} (h:RwX S e w base (.slice (some ⟨g,0,none⟩) l.length cap) l N) (h4:S.size=4) (hi:i<l.length)
  (hR:S.R w x [u0,u1,u2,u3]) (hl:∀b,(b=g∨N b)→¬leads b [u0,u1,u2,u3]) :
  RwX S e (put4 w g (i*4) u0 u1 u2 u3) base (.slice (some ⟨g,0,none⟩) l.length cap) (l.set i x) N∧w.grownBy (put4 w g (i*4) u0 u1 u2 u3) (some g):=by
 obtain⟨ps,h1,h2,h3,h5⟩:=h;have hpl:ps.length=l.length:=by rw [←h1,List.length_map]
 have hip:i<ps.length:=by omega
 have hlen:∀p∈ps,p.2.length=4:=fun p hp=>by rw [h2.lens p hp,h4]
 have hli:=hlen _ (List.getElem_mem hip);obtain⟨a0,a1,a2,a3,ha⟩:∃a0 a1 a2 a3,ps[i].2= [a0,a1,a2,a3]:=by
  match hq:ps[i].2,hli with
  | [a0,a1,a2,a3],_=>exact⟨a0,a1,a2,a3,rfl⟩
 have e1:cls ps=cls (ps.take i)++ [a0,a1,a2,a3]++cls (ps.drop (i+1)):=by
  conv=>lhs;rw [←List.take_append_drop i ps,List.drop_eq_getElem_cons hip,qu,zp,ha]
  rw [List.append_assoc]
 rw [e1]at h3;have hcl:(cls (ps.take i)).length=i*4:=by
  rw [qY (s:=4) _ (fun p hp=>hlen p (List.mem_of_mem_take hp)),List.length_take];rw [Nat.min_eq_left (by omega)]
 obtain⟨ho,hg⟩:=yu h3 hcl u0 u1 u2 u3;have hall:∀p∈ps.set i (x, [u0,u1,u2,u3]),S.R w p.1 p.2∧∀b,(b=g∨N b)→¬leads b p.2:=fun p hp=>by
  rcases List.mem_or_eq_of_mem_set hp with h | h
  ·exact⟨h2 p h,fun b hb=>h5 p h b (hb.imp (fun e=>by rw [e];rfl) id)⟩
  ·subst h;exact⟨hR,hl⟩
 refine⟨⟨ps.set i (x, [u0,u1,u2,u3]),by rw [List.map_set,h1],?_,?_,fun p hp b hb=>(hall p hp).2 b (hb.imp (fun e=>(Option.some.inj e).symm) id)⟩,hg⟩
 ·exact zK.grown (w:=w) (g:=some g) (fun p hp=>(hall p hp).1) hg (fun p hp b hb=>(hall p hp).2 b (.inl (Option.some.inj hb).symm))
 ·have e2:cls (ps.set i (x, [u0,u1,u2,u3]))=cls (ps.take i)++ [u0,u1,u2,u3]++cls (ps.drop (i+1)):=by
   rw [Zh (s:=4) ps i _ hip hlen,zY (s:=4) ps i hlen,zX (s:=4) ps (i+1) hlen]
  rw [List.length_set,e2];exact ho
theorem yr {d:List UInt8} (h:zJ d=0):d.length=64:=by
 unfold zJ at h;by_cases h64:d.length=64
 ·exact h64
 ·rw [if_pos (by omega)]at h;cases h
theorem xV {x:List PartP} (h:chk x=0):vU x:=fun p hp=>by
 obtain⟨h1,h2,h3⟩:=(zl h).2 p hp
 have e1:=qZ h1
 have e2:=yr h2
 exact⟨by omega,by omega,by omega⟩
theorem vE (l:List UInt8):qN (shaS l) l=0:=by
 rw [qN,qI,if_neg (by decide),if_neg (by simp)]
theorem yF (A:Option Addr) (c:Nat) (l:List BlobP) (w:World) (hg:GoodB l) (hA:Rw BlobS w A l) :
  Calls Tryz.prog 52 #[.slice A l.length c] w fun e w'=>e= .returned (.int .i64 0)∧Below w.heap.size w w':=by
 have HG:=sqH hg;have hl:=hg.len;have hps:=List.pairwise_iff_getElem.1 hg.ris;have HPS:=sqH hps;clear hg hps;go_enter Tryz.func52,Tryz.ntmps52;go_wp2_with fail;go_loopg [11] l.length (fun gn i wr=>∃j:Nat,gn=l.length - j∧i= .int .i64 j∧j≤l.length∧Below w.heap.size w wr)
 case atStart=>exact⟨0,rfl,rfl,by omega,Below.refl _ _⟩
 case round =>
  obtain⟨j,hgk,rfl,hj,hbl⟩:=hrel;have HGK:=sqH hgk;clear hgk;by_cases hlt:j<l.length
  ·have hcc:decide (j<l.length)=true:=decide_eq_true hlt;have hA2:=hA.below hbl;obtain⟨b,off,B,cb,rfl,hbb,c0,c1,c2,c3,hs⟩:=hA2.blob_at j hlt;have hj0:(0:Int)≤(j:Int):=by omega
   have hj1:(j:Int)<(l.length:Int):=by omega
   have HG1:=sqH (HG.out.one l[j] (List.getElem_mem hlt));have hprev:0<j→∃q:List UInt8,Op.bytesLess q l[j].dig=true∧wr.cell? ⟨b,off+(j - 1)*4,none⟩=some (.string ⟨q.toArray⟩):=fun h0=>by
    obtain⟨b',off',B',cb',e1,_,d0,_⟩:=hA2.blob_at (j - 1) (by omega)
    cases e1
    exact⟨_,HPS.out (j - 1) j (by omega) hlt (by omega),d0⟩
   generalize l[j]=x at *
   obtain⟨sx,hsx⟩:∃s:ByteArray,s=⟨x.dig.toArray⟩:=⟨_,rfl⟩
   rw [←hsx]at c0;have HSX:=sqH hsx;have HSL:=sqH (show sx.data.toList=x.dig by rw [hsx]);clear hsx hA2;have hX:Arr (wr.alloc (.cells #[.string sx,.slice B x.data.length cb,.int .i64 x.pins,(.bool x.mark)] 32)) wr.heap.size 32 [.string sx,.slice B x.data.length cb,.int .i64 x.pins,(.bool x.mark)]:=Arr.new wr 32 _;have hba:=(Below.refl wr.heap.size wr).alloc (Nat.le_refl _) (.cells #[.string sx,.slice B x.data.length cb,.int .i64 x.pins,(.bool x.mark)] 32);have hb2:=hbl.trans (hba.mono hbl.size);have hs2:=hs.below hba;have hq2:0<j→∃q:List UInt8,Op.bytesLess q x.dig=true∧(wr.alloc (.cells #[.string sx,.slice B x.data.length cb,.int .i64 x.pins,(.bool x.mark)] 32)).cell? ⟨b,off+(j - 1)*4,none⟩=some (.string ⟨q.toArray⟩):=fun h0=>by
    obtain⟨q,q1,q2⟩:=hprev h0;exact⟨q,q1,(hba.cell (p:=⟨b,off+(j - 1)*4,none⟩) hbb).trans q2⟩
   have hbb2:b<(wr.alloc (.cells #[.string sx,.slice B x.data.length cb,.int .i64 x.pins,(.bool x.mark)] 32)).heap.size:=by simp;omega
   obtain⟨x0,x1,x2,x3⟩:=sqC4 hX;clear hprev hbl hba hs;go_wp2_with fail;generalize wr.alloc (.cells #[.string sx,.slice B x.data.length cb,.int .i64 x.pins,(.bool x.mark)] 32)=w2 at *
   generalize wr.heap.size=gx at *
   clear c0 c1 c2 c3 x0 x1 x2 x3;obtain⟨g1,g2,g3⟩:=HG1.out;have hsz:sx.size≤140737488351232:=by
    rw [HSX.out];show(x.dig.toArray).size≤_;rw [List.size_toArray,g1,xX];decide
   have HRT:=jg sx B x.data.length cb x.data (x.pins:Int) x.mark w2 (by omega) (by omega) hsz rfl g2 hs2.cap hs2.rd;rw [HSL.out,g1,vE]at HRT;have HRT:=sqH HRT;clear g1 g2 g3 hsz hs2;refine HRT.out.mono ?_;rintro e_ w3 ⟨rfl,hb3⟩;dsimp only;have hb23:=hb2.trans (hb3.mono hb2.size);have hX3:=hX.below hb3;clear hX hb2;by_cases h0:0<j
   ·obtain⟨q,q1,q2⟩:=hq2 h0;have hkb:decide (0<(j:Int))=true:=decide_eq_true (by omega);have hkc:decide ((j:Int)>0)=true:=decide_eq_true (by omega);have hkd:decide (0<j)=true:=decide_eq_true h0;have hm1:IntKind.i64.wrap ((j:Int) - 1)=(j:Int) - 1:=IntWalk.i64_in _ (by omega);have hm2:((j:Int) - 1).toNat=j - 1:=by omega
    have hm3:(0:Int)≤(j:Int) - 1:=by omega
    have hm4:(j:Int) - 1<(l.length:Int):=by omega
    have hm5:(1:Int)≤(j:Int):=by omega
    obtain⟨sq,hsq⟩:∃s:ByteArray,s=⟨q.toArray⟩:=⟨_,rfl⟩
    rw [←hsq]at q2;have q3:=(hb3.cell (p:=⟨b,off+(j - 1)*4,none⟩) hbb2).trans q2;have l1:Op.bytesLess sx.toList sq.toList=false:=by
     rw [HSX.out,hsq,ByteArray.toList_eq,ByteArray.toList_eq];exact kn q1
    have l2:(sx.toList==sq.toList)=false:=by
     rw [HSX.out,hsq,ByteArray.toList_eq,ByteArray.toList_eq,beq_eq_false_iff_ne];exact(kJ q1).symm
    have y0:=hX3.cell (k:=0) rfl;clear hsq q1 q2 hq2;go_wp2_with fail;go_quiet (fail);go_wp2_with fail;go_roundg (l.length - (j+1))
    case measure=>have:=HGK.out;omega
    case rel=>exact⟨j+1,rfl,by go_num,by omega,zk hb23 _⟩
   ·have hkb:decide (0<(j:Int))=false:=decide_eq_false (by omega);have hkc:decide ((j:Int)>0)=false:=decide_eq_false (by omega);have hkd:decide (0<j)=false:=decide_eq_false h0;clear hq2;go_wp2_with fail;go_quiet (fail);go_wp2_with fail;go_roundg (l.length - (j+1))
    case measure=>have:=HGK.out;omega
    case rel=>exact⟨j+1,rfl,by go_num,by omega,zk hb23 _⟩
  ·obtain rfl:j=l.length:=by omega
   have hcc:decide (l.length<l.length)=false:=by simp
   go_wp2_with fail;go_ret;exact⟨rfl,hbl⟩
theorem qC (A:Option Addr) (c:Nat) (l:List EntP) (w:World) (hg:GoodE l) (hA:Rw EntS w A l) :
  Calls Tryz.prog 53 #[.slice A l.length c] w fun e w'=>e= .returned (.int .i64 0)∧Below w.heap.size w w':=by
 have HG:=sqH hg;have hl:=hg.len;have hps:=List.pairwise_iff_getElem.1 hg.ris;have HPS:=sqH hps;clear hg hps;go_enter Tryz.func53,Tryz.ntmps53;go_wp2_with fail;go_loopg [13] l.length (fun gn i wr=>∃j:Nat,gn=l.length - j∧i= .int .i64 j∧j≤l.length∧Below w.heap.size w wr)
 case atStart=>exact⟨0,rfl,rfl,by omega,Below.refl _ _⟩
 case round =>
  obtain⟨j,hgk,rfl,hj,hbl⟩:=hrel;have HGK:=sqH hgk;clear hgk;by_cases hlt:j<l.length
  ·have hcc:decide (j<l.length)=true:=decide_eq_true hlt;have hA2:=hA.below hbl;obtain⟨b,off,B,cb,rfl,hbb,c0,c1,c2,c3,hs⟩:=hA2.ent_at j hlt;have hj0:(0:Int)≤(j:Int):=by omega
   have hj1:(j:Int)<(l.length:Int):=by omega
   have HG1:=sqH (HG.out.one l[j] (List.getElem_mem hlt));have hprev:0<j→∃q:List UInt8,Op.bytesLess q l[j].key=true∧wr.cell? ⟨b,off+(j - 1)*4,none⟩=some (.string ⟨q.toArray⟩):=fun h0=>by
    obtain⟨b',off',B',cb',e1,_,d0,_⟩:=hA2.ent_at (j - 1) (by omega)
    cases e1
    exact⟨_,HPS.out (j - 1) j (by omega) hlt (by omega),d0⟩
   generalize l[j]=x at *
   obtain⟨sx,hsx⟩:∃s:ByteArray,s=⟨x.key.toArray⟩:=⟨_,rfl⟩
   rw [←hsx]at c0;have HSX:=sqH hsx;have HSL:=sqH (show sx.data.toList=x.key by rw [hsx]);clear hsx hA2;have hX:Arr (wr.alloc (.cells #[.string sx,.slice B x.parts.length cb,.int .i64 x.pins,(.int .i64 x.stamp)] 35)) wr.heap.size 35 [.string sx,.slice B x.parts.length cb,.int .i64 x.pins,(.int .i64 x.stamp)]:=Arr.new wr 35 _;have hba:=(Below.refl wr.heap.size wr).alloc (Nat.le_refl _) (.cells #[.string sx,.slice B x.parts.length cb,.int .i64 x.pins,(.int .i64 x.stamp)] 35);have hb2:=hbl.trans (hba.mono hbl.size);have hs2:=hs.below hba;have hq2:0<j→∃q:List UInt8,Op.bytesLess q x.key=true∧(wr.alloc (.cells #[.string sx,.slice B x.parts.length cb,.int .i64 x.pins,(.int .i64 x.stamp)] 35)).cell? ⟨b,off+(j - 1)*4,none⟩=some (.string ⟨q.toArray⟩):=fun h0=>by
    obtain⟨q,q1,q2⟩:=hprev h0;exact⟨q,q1,(hba.cell (p:=⟨b,off+(j - 1)*4,none⟩) hbb).trans q2⟩
   have hbb2:b<(wr.alloc (.cells #[.string sx,.slice B x.parts.length cb,.int .i64 x.pins,(.int .i64 x.stamp)] 35)).heap.size:=by simp;omega
   obtain⟨x0,x1,x2,x3⟩:=sqC4 hX;clear hprev hbl hba hs;go_wp2_with fail;generalize wr.alloc (.cells #[.string sx,.slice B x.parts.length cb,.int .i64 x.pins,(.int .i64 x.stamp)] 35)=w2 at *
   generalize wr.heap.size=gx at *
   clear c0 c1 c2 c3 x0 x1 x2 x3;obtain⟨g1,g2,g3,g4⟩:=HG1.out;have hsz:sx.size≤140737488351232:=by
    have:=yr g1;rw [HSX.out];show(x.key.toArray).size≤_;rw [List.size_toArray];omega
   have HRT:=qG sx w2 hsz;rw [HSL.out,g1]at HRT;have HRT:=sqH HRT;have hpl:=(zl g2).1;have HPO:=sqH (xV g2);have HG2:=sqH g2;have HPN:=sqH (fun w'=>xG (x.pins:Int) (by omega) (by omega) w');have st1:decide ((x.stamp:Int)<0)=false:=decide_eq_false (by omega);have st2:decide ((x.stamp:Int)>1099511627776)=false:=decide_eq_false (by omega);have st3:decide ((1099511627776:Int)<(x.stamp:Int))=false:=decide_eq_false (by omega);have st4:decide (1099511627776<x.stamp)=false:=decide_eq_false (by omega);clear g1 g2 hsz;refine HRT.out.mono ?_;rintro e_ w3 ⟨rfl,hb3⟩;dsimp only;have hb23:=hb2.trans (hb3.mono hb2.size);have hX3:=hX.below hb3;have hs3:=hs2.below hb3;have HMC:=sqH (show ∀w',Below w3.heap.size w3 w'→Calls Tryz.prog 30 #[.slice B x.parts.length cb] w' fun e w''=>e= .returned (.int .i64 0)∧Below w'.heap.size w' w'' from fun w' hb=>by
    have:=xA B x.parts.length cb x.parts w' rfl hs3.cap (by omega) HPO.out (hs3.below hb).rd
    rwa [HG2.out]at this)
   clear hX hb2 hs2 hs3;by_cases h0:0<j
   ·obtain⟨q,q1,q2⟩:=hq2 h0;have hkb:decide (0<(j:Int))=true:=decide_eq_true (by omega);have hkc:decide ((j:Int)>0)=true:=decide_eq_true (by omega);have hkd:decide (0<j)=true:=decide_eq_true h0;have hm1:IntKind.i64.wrap ((j:Int) - 1)=(j:Int) - 1:=IntWalk.i64_in _ (by omega);have hm2:((j:Int) - 1).toNat=j - 1:=by omega
    have hm3:(0:Int)≤(j:Int) - 1:=by omega
    have hm4:(j:Int) - 1<(l.length:Int):=by omega
    have hm5:(1:Int)≤(j:Int):=by omega
    obtain⟨sq,hsq⟩:∃s:ByteArray,s=⟨q.toArray⟩:=⟨_,rfl⟩
    rw [←hsq]at q2;have q3:=(hb3.cell (p:=⟨b,off+(j - 1)*4,none⟩) hbb2).trans q2;have l1:Op.bytesLess sx.toList sq.toList=false:=by
     rw [HSX.out,hsq,ByteArray.toList_eq,ByteArray.toList_eq];exact kn q1
    have l2:(sx.toList==sq.toList)=false:=by
     rw [HSX.out,hsq,ByteArray.toList_eq,ByteArray.toList_eq,beq_eq_false_iff_ne];exact(kJ q1).symm
    have y0:=hX3.cell (k:=0) rfl;clear hsq q1 q2 hq2;go_wp2_with fail;go_quiet (fail);have hb34:=fun n=>zk (Below.refl w3.heap.size w3) n;have hb24:=fun n=>zk hb23 n;have y1:=fun n=>(hX3.drewN n).cell (k:=1) rfl;go_wp2_with fail;refine(HMC.out _ (hb34 _)).mono ?_;rintro e_ w5 ⟨rfl,hb5⟩;dsimp only;have hb25:=(hb24 _).trans (hb5.mono (hb24 _).size);have hX5:=(hX3.below (hb34 _)).below hb5;clear y1 hb34 hb24;have y2:=hX5.cell (k:=2) rfl;have y3:=hX5.cell (k:=3) rfl;go_wp2_with fail;refine(HPN.out w5).mono ?_;rintro e_ _ ⟨rfl,rfl⟩;dsimp only;go_wp2_with fail;go_roundg (l.length - (j+1))
    case measure=>have:=HGK.out;omega
    case rel=>exact⟨j+1,rfl,by go_num,by omega,hb25⟩
   ·have hkb:decide (0<(j:Int))=false:=decide_eq_false (by omega);have hkc:decide ((j:Int)>0)=false:=decide_eq_false (by omega);have hkd:decide (0<j)=false:=decide_eq_false h0;clear hq2;go_wp2_with fail;go_quiet (fail);have hb34:=fun n=>zk (Below.refl w3.heap.size w3) n;have hb24:=fun n=>zk hb23 n;have y1:=fun n=>(hX3.drewN n).cell (k:=1) rfl;go_wp2_with fail;refine(HMC.out _ (hb34 _)).mono ?_;rintro e_ w5 ⟨rfl,hb5⟩;dsimp only;have hb25:=(hb24 _).trans (hb5.mono (hb24 _).size);have hX5:=(hX3.below (hb34 _)).below hb5;clear y1 hb34 hb24;have y2:=hX5.cell (k:=2) rfl;have y3:=hX5.cell (k:=3) rfl;go_wp2_with fail;refine(HPN.out w5).mono ?_;rintro e_ _ ⟨rfl,rfl⟩;dsimp only;go_wp2_with fail;go_roundg (l.length - (j+1))
    case measure=>have:=HGK.out;omega
    case rel=>exact⟨j+1,rfl,by go_num,by omega,hb25⟩
  ·obtain rfl:j=l.length:=by omega
   have hcc:decide (l.length<l.length)=false:=by simp
   go_wp2_with fail;go_ret;exact⟨rfl,hbl⟩
def ql (l:List BlobP):List PartP→Nat
 | []=>0
 | p::ps=>match l.findIdx? (fun b=>b.dig==p.dig) with
  | none=>5
  | some i=>if (match l[i]? with | some b=>b.data.length | none=>0)=p.size then ql l ps else 4
theorem Zt {α:Type} {f:α→List UInt8} {l:List α} (hr:RisesBy f l) {d:List UInt8} {x:α} (hx:x∈l) (hd:f x=d):∃i,∃h:i<l.length,l.findIdx? (fun y=>f y==d)=some i∧l[i]=x:=by
 obtain⟨i,hi,he⟩:=List.mem_iff_getElem.1 hx;refine⟨i,hi,?_,he⟩;rw [List.findIdx?_eq_some_iff_getElem];refine⟨hi,by rw [he];simp [hd],fun k hk=> ?_⟩;have:=List.pairwise_iff_getElem.1 hr k i (by omega) hi hk;rw [he,hd]at this;simpa using kJ this
theorem ky {l:List BlobP} (hr:RisesBy (·.dig) l):∀ {ps:List PartP},Have l ps→ql l ps=0
 | [],_=>rfl
 | p::ps,h=>by
  obtain⟨b,hb,h1,h2⟩:=h p (by simp)
  obtain⟨i,hi,h3,h4⟩:=Zt (f:=fun b:BlobP=>b.dig) hr hb h1
  rw [ql,h3]
  show(if (match l[i]? with | some b=>b.data.length | none=>0)=p.size then _ else _)=_
  rw [List.getElem?_eq_getElem hi,h4]
  show(if b.data.length=p.size then _ else _)=_
  rw [if_pos h2,ky hr fun q hq=>h q (by simp [hq])]
def zd (s:StoP) (d:List UInt8):StoP:= { s with blobs:=putB s.blobs d }
def Zr (s:StoP) (k:List UInt8) (ps:List PartP):StoP:= { s with ents:=kg s.ents ⟨k,ps,0,s.clock+1⟩,clock:=s.clock+1 }
def jV (s:StoP) (i:Nat) (x:EntP):StoP:= { s with ents:=s.ents.set i { x with stamp:=s.clock+1 },clock:=s.clock+1 }
theorem jB (l:List BlobP) (d:List UInt8):∃b∈putB l d,b.dig=shaS d:=by
 unfold putB;cases hf:l.findIdx? (fun b=>b.dig==shaS d) with
 | none=>exact⟨_,(zm _ _).mem_iff.2 (List.mem_cons_self ..),rfl⟩
 | some i =>
  obtain⟨hi,he,_⟩:=List.findIdx?_eq_some_iff_getElem.1 hf;exact⟨l[i],List.getElem_mem hi,by simpa using he⟩
theorem jC (l:List BlobP) (d:List UInt8):usd (putB l d)≤usd l+d.length:=by
 unfold putB;cases hf:l.findIdx? (fun b=>b.dig==shaS d) with
 | none =>
  show usd (srt _ _)≤_;rw [va (zm _ _)];show(List.map _ _).sum≤_;rw [List.map_cons,List.sum_cons];exact Nat.le_of_eq (Nat.add_comm _ _)
 | some i=>show usd l≤_;omega
end Go.Proofs.YtfmnggcfhalfnaaGreat
