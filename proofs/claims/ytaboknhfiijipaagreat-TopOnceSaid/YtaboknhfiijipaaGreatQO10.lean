/- Lemmas, as stated. -/
import Derived.Test.YtaboknhfiijipaaGreatQO08
import Derived.Test.YtaboknhfiijipaaGreatQO09
set_option linter.unusedVariables false
set_option linter.unusedSimpArgs false
set_option maxRecDepth 100000
set_option maxHeartbeats 8000000
open Go.Proofs.Tryz
open Go.Proofs.Tryz renaming prog->zZZ
open Go.Value renaming slice->aA,int->aB,string->aD
open Go.IntKind renaming i64->aC
open Go.Obj renaming cells->aE
open Option renaming none->aF,some->aG
namespace Go.Proofs.YtaboknhfiijipaaGreat
open Go.RowKit
variable {α:Type} {l:List α} {i n:Nat} {s:StoP} {d:ai} {x:α} {f:α->List UInt8}
section
variable {α:Type} {f:α->List UInt8} {l:List α} {d:ai} {i:Nat}
theorem jy (h1:∀k (h:k<l.length),k<i->Op.bytesLess (f l[k]) d=true) (hi:i<l.length) (he:f l[i]=d):l.findIdx? (fun x=>f x==d)=aG i:=by
 rw [List.findIdx?_eq_some_iff_getElem];exact⟨hi,by simp [he],fun k hk=>by
  have:=yT (h1 k wu hk);simp [this]⟩
theorem YJ (hr:RisesBy f l) (h1:∀k (h:k<l.length),k<i->Op.bytesLess (f l[k]) d=true) (h2:∀k (h:k<l.length),i<=k->Op.bytesLess (f l[k]) d=false) (hn:¬ ∃h:i<l.length,f l[i]=d) :
  (∀x∈l,f x≠d)/\∀k (h:k<l.length),i<=k->Op.bytesLess d (f l[k])=true:=by
 have hp:=List.pairwise_iff_getElem.1 hr;have h3:∀k (h:k<l.length),i<=k->Op.bytesLess d (f l[k])=true:=fun k h hk=>by
  have hi:i<l.length:=wu;have h4:Op.bytesLess d (f l[i])=true:=by
   rcases uM d (f l[i]) with h | h | h
   ·exact h
   ·exact absurd ⟨hi,h.symm⟩ hn
   ·rw [h2 i hi ag]at h;cases h
  rcases Nat.lt_or_ge i k with h5 | h5
  ·exact ql h4 (hp i k hi h h5)
  ·obtain rfl:i=k:=by omega
   exact h4
 refine⟨fun x hx e=> ?_,h3⟩;obtain⟨k,hk,rfl⟩:=List.mem_iff_getElem.1 hx;rcases Nat.lt_or_ge k i with h5 | h5
 ·exact yT (h1 k hk h5) e
 ·exact yT (h3 k hk h5) e.symm
theorem z1w (hr:RisesBy f l) (h1:∀k (h:k<l.length),k<i->Op.bytesLess (f l[k]) d=true) (h2:∀k (h:k<l.length),i<=k->Op.bytesLess (f l[k]) d=false) (hn:¬ ∃h:i<l.length,f l[i]=d) {x:α} (hx:f x=d) :
  RisesBy f (l.take i++x::l.drop i)/\(l.take i++x::l.drop i).Perm (x::l):=by
 have h3:=(YJ hr h1 h2 hn).2;have ht:∀a∈l.take i,Op.bytesLess (f a) d=true:=fun a ha=>by
  obtain⟨k,hk,rfl⟩:=List.mem_iff_getElem.1 ha;rw [List.length_take]at hk;rw [List.getElem_take];exact h1 k wu wu
 have hd:∀a∈l.drop i,Op.bytesLess d (f a)=true:=fun a ha=>by
  obtain⟨k,hk,rfl⟩:=List.mem_iff_getElem.1 ha;rw [List.length_drop]at hk;rw [List.getElem_drop];exact h3 (i+k) wu wu
 refine⟨List.pairwise_append.2 ⟨hr.sublist (List.take_sublist _ _),List.pairwise_cons.2 ⟨fun a ha=>by rw [hx];exact hd a ha,hr.sublist (List.drop_sublist _ _)⟩,fun a ha b hb=> ?_⟩,?_⟩
 ·rcases List.mem_cons.1 hb with rfl | hb
  ·rw [hx];exact ht a ha
  ·exact ql (ht a ha) (hd b hb)
 ·have:=(List.perm_middle (a:=x) (l₁:=l.take i) (l₂:=l.drop i))
  rwa [List.take_append_drop]at this
theorem UV (hr:RisesBy f l) (h1:∀k (h:k<l.length),k<i->Op.bytesLess (f l[k]) d=true) (h2:∀k (h:k<l.length),i<=k->Op.bytesLess (f l[k]) d=false) (hn:¬ ∃h:i<l.length,f l[i]=d) {x:α} (hx:f x=d) :
  l.take i++x::l.drop i=srt f (x::l):=by
 obtain⟨a,b⟩:=z1w hr h1 h2 hn hx;exact z2m a b
theorem UU (hr:RisesBy f l) (h1:∀k (h:k<l.length),k<i->Op.bytesLess (f l[k]) d=true) (h2:∀k (h:k<l.length),i<=k->Op.bytesLess (f l[k]) d=false) (hn:¬ ∃h:i<l.length,f l[i]=d):l.findIdx? (fun x=>f x==d)=aF:=by
 rw [List.findIdx?_eq_none_iff];intro x hx;have:=(YJ hr h1 h2 hn).1 x hx;simp [this]
end
def x8 (l:List EntP) (x:EntP):List EntP:=match l.findIdx? (fun y=>y.key==x.key) with | some i=>l.set i { x with aQ:=(match l[i]? with | some y=>y.aQ | none=>0) } | none=>srt (·.key) (x::l)
def putB (l:List BlobP) (d:ai):List BlobP:=match l.findIdx? (fun b=>b.dig==shaS d) with | some _=>l | none=>srt (·.dig) (⟨shaS d,d,0,false⟩::l)
theorem Jb (hr:RisesBy f l) (hn:l.findIdx? (fun y=>f y==f x)=aF):RisesBy f (srt f (x::l)):=uu (by
 rw [List.map_cons,List.nodup_cons]
 refine⟨fun h=> ?_,Rises.nodup (RisesBy.map hr)⟩
 obtain⟨y,hy,e⟩:=List.mem_map.1 h
 have:=List.findIdx?_eq_none_iff.1 hn y hy
 simp [e]at this)
theorem ZB {l:List EntP} {x:EntP} (hr:RisesBy (·.key) l) (hi:i<l.length) (hk:x.key=l[i].key):RisesBy (·.key) (l.set i x):=by
 have h:(l.set i x).map (·.key)=l.map (·.key):=by
  rw [List.map_set,hk];apply List.ext_getElem?;intro k;rw [List.getElem?_set];split
  ·rename_i e;subst e;rw [List.length_map,if_pos hi,List.getElem?_map,List.getElem?_eq_getElem hi];rfl
  ·rfl
 have h1:Rises ((l.set i x).map (·.key)):=by rw [h];exact hr.map
 exact List.pairwise_map.1 h1
theorem ZA {l:List EntP} {x:EntP} (hg:GoodE l) (hx:GoodE1 x) (hlen:l.length<10):GoodE (x8 l x):=by
 unfold x8;cases hf:l.findIdx? (fun y=>y.key==x.key) with
 | none =>
  refine⟨?_,fun y hy=> ?_,Jb hg.ris hf⟩
  ·rw [(qc _ _).length_eq];simp;omega
  ·rcases List.mem_cons.1 ((qc _ _).mem_iff.1 hy) with rfl | h
   ·exact hx
   ·exact hg.one y h
 | some i =>
  obtain⟨hi,he,_⟩:=List.findIdx?_eq_some_iff_getElem.1 hf;have he':l[i].key=x.key:=by simpa using he
  show GoodE (l.set i { x with aQ:=(match l[i]? with | some y=>y.aQ | none=>0) });rw [List.getElem?_eq_getElem hi];refine⟨by rw [List.length_set];exact hg.len,fun y hy=> ?_,ZB hg.ris hi he'.symm⟩;rcases List.mem_or_eq_of_mem_set hy with h | h
  ·exact hg.one y h
  ·subst h;obtain⟨a,b,c,e⟩:=hx;exact⟨a,b,(hg.one _ (List.getElem_mem hi)).2.2.1,e⟩
theorem XK {l:List BlobP} (hg:GoodB l) (hd:d.length<=300) (hlen:l.length<24):GoodB (putB l d):=by
 unfold putB;cases hf:l.findIdx? (fun b=>b.dig==shaS d) with
 | none =>
  refine⟨?_,fun y hy=> ?_,Jb (f:=fun b:BlobP=>b.dig) (x:=⟨shaS d,d,0,false⟩) hg.ris hf⟩
  ·rw [(qc _ _).length_eq];simp;omega
  ·rcases List.mem_cons.1 ((qc _ _).mem_iff.1 hy) with rfl | h
   ·exact⟨rfl,hd,by show 0<=5;omega⟩
   ·exact hg.one y h
 | some i=>exact hg
theorem RwX.put4 {S:Shp α} {e:TypeId} {w:World} {base g cap:Nat} {N:am} {u0 u1 u2 u3:Value} (h:RwX S e w base (aA (aG ⟨g,0,aF⟩) l.length cap) l N) (h4:S.size=4) (hi:i<l.length)
  (hR:S.R w x [u0,u1,u2,u3]) (hl:∀b,(b=g\/N b)->¬leads b [u0,u1,u2,u3]) :
  RwX S e (put4 w g (i*4) u0 u1 u2 u3) base (aA (aG ⟨g,0,aF⟩) l.length cap) (l.set i x) N/\w.grownBy (put4 w g (i*4) u0 u1 u2 u3) (aG g):=by
 obtain⟨ps,h1,h2,h3,h5⟩:=h;have hpl:ps.length=l.length:=by rw [<-h1,List.length_map]
 have hip:i<ps.length:=wu;have hlen:∀p∈ps,p.2.length=4:=fun p hp=>by rw [h2.lens p hp,h4]
 have hli:=hlen _ (List.getElem_mem hip);obtain⟨a0,a1,a2,a3,ha⟩:∃a0 a1 a2 a3,ps[i].2= [a0,a1,a2,a3]:=by
  match hq:ps[i].2,hli with
  | [a0,a1,a2,a3],_=>exact⟨a0,a1,a2,a3,rfl⟩
 have e1:cls ps=cls (ps.take i)++ [a0,a1,a2,a3]++cls (ps.drop (i+1)):=by
  conv=>lhs;rw [<-List.take_append_drop i ps,List.drop_eq_getElem_cons hip,yU,qo,ha]
  rw [List.append_assoc]
 rw [e1]at h3;have hcl:(cls (ps.take i)).length=i*4:=by
  rw [vV (s:=4) _ (fun p hp=>hlen p (List.mem_of_mem_take hp)),List.length_take];rw [Nat.min_eq_left wu]
 obtain⟨ho,hg⟩:=Uw h3 hcl u0 u1 u2 u3;have hall:∀p∈ps.set i (x, [u0,u1,u2,u3]),S.R w p.1 p.2/\∀b,(b=g\/N b)->¬leads b p.2:=fun p hp=>by
  rcases List.mem_or_eq_of_mem_set hp with h | h
  ·exact⟨h2 p h,fun b hb=>h5 p h b (hb.imp (fun e=>by rw [e];rfl) id)⟩
  ·subst h;exact⟨hR,hl⟩
 refine⟨⟨ps.set i (x, [u0,u1,u2,u3]),by rw [List.map_set,h1],?_,?_,fun p hp b hb=>(hall p hp).2 b (hb.imp (fun e=>(Option.some.inj e).symm) id)⟩,hg⟩
 ·exact qI.grown (w:=w) (g:=aG g) (fun p hp=>(hall p hp).1) hg (fun p hp b hb=>(hall p hp).2 b (.inl (Option.some.inj hb).symm))
 ·have e2:cls (ps.set i (x, [u0,u1,u2,u3]))=cls (ps.take i)++ [u0,u1,u2,u3]++cls (ps.drop (i+1)):=by
   rw [JS (s:=4) ps i _ hip hlen,kF (s:=4) ps i hlen,yc (s:=4) ps (i+1) hlen]
  rw [List.length_set,e2];exact ho
theorem z34 (w:World):(zeroValue 76).run zZZ w= .ok (.agg #[aD ByteArray.empty,aA aF 0 0,aB aC 0,.bool false]) w:=by kernel_rfl
theorem Vl (g i n cap base:Nat) (xs:ak) (w:World) (h:w.ownsRow base 76 4 (aA (aG ⟨g,0,aF⟩) n cap) n xs) (hi:i<n) (hx:∀u∈xs,u.oneCell'=true) :
  Calls zZZ 88 #[aA (aG ⟨g,0,aF⟩) n cap,aB aC i,aB aC ((i:Int)+1)] w fun e w'=>e= .returned (aA (aG ⟨g,0,aF⟩) (n - 1) cap) /\
   w'.ownsRow base 76 4 (aA (aG ⟨g,0,aF⟩) (n - 1) cap) (n - 1) (xs.take (i*4)++xs.drop ((i+1)*4))/\w.grownBy w' (aG g):=by
 obtain⟨g',cap',cs,e1,hbg,hA,hnc,hcm,hcl,hct⟩:=ym h wu;injection e1 with e11 _ e13;injection e11 with e11;injection e11 with e11;subst e11 e13;obtain⟨i0,hi0,hz0,hz1,hz2⟩:=info_parts (show(zZZ.info? 76).map (fun i=>(i.zero,i.size,i.bytes))=aG (aG (.agg #[aD ByteArray.empty,aA aF 0 0,aB aC 0,.bool false]),4,56) by kernel_rfl);obtain⟨zs,hzs⟩:=wY ((Builtin.zeroCells (Value.agg #[aD ByteArray.empty,aA aF 0 0,aB aC 0,.bool false]).cells 1).toList)
 have hzs':zs= [aD ByteArray.empty,aA aF 0 0,aB aC 0,.bool false]:=by rw [hzs];kernel_rfl
 have hzl:zs.length=4:=by rw [hzs'];rfl
 have hz1':∀u∈zs,u.oneCell'=true:=by rw [hzs'];intro u hu;simp at hu;rcases hu with rfl | rfl | rfl | rfl<;>rfl
 obtain⟨a1,a2⟩:=Q1 (i:=i) (n:=n) (zs:=zs) hA.drew hcl hnc hi hzl;rw [hct]at a1 a2;have hlen:(xs.drop ((i+1)*4)).length=(n - (i+1))*4:=by rw [List.length_drop,h.1,Nat.sub_mul]
 obtain⟨news,hnews⟩:=wY (xs.drop ((i+1)*4))
 rw [<-hnews]at a1 a2 hlen;obtain⟨W1,hW1⟩:=wY (w.drew.setCells g (i*4) news)
 rw [<-hW1]at a1 a2;have hr:=Rd.of_own h;have HC:=sqH (show ∀k u,xs[k]?=aG u->w.drew.cell? ⟨g,k,aF⟩=aG u from fun k u hu=>by
  refine Arr.cell hA.drew ?_;rw [<-hct,List.getElem?_take]at hu;split at hu
  ·exact hu
  ·cases hu)
 obtain⟨A,hAd,hsrc⟩:∃A:Addr,(if cap=i+1 then aG (⟨g,0,aF⟩:Addr) else aG ⟨g,(i+1)*4,aF⟩)=aG A/\Hid (∀t u,news[t]?=aG u->w.drew.cell? (A.add t)=aG u):=by
  by_cases hce:cap=i+1
  ·refine⟨⟨g,0,aF⟩,by simp [hce],Lib.hid fun t u hu=> ?_⟩;have h0:news.length=0:=by rw [hlen,show n - (i+1)=0 by omega]
   rw [List.length_eq_zero_iff.1 h0]at hu;cases hu
  ·refine⟨⟨g,(i+1)*4,aF⟩,by simp [hce],Lib.hid fun t u hu=> ?_⟩;rw [hnews,List.getElem?_drop]at hu;have:=HC.o _ _ hu;rw [Addr.add_lit];exact this
 have s1:=sqH hlen;have s2:=sqH (show ∀u∈news,u.oneCell'=true from fun u hu=>hx u (by rw [hnews]at hu;exact List.mem_of_mem_drop hu));have s3:=sqH (show ∀t,t<news.length->(w.drew.cell? ⟨g,0+i*4+t,aF⟩).isSome=true/\w.drew.frozen? ⟨g,0+i*4+t,aF⟩=false from fun t ht=>by
  rw [hlen]at ht;have hlt:i*4+t<xs.length:=by rw [h.1];omega
  rw [Nat.zero_add,HC.o _ _ (List.getElem?_eq_getElem hlt)];exact⟨rfl,hA.drew.frozen _⟩)
 have hclr:∀ty,(Builtin.clear_ #[31] ty #[aA (aG ⟨g,(n - 1)*4,aF⟩) (n - (n - 1)) (cap - (n - 1))]).run zZZ W1= .ok (.tuple #[]) (W1.setCells g ((n - 1)*4) zs):=fun ty=>by
  rw [show n - (n - 1)=1 by omega];exact yj W1 _ _ ty _ zs underlying31 z34 hzs.symm hz1' g _ _ (fun j hj=>by
   have hk:(n - 1)*4+j<(cs.take (i*4)++news++cs.drop ((n - 1)*4)).length:=by
    simp only [List.length_append,List.length_take,List.length_drop,hcl,hlen];omega
   rw [a1.cell (List.getElem?_eq_getElem hk)];rfl) (fun j hj=>a1.frozen _)
 have hcapi:i<=cap:=wu;have hci1:i+1<=cap:=wu;have hwi:((i:Int)+1).toNat=i+1:=wu;have hp0:(0:Int)<=(i:Int)+1:=wu;have hp1:(i:Int)+1<=(n:Int):=wu;have hne:((i:Int)==(i:Int)+1)=false:=by rw [beq_eq_false_iff_ne];omega
 obtain⟨A2,HW1,HG,HL,HCL,HN,HT,HX⟩:=sqJ8 a2 hW1 (show w.grownBy (W1.setCells g ((n - 1)*4) zs) (aG g) from(show w.grownBy w.drew (aG g) from⟨rfl,rfl,rfl,Nat.le_refl _,fun _ _ _=>rfl⟩).trans (by rw [hW1];exact(qj _ _ _).trans (qj _ _ _))) hlen hcl hnews hct h.1;clear hW1 a1 a2 hct hnews hlen hzs hzs' hz1' hr hA HC hx hcl;go_enter func88,ntmps88;go_wp2_with fail;go_region_law (refine step_append_room rfl (.tmp 22) (.tmp 25) 31 rfl 76 i0 4 underlying31 hi0 hz1 g 0 i cap (by simp [Act.eval,Act.put]) A (n - (i+1)) (cap - (i+1)) news (by simp [Act.eval,Act.put]) s1.o hsrc.o s2.o wu s3.o ?_;rw [Nat.zero_add,<-HW1.o]);rw [show i+(n - (i+1))=n - 1 by omega];go_wp2_with fail;go_ret;refine⟨rfl,⟨?_,.inr ⟨g,cap,_,rfl,hbg,A2.o,wu,hcm,?_,?_⟩⟩,HG.o⟩
 ·rw [<-HN.o,List.length_append,List.length_take,HL.o,HX.o];omega
 ·simp only [List.size_toArray,List.length_append,List.length_take,List.length_drop,HL.o,hzl,HCL.o];omega
 ·have e1:xs.take (i*4)=cs.take (i*4):=by rw [<-HT.o,List.take_take,Nat.min_eq_left wu]
  rw [e1,<-HN.o,List.append_assoc,List.take_left' (by rw [List.length_append,List.length_take,HL.o,HCL.o];omega)]
theorem z3t (w:World):(zeroValue 100).run zZZ w= .ok (.agg #[aD ByteArray.empty,aA aF 0 0,aB aC 0,aB aC 0]) w:=by kernel_rfl
theorem Vm (g i n cap base:Nat) (xs:ak) (w:World) (h:w.ownsRow base 100 4 (aA (aG ⟨g,0,aF⟩) n cap) n xs) (hi:i<n) (hx:∀u∈xs,u.oneCell'=true) :
  Calls zZZ 173 #[aA (aG ⟨g,0,aF⟩) n cap,aB aC i,aB aC ((i:Int)+1)] w fun e w'=>e= .returned (aA (aG ⟨g,0,aF⟩) (n - 1) cap) /\
   w'.ownsRow base 100 4 (aA (aG ⟨g,0,aF⟩) (n - 1) cap) (n - 1) (xs.take (i*4)++xs.drop ((i+1)*4))/\w.grownBy w' (aG g):=by
 obtain⟨g',cap',cs,e1,hbg,hA,hnc,hcm,hcl,hct⟩:=ym h wu;injection e1 with e11 _ e13;injection e11 with e11;injection e11 with e11;subst e11 e13;obtain⟨i0,hi0,hz0,hz1,hz2⟩:=info_parts (show(zZZ.info? 100).map (fun i=>(i.zero,i.size,i.bytes))=aG (aG (.agg #[aD ByteArray.empty,aA aF 0 0,aB aC 0,aB aC 0]),4,56) by kernel_rfl);obtain⟨zs,hzs⟩:=wY ((Builtin.zeroCells (Value.agg #[aD ByteArray.empty,aA aF 0 0,aB aC 0,aB aC 0]).cells 1).toList)
 have hzs':zs= [aD ByteArray.empty,aA aF 0 0,aB aC 0,aB aC 0]:=by rw [hzs];kernel_rfl
 have hzl:zs.length=4:=by rw [hzs'];rfl
 have hz1':∀u∈zs,u.oneCell'=true:=by rw [hzs'];intro u hu;simp at hu;rcases hu with rfl | rfl | rfl | rfl<;>rfl
 obtain⟨a1,a2⟩:=Q1 (i:=i) (n:=n) (zs:=zs) hA.drew hcl hnc hi hzl;rw [hct]at a1 a2;have hlen:(xs.drop ((i+1)*4)).length=(n - (i+1))*4:=by rw [List.length_drop,h.1,Nat.sub_mul]
 obtain⟨news,hnews⟩:=wY (xs.drop ((i+1)*4))
 rw [<-hnews]at a1 a2 hlen;obtain⟨W1,hW1⟩:=wY (w.drew.setCells g (i*4) news)
 rw [<-hW1]at a1 a2;have hr:=Rd.of_own h;have HC:=sqH (show ∀k u,xs[k]?=aG u->w.drew.cell? ⟨g,k,aF⟩=aG u from fun k u hu=>by
  refine Arr.cell hA.drew ?_;rw [<-hct,List.getElem?_take]at hu;split at hu
  ·exact hu
  ·cases hu)
 obtain⟨A,hAd,hsrc⟩:∃A:Addr,(if cap=i+1 then aG (⟨g,0,aF⟩:Addr) else aG ⟨g,(i+1)*4,aF⟩)=aG A/\Hid (∀t u,news[t]?=aG u->w.drew.cell? (A.add t)=aG u):=by
  by_cases hce:cap=i+1
  ·refine⟨⟨g,0,aF⟩,by simp [hce],Lib.hid fun t u hu=> ?_⟩;have h0:news.length=0:=by rw [hlen,show n - (i+1)=0 by omega]
   rw [List.length_eq_zero_iff.1 h0]at hu;cases hu
  ·refine⟨⟨g,(i+1)*4,aF⟩,by simp [hce],Lib.hid fun t u hu=> ?_⟩;rw [hnews,List.getElem?_drop]at hu;have:=HC.o _ _ hu;rw [Addr.add_lit];exact this
 have s1:=sqH hlen;have s2:=sqH (show ∀u∈news,u.oneCell'=true from fun u hu=>hx u (by rw [hnews]at hu;exact List.mem_of_mem_drop hu));have s3:=sqH (show ∀t,t<news.length->(w.drew.cell? ⟨g,0+i*4+t,aF⟩).isSome=true/\w.drew.frozen? ⟨g,0+i*4+t,aF⟩=false from fun t ht=>by
  rw [hlen]at ht;have hlt:i*4+t<xs.length:=by rw [h.1];omega
  rw [Nat.zero_add,HC.o _ _ (List.getElem?_eq_getElem hlt)];exact⟨rfl,hA.drew.frozen _⟩)
 have hclr:∀ty,(Builtin.clear_ #[32] ty #[aA (aG ⟨g,(n - 1)*4,aF⟩) (n - (n - 1)) (cap - (n - 1))]).run zZZ W1= .ok (.tuple #[]) (W1.setCells g ((n - 1)*4) zs):=fun ty=>by
  rw [show n - (n - 1)=1 by omega];exact yj W1 _ _ ty _ zs underlying32 z3t hzs.symm hz1' g _ _ (fun j hj=>by
   have hk:(n - 1)*4+j<(cs.take (i*4)++news++cs.drop ((n - 1)*4)).length:=by
    simp only [List.length_append,List.length_take,List.length_drop,hcl,hlen];omega
   rw [a1.cell (List.getElem?_eq_getElem hk)];rfl) (fun j hj=>a1.frozen _)
 have hcapi:i<=cap:=wu;have hci1:i+1<=cap:=wu;have hwi:((i:Int)+1).toNat=i+1:=wu;have hp0:(0:Int)<=(i:Int)+1:=wu;have hp1:(i:Int)+1<=(n:Int):=wu;have hne:((i:Int)==(i:Int)+1)=false:=by rw [beq_eq_false_iff_ne];omega
 obtain⟨A2,HW1,HG,HL,HCL,HN,HT,HX⟩:=sqJ8 a2 hW1 (show w.grownBy (W1.setCells g ((n - 1)*4) zs) (aG g) from(show w.grownBy w.drew (aG g) from⟨rfl,rfl,rfl,Nat.le_refl _,fun _ _ _=>rfl⟩).trans (by rw [hW1];exact(qj _ _ _).trans (qj _ _ _))) hlen hcl hnews hct h.1;clear hW1 a1 a2 hct hnews hlen hzs hzs' hz1' hr hA HC hx hcl;go_enter func173,ntmps173;go_wp2_with fail;go_region_law (refine step_append_room rfl (.tmp 22) (.tmp 25) 32 rfl 100 i0 4 underlying32 hi0 hz1 g 0 i cap (by simp [Act.eval,Act.put]) A (n - (i+1)) (cap - (i+1)) news (by simp [Act.eval,Act.put]) s1.o hsrc.o s2.o wu s3.o ?_;rw [Nat.zero_add,<-HW1.o]);rw [show i+(n - (i+1))=n - 1 by omega];go_wp2_with fail;go_ret;refine⟨rfl,⟨?_,.inr ⟨g,cap,_,rfl,hbg,A2.o,wu,hcm,?_,?_⟩⟩,HG.o⟩
 ·rw [<-HN.o,List.length_append,List.length_take,HL.o,HX.o];omega
 ·simp only [List.size_toArray,List.length_append,List.length_take,List.length_drop,HL.o,hzl,HCL.o];omega
 ·have e1:xs.take (i*4)=cs.take (i*4):=by rw [<-HT.o,List.take_take,Nat.min_eq_left wu]
  rw [e1,<-HN.o,List.append_assoc,List.take_left' (by rw [List.length_append,List.length_take,HL.o,HCL.o];omega)]
theorem Jr (g i:Nat) (l:List BlobP) (base cap:Nat) (w:World) (N:am) (hi:i<l.length) (h:RwX BlobS 76 w base (aA (aG ⟨g,0,aF⟩) l.length cap) l N) :
  Calls zZZ 88 #[aA (aG ⟨g,0,aF⟩) l.length cap,aB aC i,aB aC ((i:Int)+1)] w fun e w'=>e= .returned (aA (aG ⟨g,0,aF⟩) (l.eraseIdx i).length cap) /\
   RwX BlobS 76 w' base (aA (aG ⟨g,0,aF⟩) (l.eraseIdx i).length cap) (l.eraseIdx i) N/\w.grownBy w' (aG g):=by
 obtain⟨ps,h1,h2,h3,h4⟩:=h;have hlen:(l.eraseIdx i).length=l.length - 1:=List.length_eraseIdx_of_lt hi;rw [hlen];refine(Vl g i l.length cap base (cls ps) w h3 hi h2.ones).mono ?_;rintro e w' ⟨rfl,ho,hg⟩;refine⟨rfl,⟨ps.eraseIdx i,?_,?_,?_,fun p hp b hb=>h4 p (List.mem_of_mem_eraseIdx hp) b hb⟩,hg⟩
 ·rw [<-h1,List.eraseIdx_eq_take_drop_succ,List.eraseIdx_eq_take_drop_succ,List.map_append,List.map_take,List.map_drop]
 ·exact qI.grown (w:=w) (g:=aG g) (fun p hp=>h2 p (List.mem_of_mem_eraseIdx hp)) hg (fun p hp b hb=>h4 p (List.mem_of_mem_eraseIdx hp) b (.inl hb))
 ·rw [<-vU (s:=4) ps i h2.lens,hlen];exact ho
theorem Js (g i:Nat) (l:List EntP) (base cap:Nat) (w:World) (N:am) (hi:i<l.length) (h:RwX EntS 100 w base (aA (aG ⟨g,0,aF⟩) l.length cap) l N) :
  Calls zZZ 173 #[aA (aG ⟨g,0,aF⟩) l.length cap,aB aC i,aB aC ((i:Int)+1)] w fun e w'=>e= .returned (aA (aG ⟨g,0,aF⟩) (l.eraseIdx i).length cap) /\
   RwX EntS 100 w' base (aA (aG ⟨g,0,aF⟩) (l.eraseIdx i).length cap) (l.eraseIdx i) N/\w.grownBy w' (aG g):=by
 obtain⟨ps,h1,h2,h3,h4⟩:=h;have hlen:(l.eraseIdx i).length=l.length - 1:=List.length_eraseIdx_of_lt hi;rw [hlen];refine(Vm g i l.length cap base (cls ps) w h3 hi h2.ones).mono ?_;rintro e w' ⟨rfl,ho,hg⟩;refine⟨rfl,⟨ps.eraseIdx i,?_,?_,?_,fun p hp b hb=>h4 p (List.mem_of_mem_eraseIdx hp) b hb⟩,hg⟩
 ·rw [<-h1,List.eraseIdx_eq_take_drop_succ,List.eraseIdx_eq_take_drop_succ,List.map_append,List.map_take,List.map_drop]
 ·exact qI.grown (w:=w) (g:=aG g) (fun p hp=>h2 p (List.mem_of_mem_eraseIdx hp)) hg (fun p hp b hb=>h4 p (List.mem_of_mem_eraseIdx hp) b (.inl hb))
 ·rw [<-vU (s:=4) ps i h2.lens,hlen];exact ho
theorem qN (h:hexC d=0):d.length=64:=by
 unfold hexC at h;by_cases h64:d.length=64
 ·exact h64
 ·rw [if_pos wu]at h;cases h
theorem vE {x:List PartP} (h:chk x=0):ZV x:=fun p hp=>by
 obtain⟨h1,h2,h3⟩:=(zk h).2 p hp
 have e1:=xQ h1
 have e2:=qN h2
 exact⟨wu,wu,wu⟩
theorem KM (l:ai):xB (shaS l) l=0:=by
 rw [xB,zy,if_neg aa,if_neg ab]
theorem vK (A:aj) (c:Nat) (l:List BlobP) (w:World) (hg:GoodB l) (hA:Rw BlobS w A l) :
  Calls zZZ 70 #[aA A l.length c] w fun e w'=>e= .returned (aB aC 0)/\Below w.heap.size w w':=by
 have HG:=sqH hg;have hl:=hg.len;have hps:=List.pairwise_iff_getElem.1 hg.ris;have HPS:=sqH hps;clear hg hps;go_enter func70,ntmps70;go_wp2_with fail;go_loopg [11] l.length (fun gn i wr=>∃j:Nat,gn=l.length - j/\i= aB aC j/\j<=l.length/\Below w.heap.size w wr)
 case atStart=>exact⟨0,rfl,rfl,wu,Below.refl _ _⟩
 case round =>
  obtain⟨j,hgk,rfl,hj,hbl⟩:=hrel;have HGK:=sqH hgk;clear hgk;by_cases hlt:j<l.length
  ·have hcc:decide (j<l.length)=true:=decide_eq_true hlt;have hA2:=hA.below hbl;obtain⟨b,off,B,cb,rfl,hbb,c0,c1,c2,c3,hs⟩:=hA2.blob_at j hlt;have hj0:=we j
   have hj1:(j:Int)<(l.length:Int):=wu;have HG1:=sqH (HG.o.one l[j] (List.getElem_mem hlt));have hprev:0<j->∃q:ai,Op.bytesLess q l[j].dig=true/\wr.cell? ⟨b,off+(j - 1)*4,aF⟩=aG (aD ⟨q.toArray⟩):=fun h0=>by
    obtain⟨b',off',B',cb',e1,_,d0,_⟩:=hA2.blob_at (j - 1) wu
    cases e1
    exact⟨_,HPS.o (j - 1) j wu hlt wu,d0⟩
   generalize l[j]=x at *
   obtain⟨sx,hsx⟩:=wY (⟨x.dig.toArray⟩:ByteArray)
   rw [<-hsx]at c0;have HSX:=sqH hsx;have HSL:=sqH (show sx.data.toList=x.dig by rw [hsx]);clear hsx hA2;have hX:Arr (wr.alloc (aE #[aD sx,aA B x.data.length cb,aB aC x.aQ,(.bool x.mark)] 76)) wr.heap.size 76 [aD sx,aA B x.data.length cb,aB aC x.aQ,(.bool x.mark)]:=Arr.new wr 76 _;have hba:=ws wr (aE #[aD sx,aA B x.data.length cb,aB aC x.aQ,(.bool x.mark)] 76);have hb2:=wm hbl hba;have hs2:=hs.below hba;have hq2:0<j->∃q:ai,Op.bytesLess q x.dig=true/\(wr.alloc (aE #[aD sx,aA B x.data.length cb,aB aC x.aQ,(.bool x.mark)] 76)).cell? ⟨b,off+(j - 1)*4,aF⟩=aG (aD ⟨q.toArray⟩):=fun h0=>by
    obtain⟨q,q1,q2⟩:=hprev h0;exact⟨q,q1,(hba.cell (p:=⟨b,off+(j - 1)*4,aF⟩) hbb).trans q2⟩
   have hbb2:b<(wr.alloc (aE #[aD sx,aA B x.data.length cb,aB aC x.aQ,(.bool x.mark)] 76)).heap.size:=by simp;omega
   obtain⟨x0,x1,x2,x3⟩:=sqC4 hX;clear hprev hbl hba hs;go_wp2_with fail;generalize wr.alloc (aE #[aD sx,aA B x.data.length cb,aB aC x.aQ,(.bool x.mark)] 76)=w2 at *
   generalize wr.heap.size=gx at *
   clear c0 c1 c2 c3 x0 x1 x2 x3;obtain⟨g1,g2,g3⟩:=HG1.o;have hsz:sx.size<=140737488351232:=by
    rw [HSX.o];show(x.dig.toArray).size<=_;rw [List.size_toArray,g1,vH];decide
   have HRT:=VG sx B x.data.length cb x.data (x.aQ:Int) x.mark w2 wu wu hsz rfl g2 hs2.cap hs2.rd;rw [HSL.o,g1,KM]at HRT;have HRT:=sqH HRT;clear g1 g2 g3 hsz hs2;refine wZ HRT.o fun w3 hb3=>?_;dsimp only;have hb23:=wm hb2 hb3;have hX3:=hX.below hb3;clear hX hb2;by_cases h0:0<j
   ·obtain⟨q,q1,q2⟩:=hq2 h0;have hkb:decide (0<(j:Int))=true:=decide_eq_true wu;have hkc:decide ((j:Int)>0)=true:=decide_eq_true wu;have hkd:decide (0<j)=true:=decide_eq_true h0;have hm1:IntKind.i64.wrap ((j:Int) - 1)=(j:Int) - 1:=IntWalk.i64_in _ wu;have hm2:((j:Int) - 1).toNat=j - 1:=wu
    have hm3:(0:Int)<=(j:Int) - 1:=wu;have hm4:(j:Int) - 1<(l.length:Int):=wu;have hm5:(1:Int)<=(j:Int):=wu;obtain⟨sq,hsq⟩:=wY (⟨q.toArray⟩:ByteArray)
    rw [<-hsq]at q2;have q3:=(hb3.cell (p:=⟨b,off+(j - 1)*4,aF⟩) hbb2).trans q2;have l1:Op.bytesLess sx.toList sq.toList=false:=by
     rw [HSX.o,hsq,ByteArray.toList_eq,ByteArray.toList_eq];exact yu q1
    have l2:(sx.toList==sq.toList)=false:=by
     rw [HSX.o,hsq,ByteArray.toList_eq,ByteArray.toList_eq,beq_eq_false_iff_ne];exact(yT q1).symm
    have y0:=hX3.c0;clear hsq q1 q2 hq2;go_wp2_with fail;go_quiet (fail);go_wp2_with fail;go_roundg (l.length - (j+1))
    case measure=>exact wc HGK
    case rel=>exact⟨j+1,rfl,by go_num,wu,zY hb23 _⟩
   ·have hkb:decide (0<(j:Int))=false:=decide_eq_false wu;have hkc:decide ((j:Int)>0)=false:=decide_eq_false wu;have hkd:decide (0<j)=false:=decide_eq_false h0;clear hq2;go_wp2_with fail;go_quiet (fail);go_wp2_with fail;go_roundg (l.length - (j+1))
    case measure=>exact wc HGK
    case rel=>exact⟨j+1,rfl,by go_num,wu,zY hb23 _⟩
  ·obtain rfl:j=l.length:=by omega
   have hcc:decide (l.length<l.length)=false:=ab;go_wp2_with fail;go_ret;exact⟨rfl,hbl⟩
theorem xe (A:aj) (c:Nat) (l:List EntP) (w:World) (hg:GoodE l) (hA:Rw EntS w A l) :
  Calls zZZ 71 #[aA A l.length c] w fun e w'=>e= .returned (aB aC 0)/\Below w.heap.size w w':=by
 have HG:=sqH hg;have hl:=hg.len;have hps:=List.pairwise_iff_getElem.1 hg.ris;have HPS:=sqH hps;clear hg hps;go_enter func71,ntmps71;go_wp2_with fail;go_loopg [13] l.length (fun gn i wr=>∃j:Nat,gn=l.length - j/\i= aB aC j/\j<=l.length/\Below w.heap.size w wr)
 case atStart=>exact⟨0,rfl,rfl,wu,Below.refl _ _⟩
 case round =>
  obtain⟨j,hgk,rfl,hj,hbl⟩:=hrel;have HGK:=sqH hgk;clear hgk;by_cases hlt:j<l.length
  ·have hcc:decide (j<l.length)=true:=decide_eq_true hlt;have hA2:=hA.below hbl;obtain⟨b,off,B,cb,rfl,hbb,c0,c1,c2,c3,hs⟩:=hA2.ent_at j hlt;have hj0:=we j
   have hj1:(j:Int)<(l.length:Int):=wu;have HG1:=sqH (HG.o.one l[j] (List.getElem_mem hlt));have hprev:0<j->∃q:ai,Op.bytesLess q l[j].key=true/\wr.cell? ⟨b,off+(j - 1)*4,aF⟩=aG (aD ⟨q.toArray⟩):=fun h0=>by
    obtain⟨b',off',B',cb',e1,_,d0,_⟩:=hA2.ent_at (j - 1) wu
    cases e1
    exact⟨_,HPS.o (j - 1) j wu hlt wu,d0⟩
   generalize l[j]=x at *
   obtain⟨sx,hsx⟩:=wY (⟨x.key.toArray⟩:ByteArray)
   rw [<-hsx]at c0;have HSX:=sqH hsx;have HSL:=sqH (show sx.data.toList=x.key by rw [hsx]);clear hsx hA2;have hX:Arr (wr.alloc (aE #[aD sx,aA B x.aP.length cb,aB aC x.aQ,(aB aC x.aO)] 100)) wr.heap.size 100 [aD sx,aA B x.aP.length cb,aB aC x.aQ,(aB aC x.aO)]:=Arr.new wr 100 _;have hba:=ws wr (aE #[aD sx,aA B x.aP.length cb,aB aC x.aQ,(aB aC x.aO)] 100);have hb2:=wm hbl hba;have hs2:=hs.below hba;have hq2:0<j->∃q:ai,Op.bytesLess q x.key=true/\(wr.alloc (aE #[aD sx,aA B x.aP.length cb,aB aC x.aQ,(aB aC x.aO)] 100)).cell? ⟨b,off+(j - 1)*4,aF⟩=aG (aD ⟨q.toArray⟩):=fun h0=>by
    obtain⟨q,q1,q2⟩:=hprev h0;exact⟨q,q1,(hba.cell (p:=⟨b,off+(j - 1)*4,aF⟩) hbb).trans q2⟩
   have hbb2:b<(wr.alloc (aE #[aD sx,aA B x.aP.length cb,aB aC x.aQ,(aB aC x.aO)] 100)).heap.size:=by simp;omega
   obtain⟨x0,x1,x2,x3⟩:=sqC4 hX;clear hprev hbl hba hs;go_wp2_with fail;generalize wr.alloc (aE #[aD sx,aA B x.aP.length cb,aB aC x.aQ,(aB aC x.aO)] 100)=w2 at *
   generalize wr.heap.size=gx at *
   clear c0 c1 c2 c3 x0 x1 x2 x3;obtain⟨g1,g2,g3,g4⟩:=HG1.o;have hsz:sx.size<=140737488351232:=by
    have:=qN g1;rw [HSX.o];show(x.key.toArray).size<=_;rw [List.size_toArray];omega
   have HRT:=kA sx w2 hsz;rw [HSL.o,g1]at HRT;have HRT:=sqH HRT;have hpl:=(zk g2).1;obtain⟨HPO,HG2,HPN⟩:=sqJ3 (vE g2) g2 (fun w'=>xg (x.aQ:Int) wu wu w');have st1:decide ((x.aO:Int)<0)=false:=decide_eq_false wu;have st2:decide ((x.aO:Int)>1099511627776)=false:=decide_eq_false wu;have st3:decide ((1099511627776:Int)<(x.aO:Int))=false:=decide_eq_false wu;have st4:decide (1099511627776<x.aO)=false:=decide_eq_false wu;clear g1 g2 hsz;refine wZ HRT.o fun w3 hb3=>?_;dsimp only;have hb23:=wm hb2 hb3;have hX3:=hX.below hb3;have hs3:=hs2.below hb3;have HMC:=sqH (show ∀w',Below w3.heap.size w3 w'->Calls zZZ 101 #[aA B x.aP.length cb] w' fun e w''=>e= .returned (aB aC 0)/\Below w'.heap.size w' w'' from fun w' hb=>by
    have:=xf B x.aP.length cb x.aP w' rfl hs3.cap wu HPO.o (hs3.below hb).rd
    rwa [HG2.o]at this)
   clear hX hb2 hs2 hs3;by_cases h0:0<j
   ·obtain⟨q,q1,q2⟩:=hq2 h0;have hkb:decide (0<(j:Int))=true:=decide_eq_true wu;have hkc:decide ((j:Int)>0)=true:=decide_eq_true wu;have hkd:decide (0<j)=true:=decide_eq_true h0;have hm1:IntKind.i64.wrap ((j:Int) - 1)=(j:Int) - 1:=IntWalk.i64_in _ wu;have hm2:((j:Int) - 1).toNat=j - 1:=wu
    have hm3:(0:Int)<=(j:Int) - 1:=wu;have hm4:(j:Int) - 1<(l.length:Int):=wu;have hm5:(1:Int)<=(j:Int):=wu;obtain⟨sq,hsq⟩:=wY (⟨q.toArray⟩:ByteArray)
    rw [<-hsq]at q2;have q3:=(hb3.cell (p:=⟨b,off+(j - 1)*4,aF⟩) hbb2).trans q2;have l1:Op.bytesLess sx.toList sq.toList=false:=by
     rw [HSX.o,hsq,ByteArray.toList_eq,ByteArray.toList_eq];exact yu q1
    have l2:(sx.toList==sq.toList)=false:=by
     rw [HSX.o,hsq,ByteArray.toList_eq,ByteArray.toList_eq,beq_eq_false_iff_ne];exact(yT q1).symm
    have y0:=hX3.c0;clear hsq q1 q2 hq2;go_wp2_with fail;go_quiet (fail);have hb34:=fun n=>zY (wo w3) n;have hb24:=fun n=>zY hb23 n;have y1:=fun n=>(hX3.drewN n).c1;go_wp2_with fail;refine wZ (HMC.o _ (hb34 _)) fun w5 hb5=>?_;dsimp only;have hb25:=(hb24 _).trans (hb5.mono (hb24 _).size);have hX5:=(hX3.below (hb34 _)).below hb5;clear y1 hb34 hb24;have y2:=hX5.c2;have y3:=hX5.c3;go_wp2_with fail;refine(HPN.o w5).mono ?_;rintro e_ _ ⟨rfl,rfl⟩;dsimp only;go_wp2_with fail;go_roundg (l.length - (j+1))
    case measure=>exact wc HGK
    case rel=>exact⟨j+1,rfl,by go_num,wu,hb25⟩
   ·have hkb:decide (0<(j:Int))=false:=decide_eq_false wu;have hkc:decide ((j:Int)>0)=false:=decide_eq_false wu;have hkd:decide (0<j)=false:=decide_eq_false h0;clear hq2;go_wp2_with fail;go_quiet (fail);have hb34:=fun n=>zY (wo w3) n;have hb24:=fun n=>zY hb23 n;have y1:=fun n=>(hX3.drewN n).c1;go_wp2_with fail;refine wZ (HMC.o _ (hb34 _)) fun w5 hb5=>?_;dsimp only;have hb25:=(hb24 _).trans (hb5.mono (hb24 _).size);have hX5:=(hX3.below (hb34 _)).below hb5;clear y1 hb34 hb24;have y2:=hX5.c2;have y3:=hX5.c3;go_wp2_with fail;refine(HPN.o w5).mono ?_;rintro e_ _ ⟨rfl,rfl⟩;dsimp only;go_wp2_with fail;go_roundg (l.length - (j+1))
    case measure=>exact wc HGK
    case rel=>exact⟨j+1,rfl,by go_num,wu,hb25⟩
  ·obtain rfl:j=l.length:=by omega
   have hcc:decide (l.length<l.length)=false:=ab;go_wp2_with fail;go_ret;exact⟨rfl,hbl⟩
def qK (l:List BlobP):List PartP->Nat
 | []=>0
 | p::ps=>match l.findIdx? (fun b=>b.dig==p.dig) with
  | none=>5
  | some i=>if (match l[i]? with | some b=>b.data.length | none=>0)=p.size then qK l ps else 4
theorem XO (hr:RisesBy f l) (hx:x∈l) (hd:f x=d):∃i,∃h:i<l.length,l.findIdx? (fun y=>f y==d)=aG i/\l[i]=x:=by
 obtain⟨i,hi,he⟩:=List.mem_iff_getElem.1 hx;refine⟨i,hi,?_,he⟩;rw [List.findIdx?_eq_some_iff_getElem];refine⟨hi,by rw [he];simp [hd],fun k hk=> ?_⟩;have:=List.pairwise_iff_getElem.1 hr k i wu hi hk;rw [he,hd]at this;simpa using yT this
theorem Zk {l:List BlobP} (hr:RisesBy (·.dig) l):∀ {ps:List PartP},Have l ps->qK l ps=0
 | [],_=>rfl
 | p::ps,h=>by
  obtain⟨b,hb,h1,h2⟩:=h p ab
  obtain⟨i,hi,h3,h4⟩:=XO (f:=fun b:BlobP=>b.dig) hr hb h1
  rw [qK,h3]
  show(if (match l[i]? with | some b=>b.data.length | none=>0)=p.size then _ else _)=_
  rw [List.getElem?_eq_getElem hi,h4]
  show(if b.data.length=p.size then _ else _)=_
  rw [if_pos h2,Zk hr fun q hq=>h q (by simp [hq])]
theorem yz {l:List BlobP}:∀ {ps:List PartP},qK l ps=0->Have l ps
 | [],_=>fun p hp=>by cases hp
 | p::ps,h=>by
  rw [qK]at h
  cases hf:l.findIdx? (fun b=>b.dig==p.dig) with
  | none=>rw [hf]at h;cases h
  | some i =>
   rw [hf]at h
   obtain⟨hi,he,_⟩:=List.findIdx?_eq_some_iff_getElem.1 hf
   have h':(if (match l[i]? with | some b=>b.data.length | none=>0)=p.size then qK l ps else 4)=0:=h
   have h3:(if l[i].data.length=p.size then qK l ps else 4)=0:=by rw [List.getElem?_eq_getElem hi]at h';exact h'
   by_cases h2:l[i].data.length=p.size
   ·rw [if_pos h2]at h3
    intro q hq
    rcases List.mem_cons.1 hq with rfl | hq
    ·exact⟨l[i],List.getElem_mem hi,by simpa using he,h2⟩
    ·exact yz h3 q hq
   ·rw [if_neg h2]at h3;cases h3
def zH (s:StoP) (d:ai):StoP:= { s with aI:=putB s.aI d }
def xy (s:StoP) (k:ai) (ps:List PartP):StoP:= { s with aJ:=x8 s.aJ ⟨k,ps,0,s.aK+1⟩,aK:=s.aK+1 }
def kv (s:StoP) (i:Nat) (x:EntP):StoP:= { s with aJ:=s.aJ.set i { x with aO:=s.aK+1 },aK:=s.aK+1 }
def ke (s:StoP) (i:Nat) (b:BlobP) (n:Nat):StoP:= { s with aI:=s.aI.set i { b with aQ:=n } }
def Zn (s:StoP) (i:Nat) (x:EntP) (n:Nat):StoP:= { s with aJ:=s.aJ.set i { x with aQ:=n } }
theorem QS {l:List BlobP} {b:BlobP} (h:b∈l):b∈putB l d:=by
 unfold putB;cases l.findIdx? (fun b=>b.dig==shaS d) with
 | none=>exact(qc _ _).mem_iff.2 (List.mem_cons_of_mem _ h)
 | some i=>exact h
theorem KK (h:GoodS s) (hd:d.length<=300) (hl:s.aI.length<24) (hr:usd (putB s.aI d)<=s.aL):GoodS (zH s d) :=
 ⟨XK h.b hd hl,h.e,h.aL,hr,h.aK,fun x hx=>⟨(h.ent x hx).1,(h.ent x hx).2.mono fun b hb=>QS hb⟩⟩
theorem Um {l:List EntP} {x y:EntP} (h:y∈x8 l x):y∈l\/(y.key=x.key/\y.aP=x.aP/\y.aO=x.aO/\(y.aQ=x.aQ\/∃z∈l,z.key=x.key/\y.aQ=z.aQ)):=by
 unfold x8 at h;cases hf:l.findIdx? (fun y=>y.key==x.key) with
 | none =>
  rw [hf]at h;rcases List.mem_cons.1 ((qc _ _).mem_iff.1 h) with h | h
  ·subst h;exact .inr ⟨rfl,rfl,rfl,.inl rfl⟩
  ·exact .inl h
 | some i =>
  rw [hf]at h;obtain⟨hi,he,_⟩:=List.findIdx?_eq_some_iff_getElem.1 hf;have h':y∈l.set i { x with aQ:=(match l[i]? with | some y=>y.aQ | none=>0) }:=h;rw [List.getElem?_eq_getElem hi]at h';rcases List.mem_or_eq_of_mem_set h' with h | h
  ·exact .inl h
  ·subst h;exact .inr ⟨rfl,rfl,rfl,.inr ⟨l[i],List.getElem_mem hi,by simpa using he,rfl⟩⟩
theorem j0 {k:ai} {ps:List PartP} (h:GoodS s) (hk:hexC k=0) (hp:chk ps=0) (hh:Have s.aI ps) (hc:s.aK<1099511627776) (hl:s.aJ.length<10):GoodS (xy s k ps):=by
 refine⟨h.b,ZA h.e ⟨hk,hp,by show 0<=5;omega,by show s.aK+1<=_;omega⟩ hl,h.aL,h.used,by show s.aK+1<=_;omega,fun x hx=> ?_⟩;rcases Um hx with h1 | ⟨h1,h2,h3,_⟩
 ·have:=h.ent x h1;exact⟨by show x.aO<=s.aK+1;omega,this.2⟩
 ·exact⟨by rw [h3];exact Nat.le_refl _,by rw [h2];exact hh⟩
theorem Zh {l:List EntP} {x:EntP} (h:GoodE l) (hi:i<l.length) (hk:x.key=l[i].key) (hx:GoodE1 x):GoodE (l.set i x) :=
 ⟨by rw [List.length_set];exact h.len,fun y hy=>(List.mem_or_eq_of_mem_set hy).elim (h.one y) (fun e=>e▸hx),ZB h.ris hi hk⟩
theorem Zg (h:GoodS s) (hi:i<s.aJ.length) (hc:s.aK<1099511627776):GoodS (kv s i s.aJ[i]):=by
 have h1:=h.e.one _ (List.getElem_mem hi);have h2:=h.ent _ (List.getElem_mem hi);refine⟨h.b,Zh h.e hi rfl ⟨h1.1,h1.2.1,h1.2.2.1,by show s.aK+1<=_;omega⟩,h.aL,h.used,by show s.aK+1<=_;omega,fun x hx=> ?_⟩;rcases List.mem_or_eq_of_mem_set hx with h3 | h3
 ·have:=h.ent x h3;exact⟨by show x.aO<=s.aK+1;omega,this.2⟩
 ·subst h3;exact⟨Nat.le_refl _,h2.2⟩
theorem Q6 (h:GoodS s) (hi:i<s.aJ.length) (hn:n<=5):GoodS (Zn s i s.aJ[i] n):=by
 have h1:=h.e.one _ (List.getElem_mem hi);have h2:=h.ent _ (List.getElem_mem hi);refine⟨h.b,Zh h.e hi rfl ⟨h1.1,h1.2.1,hn,h1.2.2.2⟩,h.aL,h.used,h.aK,fun x hx=> ?_⟩;rcases List.mem_or_eq_of_mem_set hx with h3 | h3
 ·exact h.ent x h3
 ·subst h3;exact h2
theorem UA {l:List BlobP} {x:BlobP} (hr:RisesBy (·.dig) l) (hi:i<l.length) (hk:x.dig=l[i].dig):RisesBy (·.dig) (l.set i x):=by
 have h:(l.set i x).map (·.dig)=l.map (·.dig):=by
  rw [List.map_set,hk];apply List.ext_getElem?;intro k;rw [List.getElem?_set];split
  ·rename_i e;subst e;rw [List.length_map,if_pos hi,List.getElem?_map,List.getElem?_eq_getElem hi];rfl
  ·rfl
 have h1:Rises ((l.set i x).map (·.dig)):=by rw [h];exact hr.map
 exact List.pairwise_map.1 h1
theorem K0 {β:Type} (f:α->β) (hi:i<l.length) (hk:f x=f l[i]):(l.set i x).map f=l.map f:=by
 rw [List.map_set,hk];apply List.ext_getElem?;intro k;rw [List.getElem?_set];split
 ·rename_i e;subst e;rw [List.length_map,if_pos hi,List.getElem?_map,List.getElem?_eq_getElem hi];rfl
 ·rfl
theorem XV {x:BlobP} (h:GoodS s) (hi:i<s.aI.length) (h1:x.dig=s.aI[i].dig) (h2:x.data=s.aI[i].data) (h3:x.aQ<=5):GoodS { s with aI:=s.aI.set i x }:=by
 have g:=h.b.one _ (List.getElem_mem hi);refine⟨⟨by rw [List.length_set];exact h.b.len,fun y hy=>(List.mem_or_eq_of_mem_set hy).elim (h.b.one y) (fun e=>e▸⟨by rw [h1,h2];exact g.1,by rw [h2];exact g.2.1,h3⟩),UA h.b.ris hi h1⟩,h.e,h.aL,?_,h.aK,fun y hy=>⟨(h.ent y hy).1,fun p hp=> ?_⟩⟩
 ·show usd (s.aI.set i x)<=_;unfold usd;rw [K0 (fun b:BlobP=>b.data.length) hi (by rw [h2])];exact h.used
 ·obtain⟨b,hb,e1,e2⟩:=(h.ent y hy).2 p hp;obtain⟨k,hk,rfl⟩:=List.mem_iff_getElem.1 hb;by_cases e:k=i
  ·subst e;exact⟨x,List.mem_iff_getElem.2 ⟨k,by rw [List.length_set];exact hk,ab⟩,by rw [h1];exact e1,by rw [h2];exact e2⟩
  ·exact⟨_,List.mem_iff_getElem.2 ⟨k,by rw [List.length_set];exact hk,List.getElem_set_ne (fun h=>e h.symm) _⟩,e1,e2⟩
theorem ui (h:GoodS s) (hi:i<s.aI.length) (hn:n<=5):GoodS (ke s i s.aI[i] n):=XV h hi rfl rfl hn
end Go.Proofs.YtaboknhfiijipaaGreat
