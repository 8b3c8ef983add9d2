/- Lemmas, as stated. -/
import Derived.Test.YtaboknhfiijipaaGreatQC09
import Derived.Test.YtaboknhfiijipaaGreatQC10
set_option linter.unusedVariables false
set_option linter.unusedSimpArgs false
set_option maxRecDepth 100000
set_option maxHeartbeats 8000000
open Go.Proofs.Tryz
open Go.Proofs.Tryz renaming prog->zZZ
open Go.Value renaming slice->aB,int->aC,string->aE
open Go.IntKind renaming i64->aD
open Go.Obj renaming cells->aF
open Option renaming none->aG,some->aH
namespace Go.Proofs.YtaboknhfiijipaaGreat
open Go.RowKit
variable {α:Type} {l:List α} {i n:Nat} {s:StoP} {d:aj} {x:α} {f:α->List UInt8}
section
variable {α:Type} {f:α->List UInt8} {l:List α} {d:aj} {i:Nat}
theorem Z1 (h1:∀k (h:k<l.length),k<i->Op.bytesLess (f l[k]) d=true) (hi:i<l.length) (he:f l[i]=d):l.findIdx? (fun x=>f x==d)=aH i:=by
 rw [List.findIdx?_eq_some_iff_getElem];exact⟨hi,by simp [he],fun k hk=>by
  have:=yZ (h1 k ww hk);simp [this]⟩
theorem XD (hr:RisesBy f l) (h1:∀k (h:k<l.length),k<i->Op.bytesLess (f l[k]) d=true) (h2:∀k (h:k<l.length),i<=k->Op.bytesLess (f l[k]) d=false) (hn:¬ ∃h:i<l.length,f l[i]=d) :
  (∀x∈l,f x≠d)/\∀k (h:k<l.length),i<=k->Op.bytesLess d (f l[k])=true:=by
 have hp:=List.pairwise_iff_getElem.1 hr;have h3:∀k (h:k<l.length),i<=k->Op.bytesLess d (f l[k])=true:=fun k h hk=>by
  have hi:i<l.length:=ww;have h4:Op.bytesLess d (f l[i])=true:=by
   rcases jb d (f l[i]) with h | h | h
   ·exact h
   ·exact absurd ⟨hi,h.symm⟩ hn
   ·rw [h2 i hi ai]at h;cases h
  rcases Nat.lt_or_ge i k with h5 | h5
  ·exact q6 h4 (hp i k hi h h5)
  ·obtain rfl:i=k:=by omega
   exact h4
 refine⟨fun x hx e=> ?_,h3⟩;obtain⟨k,hk,rfl⟩:=List.mem_iff_getElem.1 hx;rcases Nat.lt_or_ge k i with h5 | h5
 ·exact yZ (h1 k hk h5) e
 ·exact yZ (h3 k hk h5) e.symm
theorem z3j (hr:RisesBy f l) (h1:∀k (h:k<l.length),k<i->Op.bytesLess (f l[k]) d=true) (h2:∀k (h:k<l.length),i<=k->Op.bytesLess (f l[k]) d=false) (hn:¬ ∃h:i<l.length,f l[i]=d) {x:α} (hx:f x=d) :
  RisesBy f (l.take i++x::l.drop i)/\(l.take i++x::l.drop i).Perm (x::l):=by
 have h3:=(XD hr h1 h2 hn).2;have ht:∀a∈l.take i,Op.bytesLess (f a) d=true:=fun a ha=>by
  obtain⟨k,hk,rfl⟩:=List.mem_iff_getElem.1 ha;rw [List.length_take]at hk;rw [List.getElem_take];exact h1 k ww ww
 have hd:∀a∈l.drop i,Op.bytesLess d (f a)=true:=fun a ha=>by
  obtain⟨k,hk,rfl⟩:=List.mem_iff_getElem.1 ha;rw [List.length_drop]at hk;rw [List.getElem_drop];exact h3 (i+k) ww ww
 refine⟨List.pairwise_append.2 ⟨hr.sublist (List.take_sublist _ _),List.pairwise_cons.2 ⟨fun a ha=>by rw [hx];exact hd a ha,hr.sublist (List.drop_sublist _ _)⟩,fun a ha b hb=> ?_⟩,?_⟩
 ·rcases List.mem_cons.1 hb with rfl | hb
  ·rw [hx];exact ht a ha
  ·exact q6 (ht a ha) (hd b hb)
 ·have:=(List.perm_middle (a:=x) (l₁:=l.take i) (l₂:=l.drop i))
  rwa [List.take_append_drop]at this
theorem JO (hr:RisesBy f l) (h1:∀k (h:k<l.length),k<i->Op.bytesLess (f l[k]) d=true) (h2:∀k (h:k<l.length),i<=k->Op.bytesLess (f l[k]) d=false) (hn:¬ ∃h:i<l.length,f l[i]=d) {x:α} (hx:f x=d) :
  l.take i++x::l.drop i=srt f (x::l):=by
 obtain⟨a,b⟩:=z3j hr h1 h2 hn hx;exact z48 a b
theorem JN (hr:RisesBy f l) (h1:∀k (h:k<l.length),k<i->Op.bytesLess (f l[k]) d=true) (h2:∀k (h:k<l.length),i<=k->Op.bytesLess (f l[k]) d=false) (hn:¬ ∃h:i<l.length,f l[i]=d):l.findIdx? (fun x=>f x==d)=aG:=by
 rw [List.findIdx?_eq_none_iff];intro x hx;have:=(XD hr h1 h2 hn).1 x hx;simp [this]
end
def xf (l:List EntP) (x:EntP):List EntP:=match l.findIdx? (fun y=>y.key==x.key) with | some i=>l.set i { x with aR:=(match l[i]? with | some y=>y.aR | none=>0) } | none=>srt (·.key) (x::l)
def putB (l:List BlobP) (d:aj):List BlobP:=match l.findIdx? (fun b=>b.dig==shaS d) with | some _=>l | none=>srt (·.dig) (⟨shaS d,d,0,false⟩::l)
theorem z00 (hr:RisesBy f l) (hn:l.findIdx? (fun y=>f y==f x)=aG):RisesBy f (srt f (x::l)):=uP (by
 rw [List.map_cons,List.nodup_cons]
 refine⟨fun h=> ?_,Rises.nodup (RisesBy.map hr)⟩
 obtain⟨y,hy,e⟩:=List.mem_map.1 h
 have:=List.findIdx?_eq_none_iff.1 hn y hy
 simp [e]at this)
theorem Qb {l:List EntP} {x:EntP} (hr:RisesBy (·.key) l) (hi:i<l.length) (hk:x.key=l[i].key):RisesBy (·.key) (l.set i x):=by
 have h:(l.set i x).map (·.key)=l.map (·.key):=by
  rw [List.map_set,hk];apply List.ext_getElem?;intro k;rw [List.getElem?_set];split
  ·rename_i e;subst e;rw [List.length_map,if_pos hi,List.getElem?_map,List.getElem?_eq_getElem hi];rfl
  ·rfl
 have h1:Rises ((l.set i x).map (·.key)):=by rw [h];exact hr.map
 exact List.pairwise_map.1 h1
theorem Qa {l:List EntP} {x:EntP} (hg:GoodE l) (hx:GoodE1 x) (hlen:l.length<10):GoodE (xf l x):=by
 unfold xf;cases hf:l.findIdx? (fun y=>y.key==x.key) with
 | none =>
  refine⟨?_,fun y hy=> ?_,z00 hg.ris hf⟩
  ·rw [(q9 _ _).length_eq];simp;omega
  ·rcases List.mem_cons.1 ((q9 _ _).mem_iff.1 hy) with rfl | h
   ·exact hx
   ·exact hg.one y h
 | some i =>
  obtain⟨hi,he,_⟩:=List.findIdx?_eq_some_iff_getElem.1 hf;have he':l[i].key=x.key:=by simpa using he
  show GoodE (l.set i { x with aR:=(match l[i]? with | some y=>y.aR | none=>0) });rw [List.getElem?_eq_getElem hi];refine⟨by rw [List.length_set];exact hg.len,fun y hy=> ?_,Qb hg.ris hi he'.symm⟩;rcases List.mem_or_eq_of_mem_set hy with h | h
  ·exact hg.one y h
  ·subst h;obtain⟨a,b,c,e⟩:=hx;exact⟨a,b,(hg.one _ (List.getElem_mem hi)).2.2.1,e⟩
theorem Vu {l:List BlobP} (hg:GoodB l) (hd:d.length<=300) (hlen:l.length<24):GoodB (putB l d):=by
 unfold putB;cases hf:l.findIdx? (fun b=>b.dig==shaS d) with
 | none =>
  refine⟨?_,fun y hy=> ?_,z00 (f:=fun b:BlobP=>b.dig) (x:=⟨shaS d,d,0,false⟩) hg.ris hf⟩
  ·rw [(q9 _ _).length_eq];simp;omega
  ·rcases List.mem_cons.1 ((q9 _ _).mem_iff.1 hy) with rfl | h
   ·exact⟨rfl,hd,by show 0<=5;omega⟩
   ·exact hg.one y h
 | some i=>exact hg
theorem RwX.put4 {S:Shp α} {e:TypeId} {w:World} {base g cap:Nat} {N:an} {u0 u1 u2 u3:Value} (h:RwX S e w base (aB (aH ⟨g,0,aG⟩) l.length cap) l N) (h4:S.size=4) (hi:i<l.length)
  (hR:S.R w x [u0,u1,u2,u3]) (hl:∀b,(b=g\/N b)->¬leads b [u0,u1,u2,u3]) :
  RwX S e (put4 w g (i*4) u0 u1 u2 u3) base (aB (aH ⟨g,0,aG⟩) l.length cap) (l.set i x) N/\w.grownBy (put4 w g (i*4) u0 u1 u2 u3) (aH g):=by
 obtain⟨ps,h1,h2,h3,h5⟩:=h;have hpl:ps.length=l.length:=by rw [<-h1,List.length_map]
 have hip:i<ps.length:=ww;have hlen:∀p∈ps,p.2.length=4:=fun p hp=>by rw [h2.lens p hp,h4]
 have hli:=hlen _ (List.getElem_mem hip);obtain⟨a0,a1,a2,a3,ha⟩:∃a0 a1 a2 a3,ps[i].2= [a0,a1,a2,a3]:=by
  match hq:ps[i].2,hli with
  | [a0,a1,a2,a3],_=>exact⟨a0,a1,a2,a3,rfl⟩
 have e1:cls ps=cls (ps.take i)++ [a0,a1,a2,a3]++cls (ps.drop (i+1)):=by
  conv=>lhs;rw [<-List.take_append_drop i ps,List.drop_eq_getElem_cons hip,x8,qx,ha]
  rw [List.append_assoc]
 rw [e1]at h3;have hcl:(cls (ps.take i)).length=i*4:=by
  rw [uw (s:=4) _ (fun p hp=>hlen p (List.mem_of_mem_take hp)),List.length_take];rw [Nat.min_eq_left ww]
 obtain⟨ho,hg⟩:=Jl h3 hcl u0 u1 u2 u3;have hall:∀p∈ps.set i (x, [u0,u1,u2,u3]),S.R w p.1 p.2/\∀b,(b=g\/N b)->¬leads b p.2:=fun p hp=>by
  rcases List.mem_or_eq_of_mem_set hp with h | h
  ·exact⟨h2 p h,fun b hb=>h5 p h b (hb.imp (fun e=>by rw [e];rfl) id)⟩
  ·subst h;exact⟨hR,hl⟩
 refine⟨⟨ps.set i (x, [u0,u1,u2,u3]),by rw [List.map_set,h1],?_,?_,fun p hp b hb=>(hall p hp).2 b (hb.imp (fun e=>(Option.some.inj e).symm) id)⟩,hg⟩
 ·exact qO.grown (w:=w) (g:=aH g) (fun p hp=>(hall p hp).1) hg (fun p hp b hb=>(hall p hp).2 b (.inl (Option.some.inj hb).symm))
 ·have e2:cls (ps.set i (x, [u0,u1,u2,u3]))=cls (ps.take i)++ [u0,u1,u2,u3]++cls (ps.drop (i+1)):=by
   rw [z1a (s:=4) ps i _ hip hlen,kO (s:=4) ps i hlen,yg (s:=4) ps (i+1) hlen]
  rw [List.length_set,e2];exact ho
theorem z4l (w:World):(zeroValue 76).run zZZ w= .ok (.agg #[aE ByteArray.empty,aB aG 0 0,aC aD 0,.bool false]) w:=by kernel_rfl
theorem Uc (g i n cap base:Nat) (xs:al) (w:World) (h:w.ownsRow base 76 4 (aB (aH ⟨g,0,aG⟩) n cap) n xs) (hi:i<n) (hx:∀u∈xs,u.oneCell'=true) :
  Calls zZZ 88 #[aB (aH ⟨g,0,aG⟩) n cap,aC aD i,aC aD ((i:Int)+1)] w fun e w'=>e= .returned (aB (aH ⟨g,0,aG⟩) (n - 1) cap) /\
   w'.ownsRow base 76 4 (aB (aH ⟨g,0,aG⟩) (n - 1) cap) (n - 1) (xs.take (i*4)++xs.drop ((i+1)*4))/\w.grownBy w' (aH g):=by
 obtain⟨g',cap',cs,e1,hbg,hA,hnc,hcm,hcl,hct⟩:=yq h ww;injection e1 with e11 _ e13;injection e11 with e11;injection e11 with e11;subst e11 e13;obtain⟨i0,hi0,hz0,hz1,hz2⟩:=info_parts (show(zZZ.info? 76).map (fun i=>(i.zero,i.size,i.bytes))=aH (aH (.agg #[aE ByteArray.empty,aB aG 0 0,aC aD 0,.bool false]),4,56) by kernel_rfl);obtain⟨zs,hzs⟩:=wY ((Builtin.zeroCells (Value.agg #[aE ByteArray.empty,aB aG 0 0,aC aD 0,.bool false]).cells 1).toList)
 have hzs':zs= [aE ByteArray.empty,aB aG 0 0,aC aD 0,.bool false]:=by rw [hzs];kernel_rfl
 have hzl:zs.length=4:=by rw [hzs'];rfl
 have hz1':∀u∈zs,u.oneCell'=true:=by rw [hzs'];intro u hu;simp at hu;rcases hu with rfl | rfl | rfl | rfl<;>rfl
 obtain⟨a1,a2⟩:=QH (i:=i) (n:=n) (zs:=zs) hA.drew hcl hnc hi hzl;rw [hct]at a1 a2;have hlen:(xs.drop ((i+1)*4)).length=(n - (i+1))*4:=by rw [List.length_drop,h.1,Nat.sub_mul]
 obtain⟨news,hnews⟩:=wY (xs.drop ((i+1)*4))
 rw [<-hnews]at a1 a2 hlen;obtain⟨W1,hW1⟩:=wY (w.drew.setCells g (i*4) news)
 rw [<-hW1]at a1 a2;have hr:=Rd.of_own h;have HC:=sqH (show ∀k u,xs[k]?=aH u->w.drew.cell? ⟨g,k,aG⟩=aH u from fun k u hu=>by
  refine Arr.cell hA.drew ?_;rw [<-hct,List.getElem?_take]at hu;split at hu
  ·exact hu
  ·cases hu)
 obtain⟨A,hAd,hsrc⟩:∃A:Addr,(if cap=i+1 then aH (⟨g,0,aG⟩:Addr) else aH ⟨g,(i+1)*4,aG⟩)=aH A/\Hid (∀t u,news[t]?=aH u->w.drew.cell? (A.add t)=aH u):=by
  by_cases hce:cap=i+1
  ·refine⟨⟨g,0,aG⟩,by simp [hce],Lib.hid fun t u hu=> ?_⟩;have h0:news.length=0:=by rw [hlen,show n - (i+1)=0 by omega]
   rw [List.length_eq_zero_iff.1 h0]at hu;cases hu
  ·refine⟨⟨g,(i+1)*4,aG⟩,by simp [hce],Lib.hid fun t u hu=> ?_⟩;rw [hnews,List.getElem?_drop]at hu;have:=HC.o _ _ hu;rw [Addr.add_lit];exact this
 have s1:=sqH hlen;have s2:=sqH (show ∀u∈news,u.oneCell'=true from fun u hu=>hx u (by rw [hnews]at hu;exact List.mem_of_mem_drop hu));have s3:=sqH (show ∀t,t<news.length->(w.drew.cell? ⟨g,0+i*4+t,aG⟩).isSome=true/\w.drew.frozen? ⟨g,0+i*4+t,aG⟩=false from fun t ht=>by
  rw [hlen]at ht;have hlt:i*4+t<xs.length:=by rw [h.1];omega
  rw [Nat.zero_add,HC.o _ _ (List.getElem?_eq_getElem hlt)];exact⟨rfl,hA.drew.frozen _⟩)
 have hclr:∀ty,(Builtin.clear_ #[31] ty #[aB (aH ⟨g,(n - 1)*4,aG⟩) (n - (n - 1)) (cap - (n - 1))]).run zZZ W1= .ok (.tuple #[]) (W1.setCells g ((n - 1)*4) zs):=fun ty=>by
  rw [show n - (n - 1)=1 by omega];exact yp W1 _ _ ty _ zs underlying31 z4l hzs.symm hz1' g _ _ (fun j hj=>by
   have hk:(n - 1)*4+j<(cs.take (i*4)++news++cs.drop ((n - 1)*4)).length:=by
    simp only [List.length_append,List.length_take,List.length_drop,hcl,hlen];omega
   rw [a1.cell (List.getElem?_eq_getElem hk)];rfl) (fun j hj=>a1.frozen _)
 have hcapi:i<=cap:=ww;have hci1:i+1<=cap:=ww;have hwi:((i:Int)+1).toNat=i+1:=ww;have hp0:(0:Int)<=(i:Int)+1:=ww;have hp1:(i:Int)+1<=(n:Int):=ww;have hne:((i:Int)==(i:Int)+1)=false:=by rw [beq_eq_false_iff_ne];omega
 obtain⟨A2,HW1,HG,HL,HCL,HN,HT,HX⟩:=sqJ8 a2 hW1 (show w.grownBy (W1.setCells g ((n - 1)*4) zs) (aH g) from(show w.grownBy w.drew (aH g) from⟨rfl,rfl,rfl,Nat.le_refl _,fun _ _ _=>rfl⟩).trans (by rw [hW1];exact(qt _ _ _).trans (qt _ _ _))) hlen hcl hnews hct h.1;clear hW1 a1 a2 hct hnews hlen hzs hzs' hz1' hr hA HC hx hcl;go_enter func88,ntmps88;go_wp2_with fail;go_region_law (refine step_append_room rfl (.tmp 22) (.tmp 25) 31 rfl 76 i0 4 underlying31 hi0 hz1 g 0 i cap (by simp [Act.eval,Act.put]) A (n - (i+1)) (cap - (i+1)) news (by simp [Act.eval,Act.put]) s1.o hsrc.o s2.o ww s3.o ?_;rw [Nat.zero_add,<-HW1.o]);rw [show i+(n - (i+1))=n - 1 by omega];go_wp2_with fail;go_ret;refine⟨rfl,⟨?_,.inr ⟨g,cap,_,rfl,hbg,A2.o,ww,hcm,?_,?_⟩⟩,HG.o⟩
 ·rw [<-HN.o,List.length_append,List.length_take,HL.o,HX.o];omega
 ·simp only [List.size_toArray,List.length_append,List.length_take,List.length_drop,HL.o,hzl,HCL.o];omega
 ·have e1:xs.take (i*4)=cs.take (i*4):=by rw [<-HT.o,List.take_take,Nat.min_eq_left ww]
  rw [e1,<-HN.o,List.append_assoc,List.take_left' (by rw [List.length_append,List.length_take,HL.o,HCL.o];omega)]
theorem z5d (w:World):(zeroValue 100).run zZZ w= .ok (.agg #[aE ByteArray.empty,aB aG 0 0,aC aD 0,aC aD 0]) w:=by kernel_rfl
theorem Ud (g i n cap base:Nat) (xs:al) (w:World) (h:w.ownsRow base 100 4 (aB (aH ⟨g,0,aG⟩) n cap) n xs) (hi:i<n) (hx:∀u∈xs,u.oneCell'=true) :
  Calls zZZ 173 #[aB (aH ⟨g,0,aG⟩) n cap,aC aD i,aC aD ((i:Int)+1)] w fun e w'=>e= .returned (aB (aH ⟨g,0,aG⟩) (n - 1) cap) /\
   w'.ownsRow base 100 4 (aB (aH ⟨g,0,aG⟩) (n - 1) cap) (n - 1) (xs.take (i*4)++xs.drop ((i+1)*4))/\w.grownBy w' (aH g):=by
 obtain⟨g',cap',cs,e1,hbg,hA,hnc,hcm,hcl,hct⟩:=yq h ww;injection e1 with e11 _ e13;injection e11 with e11;injection e11 with e11;subst e11 e13;obtain⟨i0,hi0,hz0,hz1,hz2⟩:=info_parts (show(zZZ.info? 100).map (fun i=>(i.zero,i.size,i.bytes))=aH (aH (.agg #[aE ByteArray.empty,aB aG 0 0,aC aD 0,aC aD 0]),4,56) by kernel_rfl);obtain⟨zs,hzs⟩:=wY ((Builtin.zeroCells (Value.agg #[aE ByteArray.empty,aB aG 0 0,aC aD 0,aC aD 0]).cells 1).toList)
 have hzs':zs= [aE ByteArray.empty,aB aG 0 0,aC aD 0,aC aD 0]:=by rw [hzs];kernel_rfl
 have hzl:zs.length=4:=by rw [hzs'];rfl
 have hz1':∀u∈zs,u.oneCell'=true:=by rw [hzs'];intro u hu;simp at hu;rcases hu with rfl | rfl | rfl | rfl<;>rfl
 obtain⟨a1,a2⟩:=QH (i:=i) (n:=n) (zs:=zs) hA.drew hcl hnc hi hzl;rw [hct]at a1 a2;have hlen:(xs.drop ((i+1)*4)).length=(n - (i+1))*4:=by rw [List.length_drop,h.1,Nat.sub_mul]
 obtain⟨news,hnews⟩:=wY (xs.drop ((i+1)*4))
 rw [<-hnews]at a1 a2 hlen;obtain⟨W1,hW1⟩:=wY (w.drew.setCells g (i*4) news)
 rw [<-hW1]at a1 a2;have hr:=Rd.of_own h;have HC:=sqH (show ∀k u,xs[k]?=aH u->w.drew.cell? ⟨g,k,aG⟩=aH u from fun k u hu=>by
  refine Arr.cell hA.drew ?_;rw [<-hct,List.getElem?_take]at hu;split at hu
  ·exact hu
  ·cases hu)
 obtain⟨A,hAd,hsrc⟩:∃A:Addr,(if cap=i+1 then aH (⟨g,0,aG⟩:Addr) else aH ⟨g,(i+1)*4,aG⟩)=aH A/\Hid (∀t u,news[t]?=aH u->w.drew.cell? (A.add t)=aH u):=by
  by_cases hce:cap=i+1
  ·refine⟨⟨g,0,aG⟩,by simp [hce],Lib.hid fun t u hu=> ?_⟩;have h0:news.length=0:=by rw [hlen,show n - (i+1)=0 by omega]
   rw [List.length_eq_zero_iff.1 h0]at hu;cases hu
  ·refine⟨⟨g,(i+1)*4,aG⟩,by simp [hce],Lib.hid fun t u hu=> ?_⟩;rw [hnews,List.getElem?_drop]at hu;have:=HC.o _ _ hu;rw [Addr.add_lit];exact this
 have s1:=sqH hlen;have s2:=sqH (show ∀u∈news,u.oneCell'=true from fun u hu=>hx u (by rw [hnews]at hu;exact List.mem_of_mem_drop hu));have s3:=sqH (show ∀t,t<news.length->(w.drew.cell? ⟨g,0+i*4+t,aG⟩).isSome=true/\w.drew.frozen? ⟨g,0+i*4+t,aG⟩=false from fun t ht=>by
  rw [hlen]at ht;have hlt:i*4+t<xs.length:=by rw [h.1];omega
  rw [Nat.zero_add,HC.o _ _ (List.getElem?_eq_getElem hlt)];exact⟨rfl,hA.drew.frozen _⟩)
 have hclr:∀ty,(Builtin.clear_ #[32] ty #[aB (aH ⟨g,(n - 1)*4,aG⟩) (n - (n - 1)) (cap - (n - 1))]).run zZZ W1= .ok (.tuple #[]) (W1.setCells g ((n - 1)*4) zs):=fun ty=>by
  rw [show n - (n - 1)=1 by omega];exact yp W1 _ _ ty _ zs underlying32 z5d hzs.symm hz1' g _ _ (fun j hj=>by
   have hk:(n - 1)*4+j<(cs.take (i*4)++news++cs.drop ((n - 1)*4)).length:=by
    simp only [List.length_append,List.length_take,List.length_drop,hcl,hlen];omega
   rw [a1.cell (List.getElem?_eq_getElem hk)];rfl) (fun j hj=>a1.frozen _)
 have hcapi:i<=cap:=ww;have hci1:i+1<=cap:=ww;have hwi:((i:Int)+1).toNat=i+1:=ww;have hp0:(0:Int)<=(i:Int)+1:=ww;have hp1:(i:Int)+1<=(n:Int):=ww;have hne:((i:Int)==(i:Int)+1)=false:=by rw [beq_eq_false_iff_ne];omega
 obtain⟨A2,HW1,HG,HL,HCL,HN,HT,HX⟩:=sqJ8 a2 hW1 (show w.grownBy (W1.setCells g ((n - 1)*4) zs) (aH g) from(show w.grownBy w.drew (aH g) from⟨rfl,rfl,rfl,Nat.le_refl _,fun _ _ _=>rfl⟩).trans (by rw [hW1];exact(qt _ _ _).trans (qt _ _ _))) hlen hcl hnews hct h.1;clear hW1 a1 a2 hct hnews hlen hzs hzs' hz1' hr hA HC hx hcl;go_enter func173,ntmps173;go_wp2_with fail;go_region_law (refine step_append_room rfl (.tmp 22) (.tmp 25) 32 rfl 100 i0 4 underlying32 hi0 hz1 g 0 i cap (by simp [Act.eval,Act.put]) A (n - (i+1)) (cap - (i+1)) news (by simp [Act.eval,Act.put]) s1.o hsrc.o s2.o ww s3.o ?_;rw [Nat.zero_add,<-HW1.o]);rw [show i+(n - (i+1))=n - 1 by omega];go_wp2_with fail;go_ret;refine⟨rfl,⟨?_,.inr ⟨g,cap,_,rfl,hbg,A2.o,ww,hcm,?_,?_⟩⟩,HG.o⟩
 ·rw [<-HN.o,List.length_append,List.length_take,HL.o,HX.o];omega
 ·simp only [List.size_toArray,List.length_append,List.length_take,List.length_drop,HL.o,hzl,HCL.o];omega
 ·have e1:xs.take (i*4)=cs.take (i*4):=by rw [<-HT.o,List.take_take,Nat.min_eq_left ww]
  rw [e1,<-HN.o,List.append_assoc,List.take_left' (by rw [List.length_append,List.length_take,HL.o,HCL.o];omega)]
theorem z0h (g i:Nat) (l:List BlobP) (base cap:Nat) (w:World) (N:an) (hi:i<l.length) (h:RwX BlobS 76 w base (aB (aH ⟨g,0,aG⟩) l.length cap) l N) :
  Calls zZZ 88 #[aB (aH ⟨g,0,aG⟩) l.length cap,aC aD i,aC aD ((i:Int)+1)] w fun e w'=>e= .returned (aB (aH ⟨g,0,aG⟩) (l.eraseIdx i).length cap) /\
   RwX BlobS 76 w' base (aB (aH ⟨g,0,aG⟩) (l.eraseIdx i).length cap) (l.eraseIdx i) N/\w.grownBy w' (aH g):=by
 obtain⟨ps,h1,h2,h3,h4⟩:=h;have hlen:(l.eraseIdx i).length=l.length - 1:=List.length_eraseIdx_of_lt hi;rw [hlen];refine(Uc g i l.length cap base (cls ps) w h3 hi h2.ones).mono ?_;rintro e w' ⟨rfl,ho,hg⟩;refine⟨rfl,⟨ps.eraseIdx i,?_,?_,?_,fun p hp b hb=>h4 p (List.mem_of_mem_eraseIdx hp) b hb⟩,hg⟩
 ·rw [<-h1,List.eraseIdx_eq_take_drop_succ,List.eraseIdx_eq_take_drop_succ,List.map_append,List.map_take,List.map_drop]
 ·exact qO.grown (w:=w) (g:=aH g) (fun p hp=>h2 p (List.mem_of_mem_eraseIdx hp)) hg (fun p hp b hb=>h4 p (List.mem_of_mem_eraseIdx hp) b (.inl hb))
 ·rw [<-uv (s:=4) ps i h2.lens,hlen];exact ho
theorem z0i (g i:Nat) (l:List EntP) (base cap:Nat) (w:World) (N:an) (hi:i<l.length) (h:RwX EntS 100 w base (aB (aH ⟨g,0,aG⟩) l.length cap) l N) :
  Calls zZZ 173 #[aB (aH ⟨g,0,aG⟩) l.length cap,aC aD i,aC aD ((i:Int)+1)] w fun e w'=>e= .returned (aB (aH ⟨g,0,aG⟩) (l.eraseIdx i).length cap) /\
   RwX EntS 100 w' base (aB (aH ⟨g,0,aG⟩) (l.eraseIdx i).length cap) (l.eraseIdx i) N/\w.grownBy w' (aH g):=by
 obtain⟨ps,h1,h2,h3,h4⟩:=h;have hlen:(l.eraseIdx i).length=l.length - 1:=List.length_eraseIdx_of_lt hi;rw [hlen];refine(Ud g i l.length cap base (cls ps) w h3 hi h2.ones).mono ?_;rintro e w' ⟨rfl,ho,hg⟩;refine⟨rfl,⟨ps.eraseIdx i,?_,?_,?_,fun p hp b hb=>h4 p (List.mem_of_mem_eraseIdx hp) b hb⟩,hg⟩
 ·rw [<-h1,List.eraseIdx_eq_take_drop_succ,List.eraseIdx_eq_take_drop_succ,List.map_append,List.map_take,List.map_drop]
 ·exact qO.grown (w:=w) (g:=aH g) (fun p hp=>h2 p (List.mem_of_mem_eraseIdx hp)) hg (fun p hp b hb=>h4 p (List.mem_of_mem_eraseIdx hp) b (.inl hb))
 ·rw [<-uv (s:=4) ps i h2.lens,hlen];exact ho
theorem qy (h:hexC d=0):d.length=64:=by
 unfold hexC at h;by_cases h64:d.length=64
 ·exact h64
 ·rw [if_pos ww]at h;cases h
theorem ug {x:List PartP} (h:chk x=0):Qw x:=fun p hp=>by
 obtain⟨h1,h2,h3⟩:=(zj h).2 p hp
 have e1:=vw h1
 have e2:=qy h2
 exact⟨ww,ww,ww⟩
theorem YF (l:aj):xO (shaS l) l=0:=by
 rw [xO,zr,if_neg ab,if_neg ac]
theorem uj (A:ak) (c:Nat) (l:List BlobP) (w:World) (hg:GoodB l) (hA:Rw BlobS w A l) :
  Calls zZZ 70 #[aB A l.length c] w fun e w'=>e= .returned (aC aD 0)/\Below w.heap.size w w':=by
 have HG:=sqH hg;have hl:=hg.len;have hps:=List.pairwise_iff_getElem.1 hg.ris;have HPS:=sqH hps;clear hg hps;go_enter func70,ntmps70;go_wp2_with fail;go_loopg [11] l.length (fun gn i wr=>∃j:Nat,gn=l.length - j/\i= aC aD j/\j<=l.length/\Below w.heap.size w wr)
 case atStart=>exact⟨0,rfl,rfl,ww,Below.refl _ _⟩
 case round =>
  obtain⟨j,hgk,rfl,hj,hbl⟩:=hrel;have HGK:=sqH hgk;clear hgk;by_cases hlt:j<l.length
  ·have hcc:decide (j<l.length)=true:=decide_eq_true hlt;have hA2:=hA.below hbl;obtain⟨b,off,B,cb,rfl,hbb,c0,c1,c2,c3,hs⟩:=hA2.blob_at j hlt;have hj0:=wg j
   have hj1:(j:Int)<(l.length:Int):=ww;have HG1:=sqH (HG.o.one l[j] (List.getElem_mem hlt));have hprev:0<j->∃q:aj,Op.bytesLess q l[j].dig=true/\wr.cell? ⟨b,off+(j - 1)*4,aG⟩=aH (aE ⟨q.toArray⟩):=fun h0=>by
    obtain⟨b',off',B',cb',e1,_,d0,_⟩:=hA2.blob_at (j - 1) ww
    cases e1
    exact⟨_,HPS.o (j - 1) j ww hlt ww,d0⟩
   generalize l[j]=x at *
   obtain⟨sx,hsx⟩:=wY (⟨x.dig.toArray⟩:ByteArray)
   rw [<-hsx]at c0;have HSX:=sqH hsx;have HSL:=sqH (show sx.data.toList=x.dig by rw [hsx]);clear hsx hA2;have hX:Arr (wr.alloc (aF #[aE sx,aB B x.data.length cb,aC aD x.aR,(.bool x.mark)] 76)) wr.heap.size 76 [aE sx,aB B x.data.length cb,aC aD x.aR,(.bool x.mark)]:=Arr.new wr 76 _;have hba:=wu wr (aF #[aE sx,aB B x.data.length cb,aC aD x.aR,(.bool x.mark)] 76);have hb2:=wo hbl hba;have hs2:=hs.below hba;have hq2:0<j->∃q:aj,Op.bytesLess q x.dig=true/\(wr.alloc (aF #[aE sx,aB B x.data.length cb,aC aD x.aR,(.bool x.mark)] 76)).cell? ⟨b,off+(j - 1)*4,aG⟩=aH (aE ⟨q.toArray⟩):=fun h0=>by
    obtain⟨q,q1,q2⟩:=hprev h0;exact⟨q,q1,(hba.cell (p:=⟨b,off+(j - 1)*4,aG⟩) hbb).trans q2⟩
   have hbb2:b<(wr.alloc (aF #[aE sx,aB B x.data.length cb,aC aD x.aR,(.bool x.mark)] 76)).heap.size:=by simp;omega
   obtain⟨x0,x1,x2,x3⟩:=sqC4 hX;clear hprev hbl hba hs;go_wp2_with fail;generalize wr.alloc (aF #[aE sx,aB B x.data.length cb,aC aD x.aR,(.bool x.mark)] 76)=w2 at *
   generalize wr.heap.size=gx at *
   clear c0 c1 c2 c3 x0 x1 x2 x3;obtain⟨g1,g2,g3⟩:=HG1.o;have hsz:sx.size<=140737488351232:=by
    rw [HSX.o];show(x.dig.toArray).size<=_;rw [List.size_toArray,g1,Zg];decide
   have HRT:=Uz sx B x.data.length cb x.data (x.aR:Int) x.mark w2 ww ww hsz rfl g2 hs2.cap hs2.rd;rw [HSL.o,g1,YF]at HRT;have HRT:=sqH HRT;clear g1 g2 g3 hsz hs2;refine wZ HRT.o fun w3 hb3=>?_;dsimp only;have hb23:=wo hb2 hb3;have hX3:=hX.below hb3;clear hX hb2;by_cases h0:0<j
   ·obtain⟨q,q1,q2⟩:=hq2 h0;have hkb:decide (0<(j:Int))=true:=decide_eq_true ww;have hkc:decide ((j:Int)>0)=true:=decide_eq_true ww;have hkd:decide (0<j)=true:=decide_eq_true h0;have hm1:IntKind.i64.wrap ((j:Int) - 1)=(j:Int) - 1:=IntWalk.i64_in _ ww;have hm2:((j:Int) - 1).toNat=j - 1:=ww
    have hm3:(0:Int)<=(j:Int) - 1:=ww;have hm4:(j:Int) - 1<(l.length:Int):=ww;have hm5:(1:Int)<=(j:Int):=ww;obtain⟨sq,hsq⟩:=wY (⟨q.toArray⟩:ByteArray)
    rw [<-hsq]at q2;have q3:=(hb3.cell (p:=⟨b,off+(j - 1)*4,aG⟩) hbb2).trans q2;have l1:Op.bytesLess sx.toList sq.toList=false:=by
     rw [HSX.o,hsq,ByteArray.toList_eq,ByteArray.toList_eq];exact yC q1
    have l2:(sx.toList==sq.toList)=false:=by
     rw [HSX.o,hsq,ByteArray.toList_eq,ByteArray.toList_eq,beq_eq_false_iff_ne];exact(yZ q1).symm
    have y0:=hX3.c0;clear hsq q1 q2 hq2;go_wp2_with fail;go_quiet (fail);go_wp2_with fail;go_roundg (l.length - (j+1))
    case measure=>exact we HGK
    case rel=>exact⟨j+1,rfl,by go_num,ww,zO hb23 _⟩
   ·have hkb:decide (0<(j:Int))=false:=decide_eq_false ww;have hkc:decide ((j:Int)>0)=false:=decide_eq_false ww;have hkd:decide (0<j)=false:=decide_eq_false h0;clear hq2;go_wp2_with fail;go_quiet (fail);go_wp2_with fail;go_roundg (l.length - (j+1))
    case measure=>exact we HGK
    case rel=>exact⟨j+1,rfl,by go_num,ww,zO hb23 _⟩
  ·obtain rfl:j=l.length:=by omega
   have hcc:decide (l.length<l.length)=false:=ac;go_wp2_with fail;go_ret;exact⟨rfl,hbl⟩
theorem xm (A:ak) (c:Nat) (l:List EntP) (w:World) (hg:GoodE l) (hA:Rw EntS w A l) :
  Calls zZZ 71 #[aB A l.length c] w fun e w'=>e= .returned (aC aD 0)/\Below w.heap.size w w':=by
 have HG:=sqH hg;have hl:=hg.len;have hps:=List.pairwise_iff_getElem.1 hg.ris;have HPS:=sqH hps;clear hg hps;go_enter func71,ntmps71;go_wp2_with fail;go_loopg [13] l.length (fun gn i wr=>∃j:Nat,gn=l.length - j/\i= aC aD j/\j<=l.length/\Below w.heap.size w wr)
 case atStart=>exact⟨0,rfl,rfl,ww,Below.refl _ _⟩
 case round =>
  obtain⟨j,hgk,rfl,hj,hbl⟩:=hrel;have HGK:=sqH hgk;clear hgk;by_cases hlt:j<l.length
  ·have hcc:decide (j<l.length)=true:=decide_eq_true hlt;have hA2:=hA.below hbl;obtain⟨b,off,B,cb,rfl,hbb,c0,c1,c2,c3,hs⟩:=hA2.ent_at j hlt;have hj0:=wg j
   have hj1:(j:Int)<(l.length:Int):=ww;have HG1:=sqH (HG.o.one l[j] (List.getElem_mem hlt));have hprev:0<j->∃q:aj,Op.bytesLess q l[j].key=true/\wr.cell? ⟨b,off+(j - 1)*4,aG⟩=aH (aE ⟨q.toArray⟩):=fun h0=>by
    obtain⟨b',off',B',cb',e1,_,d0,_⟩:=hA2.ent_at (j - 1) ww
    cases e1
    exact⟨_,HPS.o (j - 1) j ww hlt ww,d0⟩
   generalize l[j]=x at *
   obtain⟨sx,hsx⟩:=wY (⟨x.key.toArray⟩:ByteArray)
   rw [<-hsx]at c0;have HSX:=sqH hsx;have HSL:=sqH (show sx.data.toList=x.key by rw [hsx]);clear hsx hA2;have hX:Arr (wr.alloc (aF #[aE sx,aB B x.aQ.length cb,aC aD x.aR,(aC aD x.aP)] 100)) wr.heap.size 100 [aE sx,aB B x.aQ.length cb,aC aD x.aR,(aC aD x.aP)]:=Arr.new wr 100 _;have hba:=wu wr (aF #[aE sx,aB B x.aQ.length cb,aC aD x.aR,(aC aD x.aP)] 100);have hb2:=wo hbl hba;have hs2:=hs.below hba;have hq2:0<j->∃q:aj,Op.bytesLess q x.key=true/\(wr.alloc (aF #[aE sx,aB B x.aQ.length cb,aC aD x.aR,(aC aD x.aP)] 100)).cell? ⟨b,off+(j - 1)*4,aG⟩=aH (aE ⟨q.toArray⟩):=fun h0=>by
    obtain⟨q,q1,q2⟩:=hprev h0;exact⟨q,q1,(hba.cell (p:=⟨b,off+(j - 1)*4,aG⟩) hbb).trans q2⟩
   have hbb2:b<(wr.alloc (aF #[aE sx,aB B x.aQ.length cb,aC aD x.aR,(aC aD x.aP)] 100)).heap.size:=by simp;omega
   obtain⟨x0,x1,x2,x3⟩:=sqC4 hX;clear hprev hbl hba hs;go_wp2_with fail;generalize wr.alloc (aF #[aE sx,aB B x.aQ.length cb,aC aD x.aR,(aC aD x.aP)] 100)=w2 at *
   generalize wr.heap.size=gx at *
   clear c0 c1 c2 c3 x0 x1 x2 x3;obtain⟨g1,g2,g3,g4⟩:=HG1.o;have hsz:sx.size<=140737488351232:=by
    have:=qy g1;rw [HSX.o];show(x.key.toArray).size<=_;rw [List.size_toArray];omega
   have HRT:=kF sx w2 hsz;rw [HSL.o,g1]at HRT;have HRT:=sqH HRT;have hpl:=(zj g2).1;obtain⟨HPO,HG2,HPN⟩:=sqJ3 (ug g2) g2 (fun w'=>xo (x.aR:Int) ww ww w');have st1:decide ((x.aP:Int)<0)=false:=decide_eq_false ww;have st2:decide ((x.aP:Int)>1099511627776)=false:=decide_eq_false ww;have st3:decide ((1099511627776:Int)<(x.aP:Int))=false:=decide_eq_false ww;have st4:decide (1099511627776<x.aP)=false:=decide_eq_false ww;clear g1 g2 hsz;refine wZ HRT.o fun w3 hb3=>?_;dsimp only;have hb23:=wo hb2 hb3;have hX3:=hX.below hb3;have hs3:=hs2.below hb3;have HMC:=sqH (show ∀w',Below w3.heap.size w3 w'->Calls zZZ 101 #[aB B x.aQ.length cb] w' fun e w''=>e= .returned (aC aD 0)/\Below w'.heap.size w' w'' from fun w' hb=>by
    have:=xn B x.aQ.length cb x.aQ w' rfl hs3.cap ww HPO.o (hs3.below hb).rd
    rwa [HG2.o]at this)
   clear hX hb2 hs2 hs3;by_cases h0:0<j
   ·obtain⟨q,q1,q2⟩:=hq2 h0;have hkb:decide (0<(j:Int))=true:=decide_eq_true ww;have hkc:decide ((j:Int)>0)=true:=decide_eq_true ww;have hkd:decide (0<j)=true:=decide_eq_true h0;have hm1:IntKind.i64.wrap ((j:Int) - 1)=(j:Int) - 1:=IntWalk.i64_in _ ww;have hm2:((j:Int) - 1).toNat=j - 1:=ww
    have hm3:(0:Int)<=(j:Int) - 1:=ww;have hm4:(j:Int) - 1<(l.length:Int):=ww;have hm5:(1:Int)<=(j:Int):=ww;obtain⟨sq,hsq⟩:=wY (⟨q.toArray⟩:ByteArray)
    rw [<-hsq]at q2;have q3:=(hb3.cell (p:=⟨b,off+(j - 1)*4,aG⟩) hbb2).trans q2;have l1:Op.bytesLess sx.toList sq.toList=false:=by
     rw [HSX.o,hsq,ByteArray.toList_eq,ByteArray.toList_eq];exact yC q1
    have l2:(sx.toList==sq.toList)=false:=by
     rw [HSX.o,hsq,ByteArray.toList_eq,ByteArray.toList_eq,beq_eq_false_iff_ne];exact(yZ q1).symm
    have y0:=hX3.c0;clear hsq q1 q2 hq2;go_wp2_with fail;go_quiet (fail);have hb34:=fun n=>zO (ws w3) n;have hb24:=fun n=>zO hb23 n;have y1:=fun n=>(hX3.drewN n).c1;go_wp2_with fail;refine wZ (HMC.o _ (hb34 _)) fun w5 hb5=>?_;dsimp only;have hb25:=(hb24 _).trans (hb5.mono (hb24 _).size);have hX5:=(hX3.below (hb34 _)).below hb5;clear y1 hb34 hb24;have y2:=hX5.c2;have y3:=hX5.c3;go_wp2_with fail;refine(HPN.o w5).mono ?_;rintro e_ _ ⟨rfl,rfl⟩;dsimp only;go_wp2_with fail;go_roundg (l.length - (j+1))
    case measure=>exact we HGK
    case rel=>exact⟨j+1,rfl,by go_num,ww,hb25⟩
   ·have hkb:decide (0<(j:Int))=false:=decide_eq_false ww;have hkc:decide ((j:Int)>0)=false:=decide_eq_false ww;have hkd:decide (0<j)=false:=decide_eq_false h0;clear hq2;go_wp2_with fail;go_quiet (fail);have hb34:=fun n=>zO (ws w3) n;have hb24:=fun n=>zO hb23 n;have y1:=fun n=>(hX3.drewN n).c1;go_wp2_with fail;refine wZ (HMC.o _ (hb34 _)) fun w5 hb5=>?_;dsimp only;have hb25:=(hb24 _).trans (hb5.mono (hb24 _).size);have hX5:=(hX3.below (hb34 _)).below hb5;clear y1 hb34 hb24;have y2:=hX5.c2;have y3:=hX5.c3;go_wp2_with fail;refine(HPN.o w5).mono ?_;rintro e_ _ ⟨rfl,rfl⟩;dsimp only;go_wp2_with fail;go_roundg (l.length - (j+1))
    case measure=>exact we HGK
    case rel=>exact⟨j+1,rfl,by go_num,ww,hb25⟩
  ·obtain rfl:j=l.length:=by omega
   have hcc:decide (l.length<l.length)=false:=ac;go_wp2_with fail;go_ret;exact⟨rfl,hbl⟩
def qP (l:List BlobP):List PartP->Nat
 | []=>0
 | p::ps=>match l.findIdx? (fun b=>b.dig==p.dig) with
  | none=>5
  | some i=>if (match l[i]? with | some b=>b.data.length | none=>0)=p.size then qP l ps else 4
theorem Vz (hr:RisesBy f l) (hx:x∈l) (hd:f x=d):∃i,∃h:i<l.length,l.findIdx? (fun y=>f y==d)=aH i/\l[i]=x:=by
 obtain⟨i,hi,he⟩:=List.mem_iff_getElem.1 hx;refine⟨i,hi,?_,he⟩;rw [List.findIdx?_eq_some_iff_getElem];refine⟨hi,by rw [he];simp [hd],fun k hk=> ?_⟩;have:=List.pairwise_iff_getElem.1 hr k i ww hi hk;rw [he,hd]at this;simpa using yZ this
theorem ZS {l:List BlobP} (hr:RisesBy (·.dig) l):∀ {ps:List PartP},Have l ps->qP l ps=0
 | [],_=>rfl
 | p::ps,h=>by
  obtain⟨b,hb,h1,h2⟩:=h p ac
  obtain⟨i,hi,h3,h4⟩:=Vz (f:=fun b:BlobP=>b.dig) hr hb h1
  rw [qP,h3]
  show(if (match l[i]? with | some b=>b.data.length | none=>0)=p.size then _ else _)=_
  rw [List.getElem?_eq_getElem hi,h4]
  show(if b.data.length=p.size then _ else _)=_
  rw [if_pos h2,ZS hr fun q hq=>h q (by simp [hq])]
theorem yE {l:List BlobP}:∀ {ps:List PartP},qP l ps=0->Have l ps
 | [],_=>fun p hp=>by cases hp
 | p::ps,h=>by
  rw [qP]at h
  cases hf:l.findIdx? (fun b=>b.dig==p.dig) with
  | none=>rw [hf]at h;cases h
  | some i =>
   rw [hf]at h
   obtain⟨hi,he,_⟩:=List.findIdx?_eq_some_iff_getElem.1 hf
   have h':(if (match l[i]? with | some b=>b.data.length | none=>0)=p.size then qP l ps else 4)=0:=h
   have h3:(if l[i].data.length=p.size then qP l ps else 4)=0:=by rw [List.getElem?_eq_getElem hi]at h';exact h'
   by_cases h2:l[i].data.length=p.size
   ·rw [if_pos h2]at h3
    intro q hq
    rcases List.mem_cons.1 hq with rfl | hq
    ·exact⟨l[i],List.getElem_mem hi,by simpa using he,h2⟩
    ·exact yE h3 q hq
   ·rw [if_neg h2]at h3;cases h3
def zK (s:StoP) (d:aj):StoP:= { s with aJ:=putB s.aJ d }
def xL (s:StoP) (k:aj) (ps:List PartP):StoP:= { s with aK:=xf s.aK ⟨k,ps,0,s.aL+1⟩,aL:=s.aL+1 }
def kB (s:StoP) (i:Nat) (x:EntP):StoP:= { s with aK:=s.aK.set i { x with aP:=s.aL+1 },aL:=s.aL+1 }
def kg (s:StoP) (i:Nat) (b:BlobP) (n:Nat):StoP:= { s with aJ:=s.aJ.set i { b with aR:=n } }
def ZV (s:StoP) (i:Nat) (x:EntP) (n:Nat):StoP:= { s with aK:=s.aK.set i { x with aR:=n } }
theorem KA {l:List BlobP} {b:BlobP} (h:b∈l):b∈putB l d:=by
 unfold putB;cases l.findIdx? (fun b=>b.dig==shaS d) with
 | none=>exact(q9 _ _).mem_iff.2 (List.mem_cons_of_mem _ h)
 | some i=>exact h
theorem YD (h:GoodS s) (hd:d.length<=300) (hl:s.aJ.length<24) (hr:usd (putB s.aJ d)<=s.aM):GoodS (zK s d) :=
 ⟨Vu h.b hd hl,h.e,h.aM,hr,h.aL,fun x hx=>⟨(h.ent x hx).1,(h.ent x hx).2.mono fun b hb=>KA hb⟩⟩
theorem Jf {l:List EntP} {x y:EntP} (h:y∈xf l x):y∈l\/(y.key=x.key/\y.aQ=x.aQ/\y.aP=x.aP/\(y.aR=x.aR\/∃z∈l,z.key=x.key/\y.aR=z.aR)):=by
 unfold xf at h;cases hf:l.findIdx? (fun y=>y.key==x.key) with
 | none =>
  rw [hf]at h;rcases List.mem_cons.1 ((q9 _ _).mem_iff.1 h) with h | h
  ·subst h;exact .inr ⟨rfl,rfl,rfl,.inl rfl⟩
  ·exact .inl h
 | some i =>
  rw [hf]at h;obtain⟨hi,he,_⟩:=List.findIdx?_eq_some_iff_getElem.1 hf;have h':y∈l.set i { x with aR:=(match l[i]? with | some y=>y.aR | none=>0) }:=h;rw [List.getElem?_eq_getElem hi]at h';rcases List.mem_or_eq_of_mem_set h' with h | h
  ·exact .inl h
  ·subst h;exact .inr ⟨rfl,rfl,rfl,.inr ⟨l[i],List.getElem_mem hi,by simpa using he,rfl⟩⟩
theorem jr {k:aj} {ps:List PartP} (h:GoodS s) (hk:hexC k=0) (hp:chk ps=0) (hh:Have s.aJ ps) (hc:s.aL<1099511627776) (hl:s.aK.length<10):GoodS (xL s k ps):=by
 refine⟨h.b,Qa h.e ⟨hk,hp,by show 0<=5;omega,by show s.aL+1<=_;omega⟩ hl,h.aM,h.used,by show s.aL+1<=_;omega,fun x hx=> ?_⟩;rcases Jf hx with h1 | ⟨h1,h2,h3,_⟩
 ·have:=h.ent x h1;exact⟨by show x.aP<=s.aL+1;omega,this.2⟩
 ·exact⟨by rw [h3];exact Nat.le_refl _,by rw [h2];exact hh⟩
theorem ZP {l:List EntP} {x:EntP} (h:GoodE l) (hi:i<l.length) (hk:x.key=l[i].key) (hx:GoodE1 x):GoodE (l.set i x) :=
 ⟨by rw [List.length_set];exact h.len,fun y hy=>(List.mem_or_eq_of_mem_set hy).elim (h.one y) (fun e=>e▸hx),Qb h.ris hi hk⟩
theorem ZO (h:GoodS s) (hi:i<s.aK.length) (hc:s.aL<1099511627776):GoodS (kB s i s.aK[i]):=by
 have h1:=h.e.one _ (List.getElem_mem hi);have h2:=h.ent _ (List.getElem_mem hi);refine⟨h.b,ZP h.e hi rfl ⟨h1.1,h1.2.1,h1.2.2.1,by show s.aL+1<=_;omega⟩,h.aM,h.used,by show s.aL+1<=_;omega,fun x hx=> ?_⟩;rcases List.mem_or_eq_of_mem_set hx with h3 | h3
 ·have:=h.ent x h3;exact⟨by show x.aP<=s.aL+1;omega,this.2⟩
 ·subst h3;exact⟨Nat.le_refl _,h2.2⟩
theorem QL (h:GoodS s) (hi:i<s.aK.length) (hn:n<=5):GoodS (ZV s i s.aK[i] n):=by
 have h1:=h.e.one _ (List.getElem_mem hi);have h2:=h.ent _ (List.getElem_mem hi);refine⟨h.b,ZP h.e hi rfl ⟨h1.1,h1.2.1,hn,h1.2.2.2⟩,h.aM,h.used,h.aL,fun x hx=> ?_⟩;rcases List.mem_or_eq_of_mem_set hx with h3 | h3
 ·exact h.ent x h3
 ·subst h3;exact h2
theorem Jp {l:List BlobP} {x:BlobP} (hr:RisesBy (·.dig) l) (hi:i<l.length) (hk:x.dig=l[i].dig):RisesBy (·.dig) (l.set i x):=by
 have h:(l.set i x).map (·.dig)=l.map (·.dig):=by
  rw [List.map_set,hk];apply List.ext_getElem?;intro k;rw [List.getElem?_set];split
  ·rename_i e;subst e;rw [List.length_map,if_pos hi,List.getElem?_map,List.getElem?_eq_getElem hi];rfl
  ·rfl
 have h1:Rises ((l.set i x).map (·.dig)):=by rw [h];exact hr.map
 exact List.pairwise_map.1 h1
theorem KN {β:Type} (f:α->β) (hi:i<l.length) (hk:f x=f l[i]):(l.set i x).map f=l.map f:=by
 rw [List.map_set,hk];apply List.ext_getElem?;intro k;rw [List.getElem?_set];split
 ·rename_i e;subst e;rw [List.length_map,if_pos hi,List.getElem?_map,List.getElem?_eq_getElem hi];rfl
 ·rfl
theorem VM {x:BlobP} (h:GoodS s) (hi:i<s.aJ.length) (h1:x.dig=s.aJ[i].dig) (h2:x.data=s.aJ[i].data) (h3:x.aR<=5):GoodS { s with aJ:=s.aJ.set i x }:=by
 have g:=h.b.one _ (List.getElem_mem hi);refine⟨⟨by rw [List.length_set];exact h.b.len,fun y hy=>(List.mem_or_eq_of_mem_set hy).elim (h.b.one y) (fun e=>e▸⟨by rw [h1,h2];exact g.1,by rw [h2];exact g.2.1,h3⟩),Jp h.b.ris hi h1⟩,h.e,h.aM,?_,h.aL,fun y hy=>⟨(h.ent y hy).1,fun p hp=> ?_⟩⟩
 ·show usd (s.aJ.set i x)<=_;unfold usd;rw [KN (fun b:BlobP=>b.data.length) hi (by rw [h2])];exact h.used
 ·obtain⟨b,hb,e1,e2⟩:=(h.ent y hy).2 p hp;obtain⟨k,hk,rfl⟩:=List.mem_iff_getElem.1 hb;by_cases e:k=i
  ·subst e;exact⟨x,List.mem_iff_getElem.2 ⟨k,by rw [List.length_set];exact hk,ac⟩,by rw [h1];exact e1,by rw [h2];exact e2⟩
  ·exact⟨_,List.mem_iff_getElem.2 ⟨k,by rw [List.length_set];exact hk,List.getElem_set_ne (fun h=>e h.symm) _⟩,e1,e2⟩
theorem uE (h:GoodS s) (hi:i<s.aJ.length) (hn:n<=5):GoodS (kg s i s.aJ[i] n):=VM h hi rfl rfl hn
end Go.Proofs.YtaboknhfiijipaaGreat
