/- Lemmas, as stated. -/
import Derived.Test.YtcjndgldjhmbgaaGreatQE11
import Derived.Test.YtcjndgldjhmbgaaGreatQE12
set_option linter.unusedVariables false
set_option linter.unusedSimpArgs false
set_option maxRecDepth 100000
set_option maxHeartbeats 8000000
open Go.Proofs.Tryz
open Go.Proofs.Tryz renaming prog->zZZ
open Go.Value renaming slice->aw,int->ax,string->az
open Go.IntKind renaming i64->ay
open Go.Obj renaming cells->aA
open Option renaming none->aB,some->aC
namespace Go.Proofs.YtcjndgldjhmbgaaGreat
open Go.RowKit
variable {α:Type} {l:List BlobP} {i n:Nat} {s:StoP} {d:ac} {x:α} {f:α->List UInt8}
section
variable {α:Type} {f:α->List UInt8} {l:List α} {d:ac} {i:Nat}
theorem jN (h1:∀k (h:k<l.length),k<i->Op.bytesLess (f l[k]) d=true) (hi:i<l.length) (he:f l[i]=d):l.findIdx? (fun x=>f x==d)=aC i:=by
 rw [List.findIdx?_eq_some_iff_getElem];exact⟨hi,by simp [he],fun k hk=>by
  have:=yT (h1 k wj hk);simp [this]⟩
theorem Xi (hr:RisesBy f l) (h1:∀k (h:k<l.length),k<i->Op.bytesLess (f l[k]) d=true) (h2:∀k (h:k<l.length),i<=k->Op.bytesLess (f l[k]) d=false) (hn:¬ ∃h:i<l.length,f l[i]=d) :
  (∀x∈l,f x≠d)/\∀k (h:k<l.length),i<=k->Op.bytesLess d (f l[k])=true:=by
 have hp:=List.pairwise_iff_getElem.1 hr;have h3:∀k (h:k<l.length),i<=k->Op.bytesLess d (f l[k])=true:=fun k h hk=>by
  have hi:i<l.length:=wj
  have h4:Op.bytesLess d (f l[i])=true:=by
   rcases uV d (f l[i]) with h | h | h
   ·exact h
   ·exact absurd ⟨hi,h.symm⟩ hn
   ·rw [h2 i hi ab]at h;cases h
  rcases Nat.lt_or_ge i k with h5 | h5
  ·exact qi h4 (hp i k hi h h5)
  ·obtain rfl:i=k:=by omega
   exact h4
 refine⟨fun x hx e=> ?_,h3⟩;obtain⟨k,hk,rfl⟩:=List.mem_iff_getElem.1 hx;rcases Nat.lt_or_ge k i with h5 | h5
 ·exact yT (h1 k hk h5) e
 ·exact yT (h3 k hk h5) e.symm
theorem z2q (hr:RisesBy f l) (h1:∀k (h:k<l.length),k<i->Op.bytesLess (f l[k]) d=true) (h2:∀k (h:k<l.length),i<=k->Op.bytesLess (f l[k]) d=false) (hn:¬ ∃h:i<l.length,f l[i]=d) {x:α} (hx:f x=d) :
  RisesBy f (l.take i++x::l.drop i)/\(l.take i++x::l.drop i).Perm (x::l):=by
 have h3:=(Xi hr h1 h2 hn).2;have ht:∀a∈l.take i,Op.bytesLess (f a) d=true:=fun a ha=>by
  obtain⟨k,hk,rfl⟩:=List.mem_iff_getElem.1 ha;rw [List.length_take]at hk;rw [List.getElem_take];exact h1 k wj wj
 have hd:∀a∈l.drop i,Op.bytesLess d (f a)=true:=fun a ha=>by
  obtain⟨k,hk,rfl⟩:=List.mem_iff_getElem.1 ha;rw [List.length_drop]at hk;rw [List.getElem_drop];exact h3 (i+k) wj wj
 refine⟨List.pairwise_append.2 ⟨hr.sublist (List.take_sublist _ _),List.pairwise_cons.2 ⟨fun a ha=>by rw [hx];exact hd a ha,hr.sublist (List.drop_sublist _ _)⟩,fun a ha b hb=> ?_⟩,?_⟩
 ·rcases List.mem_cons.1 hb with rfl | hb
  ·rw [hx];exact ht a ha
  ·exact qi (ht a ha) (hd b hb)
 ·have:=(List.perm_middle (a:=x) (l₁:=l.take i) (l₂:=l.drop i))
  rwa [List.take_append_drop]at this
theorem Jr (hr:RisesBy f l) (h1:∀k (h:k<l.length),k<i->Op.bytesLess (f l[k]) d=true) (h2:∀k (h:k<l.length),i<=k->Op.bytesLess (f l[k]) d=false) (hn:¬ ∃h:i<l.length,f l[i]=d) {x:α} (hx:f x=d) :
  l.take i++x::l.drop i=srt f (x::l):=by
 obtain⟨a,b⟩:=z2q hr h1 h2 hn hx;exact z3h a b
theorem Jq (hr:RisesBy f l) (h1:∀k (h:k<l.length),k<i->Op.bytesLess (f l[k]) d=true) (h2:∀k (h:k<l.length),i<=k->Op.bytesLess (f l[k]) d=false) (hn:¬ ∃h:i<l.length,f l[i]=d):l.findIdx? (fun x=>f x==d)=aB:=by
 rw [List.findIdx?_eq_none_iff];intro x hx;have:=(Xi hr h1 h2 hn).1 x hx;simp [this]
end
def x8 (l:List EntP) (x:EntP):List EntP:=match l.findIdx? (fun y=>y.key==x.key) with | some i=>l.set i { x with pins:=(match l[i]? with | some y=>y.pins | none=>0) } | none=>srt (·.key) (x::l)
def putB (l:List BlobP) (d:ac):List BlobP:=match l.findIdx? (fun b=>b.dig==shaS d) with | some _=>l | none=>srt (·.dig) (⟨shaS d,d,0,false⟩::l)
theorem JD {l:List α} (hr:RisesBy f l) (hn:l.findIdx? (fun y=>f y==f x)=aB):RisesBy f (srt f (x::l)):=uD (by
 rw [List.map_cons,List.nodup_cons]
 refine⟨fun h=> ?_,Rises.nodup (RisesBy.map hr)⟩
 obtain⟨y,hy,e⟩:=List.mem_map.1 h
 have:=List.findIdx?_eq_none_iff.1 hn y hy
 simp [e]at this)
theorem ZX {l:List EntP} {x:EntP} (hr:RisesBy (·.key) l) (hi:i<l.length) (hk:x.key=l[i].key):RisesBy (·.key) (l.set i x):=by
 have h:(l.set i x).map (·.key)=l.map (·.key):=by
  rw [List.map_set,hk];apply List.ext_getElem?;intro k;rw [List.getElem?_set];split
  ·rename_i e;subst e;rw [List.length_map,if_pos hi,List.getElem?_map,List.getElem?_eq_getElem hi];rfl
  ·rfl
 have h1:Rises ((l.set i x).map (·.key)):=by rw [h];exact hr.map
 exact List.pairwise_map.1 h1
theorem ZW {l:List EntP} {x:EntP} (hg:GoodE l) (hx:GoodE1 x) (hlen:l.length<10):GoodE (x8 l x):=by
 unfold x8;cases hf:l.findIdx? (fun y=>y.key==x.key) with
 | none =>
  refine⟨?_,fun y hy=> ?_,JD hg.ris hf⟩
  ·rw [(q9 _ _).length_eq];simp;omega
  ·rcases List.mem_cons.1 ((q9 _ _).mem_iff.1 hy) with rfl | h
   ·exact hx
   ·exact hg.one y h
 | some i =>
  obtain⟨hi,he,_⟩:=List.findIdx?_eq_some_iff_getElem.1 hf;have he':l[i].key=x.key:=by simpa using he
  show GoodE (l.set i { x with pins:=(match l[i]? with | some y=>y.pins | none=>0) });rw [List.getElem?_eq_getElem hi];refine⟨by rw [List.length_set];exact hg.len,fun y hy=> ?_,ZX hg.ris hi he'.symm⟩;rcases List.mem_or_eq_of_mem_set hy with h | h
  ·exact hg.one y h
  ·subst h;obtain⟨a,b,c,e⟩:=hx;exact⟨a,b,(hg.one _ (List.getElem_mem hi)).2.2.1,e⟩
theorem Va (hg:GoodB l) (hd:d.length<=300) (hlen:l.length<24):GoodB (putB l d):=by
 unfold putB;cases hf:l.findIdx? (fun b=>b.dig==shaS d) with
 | none =>
  refine⟨?_,fun y hy=> ?_,JD (f:=fun b:BlobP=>b.dig) (x:=⟨shaS d,d,0,false⟩) hg.ris hf⟩
  ·rw [(q9 _ _).length_eq];simp;omega
  ·rcases List.mem_cons.1 ((q9 _ _).mem_iff.1 hy) with rfl | h
   ·exact⟨rfl,hd,by show 0<=5;omega⟩
   ·exact hg.one y h
 | some i=>exact hg
theorem RwX.put4 {S:Shp α} {e:TypeId} {w:World} {base g cap:Nat} {l:List α} {N:ai} {u0 u1 u2 u3:Value} (h:RwX S e w base (aw (aC ⟨g,0,aB⟩) l.length cap) l N) (h4:S.size=4) (hi:i<l.length)
  (hR:S.R w x [u0,u1,u2,u3]) (hl:∀b,(b=g\/N b)->¬leads b [u0,u1,u2,u3]) :
  RwX S e (put4 w g (i*4) u0 u1 u2 u3) base (aw (aC ⟨g,0,aB⟩) l.length cap) (l.set i x) N/\w.grownBy (put4 w g (i*4) u0 u1 u2 u3) (aC g):=by
 obtain⟨ps,h1,h2,h3,h5⟩:=h;have hpl:ps.length=l.length:=by rw [<-h1,List.length_map]
 have hip:i<ps.length:=wj
 have hlen:∀p∈ps,p.2.length=4:=fun p hp=>by rw [h2.lens p hp,h4]
 have hli:=hlen _ (List.getElem_mem hip);obtain⟨a0,a1,a2,a3,ha⟩:∃a0 a1 a2 a3,ps[i].2= [a0,a1,a2,a3]:=by
  match hq:ps[i].2,hli with
  | [a0,a1,a2,a3],_=>exact⟨a0,a1,a2,a3,rfl⟩
 have e1:cls ps=cls (ps.take i)++ [a0,a1,a2,a3]++cls (ps.drop (i+1)):=by
  conv=>lhs;rw [<-List.take_append_drop i ps,List.drop_eq_getElem_cons hip,yU,qj,ha]
  rw [List.append_assoc]
 rw [e1]at h3;have hcl:(cls (ps.take i)).length=i*4:=by
  rw [ue (s:=4) _ (fun p hp=>hlen p (List.mem_of_mem_take hp)),List.length_take];rw [Nat.min_eq_left wj]
 obtain⟨ho,hg⟩:=UY h3 hcl u0 u1 u2 u3;have hall:∀p∈ps.set i (x, [u0,u1,u2,u3]),S.R w p.1 p.2/\∀b,(b=g\/N b)->¬leads b p.2:=fun p hp=>by
  rcases List.mem_or_eq_of_mem_set hp with h | h
  ·exact⟨h2 p h,fun b hb=>h5 p h b (hb.imp (fun e=>by rw [e];rfl) id)⟩
  ·subst h;exact⟨hR,hl⟩
 refine⟨⟨ps.set i (x, [u0,u1,u2,u3]),by rw [List.map_set,h1],?_,?_,fun p hp b hb=>(hall p hp).2 b (hb.imp (fun e=>(Option.some.inj e).symm) id)⟩,hg⟩
 ·exact qH.grown (w:=w) (g:=aC g) (fun p hp=>(hall p hp).1) hg (fun p hp b hb=>(hall p hp).2 b (.inl (Option.some.inj hb).symm))
 ·have e2:cls (ps.set i (x, [u0,u1,u2,u3]))=cls (ps.take i)++ [u0,u1,u2,u3]++cls (ps.drop (i+1)):=by
   rw [z0l (s:=4) ps i _ hip hlen,kH (s:=4) ps i hlen,yb (s:=4) ps (i+1) hlen]
  rw [List.length_set,e2];exact ho
theorem z3p (w:World):(zeroValue 88).run zZZ w= .ok (.agg #[az ByteArray.empty,aw aB 0 0,ax ay 0,.bool false]) w:=by kernel_rfl
theorem VO (g i n cap base:Nat) (xs:af) (w:World) (h:w.ownsRow base 88 4 (aw (aC ⟨g,0,aB⟩) n cap) n xs) (hi:i<n) (hx:∀u∈xs,u.oneCell'=true) :
  Calls zZZ 106 #[aw (aC ⟨g,0,aB⟩) n cap,ax ay i,ax ay ((i:Int)+1)] w fun e w'=>e= .returned (aw (aC ⟨g,0,aB⟩) (n - 1) cap) /\
   w'.ownsRow base 88 4 (aw (aC ⟨g,0,aB⟩) (n - 1) cap) (n - 1) (xs.take (i*4)++xs.drop ((i+1)*4))/\w.grownBy w' (aC g):=by
 obtain⟨g',cap',cs,e1,hbg,hA,hnc,hcm,hcl,hct⟩:=yl h wj;injection e1 with e11 _ e13;injection e11 with e11;injection e11 with e11;subst e11 e13;obtain⟨i0,hi0,hz0,hz1,hz2⟩:=info_parts (show(zZZ.info? 88).map (fun i=>(i.zero,i.size,i.bytes))=aC (aC (.agg #[az ByteArray.empty,aw aB 0 0,ax ay 0,.bool false]),4,56) by kernel_rfl);obtain⟨zs,hzs⟩:=wU ((Builtin.zeroCells (Value.agg #[az ByteArray.empty,aw aB 0 0,ax ay 0,.bool false]).cells 1).toList)
 have hzs':zs= [az ByteArray.empty,aw aB 0 0,ax ay 0,.bool false]:=by rw [hzs];kernel_rfl
 have hzl:zs.length=4:=by rw [hzs'];rfl
 have hz1':∀u∈zs,u.oneCell'=true:=by rw [hzs'];intro u hu;simp at hu;rcases hu with rfl | rfl | rfl | rfl<;>rfl
 obtain⟨a1,a2⟩:=Qo (i:=i) (n:=n) (zs:=zs) hA.drew hcl hnc hi hzl;rw [hct]at a1 a2;have hlen:(xs.drop ((i+1)*4)).length=(n - (i+1))*4:=by rw [List.length_drop,h.1,Nat.sub_mul]
 obtain⟨news,hnews⟩:=wU (xs.drop ((i+1)*4))
 rw [<-hnews]at a1 a2 hlen;obtain⟨W1,hW1⟩:=wU (w.drew.setCells g (i*4) news)
 rw [<-hW1]at a1 a2;have hr:=Rd.of_own h;have HC:=sqH (show ∀k u,xs[k]?=aC u->w.drew.cell? ⟨g,k,aB⟩=aC u from fun k u hu=>by
  refine Arr.cell hA.drew ?_;rw [<-hct,List.getElem?_take]at hu;split at hu
  ·exact hu
  ·cases hu)
 obtain⟨A,hAd,hsrc⟩:∃A:Addr,(if cap=i+1 then aC (⟨g,0,aB⟩:Addr) else aC ⟨g,(i+1)*4,aB⟩)=aC A/\Hid (∀t u,news[t]?=aC u->w.drew.cell? (A.add t)=aC u):=by
  by_cases hce:cap=i+1
  ·refine⟨⟨g,0,aB⟩,by simp [hce],Lib.hid fun t u hu=> ?_⟩;have h0:news.length=0:=by rw [hlen,show n - (i+1)=0 by omega]
   rw [List.length_eq_zero_iff.1 h0]at hu;cases hu
  ·refine⟨⟨g,(i+1)*4,aB⟩,by simp [hce],Lib.hid fun t u hu=> ?_⟩;rw [hnews,List.getElem?_drop]at hu;have:=HC.o _ _ hu;rw [Addr.add_lit];exact this
 have s1:=sqH hlen;have s2:=sqH (show ∀u∈news,u.oneCell'=true from fun u hu=>hx u (by rw [hnews]at hu;exact List.mem_of_mem_drop hu));have s3:=sqH (show ∀t,t<news.length->(w.drew.cell? ⟨g,0+i*4+t,aB⟩).isSome=true/\w.drew.frozen? ⟨g,0+i*4+t,aB⟩=false from fun t ht=>by
  rw [hlen]at ht;have hlt:i*4+t<xs.length:=by rw [h.1];omega
  rw [Nat.zero_add,HC.o _ _ (List.getElem?_eq_getElem hlt)];exact⟨rfl,hA.drew.frozen _⟩)
 have hclr:∀ty,(Builtin.clear_ #[24] ty #[aw (aC ⟨g,(n - 1)*4,aB⟩) (n - (n - 1)) (cap - (n - 1))]).run zZZ W1= .ok (.tuple #[]) (W1.setCells g ((n - 1)*4) zs):=fun ty=>by
  rw [show n - (n - 1)=1 by omega];exact yj W1 _ _ ty _ zs underlying24 z3p hzs.symm hz1' g _ _ (fun j hj=>by
   have hk:(n - 1)*4+j<(cs.take (i*4)++news++cs.drop ((n - 1)*4)).length:=by
    simp only [List.length_append,List.length_take,List.length_drop,hcl,hlen];omega
   rw [a1.cell (List.getElem?_eq_getElem hk)];rfl) (fun j hj=>a1.frozen _)
 have hcapi:i<=cap:=wj
 have hci1:i+1<=cap:=wj
 have hwi:((i:Int)+1).toNat=i+1:=wj
 have hp0:(0:Int)<=(i:Int)+1:=wj
 have hp1:(i:Int)+1<=(n:Int):=wj
 have hne:((i:Int)==(i:Int)+1)=false:=by rw [beq_eq_false_iff_ne];omega
 obtain⟨A2,HW1,HG,HL,HCL,HN,HT,HX⟩:=sqJ8 a2 hW1 (show w.grownBy (W1.setCells g ((n - 1)*4) zs) (aC g) from(show w.grownBy w.drew (aC g) from⟨rfl,rfl,rfl,Nat.le_refl _,fun _ _ _=>rfl⟩).trans (by rw [hW1];exact(qh _ _ _).trans (qh _ _ _))) hlen hcl hnews hct h.1;clear hW1 a1 a2 hct hnews hlen hzs hzs' hz1' hr hA HC hx hcl;go_enter func106,ntmps106;go_wp2_with fail;go_region_law (refine step_append_room rfl (.tmp 22) (.tmp 25) 24 rfl 88 i0 4 underlying24 hi0 hz1 g 0 i cap (by simp [Act.eval,Act.put]) A (n - (i+1)) (cap - (i+1)) news (by simp [Act.eval,Act.put]) s1.o hsrc.o s2.o wj s3.o ?_;rw [Nat.zero_add,<-HW1.o]);rw [show i+(n - (i+1))=n - 1 by omega];go_wp2_with fail;go_ret;refine⟨rfl,⟨?_,.inr ⟨g,cap,_,rfl,hbg,A2.o,wj,hcm,?_,?_⟩⟩,HG.o⟩
 ·rw [<-HN.o,List.length_append,List.length_take,HL.o,HX.o];omega
 ·simp only [List.size_toArray,List.length_append,List.length_take,List.length_drop,HL.o,hzl,HCL.o];omega
 ·have e1:xs.take (i*4)=cs.take (i*4):=by rw [<-HT.o,List.take_take,Nat.min_eq_left wj]
  rw [e1,<-HN.o,List.append_assoc,List.take_left' (by rw [List.length_append,List.length_take,HL.o,HCL.o];omega)]
theorem z4g (w:World):(zeroValue 109).run zZZ w= .ok (.agg #[az ByteArray.empty,aw aB 0 0,ax ay 0,ax ay 0]) w:=by kernel_rfl
theorem VP (g i n cap base:Nat) (xs:af) (w:World) (h:w.ownsRow base 109 4 (aw (aC ⟨g,0,aB⟩) n cap) n xs) (hi:i<n) (hx:∀u∈xs,u.oneCell'=true) :
  Calls zZZ 184 #[aw (aC ⟨g,0,aB⟩) n cap,ax ay i,ax ay ((i:Int)+1)] w fun e w'=>e= .returned (aw (aC ⟨g,0,aB⟩) (n - 1) cap) /\
   w'.ownsRow base 109 4 (aw (aC ⟨g,0,aB⟩) (n - 1) cap) (n - 1) (xs.take (i*4)++xs.drop ((i+1)*4))/\w.grownBy w' (aC g):=by
 obtain⟨g',cap',cs,e1,hbg,hA,hnc,hcm,hcl,hct⟩:=yl h wj;injection e1 with e11 _ e13;injection e11 with e11;injection e11 with e11;subst e11 e13;obtain⟨i0,hi0,hz0,hz1,hz2⟩:=info_parts (show(zZZ.info? 109).map (fun i=>(i.zero,i.size,i.bytes))=aC (aC (.agg #[az ByteArray.empty,aw aB 0 0,ax ay 0,ax ay 0]),4,56) by kernel_rfl);obtain⟨zs,hzs⟩:=wU ((Builtin.zeroCells (Value.agg #[az ByteArray.empty,aw aB 0 0,ax ay 0,ax ay 0]).cells 1).toList)
 have hzs':zs= [az ByteArray.empty,aw aB 0 0,ax ay 0,ax ay 0]:=by rw [hzs];kernel_rfl
 have hzl:zs.length=4:=by rw [hzs'];rfl
 have hz1':∀u∈zs,u.oneCell'=true:=by rw [hzs'];intro u hu;simp at hu;rcases hu with rfl | rfl | rfl | rfl<;>rfl
 obtain⟨a1,a2⟩:=Qo (i:=i) (n:=n) (zs:=zs) hA.drew hcl hnc hi hzl;rw [hct]at a1 a2;have hlen:(xs.drop ((i+1)*4)).length=(n - (i+1))*4:=by rw [List.length_drop,h.1,Nat.sub_mul]
 obtain⟨news,hnews⟩:=wU (xs.drop ((i+1)*4))
 rw [<-hnews]at a1 a2 hlen;obtain⟨W1,hW1⟩:=wU (w.drew.setCells g (i*4) news)
 rw [<-hW1]at a1 a2;have hr:=Rd.of_own h;have HC:=sqH (show ∀k u,xs[k]?=aC u->w.drew.cell? ⟨g,k,aB⟩=aC u from fun k u hu=>by
  refine Arr.cell hA.drew ?_;rw [<-hct,List.getElem?_take]at hu;split at hu
  ·exact hu
  ·cases hu)
 obtain⟨A,hAd,hsrc⟩:∃A:Addr,(if cap=i+1 then aC (⟨g,0,aB⟩:Addr) else aC ⟨g,(i+1)*4,aB⟩)=aC A/\Hid (∀t u,news[t]?=aC u->w.drew.cell? (A.add t)=aC u):=by
  by_cases hce:cap=i+1
  ·refine⟨⟨g,0,aB⟩,by simp [hce],Lib.hid fun t u hu=> ?_⟩;have h0:news.length=0:=by rw [hlen,show n - (i+1)=0 by omega]
   rw [List.length_eq_zero_iff.1 h0]at hu;cases hu
  ·refine⟨⟨g,(i+1)*4,aB⟩,by simp [hce],Lib.hid fun t u hu=> ?_⟩;rw [hnews,List.getElem?_drop]at hu;have:=HC.o _ _ hu;rw [Addr.add_lit];exact this
 have s1:=sqH hlen;have s2:=sqH (show ∀u∈news,u.oneCell'=true from fun u hu=>hx u (by rw [hnews]at hu;exact List.mem_of_mem_drop hu));have s3:=sqH (show ∀t,t<news.length->(w.drew.cell? ⟨g,0+i*4+t,aB⟩).isSome=true/\w.drew.frozen? ⟨g,0+i*4+t,aB⟩=false from fun t ht=>by
  rw [hlen]at ht;have hlt:i*4+t<xs.length:=by rw [h.1];omega
  rw [Nat.zero_add,HC.o _ _ (List.getElem?_eq_getElem hlt)];exact⟨rfl,hA.drew.frozen _⟩)
 have hclr:∀ty,(Builtin.clear_ #[25] ty #[aw (aC ⟨g,(n - 1)*4,aB⟩) (n - (n - 1)) (cap - (n - 1))]).run zZZ W1= .ok (.tuple #[]) (W1.setCells g ((n - 1)*4) zs):=fun ty=>by
  rw [show n - (n - 1)=1 by omega];exact yj W1 _ _ ty _ zs underlying25 z4g hzs.symm hz1' g _ _ (fun j hj=>by
   have hk:(n - 1)*4+j<(cs.take (i*4)++news++cs.drop ((n - 1)*4)).length:=by
    simp only [List.length_append,List.length_take,List.length_drop,hcl,hlen];omega
   rw [a1.cell (List.getElem?_eq_getElem hk)];rfl) (fun j hj=>a1.frozen _)
 have hcapi:i<=cap:=wj
 have hci1:i+1<=cap:=wj
 have hwi:((i:Int)+1).toNat=i+1:=wj
 have hp0:(0:Int)<=(i:Int)+1:=wj
 have hp1:(i:Int)+1<=(n:Int):=wj
 have hne:((i:Int)==(i:Int)+1)=false:=by rw [beq_eq_false_iff_ne];omega
 obtain⟨A2,HW1,HG,HL,HCL,HN,HT,HX⟩:=sqJ8 a2 hW1 (show w.grownBy (W1.setCells g ((n - 1)*4) zs) (aC g) from(show w.grownBy w.drew (aC g) from⟨rfl,rfl,rfl,Nat.le_refl _,fun _ _ _=>rfl⟩).trans (by rw [hW1];exact(qh _ _ _).trans (qh _ _ _))) hlen hcl hnews hct h.1;clear hW1 a1 a2 hct hnews hlen hzs hzs' hz1' hr hA HC hx hcl;go_enter func184,ntmps184;go_wp2_with fail;go_region_law (refine step_append_room rfl (.tmp 22) (.tmp 25) 25 rfl 109 i0 4 underlying25 hi0 hz1 g 0 i cap (by simp [Act.eval,Act.put]) A (n - (i+1)) (cap - (i+1)) news (by simp [Act.eval,Act.put]) s1.o hsrc.o s2.o wj s3.o ?_;rw [Nat.zero_add,<-HW1.o]);rw [show i+(n - (i+1))=n - 1 by omega];go_wp2_with fail;go_ret;refine⟨rfl,⟨?_,.inr ⟨g,cap,_,rfl,hbg,A2.o,wj,hcm,?_,?_⟩⟩,HG.o⟩
 ·rw [<-HN.o,List.length_append,List.length_take,HL.o,HX.o];omega
 ·simp only [List.size_toArray,List.length_append,List.length_take,List.length_drop,HL.o,hzl,HCL.o];omega
 ·have e1:xs.take (i*4)=cs.take (i*4):=by rw [<-HT.o,List.take_take,Nat.min_eq_left wj]
  rw [e1,<-HN.o,List.append_assoc,List.take_left' (by rw [List.length_append,List.length_take,HL.o,HCL.o];omega)]
theorem JT (g i:Nat) (l:List BlobP) (base cap:Nat) (w:World) (N:ai) (hi:i<l.length) (h:RwX BlobS 88 w base (aw (aC ⟨g,0,aB⟩) l.length cap) l N) :
  Calls zZZ 106 #[aw (aC ⟨g,0,aB⟩) l.length cap,ax ay i,ax ay ((i:Int)+1)] w fun e w'=>e= .returned (aw (aC ⟨g,0,aB⟩) (l.eraseIdx i).length cap) /\
   RwX BlobS 88 w' base (aw (aC ⟨g,0,aB⟩) (l.eraseIdx i).length cap) (l.eraseIdx i) N/\w.grownBy w' (aC g):=by
 obtain⟨ps,h1,h2,h3,h4⟩:=h;have hlen:(l.eraseIdx i).length=l.length - 1:=List.length_eraseIdx_of_lt hi;rw [hlen];refine(VO g i l.length cap base (cls ps) w h3 hi h2.ones).mono ?_;rintro e w' ⟨rfl,ho,hg⟩;refine⟨rfl,⟨ps.eraseIdx i,?_,?_,?_,fun p hp b hb=>h4 p (List.mem_of_mem_eraseIdx hp) b hb⟩,hg⟩
 ·rw [<-h1,List.eraseIdx_eq_take_drop_succ,List.eraseIdx_eq_take_drop_succ,List.map_append,List.map_take,List.map_drop]
 ·exact qH.grown (w:=w) (g:=aC g) (fun p hp=>h2 p (List.mem_of_mem_eraseIdx hp)) hg (fun p hp b hb=>h4 p (List.mem_of_mem_eraseIdx hp) b (.inl hb))
 ·rw [<-ud (s:=4) ps i h2.lens,hlen];exact ho
theorem JU (g i:Nat) (l:List EntP) (base cap:Nat) (w:World) (N:ai) (hi:i<l.length) (h:RwX EntS 109 w base (aw (aC ⟨g,0,aB⟩) l.length cap) l N) :
  Calls zZZ 184 #[aw (aC ⟨g,0,aB⟩) l.length cap,ax ay i,ax ay ((i:Int)+1)] w fun e w'=>e= .returned (aw (aC ⟨g,0,aB⟩) (l.eraseIdx i).length cap) /\
   RwX EntS 109 w' base (aw (aC ⟨g,0,aB⟩) (l.eraseIdx i).length cap) (l.eraseIdx i) N/\w.grownBy w' (aC g):=by
 obtain⟨ps,h1,h2,h3,h4⟩:=h;have hlen:(l.eraseIdx i).length=l.length - 1:=List.length_eraseIdx_of_lt hi;rw [hlen];refine(VP g i l.length cap base (cls ps) w h3 hi h2.ones).mono ?_;rintro e w' ⟨rfl,ho,hg⟩;refine⟨rfl,⟨ps.eraseIdx i,?_,?_,?_,fun p hp b hb=>h4 p (List.mem_of_mem_eraseIdx hp) b hb⟩,hg⟩
 ·rw [<-h1,List.eraseIdx_eq_take_drop_succ,List.eraseIdx_eq_take_drop_succ,List.map_append,List.map_take,List.map_drop]
 ·exact qH.grown (w:=w) (g:=aC g) (fun p hp=>h2 p (List.mem_of_mem_eraseIdx hp)) hg (fun p hp b hb=>h4 p (List.mem_of_mem_eraseIdx hp) b (.inl hb))
 ·rw [<-ud (s:=4) ps i h2.lens,hlen];exact ho
theorem qK (h:hexC d=0):d.length=64:=by
 unfold hexC at h;by_cases h64:d.length=64
 ·exact h64
 ·rw [if_pos wj]at h;cases h
theorem vJ {x:List PartP} (h:chk x=0):Qi x:=fun p hp=>by
 obtain⟨h1,h2,h3⟩:=(zk h).2 p hp
 have e1:=xR h1
 have e2:=qK h2
 exact⟨wj,wj,wj⟩
theorem Yj (l:ac):xz (shaS l) l=0:=by
 rw [xz,zA,if_neg wo,if_neg ws]
theorem vO (A:ae) (c:Nat) (l:List BlobP) (w:World) (hg:GoodB l) (hA:Rw BlobS w A l) :
  Calls zZZ 96 #[aw A l.length c] w fun e w'=>e= .returned (ax ay 0)/\Below w.heap.size w w':=by
 have HG:=sqH hg;have hl:=hg.len;have hps:=List.pairwise_iff_getElem.1 hg.ris;have HPS:=sqH hps;clear hg hps;go_enter func96,ntmps96;go_wp2_with fail;go_loopg [11] l.length (fun gn i wr=>∃j:Nat,gn=l.length - j/\i= ax ay j/\j<=l.length/\Below w.heap.size w wr)
 case atStart=>exact⟨0,rfl,rfl,wj,Below.refl _ _⟩
 case round =>
  obtain⟨j,hgk,rfl,hj,hbl⟩:=hrel;have HGK:=sqH hgk;clear hgk;by_cases hlt:j<l.length
  ·have hcc:decide (j<l.length)=true:=decide_eq_true hlt;have hA2:=hA.below hbl;obtain⟨b,off,B,cb,rfl,hbb,c0,c1,c2,c3,hs⟩:=hA2.blob_at j hlt;have hj0:=wX j
   have hj1:(j:Int)<(l.length:Int):=wj
   have HG1:=sqH (HG.o.one l[j] (List.getElem_mem hlt));have hprev:0<j->∃q:ac,Op.bytesLess q l[j].dig=true/\wr.cell? ⟨b,off+(j - 1)*4,aB⟩=aC (az ⟨q.toArray⟩):=fun h0=>by
    obtain⟨b',off',B',cb',e1,_,d0,_⟩:=hA2.blob_at (j - 1) wj
    cases e1
    exact⟨_,HPS.o (j - 1) j wj hlt wj,d0⟩
   generalize l[j]=x at *
   obtain⟨sx,hsx⟩:=wU (⟨x.dig.toArray⟩:ByteArray)
   rw [<-hsx]at c0;have HSX:=sqH hsx;have HSL:=sqH (show sx.data.toList=x.dig by rw [hsx]);clear hsx hA2;have hX:Arr (wr.alloc (aA #[az sx,aw B x.data.length cb,ax ay x.pins,(.bool x.mark)] 88)) wr.heap.size 88 [az sx,aw B x.data.length cb,ax ay x.pins,(.bool x.mark)]:=Arr.new wr 88 _;have hba:=wi wr (aA #[az sx,aw B x.data.length cb,ax ay x.pins,(.bool x.mark)] 88);have hb2:=wg hbl hba;have hs2:=hs.below hba;have hq2:0<j->∃q:ac,Op.bytesLess q x.dig=true/\(wr.alloc (aA #[az sx,aw B x.data.length cb,ax ay x.pins,(.bool x.mark)] 88)).cell? ⟨b,off+(j - 1)*4,aB⟩=aC (az ⟨q.toArray⟩):=fun h0=>by
    obtain⟨q,q1,q2⟩:=hprev h0;exact⟨q,q1,(hba.cell (p:=⟨b,off+(j - 1)*4,aB⟩) hbb).trans q2⟩
   have hbb2:b<(wr.alloc (aA #[az sx,aw B x.data.length cb,ax ay x.pins,(.bool x.mark)] 88)).heap.size:=by simp;omega
   obtain⟨x0,x1,x2,x3⟩:=sqC4 hX;clear hprev hbl hba hs;go_wp2_with fail;generalize wr.alloc (aA #[az sx,aw B x.data.length cb,ax ay x.pins,(.bool x.mark)] 88)=w2 at *
   generalize wr.heap.size=gx at *
   clear c0 c1 c2 c3 x0 x1 x2 x3;obtain⟨g1,g2,g3⟩:=HG1.o;have hsz:sx.size<=140737488351232:=by
    rw [HSX.o];show(x.dig.toArray).size<=_;rw [List.size_toArray,g1,Z5];decide
   have HRT:=Ue sx B x.data.length cb x.data (x.pins:Int) x.mark w2 wj wj hsz rfl g2 hs2.cap hs2.rd;rw [HSL.o,g1,Yj]at HRT;have HRT:=sqH HRT;clear g1 g2 g3 hsz hs2;refine wV HRT.o fun w3 hb3=>?_;dsimp only;have hb23:=wg hb2 hb3;have hX3:=hX.below hb3;clear hX hb2;by_cases h0:0<j
   ·obtain⟨q,q1,q2⟩:=hq2 h0;have hkb:decide (0<(j:Int))=true:=decide_eq_true wj;have hkc:decide ((j:Int)>0)=true:=decide_eq_true wj;have hkd:decide (0<j)=true:=decide_eq_true h0;have hm1:IntKind.i64.wrap ((j:Int) - 1)=(j:Int) - 1:=IntWalk.i64_in _ wj;have hm2:((j:Int) - 1).toNat=j - 1:=wj
    have hm3:(0:Int)<=(j:Int) - 1:=wj
    have hm4:(j:Int) - 1<(l.length:Int):=wj
    have hm5:(1:Int)<=(j:Int):=wj
    obtain⟨sq,hsq⟩:=wU (⟨q.toArray⟩:ByteArray)
    rw [<-hsq]at q2;have q3:=(hb3.cell (p:=⟨b,off+(j - 1)*4,aB⟩) hbb2).trans q2;have l1:Op.bytesLess sx.toList sq.toList=false:=by
     rw [HSX.o,hsq,ByteArray.toList_eq,ByteArray.toList_eq];exact yv q1
    have l2:(sx.toList==sq.toList)=false:=by
     rw [HSX.o,hsq,ByteArray.toList_eq,ByteArray.toList_eq,beq_eq_false_iff_ne];exact(yT q1).symm
    have y0:=hX3.c0;clear hsq q1 q2 hq2;go_wp2_with fail;go_quiet (fail);go_wp2_with fail;go_roundg (l.length - (j+1))
    case measure=>exact wW HGK
    case rel=>exact⟨j+1,rfl,by go_num,wj,zN hb23 _⟩
   ·have hkb:decide (0<(j:Int))=false:=decide_eq_false wj;have hkc:decide ((j:Int)>0)=false:=decide_eq_false wj;have hkd:decide (0<j)=false:=decide_eq_false h0;clear hq2;go_wp2_with fail;go_quiet (fail);go_wp2_with fail;go_roundg (l.length - (j+1))
    case measure=>exact wW HGK
    case rel=>exact⟨j+1,rfl,by go_num,wj,zN hb23 _⟩
  ·obtain rfl:j=l.length:=by omega
   have hcc:decide (l.length<l.length)=false:=ws
   go_wp2_with fail;go_ret;exact⟨rfl,hbl⟩
theorem xb (A:ae) (c:Nat) (l:List EntP) (w:World) (hg:GoodE l) (hA:Rw EntS w A l) :
  Calls zZZ 97 #[aw A l.length c] w fun e w'=>e= .returned (ax ay 0)/\Below w.heap.size w w':=by
 have HG:=sqH hg;have hl:=hg.len;have hps:=List.pairwise_iff_getElem.1 hg.ris;have HPS:=sqH hps;clear hg hps;go_enter func97,ntmps97;go_wp2_with fail;go_loopg [13] l.length (fun gn i wr=>∃j:Nat,gn=l.length - j/\i= ax ay j/\j<=l.length/\Below w.heap.size w wr)
 case atStart=>exact⟨0,rfl,rfl,wj,Below.refl _ _⟩
 case round =>
  obtain⟨j,hgk,rfl,hj,hbl⟩:=hrel;have HGK:=sqH hgk;clear hgk;by_cases hlt:j<l.length
  ·have hcc:decide (j<l.length)=true:=decide_eq_true hlt;have hA2:=hA.below hbl;obtain⟨b,off,B,cb,rfl,hbb,c0,c1,c2,c3,hs⟩:=hA2.ent_at j hlt;have hj0:=wX j
   have hj1:(j:Int)<(l.length:Int):=wj
   have HG1:=sqH (HG.o.one l[j] (List.getElem_mem hlt));have hprev:0<j->∃q:ac,Op.bytesLess q l[j].key=true/\wr.cell? ⟨b,off+(j - 1)*4,aB⟩=aC (az ⟨q.toArray⟩):=fun h0=>by
    obtain⟨b',off',B',cb',e1,_,d0,_⟩:=hA2.ent_at (j - 1) wj
    cases e1
    exact⟨_,HPS.o (j - 1) j wj hlt wj,d0⟩
   generalize l[j]=x at *
   obtain⟨sx,hsx⟩:=wU (⟨x.key.toArray⟩:ByteArray)
   rw [<-hsx]at c0;have HSX:=sqH hsx;have HSL:=sqH (show sx.data.toList=x.key by rw [hsx]);clear hsx hA2;have hX:Arr (wr.alloc (aA #[az sx,aw B x.parts.length cb,ax ay x.pins,(ax ay x.aK)] 109)) wr.heap.size 109 [az sx,aw B x.parts.length cb,ax ay x.pins,(ax ay x.aK)]:=Arr.new wr 109 _;have hba:=wi wr (aA #[az sx,aw B x.parts.length cb,ax ay x.pins,(ax ay x.aK)] 109);have hb2:=wg hbl hba;have hs2:=hs.below hba;have hq2:0<j->∃q:ac,Op.bytesLess q x.key=true/\(wr.alloc (aA #[az sx,aw B x.parts.length cb,ax ay x.pins,(ax ay x.aK)] 109)).cell? ⟨b,off+(j - 1)*4,aB⟩=aC (az ⟨q.toArray⟩):=fun h0=>by
    obtain⟨q,q1,q2⟩:=hprev h0;exact⟨q,q1,(hba.cell (p:=⟨b,off+(j - 1)*4,aB⟩) hbb).trans q2⟩
   have hbb2:b<(wr.alloc (aA #[az sx,aw B x.parts.length cb,ax ay x.pins,(ax ay x.aK)] 109)).heap.size:=by simp;omega
   obtain⟨x0,x1,x2,x3⟩:=sqC4 hX;clear hprev hbl hba hs;go_wp2_with fail;generalize wr.alloc (aA #[az sx,aw B x.parts.length cb,ax ay x.pins,(ax ay x.aK)] 109)=w2 at *
   generalize wr.heap.size=gx at *
   clear c0 c1 c2 c3 x0 x1 x2 x3;obtain⟨g1,g2,g3,g4⟩:=HG1.o;have hsz:sx.size<=140737488351232:=by
    have:=qK g1;rw [HSX.o];show(x.key.toArray).size<=_;rw [List.size_toArray];omega
   have HRT:=kC sx w2 hsz;rw [HSL.o,g1]at HRT;have HRT:=sqH HRT;have hpl:=(zk g2).1;obtain⟨HPO,HG2,HPN⟩:=sqJ3 (vJ g2) g2 (fun w'=>xf (x.pins:Int) wj wj w');have st1:decide ((x.aK:Int)<0)=false:=decide_eq_false wj;have st2:decide ((x.aK:Int)>1099511627776)=false:=decide_eq_false wj;have st3:decide ((1099511627776:Int)<(x.aK:Int))=false:=decide_eq_false wj;have st4:decide (1099511627776<x.aK)=false:=decide_eq_false wj;clear g1 g2 hsz;refine wV HRT.o fun w3 hb3=>?_;dsimp only;have hb23:=wg hb2 hb3;have hX3:=hX.below hb3;have hs3:=hs2.below hb3;have HMC:=sqH (show ∀w',Below w3.heap.size w3 w'->Calls zZZ 113 #[aw B x.parts.length cb] w' fun e w''=>e= .returned (ax ay 0)/\Below w'.heap.size w' w'' from fun w' hb=>by
    have:=xd B x.parts.length cb x.parts w' rfl hs3.cap wj HPO.o (hs3.below hb).rd
    rwa [HG2.o]at this)
   clear hX hb2 hs2 hs3;by_cases h0:0<j
   ·obtain⟨q,q1,q2⟩:=hq2 h0;have hkb:decide (0<(j:Int))=true:=decide_eq_true wj;have hkc:decide ((j:Int)>0)=true:=decide_eq_true wj;have hkd:decide (0<j)=true:=decide_eq_true h0;have hm1:IntKind.i64.wrap ((j:Int) - 1)=(j:Int) - 1:=IntWalk.i64_in _ wj;have hm2:((j:Int) - 1).toNat=j - 1:=wj
    have hm3:(0:Int)<=(j:Int) - 1:=wj
    have hm4:(j:Int) - 1<(l.length:Int):=wj
    have hm5:(1:Int)<=(j:Int):=wj
    obtain⟨sq,hsq⟩:=wU (⟨q.toArray⟩:ByteArray)
    rw [<-hsq]at q2;have q3:=(hb3.cell (p:=⟨b,off+(j - 1)*4,aB⟩) hbb2).trans q2;have l1:Op.bytesLess sx.toList sq.toList=false:=by
     rw [HSX.o,hsq,ByteArray.toList_eq,ByteArray.toList_eq];exact yv q1
    have l2:(sx.toList==sq.toList)=false:=by
     rw [HSX.o,hsq,ByteArray.toList_eq,ByteArray.toList_eq,beq_eq_false_iff_ne];exact(yT q1).symm
    have y0:=hX3.c0;clear hsq q1 q2 hq2;go_wp2_with fail;go_quiet (fail);have hb34:=fun n=>zN (wh w3) n;have hb24:=fun n=>zN hb23 n;have y1:=fun n=>(hX3.drewN n).c1;go_wp2_with fail;refine wV (HMC.o _ (hb34 _)) fun w5 hb5=>?_;dsimp only;have hb25:=(hb24 _).trans (hb5.mono (hb24 _).size);have hX5:=(hX3.below (hb34 _)).below hb5;clear y1 hb34 hb24;have y2:=hX5.c2;have y3:=hX5.c3;go_wp2_with fail;refine(HPN.o w5).mono ?_;rintro e_ _ ⟨rfl,rfl⟩;dsimp only;go_wp2_with fail;go_roundg (l.length - (j+1))
    case measure=>exact wW HGK
    case rel=>exact⟨j+1,rfl,by go_num,wj,hb25⟩
   ·have hkb:decide (0<(j:Int))=false:=decide_eq_false wj;have hkc:decide ((j:Int)>0)=false:=decide_eq_false wj;have hkd:decide (0<j)=false:=decide_eq_false h0;clear hq2;go_wp2_with fail;go_quiet (fail);have hb34:=fun n=>zN (wh w3) n;have hb24:=fun n=>zN hb23 n;have y1:=fun n=>(hX3.drewN n).c1;go_wp2_with fail;refine wV (HMC.o _ (hb34 _)) fun w5 hb5=>?_;dsimp only;have hb25:=(hb24 _).trans (hb5.mono (hb24 _).size);have hX5:=(hX3.below (hb34 _)).below hb5;clear y1 hb34 hb24;have y2:=hX5.c2;have y3:=hX5.c3;go_wp2_with fail;refine(HPN.o w5).mono ?_;rintro e_ _ ⟨rfl,rfl⟩;dsimp only;go_wp2_with fail;go_roundg (l.length - (j+1))
    case measure=>exact wW HGK
    case rel=>exact⟨j+1,rfl,by go_num,wj,hb25⟩
  ·obtain rfl:j=l.length:=by omega
   have hcc:decide (l.length<l.length)=false:=ws
   go_wp2_with fail;go_ret;exact⟨rfl,hbl⟩
def qQ (l:List BlobP):List PartP->Nat
 | []=>0
 | p::ps=>match l.findIdx? (fun b=>b.dig==p.dig) with
  | none=>5
  | some i=>if (match l[i]? with | some b=>b.data.length | none=>0)=p.size then qQ l ps else 4
theorem Vf {l:List α} (hr:RisesBy f l) (hx:x∈l) (hd:f x=d):∃i,∃h:i<l.length,l.findIdx? (fun y=>f y==d)=aC i/\l[i]=x:=by
 obtain⟨i,hi,he⟩:=List.mem_iff_getElem.1 hx;refine⟨i,hi,?_,he⟩;rw [List.findIdx?_eq_some_iff_getElem];refine⟨hi,by rw [he];simp [hd],fun k hk=> ?_⟩;have:=List.pairwise_iff_getElem.1 hr k i wj hi hk;rw [he,hd]at this;simpa using yT this
theorem ZG (hr:RisesBy (·.dig) l):∀ {ps:List PartP},Have l ps->qQ l ps=0
 | [],_=>rfl
 | p::ps,h=>by
  obtain⟨b,hb,h1,h2⟩:=h p ws
  obtain⟨i,hi,h3,h4⟩:=Vf (f:=fun b:BlobP=>b.dig) hr hb h1
  rw [qQ,h3]
  show(if (match l[i]? with | some b=>b.data.length | none=>0)=p.size then _ else _)=_
  rw [List.getElem?_eq_getElem hi,h4]
  show(if b.data.length=p.size then _ else _)=_
  rw [if_pos h2,ZG hr fun q hq=>h q (by simp [hq])]
theorem yz:∀ {ps:List PartP},qQ l ps=0->Have l ps
 | [],_=>fun p hp=>by cases hp
 | p::ps,h=>by
  rw [qQ]at h
  cases hf:l.findIdx? (fun b=>b.dig==p.dig) with
  | none=>rw [hf]at h;cases h
  | some i =>
   rw [hf]at h
   obtain⟨hi,he,_⟩:=List.findIdx?_eq_some_iff_getElem.1 hf
   have h':(if (match l[i]? with | some b=>b.data.length | none=>0)=p.size then qQ l ps else 4)=0:=h
   have h3:(if l[i].data.length=p.size then qQ l ps else 4)=0:=by rw [List.getElem?_eq_getElem hi]at h';exact h'
   by_cases h2:l[i].data.length=p.size
   ·rw [if_pos h2]at h3
    intro q hq
    rcases List.mem_cons.1 hq with rfl | hq
    ·exact⟨l[i],List.getElem_mem hi,by simpa using he,h2⟩
    ·exact yz h3 q hq
   ·rw [if_neg h2]at h3;cases h3
def zH (s:StoP) (d:ac):StoP:= { s with aE:=putB s.aE d }
def vu (s:StoP) (k:ac) (ps:List PartP):StoP:= { s with aF:=x8 s.aF ⟨k,ps,0,s.aG+1⟩,aG:=s.aG+1 }
def kz (s:StoP) (i:Nat) (x:EntP):StoP:= { s with aF:=s.aF.set i { x with aK:=s.aG+1 },aG:=s.aG+1 }
def kf (s:StoP) (i:Nat) (b:BlobP) (n:Nat):StoP:= { s with aE:=s.aE.set i { b with pins:=n } }
def ZJ (s:StoP) (i:Nat) (x:EntP) (n:Nat):StoP:= { s with aF:=s.aF.set i { x with pins:=n } }
theorem Kl {b:BlobP} (h:b∈l):b∈putB l d:=by
 unfold putB;cases l.findIdx? (fun b=>b.dig==shaS d) with
 | none=>exact(q9 _ _).mem_iff.2 (List.mem_cons_of_mem _ h)
 | some i=>exact h
theorem Yh (h:GoodS s) (hd:d.length<=300) (hl:s.aE.length<24) (hr:usd (putB s.aE d)<=s.aH):GoodS (zH s d) :=
 ⟨Va h.b hd hl,h.e,h.aH,hr,h.aG,fun x hx=>⟨(h.ent x hx).1,(h.ent x hx).2.mono fun b hb=>Kl hb⟩⟩
theorem US {l:List EntP} {x y:EntP} (h:y∈x8 l x):y∈l\/(y.key=x.key/\y.parts=x.parts/\y.aK=x.aK/\(y.pins=x.pins\/∃z∈l,z.key=x.key/\y.pins=z.pins)):=by
 unfold x8 at h;cases hf:l.findIdx? (fun y=>y.key==x.key) with
 | none =>
  rw [hf]at h;rcases List.mem_cons.1 ((q9 _ _).mem_iff.1 h) with h | h
  ·subst h;exact .inr ⟨rfl,rfl,rfl,.inl rfl⟩
  ·exact .inl h
 | some i =>
  rw [hf]at h;obtain⟨hi,he,_⟩:=List.findIdx?_eq_some_iff_getElem.1 hf;have h':y∈l.set i { x with pins:=(match l[i]? with | some y=>y.pins | none=>0) }:=h;rw [List.getElem?_eq_getElem hi]at h';rcases List.mem_or_eq_of_mem_set h' with h | h
  ·exact .inl h
  ·subst h;exact .inr ⟨rfl,rfl,rfl,.inr ⟨l[i],List.getElem_mem hi,by simpa using he,rfl⟩⟩
theorem jd {k:ac} {ps:List PartP} (h:GoodS s) (hk:hexC k=0) (hp:chk ps=0) (hh:Have s.aE ps) (hc:s.aG<1099511627776) (hl:s.aF.length<10):GoodS (vu s k ps):=by
 refine⟨h.b,ZW h.e ⟨hk,hp,by show 0<=5;omega,by show s.aG+1<=_;omega⟩ hl,h.aH,h.used,by show s.aG+1<=_;omega,fun x hx=> ?_⟩;rcases US hx with h1 | ⟨h1,h2,h3,_⟩
 ·have:=h.ent x h1;exact⟨by show x.aK<=s.aG+1;omega,this.2⟩
 ·exact⟨by rw [h3];exact Nat.le_refl _,by rw [h2];exact hh⟩
theorem ZC {l:List EntP} {x:EntP} (h:GoodE l) (hi:i<l.length) (hk:x.key=l[i].key) (hx:GoodE1 x):GoodE (l.set i x) :=
 ⟨by rw [List.length_set];exact h.len,fun y hy=>(List.mem_or_eq_of_mem_set hy).elim (h.one y) (fun e=>e▸hx),ZX h.ris hi hk⟩
theorem ZB (h:GoodS s) (hi:i<s.aF.length) (hc:s.aG<1099511627776):GoodS (kz s i s.aF[i]):=by
 have h1:=h.e.one _ (List.getElem_mem hi);have h2:=h.ent _ (List.getElem_mem hi);refine⟨h.b,ZC h.e hi rfl ⟨h1.1,h1.2.1,h1.2.2.1,by show s.aG+1<=_;omega⟩,h.aH,h.used,by show s.aG+1<=_;omega,fun x hx=> ?_⟩;rcases List.mem_or_eq_of_mem_set hx with h3 | h3
 ·have:=h.ent x h3;exact⟨by show x.aK<=s.aG+1;omega,this.2⟩
 ·subst h3;exact⟨Nat.le_refl _,h2.2⟩
theorem Qs (h:GoodS s) (hi:i<s.aF.length) (hn:n<=5):GoodS (ZJ s i s.aF[i] n):=by
 have h1:=h.e.one _ (List.getElem_mem hi);have h2:=h.ent _ (List.getElem_mem hi);refine⟨h.b,ZC h.e hi rfl ⟨h1.1,h1.2.1,hn,h1.2.2.2⟩,h.aH,h.used,h.aG,fun x hx=> ?_⟩;rcases List.mem_or_eq_of_mem_set hx with h3 | h3
 ·exact h.ent x h3
 ·subst h3;exact h2
theorem J5 {x:BlobP} (hr:RisesBy (·.dig) l) (hi:i<l.length) (hk:x.dig=l[i].dig):RisesBy (·.dig) (l.set i x):=by
 have h:(l.set i x).map (·.dig)=l.map (·.dig):=by
  rw [List.map_set,hk];apply List.ext_getElem?;intro k;rw [List.getElem?_set];split
  ·rename_i e;subst e;rw [List.length_map,if_pos hi,List.getElem?_map,List.getElem?_eq_getElem hi];rfl
  ·rfl
 have h1:Rises ((l.set i x).map (·.dig)):=by rw [h];exact hr.map
 exact List.pairwise_map.1 h1
theorem Ku {β:Type} (f:α->β) {l:List α} (hi:i<l.length) (hk:f x=f l[i]):(l.set i x).map f=l.map f:=by
 rw [List.map_set,hk];apply List.ext_getElem?;intro k;rw [List.getElem?_set];split
 ·rename_i e;subst e;rw [List.length_map,if_pos hi,List.getElem?_map,List.getElem?_eq_getElem hi];rfl
 ·rfl
theorem Vq {x:BlobP} (h:GoodS s) (hi:i<s.aE.length) (h1:x.dig=s.aE[i].dig) (h2:x.data=s.aE[i].data) (h3:x.pins<=5):GoodS { s with aE:=s.aE.set i x }:=by
 have g:=h.b.one _ (List.getElem_mem hi);refine⟨⟨by rw [List.length_set];exact h.b.len,fun y hy=>(List.mem_or_eq_of_mem_set hy).elim (h.b.one y) (fun e=>e▸⟨by rw [h1,h2];exact g.1,by rw [h2];exact g.2.1,h3⟩),J5 h.b.ris hi h1⟩,h.e,h.aH,?_,h.aG,fun y hy=>⟨(h.ent y hy).1,fun p hp=> ?_⟩⟩
 ·show usd (s.aE.set i x)<=_;unfold usd;rw [Ku (fun b:BlobP=>b.data.length) hi (by rw [h2])];exact h.used
 ·obtain⟨b,hb,e1,e2⟩:=(h.ent y hy).2 p hp;obtain⟨k,hk,rfl⟩:=List.mem_iff_getElem.1 hb;by_cases e:k=i
  ·subst e;exact⟨x,List.mem_iff_getElem.2 ⟨k,by rw [List.length_set];exact hk,ws⟩,by rw [h1];exact e1,by rw [h2];exact e2⟩
  ·exact⟨_,List.mem_iff_getElem.2 ⟨k,by rw [List.length_set];exact hk,List.getElem_set_ne (fun h=>e h.symm) _⟩,e1,e2⟩
theorem ur (h:GoodS s) (hi:i<s.aE.length) (hn:n<=5):GoodS (kf s i s.aE[i] n):=Vq h hi rfl rfl hn
end Go.Proofs.YtcjndgldjhmbgaaGreat
