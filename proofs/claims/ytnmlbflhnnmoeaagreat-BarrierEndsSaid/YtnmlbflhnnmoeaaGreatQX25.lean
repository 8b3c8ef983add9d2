/- Lemmas of the proof. Conditions: as stated. -/
import Derived.Test.YtnmlbflhnnmoeaaGreatQX20
import Derived.Test.YtnmlbflhnnmoeaaGreatQX24
set_option linter.unusedVariables false
set_option linter.unusedSimpArgs false
set_option maxRecDepth 100000
set_option maxHeartbeats 4000000
namespace Go.Proofs.YtnmlbflhnnmoeaaGreat
open Go.RowKit
section
variable {α:Type} {f:α→List UInt8} {l:List α} {d:List UInt8} {i:Nat}
theorem ja (h1:∀k (h:k<l.length),k<i→Op.bytesLess (f l[k]) d=true) (hi:i<l.length) (he:f l[i]=d):l.findIdx? (fun x=>f x==d)=some i:=by
 rw [List.findIdx?_eq_some_iff_getElem];exact⟨hi,by simp [he],fun k hk=>by
  have:=xU (h1 k (by omega) hk);simp [this]⟩
theorem KJ (hr:RisesBy f l) (h1:∀k (h:k<l.length),k<i→Op.bytesLess (f l[k]) d=true) (h2:∀k (h:k<l.length),i≤k→Op.bytesLess (f l[k]) d=false) (hn:¬ ∃h:i<l.length,f l[i]=d) :
  (∀x∈l,f x≠d)∧∀k (h:k<l.length),i≤k→Op.bytesLess d (f l[k])=true:=by
 have hp:=List.pairwise_iff_getElem.1 hr;have h3:∀k (h:k<l.length),i≤k→Op.bytesLess d (f l[k])=true:=fun k h hk=>by
  have hi:i<l.length:=by omega
  have h4:Op.bytesLess d (f l[i])=true:=by
   rcases xO d (f l[i]) with h | h | h
   ·exact h
   ·exact absurd ⟨hi,h.symm⟩ hn
   ·rw [h2 i hi (Nat.le_refl _)]at h;cases h
  rcases Nat.lt_or_ge i k with h5 | h5
  ·exact zL h4 (hp i k hi h h5)
  ·obtain rfl:i=k:=by omega
   exact h4
 refine⟨fun x hx e=> ?_,h3⟩;obtain⟨k,hk,rfl⟩:=List.mem_iff_getElem.1 hx;rcases Nat.lt_or_ge k i with h5 | h5
 ·exact xU (h1 k hk h5) e
 ·exact xU (h3 k hk h5) e.symm
theorem JS (hr:RisesBy f l) (h1:∀k (h:k<l.length),k<i→Op.bytesLess (f l[k]) d=true) (h2:∀k (h:k<l.length),i≤k→Op.bytesLess (f l[k]) d=false) (hn:¬ ∃h:i<l.length,f l[i]=d) {x:α} (hx:f x=d) :
  RisesBy f (l.take i++x::l.drop i)∧(l.take i++x::l.drop i).Perm (x::l):=by
 have h3:=(KJ hr h1 h2 hn).2;have ht:∀a∈l.take i,Op.bytesLess (f a) d=true:=fun a ha=>by
  obtain⟨k,hk,rfl⟩:=List.mem_iff_getElem.1 ha;rw [List.length_take]at hk;rw [List.getElem_take];exact h1 k (by omega) (by omega)
 have hd:∀a∈l.drop i,Op.bytesLess d (f a)=true:=fun a ha=>by
  obtain⟨k,hk,rfl⟩:=List.mem_iff_getElem.1 ha;rw [List.length_drop]at hk;rw [List.getElem_drop];exact h3 (i+k) (by omega) (by omega)
 refine⟨List.pairwise_append.2 ⟨hr.sublist (List.take_sublist _ _),List.pairwise_cons.2 ⟨fun a ha=>by rw [hx];exact hd a ha,hr.sublist (List.drop_sublist _ _)⟩,fun a ha b hb=> ?_⟩,?_⟩
 ·rcases List.mem_cons.1 hb with rfl | hb
  ·rw [hx];exact ht a ha
  ·exact zL (ht a ha) (hd b hb)
 ·have:=(List.perm_middle (a:=x) (l₁:=l.take i) (l₂:=l.drop i))
  rwa [List.take_append_drop]at this
theorem Ud (hr:RisesBy f l) (h1:∀k (h:k<l.length),k<i→Op.bytesLess (f l[k]) d=true) (h2:∀k (h:k<l.length),i≤k→Op.bytesLess (f l[k]) d=false) (hn:¬ ∃h:i<l.length,f l[i]=d) {x:α} (hx:f x=d) :
  l.take i++x::l.drop i=srt f (x::l):=by
 obtain⟨a,b⟩:=JS hr h1 h2 hn hx;exact Yx a b
theorem Ue (hr:RisesBy f l) (h1:∀k (h:k<l.length),k<i→Op.bytesLess (f l[k]) d=true) (h2:∀k (h:k<l.length),i≤k→Op.bytesLess (f l[k]) d=false) (hn:¬ ∃h:i<l.length,f l[i]=d):l.findIdx? (fun x=>f x==d)=none:=by
 rw [List.findIdx?_eq_none_iff];intro x hx;have:=(KJ hr h1 h2 hn).1 x hx;simp [this]
end
def xp (l:List EntP) (x:EntP):List EntP:=match l.findIdx? (fun y=>y.key==x.key) with | some i=>l.set i { x with pins:=(match l[i]? with | some y=>y.pins | none=>0) } | none=>srt (·.key) (x::l)
def putB (l:List BlobP) (d:List UInt8):List BlobP:=match l.findIdx? (fun b=>b.dig==shaS d) with | some _=>l | none=>srt (·.dig) (⟨shaS d,d,0,false⟩::l)
theorem Uk {α:Type} {f:α→List UInt8} {l:List α} {x:α} (hr:RisesBy f l) (hn:l.findIdx? (fun y=>f y==f x)=none):RisesBy f (srt f (x::l)):=km (by
 rw [List.map_cons,List.nodup_cons]
 refine⟨fun h=> ?_,Rises.nodup (RisesBy.map hr)⟩
 obtain⟨y,hy,e⟩:=List.mem_map.1 h
 have:=List.findIdx?_eq_none_iff.1 hn y hy
 simp [e]at this)
theorem KW {l:List EntP} {i:Nat} {x:EntP} (hr:RisesBy (·.key) l) (hi:i<l.length) (hk:x.key=l[i].key):RisesBy (·.key) (l.set i x):=by
 have h:(l.set i x).map (·.key)=l.map (·.key):=by
  rw [List.map_set,hk];apply List.ext_getElem?;intro k;rw [List.getElem?_set];split
  ·rename_i e;subst e;rw [List.length_map,if_pos hi,List.getElem?_map,List.getElem?_eq_getElem hi];rfl
  ·rfl
 have h1:Rises ((l.set i x).map (·.key)):=by rw [h];exact hr.map
 exact List.pairwise_map.1 h1
theorem Zl {l:List EntP} {x:EntP} (hg:GoodE l) (hx:GoodE1 x) (hlen:l.length<10):GoodE (xp l x):=by
 unfold xp;cases hf:l.findIdx? (fun y=>y.key==x.key) with
 | none =>
  refine⟨?_,fun y hy=> ?_,Uk hg.ris hf⟩
  ·rw [(zz _ _).length_eq];simp;omega
  ·rcases List.mem_cons.1 ((zz _ _).mem_iff.1 hy) with rfl | h
   ·exact hx
   ·exact hg.one y h
 | some i =>
  obtain⟨hi,he,_⟩:=List.findIdx?_eq_some_iff_getElem.1 hf;have he':l[i].key=x.key:=by simpa using he
  show GoodE (l.set i { x with pins:=(match l[i]? with | some y=>y.pins | none=>0) });rw [List.getElem?_eq_getElem hi];refine⟨by rw [List.length_set];exact hg.len,fun y hy=> ?_,KW hg.ris hi he'.symm⟩;rcases List.mem_or_eq_of_mem_set hy with h | h
  ·exact hg.one y h
  ·subst h;obtain⟨a,b,c,e⟩:=hx;exact⟨a,b,(hg.one _ (List.getElem_mem hi)).2.2.1,e⟩
theorem Yj {l:List BlobP} {d:List UInt8} (hg:GoodB l) (hd:d.length≤300) (hlen:l.length<24):GoodB (putB l d):=by
 unfold putB;cases hf:l.findIdx? (fun b=>b.dig==shaS d) with
 | none =>
  refine⟨?_,fun y hy=> ?_,Uk (f:=fun b:BlobP=>b.dig) (x:=⟨shaS d,d,0,false⟩) hg.ris hf⟩
  ·rw [(zz _ _).length_eq];simp;omega
  ·rcases List.mem_cons.1 ((zz _ _).mem_iff.1 hy) with rfl | h
   ·exact⟨rfl,hd,by show 0≤5;omega⟩
   ·exact hg.one y h
 | some i=>exact hg
theorem V0 (g i n cap base:Nat) (xs:List Value) (w:World) (h:w.ownsRow base 63 4 (.slice (some ⟨g,0,none⟩) n cap) n xs) (hi:i<n) (hx:∀u∈xs,u.oneCell'=true) :
  Calls Tryz.prog 192 #[.slice (some ⟨g,0,none⟩) n cap,.int .i64 i,.int .i64 ((i:Int)+1)] w fun e w'=>e= .returned (.slice (some ⟨g,0,none⟩) (n - 1) cap) ∧
   w'.ownsRow base 63 4 (.slice (some ⟨g,0,none⟩) (n - 1) cap) (n - 1) (xs.take (i*4)++xs.drop ((i+1)*4))∧w.grownBy w' (some g):=by
 obtain⟨g',cap',cs,e1,hbg,hA,hnc,hcm,hcl,hct⟩:=xI h (by omega);injection e1 with e11 _ e13;injection e11 with e11;injection e11 with e11;subst e11 e13;obtain⟨i0,hi0,hz0,hz1,hz2⟩:=info_parts (show(Tryz.prog.info? 63).map (fun i=>(i.zero,i.size,i.bytes))=some (some (.agg #[.string ByteArray.empty,.slice none 0 0,.int .i64 0,.bool false]),4,56) by kernel_rfl);obtain⟨zs,hzs⟩:∃zs,zs=(Builtin.zeroCells (Value.agg #[.string ByteArray.empty,.slice none 0 0,.int .i64 0,.bool false]).cells 1).toList:=⟨_,rfl⟩
 have hzs':zs= [.string ByteArray.empty,.slice none 0 0,.int .i64 0,.bool false]:=by rw [hzs];kernel_rfl
 have hzl:zs.length=4:=by rw [hzs'];rfl
 have hz1':∀u∈zs,u.oneCell'=true:=by rw [hzs'];intro u hu;simp at hu;rcases hu with rfl | rfl | rfl | rfl<;>rfl
 obtain⟨a1,a2⟩:=Yw (i:=i) (n:=n) (zs:=zs) hA.drew hcl hnc hi hzl;rw [hct]at a1 a2;have hlen:(xs.drop ((i+1)*4)).length=(n - (i+1))*4:=by rw [List.length_drop,h.1,Nat.sub_mul]
 obtain⟨news,hnews⟩:∃news,news=xs.drop ((i+1)*4):=⟨_,rfl⟩
 rw [←hnews]at a1 a2 hlen;obtain⟨W1,hW1⟩:∃W1,W1=w.drew.setCells g (i*4) news:=⟨_,rfl⟩
 rw [←hW1]at a1 a2;have hr:=Rd.of_own h;have HC:=sqH (show ∀k u,xs[k]?=some u→w.drew.cell? ⟨g,k,none⟩=some u from fun k u hu=>by
  refine Arr.cell hA.drew ?_;rw [←hct,List.getElem?_take]at hu;split at hu
  ·exact hu
  ·cases hu)
 obtain⟨A,hAd,hsrc⟩:∃A:Addr,(if cap=i+1 then some (⟨g,0,none⟩:Addr) else some ⟨g,(i+1)*4,none⟩)=some A∧Hid (∀t u,news[t]?=some u→w.drew.cell? (A.add t)=some u):=by
  by_cases hce:cap=i+1
  ·refine⟨⟨g,0,none⟩,by simp [hce],Lib.hid fun t u hu=> ?_⟩;have h0:news.length=0:=by rw [hlen,show n - (i+1)=0 by omega]
   rw [List.length_eq_zero_iff.1 h0]at hu;cases hu
  ·refine⟨⟨g,(i+1)*4,none⟩,by simp [hce],Lib.hid fun t u hu=> ?_⟩;rw [hnews,List.getElem?_drop]at hu;have:=HC.out _ _ hu;rw [Addr.add_lit];exact this
 have s1:=sqH hlen;have s2:=sqH (show ∀u∈news,u.oneCell'=true from fun u hu=>hx u (by rw [hnews]at hu;exact List.mem_of_mem_drop hu));have s3:=sqH (show ∀t,t<news.length→(w.drew.cell? ⟨g,0+i*4+t,none⟩).isSome=true∧w.drew.frozen? ⟨g,0+i*4+t,none⟩=false from fun t ht=>by
  rw [hlen]at ht;have hlt:i*4+t<xs.length:=by rw [h.1];omega
  rw [Nat.zero_add,HC.out _ _ (List.getElem?_eq_getElem hlt)];exact⟨rfl,hA.drew.frozen _⟩)
 have hclr:∀ty,(Builtin.clear_ #[23] ty #[.slice (some ⟨g,(n - 1)*4,none⟩) (n - (n - 1)) (cap - (n - 1))]).run Tryz.prog W1= .ok (.tuple #[]) (W1.setCells g ((n - 1)*4) zs):=fun ty=>by
  rw [show n - (n - 1)=1 by omega];exact yM W1 _ _ ty _ zs Tryz.underlying23 JN hzs.symm hz1' g _ _ (fun j hj=>by
   have hk:(n - 1)*4+j<(cs.take (i*4)++news++cs.drop ((n - 1)*4)).length:=by
    simp only [List.length_append,List.length_take,List.length_drop,hcl,hlen];omega
   rw [a1.cell (List.getElem?_eq_getElem hk)];rfl) (fun j hj=>a1.frozen _)
 have hcapi:i≤cap:=by omega
 have hci1:i+1≤cap:=by omega
 have hwi:((i:Int)+1).toNat=i+1:=by omega
 have hp0:(0:Int)≤(i:Int)+1:=by omega
 have hp1:(i:Int)+1≤(n:Int):=by omega
 have hne:((i:Int)==(i:Int)+1)=false:=by rw [beq_eq_false_iff_ne];omega
 have A2:=sqH a2;have HW1:=sqH hW1;have HG:=sqH (show w.grownBy (W1.setCells g ((n - 1)*4) zs) (some g) from(show w.grownBy w.drew (some g) from⟨rfl,rfl,rfl,Nat.le_refl _,fun _ _ _=>rfl⟩).trans (by rw [hW1];exact(qE _ _ _).trans (qE _ _ _)));have HL:=sqH hlen;have HCL:=sqH hcl;have HN:=sqH hnews;have HT:=sqH hct;have HX:=sqH h.1;clear hW1 a1 a2 hct hnews hlen hzs hzs' hz1' hr hA HC hx hcl;go_enter Tryz.func192,Tryz.ntmps192;go_wp2_with fail;go_region_law (refine step_append_room rfl (.tmp 22) (.tmp 25) 23 rfl 63 i0 4 Tryz.underlying23 hi0 hz1 g 0 i cap (by simp [Act.eval,Act.put]) A (n - (i+1)) (cap - (i+1)) news (by simp [Act.eval,Act.put]) s1.out hsrc.out s2.out (by omega) s3.out ?_;rw [Nat.zero_add,←HW1.out]);rw [show i+(n - (i+1))=n - 1 by omega];go_wp2_with fail;go_ret;refine⟨rfl,⟨?_,.inr ⟨g,cap,_,rfl,hbg,A2.out,by omega,hcm,?_,?_⟩⟩,HG.out⟩
 ·rw [←HN.out,List.length_append,List.length_take,HL.out,HX.out];omega
 ·simp only [List.size_toArray,List.length_append,List.length_take,List.length_drop,HL.out,hzl,HCL.out];omega
 ·have e1:xs.take (i*4)=cs.take (i*4):=by rw [←HT.out,List.take_take,Nat.min_eq_left (by omega)]
  rw [e1,←HN.out,List.append_assoc,List.take_left' (by rw [List.length_append,List.length_take,HL.out,HCL.out];omega)]
theorem Jw (g i:Nat) (l:List BlobP) (base cap:Nat) (w:World) (N:Nat→Prop) (hi:i<l.length) (h:RwX BlobS 63 w base (.slice (some ⟨g,0,none⟩) l.length cap) l N) :
  Calls Tryz.prog 192 #[.slice (some ⟨g,0,none⟩) l.length cap,.int .i64 i,.int .i64 ((i:Int)+1)] w fun e w'=>e= .returned (.slice (some ⟨g,0,none⟩) (l.eraseIdx i).length cap) ∧
   RwX BlobS 63 w' base (.slice (some ⟨g,0,none⟩) (l.eraseIdx i).length cap) (l.eraseIdx i) N∧w.grownBy w' (some g):=by
 obtain⟨ps,h1,h2,h3,h4⟩:=h;have hlen:(l.eraseIdx i).length=l.length - 1:=List.length_eraseIdx_of_lt hi;rw [hlen];refine(V0 g i l.length cap base (cls ps) w h3 hi h2.ones).mono ?_;rintro e w' ⟨rfl,ho,hg⟩;refine⟨rfl,⟨ps.eraseIdx i,?_,?_,?_,fun p hp b hb=>h4 p (List.mem_of_mem_eraseIdx hp) b hb⟩,hg⟩
 ·rw [←h1,List.eraseIdx_eq_take_drop_succ,List.eraseIdx_eq_take_drop_succ,List.map_append,List.map_take,List.map_drop]
 ·exact qj.grown (w:=w) (g:=some g) (fun p hp=>h2 p (List.mem_of_mem_eraseIdx hp)) hg (fun p hp b hb=>h4 p (List.mem_of_mem_eraseIdx hp) b (.inl hb))
 ·rw [←vV (s:=4) ps i h2.lens,hlen];exact ho
theorem kV {l:List BlobP}:∀ {ps:List PartP},qQ l ps=0→Have l ps
 | [],_=>fun p hp=>by cases hp
 | p::ps,h=>by
  rw [qQ]at h
  cases hf:l.findIdx? (fun b=>b.dig==p.dig) with
  | none=>rw [hf]at h;cases h
  | some i =>
   rw [hf]at h
   obtain⟨hi,he,_⟩:=List.findIdx?_eq_some_iff_getElem.1 hf
   have h':(if (match l[i]? with | some b=>b.data.length | none=>0)=p.size then qQ l ps else 4)=0:=h
   have h3:(if l[i].data.length=p.size then qQ l ps else 4)=0:=by rw [List.getElem?_eq_getElem hi]at h';exact h'
   by_cases h2:l[i].data.length=p.size
   ·rw [if_pos h2]at h3
    intro q hq
    rcases List.mem_cons.1 hq with rfl | hq
    ·exact⟨l[i],List.getElem_mem hi,by simpa using he,h2⟩
    ·exact kV h3 q hq
   ·rw [if_neg h2]at h3;cases h3
def zx (s:StoP) (d:List UInt8):StoP:= { s with blobs:=putB s.blobs d }
def xd (s:StoP) (k:List UInt8) (ps:List PartP):StoP:= { s with ents:=xp s.ents ⟨k,ps,0,s.clock+1⟩,clock:=s.clock+1 }
def qB (s:StoP) (i:Nat) (b:BlobP) (n:Nat):StoP:= { s with blobs:=s.blobs.set i { b with pins:=n } }
theorem QP {l:List BlobP} {d:List UInt8} {b:BlobP} (h:b∈l):b∈putB l d:=by
 unfold putB;cases l.findIdx? (fun b=>b.dig==shaS d) with
 | none=>exact(zz _ _).mem_iff.2 (List.mem_cons_of_mem _ h)
 | some i=>exact h
theorem Kl {s:StoP} {d:List UInt8} (h:GoodS s) (hd:d.length≤300) (hl:s.blobs.length<24) (hr:usd (putB s.blobs d)≤s.room):GoodS (zx s d) :=
 ⟨Yj h.b hd hl,h.e,h.room,hr,h.clock,fun x hx=>⟨(h.ent x hx).1,(h.ent x hx).2.mono fun b hb=>QP hb⟩⟩
theorem Vg {l:List EntP} {x y:EntP} (h:y∈xp l x):y∈l∨(y.key=x.key∧y.parts=x.parts∧y.stamp=x.stamp∧(y.pins=x.pins∨∃z∈l,z.key=x.key∧y.pins=z.pins)):=by
 unfold xp at h;cases hf:l.findIdx? (fun y=>y.key==x.key) with
 | none =>
  rw [hf]at h;rcases List.mem_cons.1 ((zz _ _).mem_iff.1 h) with h | h
  ·subst h;exact .inr ⟨rfl,rfl,rfl,.inl rfl⟩
  ·exact .inl h
 | some i =>
  rw [hf]at h;obtain⟨hi,he,_⟩:=List.findIdx?_eq_some_iff_getElem.1 hf;have h':y∈l.set i { x with pins:=(match l[i]? with | some y=>y.pins | none=>0) }:=h;rw [List.getElem?_eq_getElem hi]at h';rcases List.mem_or_eq_of_mem_set h' with h | h
  ·exact .inl h
  ·subst h;exact .inr ⟨rfl,rfl,rfl,.inr ⟨l[i],List.getElem_mem hi,by simpa using he,rfl⟩⟩
theorem uN {s:StoP} {k:List UInt8} {ps:List PartP} (h:GoodS s) (hk:hexC k=0) (hp:chk ps=0) (hh:Have s.blobs ps) (hc:s.clock<1099511627776) (hl:s.ents.length<10):GoodS (xd s k ps):=by
 refine⟨h.b,Zl h.e ⟨hk,hp,by show 0≤5;omega,by show s.clock+1≤_;omega⟩ hl,h.room,h.used,by show s.clock+1≤_;omega,fun x hx=> ?_⟩;rcases Vg hx with h1 | ⟨h1,h2,h3,_⟩
 ·have:=h.ent x h1;exact⟨by show x.stamp≤s.clock+1;omega,this.2⟩
 ·exact⟨by rw [h3];exact Nat.le_refl _,by rw [h2];exact hh⟩
theorem Vk {l:List BlobP} {i:Nat} {x:BlobP} (hr:RisesBy (·.dig) l) (hi:i<l.length) (hk:x.dig=l[i].dig):RisesBy (·.dig) (l.set i x):=by
 have h:(l.set i x).map (·.dig)=l.map (·.dig):=by
  rw [List.map_set,hk];apply List.ext_getElem?;intro k;rw [List.getElem?_set];split
  ·rename_i e;subst e;rw [List.length_map,if_pos hi,List.getElem?_map,List.getElem?_eq_getElem hi];rfl
  ·rfl
 have h1:Rises ((l.set i x).map (·.dig)):=by rw [h];exact hr.map
 exact List.pairwise_map.1 h1
theorem VH {α β:Type} (f:α→β) {l:List α} {i:Nat} {x:α} (hi:i<l.length) (hk:f x=f l[i]):(l.set i x).map f=l.map f:=by
 rw [List.map_set,hk];apply List.ext_getElem?;intro k;rw [List.getElem?_set];split
 ·rename_i e;subst e;rw [List.length_map,if_pos hi,List.getElem?_map,List.getElem?_eq_getElem hi];rfl
 ·rfl
theorem YZ {s:StoP} {i:Nat} {x:BlobP} (h:GoodS s) (hi:i<s.blobs.length) (h1:x.dig=s.blobs[i].dig) (h2:x.data=s.blobs[i].data) (h3:x.pins≤5):GoodS { s with blobs:=s.blobs.set i x }:=by
 have g:=h.b.one _ (List.getElem_mem hi);refine⟨⟨by rw [List.length_set];exact h.b.len,fun y hy=>(List.mem_or_eq_of_mem_set hy).elim (h.b.one y) (fun e=>e▸⟨by rw [h1,h2];exact g.1,by rw [h2];exact g.2.1,h3⟩),Vk h.b.ris hi h1⟩,h.e,h.room,?_,h.clock,fun y hy=>⟨(h.ent y hy).1,fun p hp=> ?_⟩⟩
 ·show usd (s.blobs.set i x)≤_;unfold usd;rw [VH (fun b:BlobP=>b.data.length) hi (by rw [h2])];exact h.used
 ·obtain⟨b,hb,e1,e2⟩:=(h.ent y hy).2 p hp;obtain⟨k,hk,rfl⟩:=List.mem_iff_getElem.1 hb;by_cases e:k=i
  ·subst e;exact⟨x,List.mem_iff_getElem.2 ⟨k,by rw [List.length_set];exact hk,by simp⟩,by rw [h1];exact e1,by rw [h2];exact e2⟩
  ·exact⟨_,List.mem_iff_getElem.2 ⟨k,by rw [List.length_set];exact hk,List.getElem_set_ne (fun h=>e h.symm) _⟩,e1,e2⟩
theorem vC {s:StoP} {i n:Nat} (h:GoodS s) (hi:i<s.blobs.length) (hn:n≤5):GoodS (qB s i s.blobs[i] n):=YZ h hi rfl rfl hn
end Go.Proofs.YtnmlbflhnnmoeaaGreat
