/- Lemmas of the proof. Conditions: as stated. -/
import Derived.Test.YtnmlbflhnnmoeaaGreatQX34
import Derived.Test.YtnmlbflhnnmoeaaGreatQX37
import Derived.Test.YtnmlbflhnnmoeaaGreatQX40
set_option linter.unusedVariables false
set_option linter.unusedSimpArgs false
namespace Go.Proofs.YtnmlbflhnnmoeaaGreat
open Go.RowKit
theorem kL {α:Type} {p:α→Bool}:∀(l:List α) (i:Nat) (hi:i<l.length),p l[i]=false→(l.eraseIdx i).filter p=l.filter p
 | x::l,0,_,h=>by
  rw [List.eraseIdx_cons_zero,List.filter_cons_of_neg]
  simp only [List.getElem_cons_zero]at h
  simp [h]
 | x::l,i+1,hi,h=>by
  have ih:=kL l i (by simpa using hi) (by simpa using h)
  rw [List.eraseIdx_cons_succ]
  cases hx:p x with
  | true=>rw [List.filter_cons_of_pos hx,List.filter_cons_of_pos hx,ih]
  | false=>rw [List.filter_cons_of_neg (by simp [hx]),List.filter_cons_of_neg (by simp [hx]),ih]
def uni (L:List (List UInt8)):List (List UInt8):=srt (fun x=>x) (nub L)
theorem kO (L:List (List UInt8)):Rises (uni L):=km (f:=fun x=>x) (by rw [List.map_id'];exact Za L)
theorem ud (L:List (List UInt8)):StrL (uni L) (fun x=>x∈L):=by
 refine⟨(kO L).nodup,(kO L).imp fun {a b} h=> ?_,fun x=> ?_⟩
 ·rw [Uj];cases hb:Op.bytesLess b a with
  | false=>rfl
  | true=>have:=zL h hb;rw [qM]at this;cases this
 ·show x∈srt _ _↔_;rw [(zz _ _).mem_iff,xr]
theorem qS {L:List (List UInt8)} {x:List UInt8}:x∈uni L↔x∈L:=(ud L).mem x
theorem StrL.uni {L M:List (List UInt8)} {p:List UInt8→Prop} (h:StrL M p) (hp:∀x,p x↔x∈L):M=uni L :=
 StrL.uniq h ⟨(ud L).nd,(ud L).le,fun x=>(qS).trans (hp x).symm⟩
theorem vR (L:List (List UInt8)):(uni L).length≤L.length:=by
 have:∀l:List (List UInt8),(nub l).length≤l.length:=fun l=>by
  induction l with
  | nil=>exact Nat.le_refl _
  | cons x l ih =>
   rw [nub];split
   ·exact Nat.le_trans ih (by simp)
   ·simpa using ih
 show(srt _ _).length≤_;rw [(zz _ _).length_eq];exact this L
theorem XM {L:List (List UInt8)} (h:Rises L):L.Pairwise (fun x y=>leB x y=true):=h.imp fun {a b} h=>by
 rw [Uj]
 cases hb:Op.bytesLess b a with
 | false=>rfl
 | true=>have:=zL h hb;rw [qM]at this;cases this
structure ColP where
 phase:Nat
 grey:List (List UInt8)
 at_:List UInt8
def Vn (bl:List BlobP):List BlobP:=bl.map fun b=> { b with mark:=false }
def qy (s:StoP):StoP:= { s with blobs:=Vn s.blobs }
def k9 (s:StoP):ColP:=⟨1,uni (rts s), []⟩
def mkd (bl:List BlobP):List (List UInt8):=(bl.filter (·.mark)).map (·.dig)
theorem qo {bl:List BlobP} {x:List UInt8}:x∈mkd bl↔∃b∈bl,b.mark=true∧b.dig=x:=by
 unfold mkd;rw [List.mem_map];constructor
 ·rintro⟨b,hb,e⟩;obtain⟨h1,h2⟩:=List.mem_filter.1 hb;exact⟨b,h1,h2,e⟩
 ·rintro⟨b,hb,h,e⟩;exact⟨b,List.mem_filter.2 ⟨hb,h⟩,e⟩
def zm (s:StoP) (c:ColP):StoP×ColP :=
 match c.grey with
 | []=>(s,⟨2, [], []⟩)
 | d::rest=>match s.blobs.findIdx? (fun b=>b.dig==d) with
  | none=>(s,⟨1,rest, []⟩)
  | some i=>match s.blobs[i]? with
   | none=>(s,⟨1,rest, []⟩)
   | some b=>if b.mark then (s,⟨1,rest, []⟩) else ({ s with blobs:=s.blobs.set i { b with mark:=true } },⟨1,uni (rest++(qK b.data).1.map (·.dig)), []⟩)
def zZ (s:StoP) (c:ColP):StoP×ColP×List UInt8 :=
 match s.blobs.findIdx? (fun b=>Op.bytesLess c.at_ b.dig) with
 | none=>(s,⟨0, [], []⟩, [])
 | some i=>match s.blobs[i]? with
  | none=>(s,⟨0, [], []⟩, [])
  | some b=>if b.mark then (s,⟨2, [],b.dig⟩, []) else ({ s with blobs:=s.blobs.eraseIdx i },⟨2, [],b.dig⟩,b.dig)
def zy (s:StoP) (c:ColP):StoP×ColP×List UInt8:=if c.phase=1 then ((zm s c).1,(zm s c).2, []) else zZ s c
def NoM (b:BlobP):List UInt8×List UInt8×Nat:=(b.dig,b.data,b.pins)
def EqM (l m:List BlobP):Prop:=l.map NoM=m.map NoM
theorem EqM.symm {l m:List BlobP} (h:EqM l m):EqM m l:=Eq.symm h
theorem EqM.trans {l m k:List BlobP} (h:EqM l m) (h':EqM m k):EqM l k:=Eq.trans h h'
theorem EqM.rfl_ (l:List BlobP):EqM l l:=rfl
theorem EqM.len {l m:List BlobP} (h:EqM l m):l.length=m.length:=by
 have:=congrArg List.length h;simpa using this
theorem EqM.at_ {l m:List BlobP} (h:EqM l m) (i:Nat) (h1:i<l.length) (h2:i<m.length):m[i].dig=l[i].dig∧m[i].data=l[i].data∧m[i].pins=l[i].pins:=by
 have h3:=congrArg (fun x=>x[i]?) h;simp only [List.getElem?_map,List.getElem?_eq_getElem h1,List.getElem?_eq_getElem h2,Option.map_some,Option.some.injEq,NoM,Prod.mk.injEq]at h3;exact⟨h3.1.symm,h3.2.1.symm,h3.2.2.symm⟩
theorem EqM.mem {l m:List BlobP} (h:EqM l m) {b:BlobP} (hb:b∈l):∃b'∈m,b'.dig=b.dig∧b'.data=b.data∧b'.pins=b.pins:=by
 obtain⟨i,hi,rfl⟩:=List.mem_iff_getElem.1 hb;have h2:i<m.length:=by rw [←h.len];exact hi
 exact⟨m[i],List.getElem_mem h2,h.at_ i hi h2⟩
theorem EqM.cons {a b:BlobP} {l m:List BlobP} (h:EqM (a::l) (b::m)):(b.dig=a.dig∧b.data=a.data∧b.pins=a.pins)∧EqM l m:=by
 unfold EqM at h;simp only [List.map_cons,List.cons.injEq]at h;obtain⟨h1,h2⟩:=h;unfold NoM at h1;simp only [Prod.mk.injEq]at h1;exact⟨⟨h1.1.symm,h1.2.1.symm,h1.2.2.symm⟩,h2⟩
theorem Xp {x:List UInt8}:∀ {l m:List BlobP},EqM l m→m.findIdx? (fun b=>b.dig==x)=l.findIdx? (fun b=>b.dig==x)
 | [], [],_=>rfl
 | [],b::m,h=>by cases h
 | a::l, [],h=>by cases h
 | a::l,b::m,h=>by
  obtain⟨h1,h2⟩:=h.cons
  rw [List.findIdx?_cons,List.findIdx?_cons,h1.1,Xp h2]
theorem uX {l m:List BlobP} (h:EqM l m) (x:List UInt8):kids m x=kids l x:=by
 unfold kids;rw [Xp h];cases hf:l.findIdx? (fun b=>b.dig==x) with
 | none=>rfl
 | some i =>
  have hi:i<l.length:=(List.findIdx?_eq_some_iff_getElem.1 hf).1;have hi2:i<m.length:=by rw [←h.len];exact hi
  simp only [List.getElem?_eq_getElem hi,List.getElem?_eq_getElem hi2];rw [(h.at_ i hi hi2).2.1]
theorem yz {l m:List BlobP} (h:EqM l m) {x:List UInt8}:InB m x↔InB l x:=by
 constructor
 ·rintro⟨b,hb,e⟩;obtain⟨b',hb',e1,_⟩:=h.symm.mem hb;exact⟨b',hb',e1.trans e⟩
 ·rintro⟨b,hb,e⟩;obtain⟨b',hb',e1,_⟩:=h.mem hb;exact⟨b',hb',e1.trans e⟩
theorem QR {l m:List BlobP} (h:EqM l m) {ds:List (List UInt8)} {x:List UInt8} (hx:Rch l ds x):Rch m ds x:=by
 induction hx with
 | root h1 h2=>exact .root h1 ((yz h).2 h2)
 | step h1 h2 h3 ih=>exact .step ih (by rw [uX h];exact h2) ((yz h).2 h3)
theorem uh {l m:List BlobP} (h:EqM l m) {ds:List (List UInt8)}:Rch m ds=Rch l ds:=funext fun x=>propext ⟨QR h.symm,QR h⟩
theorem QO:∀ {l m:List BlobP},EqM l m→xq m=xq l
 | [], [],_=>rfl
 | [],b::m,h=>by cases h
 | a::l, [],h=>by cases h
 | a::l,b::m,h=>by
  obtain⟨h1,h2⟩:=h.cons
  have ih:=QO h2
  unfold xq at ih ⊢
  rw [List.filter_cons,List.filter_cons,h1.2.2]
  split
  ·rw [List.map_cons,List.map_cons,h1.1,ih]
  ·exact ih
theorem yD {s:StoP} {m:List BlobP} (h:EqM s.blobs m):rts { s with blobs:=m }=rts s:=by
 show jn s.ents++xq m=_;rw [QO h];rfl
theorem J6 {l m:List BlobP} (h:EqM l m) (hr:RisesBy (·.dig) l):RisesBy (·.dig) m:=by
 have e:m.map (·.dig)=l.map (·.dig):=by
  have h3:=congrArg (List.map Prod.fst) h;simp only [List.map_map]at h3;exact h3.symm
 have:=List.pairwise_map.1 (e▸hr.map:Rises (m.map (·.dig)));exact this
theorem Ja {l m:List BlobP} (h:EqM l m):usd m=usd l:=by
 have h3:=congrArg (List.map fun x:List UInt8×List UInt8×Nat=>x.2.1.length) h;simp only [List.map_map]at h3;unfold usd;exact(congrArg List.sum h3).symm
theorem xW {s:StoP} {m:List BlobP} (h:EqM s.blobs m) (hg:GoodS s):GoodS { s with blobs:=m } :=
 ⟨⟨by rw [←h.len];exact hg.b.len,fun b hb=>by
   obtain⟨b',hb',e1,e2,e3⟩:=h.symm.mem hb
   have h1:=hg.b.one b' hb'
   unfold GoodB1 at h1 ⊢
   rw [←e1,←e2,←e3];exact h1,J6 h hg.b.ris⟩,hg.e,hg.room,by show usd m≤_;rw [Ja h];exact hg.used,hg.clock,fun x hx=>⟨(hg.ent x hx).1,fun p hp=>by
   obtain⟨b,hb,e1,e2⟩:=(hg.ent x hx).2 p hp
   obtain⟨b',hb',e3,e4,_⟩:=h.mem hb
   exact⟨b',hb',e3.trans e1,by rw [e4];exact e2⟩⟩⟩
theorem yf (l:List BlobP):EqM l (Vn l):=by
 unfold EqM Vn;rw [List.map_map];rfl
theorem ZJ {l:List BlobP} {i:Nat} (hi:i<l.length) (k:Bool):EqM l (l.set i { l[i] with mark:=k }):=by
 unfold EqM;rw [List.map_set];have:NoM { l[i] with mark:=k }=(l.map NoM)[i]'(by simpa using hi):=by rw [List.getElem_map];rfl
 rw [this,List.set_getElem_self]
theorem J8 (b:List UInt8) (h:(qK b).2≠0):(qK b).1= []:=by
 unfold qK at h ⊢
 split
 ·rfl
 rename_i h1;rw [if_neg h1]at h;split
 ·rfl
 rename_i h2;rw [if_neg h2]at h;split
 ·rfl
 rename_i h3;rw [if_neg h3]at h;split
 ·rfl
 rename_i h4;rw [if_neg h4]at h;split
 ·rfl
 rename_i h5;rw [if_neg h5]at h;split
 ·rfl
 rename_i h6;rw [if_neg h6]at h;split
 ·rfl
 rename_i h7;rw [if_neg h7]at h;exact absurd rfl h
theorem UG (b:List UInt8):(qK b).1= []∨(enc (qK b).1=b∧chk (qK b).1=0):=by
 by_cases h:(qK b).2=0
 ·right;have e:qK b=((qK b).1,0):=by rw [←h]
  exact VY e
 ·exact .inl (J8 b h)
theorem Jd (b:List UInt8):∀p∈(qK b).1,hexC p.dig=0:=fun p hp=>by
 rcases UG b with h | h
 ·rw [h]at hp;cases hp
 ·exact((zj h.2).2 p hp).2.1
theorem VS {bl:List BlobP} {x y:List UInt8} (h:y∈kids bl x):hexC y=0:=by
 unfold kids at h;cases hf:bl.findIdx? (fun b=>b.dig==x) with
 | none=>rw [hf]at h;cases h
 | some i =>
  rw [hf]at h;cases hb:bl[i]? with
  | none=>simp only [hb]at h;cases h
  | some b =>
   simp only [hb]at h;obtain⟨p,hp,rfl⟩:=List.mem_map.1 h;exact Jd b.data p hp
theorem JD {s:StoP} (hg:GoodS s) {x:List UInt8} (h:x∈rts s):hexC x=0:=by
 rcases List.mem_append.1 h with h | h
 ·obtain⟨y,hy,h2⟩:=List.mem_flatMap.1 h;obtain⟨p,hp,rfl⟩:=List.mem_map.1 h2;exact((zj (hg.e.one y hy).2.1).2 p hp).2.1
 ·obtain⟨b,hb,rfl⟩:=List.mem_map.1 h;rw [(hg.b.one b (List.mem_filter.1 hb).1).1];exact zu _
structure GoodC (s:StoP) (c:ColP):Prop where
 ph:c.phase≤2
 gh:∀d∈c.grey,hexC d=0
 ris:Rises c.grey
 ah:c.at_= []∨hexC c.at_=0
 g0:c.phase≠1→c.grey= []
 a0:c.phase≠2→c.at_= []
 mr:c.phase=1→∀x∈rts s,InB s.blobs x→x∈mkd s.blobs∨x∈c.grey
 mb:c.phase=1→∀b∈s.blobs,b.mark=true→∀x∈kids s.blobs b.dig,InB s.blobs x→x∈mkd s.blobs∨x∈c.grey
 sw:c.phase=2→∀x,Rch s.blobs (rts s) x→x∈mkd s.blobs
theorem ku {s:StoP} (hg:GoodS s):GoodS (qy s):=xW (yf s.blobs) hg
theorem Xo (s:StoP):rts (qy s)=rts s:=yD (yf s.blobs)
theorem yJ {s:StoP} (hg:GoodS s):GoodC (qy s) (k9 s):=by
 refine⟨by show 1≤2;omega,fun d hd=>JD hg (qS.1 hd),kO _,.inl rfl,fun h=>absurd rfl h,fun _=>rfl,fun _ x hx _=> .inr ?_,fun _ b hb hm=> ?_,fun h=>absurd h (by show ¬(1=2);omega)⟩
 ·rw [Xo]at hx;exact qS.2 hx
 ·exfalso;obtain⟨a,_,rfl⟩:=List.mem_map.1 hb;cases hm
theorem Kr {s:StoP} (hr:RisesBy (·.dig) s.blobs) (h1:∀x∈rts s,InB s.blobs x→x∈mkd s.blobs) (h2:∀b∈s.blobs,b.mark=true→∀x∈kids s.blobs b.dig,InB s.blobs x→x∈mkd s.blobs):∀x,Rch s.blobs (rts s) x→x∈mkd s.blobs:=fun x hx=>by
 induction hx with
 | root h3 h4=>exact h1 _ h3 h4
 | step h3 h4 h5 ih =>
  obtain⟨b,hb,hm,rfl⟩:=qo.1 ih
  exact h2 b hb hm _ h4 h5
theorem JB {l:List BlobP} {i:Nat} (hi:i<l.length) (x:List UInt8):x∈mkd (l.set i { l[i] with mark:=true })↔x∈mkd l∨x=l[i].dig:=by
 rw [qo,qo];constructor
 ·rintro⟨b,hb,hm,rfl⟩;rcases List.mem_or_eq_of_mem_set hb with h | h
  ·exact .inl ⟨b,h,hm,rfl⟩
  ·subst h;exact .inr rfl
 ·rintro(⟨b,hb,hm,rfl⟩ | rfl)
  ·obtain⟨j,hj,rfl⟩:=List.mem_iff_getElem.1 hb;by_cases hij:i=j
   ·subst hij;exact⟨_,List.mem_iff_getElem.2 ⟨i,by simpa using hi,rfl⟩,by simp,by simp⟩
   ·exact⟨l[j],List.mem_iff_getElem.2 ⟨j,by simpa using hj,by rw [List.getElem_set_ne hij]⟩,hm,rfl⟩
  ·exact⟨_,List.mem_iff_getElem.2 ⟨i,by simpa using hi,rfl⟩,by simp,by simp⟩
theorem qi (s:StoP) (c:ColP):(c.grey= []∧zm s c=(s,⟨2, [], []⟩)) ∨
  (∃d rest,c.grey=d::rest∧¬InB s.blobs d∧zm s c=(s,⟨1,rest, []⟩)) ∨
  (∃d rest i,∃hi:i<s.blobs.length,c.grey=d::rest∧s.blobs.findIdx? (fun b=>b.dig==d)=some i∧s.blobs[i].dig=d∧s.blobs[i].mark=true∧zm s c=(s,⟨1,rest, []⟩)) ∨
  (∃d rest i,∃hi:i<s.blobs.length,c.grey=d::rest∧s.blobs.findIdx? (fun b=>b.dig==d)=some i∧s.blobs[i].dig=d∧s.blobs[i].mark=false∧zm s c=({ s with blobs:=s.blobs.set i { s.blobs[i] with mark:=true } },⟨1,uni (rest++kids s.blobs d), []⟩)):=by
 unfold zm;cases hc:c.grey with
 | nil=>exact .inl ⟨rfl,rfl⟩
 | cons d rest =>
  right;generalize hf:s.blobs.findIdx? (fun b=>b.dig==d)=r;cases r with
  | none =>
   left;refine⟨d,rest,rfl,fun h=> ?_,by simp only [hf]⟩;rw [jh,hf]at h;cases h
  | some i =>
   right;obtain⟨hi,hd,_⟩:=List.findIdx?_eq_some_iff_getElem.1 hf;have hd':s.blobs[i].dig=d:=by simpa using hd
   have hk:kids s.blobs d=(qK s.blobs[i].data).1.map (·.dig):=by
    unfold kids;simp only [hf,List.getElem?_eq_getElem hi]
   cases hm:s.blobs[i].mark with
   | true =>
    left;refine⟨d,rest,i,hi,rfl,hf,hd',hm,?_⟩;simp only [hf,List.getElem?_eq_getElem hi,hm,if_true]
   | false =>
    right;refine⟨d,rest,i,hi,rfl,hf,hd',hm,?_⟩;rw [hk];simp only [hf,List.getElem?_eq_getElem hi,hm,Bool.false_eq_true,if_false]
theorem qu (s:StoP) (c:ColP):EqM s.blobs (zm s c).1.blobs∧(zm s c).1= { s with blobs:=(zm s c).1.blobs }:=by
 rcases qi s c with ⟨_,h⟩ | ⟨_,_,_,_,h⟩ | ⟨_,_,_,_,_,_,_,_,h⟩ | ⟨_,_,_,hi,_,_,_,_,h⟩
 ·rw [h];exact⟨rfl,rfl⟩
 ·rw [h];exact⟨rfl,rfl⟩
 ·rw [h];exact⟨rfl,rfl⟩
 ·rw [h];exact⟨ZJ hi true,rfl⟩
theorem uK {s:StoP} (c:ColP) (hg:GoodS s):GoodS (zm s c).1:=by
 rw [(qu s c).2];exact xW (qu s c).1 hg
theorem XN (s:StoP) (c:ColP):rts (zm s c).1=rts s:=by
 rw [(qu s c).2];exact yD (qu s c).1
theorem YO (s:StoP) (c:ColP):Rch (zm s c).1.blobs (rts (zm s c).1)=Rch s.blobs (rts s):=by
 rw [XN];exact uh (qu s c).1
theorem uc {s:StoP} {c:ColP} (hg:GoodS s) (hp:c.phase=1) (h:GoodC s c):GoodC (zm s c).1 (zm s c).2:=by
 rcases qi s c with ⟨hc,e⟩ | ⟨d,rest,hc,hn,e⟩ | ⟨d,rest,i,hi,hc,_,hd,hm,e⟩ | ⟨d,rest,i,hi,hc,hf,hd,hm,e⟩
 ·rw [e];refine⟨Nat.le_refl _,(fun d hd=>by cases hd),List.Pairwise.nil,.inl rfl,fun _=>rfl,fun h=>absurd rfl h,fun h=>(by cases h),fun h=>(by cases h),fun _=> ?_⟩;refine Kr hg.b.ris (fun x hx hb=> ?_) (fun b hb hm x hx hi=> ?_)
  ·rcases h.mr hp x hx hb with h1 | h1
   ·exact h1
   ·rw [hc]at h1;cases h1
  ·rcases h.mb hp b hb hm x hx hi with h1 | h1
   ·exact h1
   ·rw [hc]at h1;cases h1
 ·rw [e];have hr:=h.ris;have hgh:=h.gh;rw [hc]at hr hgh;have drop:∀x,InB s.blobs x→(x∈mkd s.blobs∨x∈c.grey)→x∈mkd s.blobs∨x∈rest:=fun x hx hh=>hh.imp id fun h2=>by
   rw [hc]at h2;rcases List.mem_cons.1 h2 with rfl | h2
   ·exact absurd hx hn
   ·exact h2
  exact⟨by show 1≤2;omega,fun x hx=>hgh x (List.mem_cons_of_mem _ hx),(List.pairwise_cons.1 hr).2,.inl rfl,fun h=>absurd rfl h,fun _=>rfl,fun _ x hx hi=>drop x hi (h.mr hp x hx hi),fun _ b hb hm x hx hi=>drop x hi (h.mb hp b hb hm x hx hi),fun h=>by cases h⟩
 ·rw [e];have hr:=h.ris;have hgh:=h.gh;rw [hc]at hr hgh;have drop:∀x,InB s.blobs x→(x∈mkd s.blobs∨x∈c.grey)→x∈mkd s.blobs∨x∈rest:=fun x hx hh=>by
   rcases hh with h2 | h2
   ·exact .inl h2
   ·rw [hc]at h2;rcases List.mem_cons.1 h2 with rfl | h2
    ·exact .inl (qo.2 ⟨_,List.getElem_mem hi,hm,hd⟩)
    ·exact .inr h2
  exact⟨by show 1≤2;omega,fun x hx=>hgh x (List.mem_cons_of_mem _ hx),(List.pairwise_cons.1 hr).2,.inl rfl,fun h=>absurd rfl h,fun _=>rfl,fun _ x hx hi=>drop x hi (h.mr hp x hx hi),fun _ b hb hm x hx hi=>drop x hi (h.mb hp b hb hm x hx hi),fun h=>by cases h⟩
 ·have e1:(zm s c).1= { s with blobs:=s.blobs.set i { s.blobs[i] with mark:=true } }:=by rw [e]
  have e2:(zm s c).2=⟨1,uni (rest++kids s.blobs d), []⟩:=by rw [e]
  have hE:EqM s.blobs (s.blobs.set i { s.blobs[i] with mark:=true }):=ZJ hi true;rw [e1,e2];have hgh:=h.gh;rw [hc]at hgh;have keep:∀x,(x∈mkd s.blobs∨x∈c.grey)→x∈mkd (s.blobs.set i { s.blobs[i] with mark:=true })∨x∈uni (rest++kids s.blobs d):=fun x hh=>by
   rw [JB hi,qS,List.mem_append];rcases hh with h2 | h2
   ·exact .inl (.inl h2)
   ·rw [hc]at h2;rcases List.mem_cons.1 h2 with rfl | h2
    ·exact .inl (.inr hd.symm)
    ·exact .inr (.inl h2)
  refine⟨by show 1≤2;omega,fun x hx=> ?_,kO _,.inl rfl,fun h=>absurd rfl h,fun _=>rfl,fun _ x hx hb=> ?_,fun _ b hb hmb x hx hbx=> ?_,fun h=>by cases h⟩
  ·rcases List.mem_append.1 (qS.1 hx) with h2 | h2
   ·exact hgh x (List.mem_cons_of_mem _ h2)
   ·exact VS h2
  ·rw [yD hE]at hx;exact keep x (h.mr hp x hx ((yz hE).1 hb))
  ·have hk:kids (s.blobs.set i { s.blobs[i] with mark:=true }) b.dig=kids s.blobs b.dig:=uX hE _;have hbx':=(yz hE).1 hbx;have hx':x∈kids s.blobs b.dig:=by rw [←hk];exact hx
   rcases List.mem_or_eq_of_mem_set hb with h2 | h2
   ·exact keep x (h.mb hp b h2 hmb x hx' hbx')
   ·subst h2;right;rw [qS,List.mem_append];have hx2:x∈kids s.blobs s.blobs[i].dig:=hx';rw [hd]at hx2;exact .inr hx2
theorem Jc {l m:List BlobP} (h:l.Sublist m):usd l≤usd m:=by
 induction h with
 | slnil=>exact Nat.le_refl _
 | cons a _ ih=>unfold usd at *;simp only [List.map_cons,List.sum_cons];omega
 | cons_cons a _ ih=>unfold usd at *;simp only [List.map_cons,List.sum_cons];omega
theorem kB {l:List BlobP} (hr:RisesBy (·.dig) l) (i:Nat):RisesBy (·.dig) (l.eraseIdx i):=List.Pairwise.sublist (List.eraseIdx_sublist _ _) hr
theorem jQ {l:List BlobP} (hr:RisesBy (·.dig) l) {i:Nat} (hi:i<l.length) {b:BlobP} (hb:b∈l):b=l[i]∨b∈l.eraseIdx i:=by
 obtain⟨j,hj,rfl⟩:=List.mem_iff_getElem.1 hb;by_cases h:j=i
 ·subst h;exact .inl rfl
 ·right;rw [List.mem_eraseIdx_iff_getElem];exact⟨j,hj,h,rfl⟩
theorem zV (s:StoP) (c:ColP):(s.blobs.findIdx? (fun b=>Op.bytesLess c.at_ b.dig)=none∧zZ s c=(s,⟨0, [], []⟩, [])) ∨
  (∃i,∃hi:i<s.blobs.length,s.blobs.findIdx? (fun b=>Op.bytesLess c.at_ b.dig)=some i∧s.blobs[i].mark=true∧zZ s c=(s,⟨2, [],s.blobs[i].dig⟩, [])) ∨
  (∃i,∃hi:i<s.blobs.length,s.blobs.findIdx? (fun b=>Op.bytesLess c.at_ b.dig)=some i∧s.blobs[i].mark=false∧zZ s c=({ s with blobs:=s.blobs.eraseIdx i },⟨2, [],s.blobs[i].dig⟩,s.blobs[i].dig)):=by
 unfold zZ;cases hf:s.blobs.findIdx? (fun b=>Op.bytesLess c.at_ b.dig) with
 | none=>exact .inl ⟨rfl,by simp only [hf]⟩
 | some i =>
  right;obtain⟨hi,hd,_⟩:=List.findIdx?_eq_some_iff_getElem.1 hf;cases hm:s.blobs[i].mark with
  | true=>exact .inl ⟨i,hi,rfl,hm,by simp only [hf,List.getElem?_eq_getElem hi,hm,if_true]⟩
  | false=>exact .inr ⟨i,hi,rfl,hm,by simp only [hf,List.getElem?_eq_getElem hi,hm,Bool.false_eq_true,if_false]⟩
section
variable {s:StoP} {i:Nat}
theorem Q0 (hg:GoodS s) (hi:i<s.blobs.length) (hm:s.blobs[i].mark=false) (hsw:∀x,Rch s.blobs (rts s) x→x∈mkd s.blobs):¬Rch s.blobs (rts s) s.blobs[i].dig:=fun h=>by
 obtain⟨b,hb,hmb,e⟩:=qo.1 (hsw _ h)
 have:=hg.b.ris.inj hb (List.getElem_mem hi) e
 subst this
 rw [hm]at hmb;cases hmb
theorem jT (hg:GoodS s) (hi:i<s.blobs.length) (hn:¬Rch s.blobs (rts s) s.blobs[i].dig):s.blobs[i].pins=0:=by
 rcases Nat.eq_zero_or_pos s.blobs[i].pins with h | h
 ·exact h
 ·exact absurd (.root (Yq (List.getElem_mem hi) h) ⟨_,List.getElem_mem hi,rfl⟩) hn
theorem XF (hi:i<s.blobs.length) (hp:s.blobs[i].pins=0):xq (s.blobs.eraseIdx i)=xq s.blobs:=by
 unfold xq;rw [kL s.blobs i hi (by simp [hp])]
theorem Va (hi:i<s.blobs.length) (hp:s.blobs[i].pins=0):rts { s with blobs:=s.blobs.eraseIdx i }=rts s:=by
 show jn s.ents++xq (s.blobs.eraseIdx i)=_;rw [XF hi hp];rfl
theorem VI (hg:GoodS s) (hi:i<s.blobs.length) {x:List UInt8} (hx:InB s.blobs x) (hne:x≠s.blobs[i].dig):InB (s.blobs.eraseIdx i) x:=by
 obtain⟨b,hb,rfl⟩:=hx;rcases jQ hg.b.ris hi hb with h | h
 ·subst h;exact absurd rfl hne
 ·exact⟨b,h,rfl⟩
theorem QM (hg:GoodS s) (hi:i<s.blobs.length) (hn:¬Rch s.blobs (rts s) s.blobs[i].dig):Rch (s.blobs.eraseIdx i) (rts { s with blobs:=s.blobs.eraseIdx i })=Rch s.blobs (rts s):=by
 rw [Va hi (jT hg hi hn)];refine funext fun x=>propext ⟨fun h=>h.sub hg.b.ris (kB hg.b.ris i) (kX _ _) (fun _ h=>h),fun h=>h.keepb hg.b.ris (kB hg.b.ris i) (kX _ _) (fun _ h=>h) (fun y hy=>VI hg hi hy.inB (fun e=>hn (e▸hy)))⟩
theorem jY (hg:GoodS s) (hi:i<s.blobs.length) (hn:¬Rch s.blobs (rts s) s.blobs[i].dig):GoodS { s with blobs:=s.blobs.eraseIdx i }:=by
 refine⟨⟨Nat.le_trans (List.eraseIdx_sublist _ _).length_le hg.b.len,fun b hb=>hg.b.one b (kX _ _ b hb),kB hg.b.ris i⟩,hg.e,hg.room,Nat.le_trans ?_ hg.used,hg.clock,fun x hx=>⟨(hg.ent x hx).1,fun p hp=> ?_⟩⟩
 ·show usd (s.blobs.eraseIdx i)≤usd s.blobs;exact Jc (List.eraseIdx_sublist s.blobs i)
 ·obtain⟨b,hb,e1,e2⟩:=(hg.ent x hx).2 p hp;rcases jQ hg.b.ris hi hb with h | h
  ·subst h;exact absurd (.root (by rw [e1];exact Q2 hx hp) ⟨_,hb,rfl⟩) hn
  ·exact⟨b,h,e1,e2⟩
theorem Vx (hi:i<s.blobs.length) (hm:s.blobs[i].mark=false):mkd (s.blobs.eraseIdx i)=mkd s.blobs:=by
 unfold mkd;rw [kL s.blobs i hi hm]
end
theorem Ki {s:StoP} {c:ColP} (hg:GoodS s) (hp:c.phase=2) (h:GoodC s c):GoodS (zZ s c).1∧GoodC (zZ s c).1 (zZ s c).2.1∧Rch (zZ s c).1.blobs (rts (zZ s c).1)=Rch s.blobs (rts s)∧(zZ s c).1.ents=s.ents∧(zZ s c).1.room=s.room∧(zZ s c).1.clock=s.clock:=by
 rcases zV s c with ⟨_,e⟩ | ⟨i,hi,_,hm,e⟩ | ⟨i,hi,_,hm,e⟩
 ·rw [e];exact⟨hg,⟨by show 0≤2;omega,(fun d hd=>by cases hd),List.Pairwise.nil,.inl rfl,fun _=>rfl,fun _=>rfl,fun h=>(by cases h),fun h=>(by cases h),fun h=>by cases h⟩,rfl,rfl,rfl,rfl⟩
 ·rw [e];exact⟨hg,⟨Nat.le_refl _,(fun d hd=>by cases hd),List.Pairwise.nil,.inr (by show hexC s.blobs[i].dig=0;rw [(hg.b.one _ (List.getElem_mem hi)).1];exact zu _),fun _=>rfl,fun h=>absurd rfl h,fun h=>(by cases h),fun h=>(by cases h),fun _=>h.sw hp⟩,rfl,rfl,rfl,rfl⟩
 ·have hn:=Q0 hg hi hm (h.sw hp);rw [e];refine⟨jY hg hi hn,⟨Nat.le_refl _,(fun d hd=>by cases hd),List.Pairwise.nil,.inr (by show hexC s.blobs[i].dig=0;rw [(hg.b.one _ (List.getElem_mem hi)).1];exact zu _),fun _=>rfl,fun h=>absurd rfl h,fun h=>(by cases h),fun h=>(by cases h),fun _ x hx=> ?_⟩,QM hg hi hn,rfl,rfl,rfl⟩;show x∈mkd (s.blobs.eraseIdx i);rw [Vx hi hm];exact h.sw hp x (by rw [←QM hg hi hn];exact hx)
def unm (bl:List BlobP):Nat:=(bl.filter (fun b=> !b.mark)).length
theorem Uf (bl:List BlobP):unm bl≤bl.length:=List.length_filter_le _ _
theorem yY {p:BlobP→Bool}:∀ {l:List BlobP} {i:Nat} {y:BlobP} (hi:i<l.length),p l[i]=true→p y=false→((l.set i y).filter p).length+1=(l.filter p).length
 | x::l,0,y,_,h1,h2=>by
  rw [List.set_cons_zero,List.filter_cons_of_neg (by simp [h2]),List.filter_cons_of_pos (by simpa using h1)];rfl
 | x::l,i+1,y,hi,h1,h2=>by
  have ih:=yY (l:=l) (i:=i) (y:=y) (by simpa using hi) (by simpa using h1) h2
  rw [List.set_cons_succ]
  by_cases hx:p x=true
  ·rw [List.filter_cons_of_pos hx,List.filter_cons_of_pos hx,List.length_cons,List.length_cons,ih]
  ·rw [List.filter_cons_of_neg hx,List.filter_cons_of_neg hx,ih]
def Qn (k:Nat) (bl:List BlobP):Prop:=∀b∈bl,(qK b.data).1.length≤k
theorem y9 (bl:List BlobP):Qn 8 bl:=fun b _=>yc b.data
theorem XU {k:Nat} {bl:List BlobP} (h:Qn k bl) (x:List UInt8):(kids bl x).length≤k:=by
 unfold kids;cases hf:bl.findIdx? (fun b=>b.dig==x) with
 | none=>exact Nat.zero_le _
 | some i =>
  have hi:i<bl.length:=(List.findIdx?_eq_some_iff_getElem.1 hf).1;simp only [List.getElem?_eq_getElem hi,List.length_map];exact h _ (List.getElem_mem hi)
theorem uL {k:Nat} {s:StoP} {c:ColP} (hk:Qn k s.blobs) (h:(zm s c).2.phase=1):k*unm (zm s c).1.blobs+(zm s c).2.grey.length+1≤k*unm s.blobs+c.grey.length:=by
 rcases qi s c with ⟨_,e⟩ | ⟨d,rest,hc,_,e⟩ | ⟨d,rest,i,hi,hc,_,_,_,e⟩ | ⟨d,rest,i,hi,hc,_,hd,hm,e⟩
 ·rw [e]at h;cases h
 ·rw [e,hc];simp only [List.length_cons];omega
 ·rw [e,hc];simp only [List.length_cons];omega
 ·rw [e,hc];have h1:=yY (p:=fun b=> !b.mark) (y:= { s.blobs[i] with mark:=true }) hi (by simp [hm]) (by simp);have h2:=vR (rest++kids s.blobs d);have h3:=XU hk d;rw [List.length_append]at h2;show k*unm (s.blobs.set i _)+(uni (rest++kids s.blobs d)).length+1≤k*unm s.blobs+(d::rest).length;have h4:unm s.blobs=unm (s.blobs.set i { s.blobs[i] with mark:=true })+1:=by unfold unm;exact h1.symm
  rw [h4,Nat.mul_add,Nat.mul_one,List.length_cons];omega
theorem vd (s:StoP) (c:ColP):(zm s c).2.phase=1∨(zm s c).2=⟨2, [], []⟩:=by
 rcases qi s c with ⟨_,e⟩ | ⟨_,_,_,_,e⟩ | ⟨_,_,_,_,_,_,_,_,e⟩ | ⟨_,_,_,_,_,_,_,_,e⟩
 ·rw [e];exact .inr rfl
 ·rw [e];exact .inl rfl
 ·rw [e];exact .inl rfl
 ·rw [e];exact .inl rfl
def ahead (a:List UInt8) (bl:List BlobP):Nat:=(bl.filter (fun b=>Op.bytesLess a b.dig)).length
theorem yI {s:StoP} {c:ColP} (hg:GoodS s) (hc:GoodC s c) (hp:c.phase=1∨c.phase=2):GoodS (zy s c).1∧GoodC (zy s c).1 (zy s c).2.1∧Rch (zy s c).1.blobs (rts (zy s c).1)=Rch s.blobs (rts s)∧(zy s c).1.ents=s.ents∧(zy s c).1.room=s.room∧(zy s c).1.clock=s.clock:=by
 unfold zy;rcases hp with hp | hp
 ·rw [if_pos hp];have e:=(qu s c).2;refine⟨uK c hg,uc hg hp hc,YO s c,?_,?_,?_⟩<;>(show _=_;rw [e])
 ·rw [if_neg (by omega)];exact Ki hg hp hc
end Go.Proofs.YtnmlbflhnnmoeaaGreat
