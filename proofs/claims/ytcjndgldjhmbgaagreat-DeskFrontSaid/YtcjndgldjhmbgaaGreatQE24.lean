/- Lemmas, as stated. -/
import Derived.Test.YtcjndgldjhmbgaaGreatQE22
import Derived.Test.YtcjndgldjhmbgaaGreatQE23
set_option linter.unusedVariables false
set_option linter.unusedSimpArgs false
set_option maxRecDepth 100000
set_option maxHeartbeats 16000000
open Go.Proofs.Tryz
open Go.Value renaming slice->aw,int->ax,string->az
open Go.IntKind renaming i64->ay
open Option renaming none->aB,some->aC
open And renaming intro->aD
namespace Go.Proofs.YtcjndgldjhmbgaaGreat
open Go.RowKit
variable {c:ColP} {l:List BlobP} {m n:Nat} {s:StoP} {D:ac}
structure Bsy (m:Nat) (s:StoP) (c:ColP):Prop where
 g:GoodS s
 gc:GoodC s c
 gr:8*unm s.aE+c.aI.length<=296+9*m
 k7:∀x∈s.aF,∃j,j<7/\x.key=keyS j
 ck:s.aG<=24+m
theorem Bsy.e7 (h:Bsy m s c):s.aF.length<=7:=by
 have h1:=Yb (ks:=s.aF.map (·.key)) (by
  have:Rises (s.aF.map (·.key)):=h.g.e.ris.map;exact this.nodup) (fun k hk=>by
  obtain⟨x,hx,rfl⟩:=List.mem_map.1 hk;exact h.k7 x hx)
 rwa [List.length_map]at h1
theorem Bsy.up (h:Bsy m s c) (hn:m<=n):Bsy n s c:=⟨h.g,h.gc,by have:=h.gr;omega,h.k7,by have:=h.ck;omega⟩
theorem z3m (hg:GoodS s):unm s.aE<=24:=Nat.le_trans (z3n _) hg.b.len
theorem z3d (hg:GoodS s):(rts s).length<=104:=by
 have h4:=vK s.aF (fun x hx=>(zk (hg.e.one x hx).2.1).1);have h5:=Z3 s.aE;have h6:(rts s).length=(uz s.aF).length+(uI s.aE).length:=List.length_append;have:=hg.b.len;have:=hg.e.len;omega
theorem Bsy.begin (h:Bsy m s c):Bsy m (Xf s) (Ur s):=by
 refine⟨QZ h.g,Xg h.g,?_,h.k7,h.ck⟩;have h1:unm (Xf s).aE<=24:=z3m (QZ h.g);have h3:(Ur s).aI.length<=(rts s).length:=QH _;have:=z3d h.g;omega
theorem QB {b:BlobP} (h:b∈putB l D):b∈l\/b=⟨shaS D,D,0,false⟩:=by
 unfold putB at h;cases hf:l.findIdx? (fun b=>b.dig==shaS D) with
 | none =>
  rw [hf]at h;rcases List.mem_cons.1 ((q9 _ _).mem_iff.1 h) with h | h
  ·exact .inr h
  ·exact .inl h
 | some i=>rw [hf]at h;exact .inl h
theorem uN {p:BlobP->Bool} (l:List BlobP) (D:ac):((putB l D).filter p).length<=(l.filter p).length+1:=by
 unfold putB;cases hf:l.findIdx? (fun b=>b.dig==shaS D) with
 | none =>
  show((srt _ _).filter p).length<=_;rw [((q9 _ _).filter p).length_eq,List.filter_cons];split
  ·simp
  ·omega
 | some i=>show(l.filter p).length<=_;omega
theorem Bsy.put (h:Bsy m s c) (hf:Fits s D):Bsy (m+1) (zG (zH s D) c [shaS D]).1 (zG (zH s D) c [shaS D]).2:=by
 have ht:GoodS (zH s D):=hf.good;have hsub:∀b∈s.aE,b∈(zH s D).aE:=fun b hb=>Kl hb;refine⟨ut c _ ht,xP h.gc h.g.b.ris ht.b.ris (fun d hd=> ?_) (fun x hx=> ?_) (fun x hx=> ?_) (fun x=> ?_) (fun x hx=> ?_),?_,?_,?_⟩
 ·rw [List.mem_singleton.1 hd];exact zA _
 ·left;rcases List.mem_append.1 hx with h1 | h1
  ·exact List.mem_append_left _ h1
  ·obtain⟨b,hb,rfl⟩:=List.mem_map.1 h1;obtain⟨h2,h3⟩:=List.mem_filter.1 hb;rcases QB h2 with h4 | h4
   ·exact List.mem_append_right _ (List.mem_map.2 ⟨b,List.mem_filter.2 ⟨h4,h3⟩,rfl⟩)
   ·subst h4;simp at h3
 ·obtain⟨b,hb,rfl⟩:=hx;rcases QB hb with h4 | h4
  ·exact .inl ⟨b,h4,rfl⟩
  ·subst h4;exact .inr (List.mem_singleton.2 rfl)
 ·rw [qA,qA];constructor
  ·rintro⟨b,hb,hm,e⟩;rcases QB hb with h4 | h4
   ·exact⟨b,h4,hm,e⟩
   ·subst h4;cases hm
  ·rintro⟨b,hb,hm,e⟩;exact⟨b,hsub b hb,hm,e⟩
 ·exact(vG ht.b.ris h.g.b.ris hsub hx).symm
 ·have h1:=uu (zH s D) c [shaS D];have h2:unm (zH s D).aE<=unm s.aE+1:=uN s.aE D;have h3:=h.gr;simp only [List.length_singleton]at h1;omega
 ·rw [kD];exact h.k7
 ·rw [kD];have:=h.ck;show s.aG<=_;omega
theorem Z1 {l:List EntP} {x y:EntP} (h:y∈x8 l x):y∈l\/(y.key=x.key/\y.parts=x.parts):=by
 unfold x8 at h;cases hf:l.findIdx? (fun y=>y.key==x.key) with
 | none =>
  rw [hf]at h;rcases List.mem_cons.1 ((q9 _ _).mem_iff.1 h) with h | h
  ·subst h;exact .inr ⟨rfl,rfl⟩
  ·exact .inl h
 | some i =>
  rw [hf]at h;rcases List.mem_or_eq_of_mem_set h with h | h
  ·exact .inl h
  ·subst h;exact .inr ⟨rfl,rfl⟩
theorem Bsy.pute {K:ac} {ps:List PartP} (h:Bsy m s c) (hK:∃j,j<7/\K=keyS j) (hp:chk ps=0) (hh:qQ s.aE ps=0) (hc:s.aG<1099511627776):Bsy (m+1) (zG (vu s K ps) c (ps.map (·.dig))).1 (zG (vu s K ps) c (ps.map (·.dig))).2:=by
 have hKx:hexC K=0:=by obtain⟨j,_,rfl⟩:=hK;exact zA _
 have ht:GoodS (vu s K ps):=jd h.g hKx hp (yz hh) hc (by have:=h.e7;omega);refine⟨ut c _ ht,xP h.gc h.g.b.ris ht.b.ris (fun d hd=> ?_) (fun x hx=> ?_) (fun x hx=> .inl hx) (fun x=>Iff.rfl) (fun x hx=>rfl),?_,?_,?_⟩
 ·obtain⟨p,hpm,rfl⟩:=List.mem_map.1 hd;exact((zk hp).2 p hpm).2.1
 ·rcases List.mem_append.1 hx with h1 | h1
  ·obtain⟨y,hy,h2⟩:=List.mem_flatMap.1 h1;rcases Z1 hy with h3 | ⟨_,h3⟩
   ·exact .inl (List.mem_append_left _ (List.mem_flatMap.2 ⟨y,h3,h2⟩))
   ·rw [h3]at h2;exact .inr h2
  ·exact .inl (List.mem_append_right _ h1)
 ·have h1:=uu (vu s K ps) c (ps.map (·.dig));have h2:unm (vu s K ps).aE=unm s.aE:=rfl;have h3:=h.gr;have h4:=(zk hp).1;rw [List.length_map]at h1;omega
 ·rw [kD];intro x hx;rcases Z1 (show x∈x8 s.aF _ from hx) with h3 | ⟨h3,_⟩
  ·exact h.k7 x h3
  ·rw [h3];exact hK
 ·rw [kD];have:=h.ck;show s.aG+1<=_;omega
theorem Bsy.hold {i:Nat} (h:Bsy m s c) (hi:i<s.aE.length) (hn:n<=5):Bsy (m+1) (zG (kf s i s.aE[i] n) c [s.aE[i].dig]).1 (zG (kf s i s.aE[i] n) c [s.aE[i].dig]).2:=by
 have ht:GoodS (kf s i s.aE[i] n):=ur h.g hi hn;have hmem:∀b∈(kf s i s.aE[i] n).aE,∃a∈s.aE,a.dig=b.dig/\a.data=b.data/\a.mark=b.mark/\(a.pins=b.pins\/b.dig=s.aE[i].dig):=fun b hb=>by
  rcases List.mem_or_eq_of_mem_set hb with h1 | h1
  ·exact⟨b,h1,rfl,rfl,rfl,.inl rfl⟩
  ·subst h1;exact⟨_,List.getElem_mem hi,rfl,rfl,rfl,.inr rfl⟩
 have hmem2:∀a∈s.aE,∃b∈(kf s i s.aE[i] n).aE,b.dig=a.dig/\b.data=a.data/\b.mark=a.mark:=fun a ha=>by
  obtain⟨j,hj,rfl⟩:=List.mem_iff_getElem.1 ha;by_cases hij:i=j
  ·subst hij;exact⟨_,List.mem_iff_getElem.2 ⟨i,by show i<(s.aE.set i _).length;rw [List.length_set];exact hi,rfl⟩,by simp [kf],by simp [kf],by simp [kf]⟩
  ·have hjl:j<(s.aE.set i { s.aE[i] with pins:=n }).length:=by rw [List.length_set];exact hj
   exact⟨s.aE[j],List.mem_iff_getElem.2 ⟨j,hjl,by show(s.aE.set i { s.aE[i] with pins:=n })[j]'hjl=_;rw [List.getElem_set_ne hij]⟩,rfl,rfl,rfl⟩
 refine⟨ut c _ ht,xP h.gc h.g.b.ris ht.b.ris (fun d hd=> ?_) (fun x hx=> ?_) (fun x hx=> ?_) (fun x=> ?_) (fun x hx=> ?_),?_,?_,?_⟩
 ·rw [List.mem_singleton.1 hd,(h.g.b.one _ (List.getElem_mem hi)).1];exact zA _
 ·rcases List.mem_append.1 hx with h1 | h1
  ·exact .inl (List.mem_append_left _ h1)
  ·obtain⟨b,hb,rfl⟩:=List.mem_map.1 h1;obtain⟨h2,h3⟩:=List.mem_filter.1 hb;obtain⟨a,ha,e1,_,_,e4⟩:=hmem b h2;rcases e4 with e4 | e4
   ·exact .inl (List.mem_append_right _ (List.mem_map.2 ⟨a,List.mem_filter.2 ⟨ha,by rw [e4];exact h3⟩,e1⟩))
   ·exact .inr (List.mem_singleton.2 e4)
 ·obtain⟨b,hb,rfl⟩:=hx;obtain⟨a,ha,e1,_⟩:=hmem b hb;exact .inl ⟨a,ha,e1⟩
 ·rw [qA,qA];constructor
  ·rintro⟨b,hb,hm,rfl⟩;obtain⟨a,ha,e1,_,e3,_⟩:=hmem b hb;exact⟨a,ha,by rw [e3];exact hm,e1⟩
  ·rintro⟨a,ha,hm,rfl⟩;obtain⟨b,hb,e1,_,e3⟩:=hmem2 a ha;exact⟨b,hb,by rw [e3];exact hm,e1⟩
 ·obtain⟨a,ha,rfl⟩:=hx;obtain⟨b,hb,e1,e2,_⟩:=hmem2 a ha;rw [<-e1,xr ht.b.ris hb,e1,xr h.g.b.ris ha,e2]
 ·have h1:=uu (kf s i s.aE[i] n) c [s.aE[i].dig];have h2:unm (kf s i s.aE[i] n).aE<=24:=z3m ht;have h5:unm (kf s i s.aE[i] n).aE<=unm s.aE+1:=by
   unfold unm kf;have:∀(l:List BlobP) (k:Nat) (y:BlobP) (p:BlobP->Bool),((l.set k y).filter p).length<=(l.filter p).length+1:=fun l=>by
    induction l with
    | nil=>intro k y p;simp
    | cons a l ih =>
     intro k y p;cases k with
     | zero=>rw [List.set_cons_zero,List.filter_cons,List.filter_cons];split<;>split<;>first | omega | (simp only [List.length_cons];omega)
     | succ k=>rw [List.set_cons_succ,List.filter_cons,List.filter_cons];have:=ih k y p;split<;>first | omega | (simp only [List.length_cons];omega)
   exact this _ _ _ _
  have h3:=h.gr;simp only [List.length_singleton]at h1;omega
 ·rw [kD];exact h.k7
 ·rw [kD];have:=h.ck;show s.aG<=_;omega
open Go.Maps
theorem z1m {P Q:Prop} (h:Hid P->Q) (p:P):Q:=h (Lib.hid p)
theorem OwSt.mixC {w7 w8:World} {base:Nat} {v1 v1' v2:Value} {N:ai} (h:OwSt w7 base v1 v2 s N) (hN:∀b,N b->b<w7.heap.size) (hv:RwX BlobS 88 w8 w7.heap.size v1' l (fun b=>b<w7.heap.size)) (hbs:base<=w7.heap.size) (hbl:Below w7.heap.size w7 w8):OwSt w8 base v1' v2 { s with aE:=l } N:=by
 have h1:∀g,v1'.ownBlock=aC g->w7.heap.size<=g:=fun g e=>(hv.rwo.blk e).1;have h2:∀g,v2.ownBlock=aC g->g<w7.heap.size:=fun g e=>(h.e.rwo.blk e).2;refine⟨RwX.wider (hv.lower hbs) (N':=fun g=>N g\/v2.ownBlock=aC g) fun b hb=> .inl ?_,RwX.below (RwX.wider h.e (N':=fun g=>N g\/v1'.ownBlock=aC g) fun b hb=> ?_) hbl,fun g e1 e2=> ?_⟩
 ·rcases hb with hb | hb
  ·exact hN b hb
  ·exact h2 b hb
 ·rcases hb with hb | hb
  ·exact .inl (.inl hb)
  ·exact .inr (h1 b hb)
 ·have:=h1 g e1;have:=h2 g e2;omega
theorem Qg (A:ae) (c:Nat) (B:ae) (d:Nat) (s:StoP) (Ag:ae) (ng:Nat) (cp:ColP) (D:ae) (nd:Nat) (ds:List ac) (b0:Nat) (N:ai) (w:World) (hg:GoodS s) (ho:OwSt w b0 (aw A s.aE.length c) (aw B s.aF.length d) s N) (hb0:b0<=w.heap.size) (hN:∀b,N b->b<w.heap.size) (hgl:cp.aI.length<=2000) (hph:cp.aJ<=2) (hc:RdC w Ag ng cp) (hdn:ds.length<=nd) (hds:ds.length<=1000) (hD:Rd w 1 D ds.length (strs ds)) :
  Calls Tryz.prog 159 #[.agg #[aw A s.aE.length c,aw B s.aF.length d,ax ay s.aH,ax ay s.aG],coV (aw Ag cp.aI.length ng) cp,aw D ds.length nd] w fun e w' =>
   ∃v1 v3,e= .returned (.tuple #[stV v1 (aw B s.aF.length d) s,coV v3 (zG s cp ds).2])/\OwSt w' b0 v1 (aw B s.aF.length d) (zG s cp ds).1 N/\w'.ownsRow w.heap.size 9 1 v3 (zG s cp ds).2.aI.length (strs (zG s cp ds).2.aI)/\Below w.heap.size w w':=by
 have hlb:s.aE.length<=24:=hg.b.len;have HKP0:=sqH (show zG s cp ds=zG s cp ds from rfl);obtain⟨aJ,aI,at_⟩:=cp;simp only at hgl hph;obtain⟨w0,hw0,hS,hC,hR,hQ,hbx⟩:=ql w 27 30 [aw A s.aE.length c,aw B s.aF.length d,ax ay s.aH,ax ay s.aG] [ax ay aJ,aw Ag aI.length ng,az ⟨at_.toArray⟩] [aw aB 0 0,aw aB 0 0,ax ay 0,ax ay 0] [ax ay 0,aw aB 0 0,az ⟨#[]⟩];have hc0:=hc.below hbx;obtain⟨H,hH⟩:=wU w.heap.size
 have how:OwSt w b0 (aw A s.aE.length c) (aw B s.aF.length d) s (fun b=>N b\/H<=b/\b<w0.heap.size):=ho.wider fun b hb=>hb.imp id (fun h=>wj);have ho0:=how.below hbx;have hD0:=hD.below hbx;generalize hats:(⟨at_.toArray⟩:ByteArray)=ats at *
 rw [<-hH]at hS hC hR hQ hbx hb0 hN ⊢
 have HN:=sqH hN;clear hN;have hHl:H+1+1+1<w0.heap.size:=hQ.lt;obtain⟨HO0,HSX,HSB,HRG⟩:=sqJ4 ho0 (show ∀W,Below w0.heap.size w0 W->Arr W H 27 [aw A s.aE.length c,aw B s.aF.length d,ax ay s.aH,ax ay s.aG]/\Arr W (H+1) 30 [ax ay aJ,aw Ag aI.length ng,az ats]/\Arr W (H+2) 27 [aw aB 0 0,aw aB 0 0,ax ay 0,ax ay 0]/\Arr W (H+3) 30 [ax ay 0,aw aB 0 0,az ⟨#[]⟩]/\Rd W 1 D ds.length (strs ds) from fun W h=>⟨hS.below h,hC.below h,hR.below h,hQ.below h,hD0.below h⟩) (show ∀W,Below w0.heap.size w0 W->wC W (H+1) (ax ay aJ) (aw Ag aI.length ng) (az ats) from fun W h=>sqC3 (hC.below h)) (show ∀W,Below w0.heap.size w0 W->Rd W 1 Ag aI.length (strs aI) from fun W h=>(hc0.below h).rd);have hgcap:aI.length<=ng:=hc0.cap;have HBX:=sqH hbx;have HG:=sqH hg;clear hg ho how ho0 hc hc0 hD hD0 hS hC hR hQ hbx;go_enter func159,ntmps159;go_wp2_with fail;rw [<-hw0,<-hH];have HH:=sqH hH;have HATS:=sqH hats;clear hw0 hH hats;apply z1m;intro REST;refine wp_region_held_drew (S:=(fun w'=>wC w' (H+1) (ax ay aJ) (aw Ag aI.length ng) (az ats))) wm ?_ (fun hHeld=> ?_)
 ·exact HSB.o _ (Below.refl _ w0).drew
 have hB:=(Below.refl w0.heap.size w0).drew;generalize w0.drew=wn0 at *
 refine wM 0 ?_;refine wM 1 ?_;refine wM 2 ?_;refine wM 3 ?_;refine wM 5 ?_;refine wM 6 ?_;refine wpAnyH_ready (rs:= [4,8]) wm ws ?_;refine AllReadyH.cons (o:=_) rfl (fun K hK=> ?_) ?_
 ·
  go_simp;refine(kK Ag ng aI wn0 wj (HRG.o _ hB)).mono ?_;rintro e5 w5 ⟨v5,rfl,ho5,hb5⟩;obtain⟨A5,c5,rfl, -, -⟩:=Rd.of_own' ho5;dsimp only;refine k8 hK ?_ (Below wn0.heap.size wn0) (fun W=>W.ownsRow w0.heap.size 9 1 (aw A5 aI.length c5) aI.length (strs aI)) ?_ ?_ (fun wn1 hHeld hst hnew=> ?_)
  ·(exact HSB.o _ (hB.trans (Below.mono (show Below wn0.heap.size wn0 _ from by(first | exact(Below.refl _ _).alloc ab _ | exact hb5)) hB.size)))
  ·(first | exact(Below.refl _ _).alloc ab _ | exact hb5)
  ·(exact zb ho5 hB.size)
  replace hB:=wg hB hst;have hl:=hnew;clear hnew ho5 hb5;clear hst;clear hK K
  refine wM 7 ?_;refine wQ 8 fun K hK=>?_;go_simp;refine k8 hK ?_ (Below wn1.heap.size wn1) (fun W=>Arr W wn1.heap.size 30 [ax ay 0,aw aB 0 0,az ⟨#[]⟩]/\w0.heap.size<=wn1.heap.size) ?_ ?_ (fun wn2 hHeld hst hnew=> ?_)
  ·(exact HSB.o _ (hB.trans (Below.mono (show Below wn1.heap.size wn1 _ from by(first | exact(Below.refl _ _).alloc ab _ | exact hb5)) hB.size)))
  ·(first | exact(Below.refl _ _).alloc ab _ | exact hb5)
  ·(exact⟨Arr.new _ _ _,hB.size⟩)
  replace hB:=wg hB hst;replace hl:=zc hl hst;obtain⟨h8,hl8⟩:=hnew;obtain⟨g8,hg8⟩:=wU wn1.heap.size
  rw [<-hg8]at h8 hl8 ⊢
  clear hg8;clear hst;clear hK K
  try simp only [sqP]
  refine wQ 9 fun K hK=>?_;obtain⟨z0,z1,z2⟩:=sqC3 h8;obtain⟨f0,f1,f2⟩:=sqF3 h8;go_simp;clear z0 z1 z2 f0 f1 f2;have hn8:=zf hl h8 wo;refine k8 hK ?_ (fun W=>Arr W g8 30 [ax ay aJ,aw A5 aI.length c5,az ats]) (fun W=>Below w0.heap.size w0 W/\W.ownsRow w0.heap.size 9 1 (aw A5 aI.length c5) aI.length (strs aI)) ?_ ?_ (fun wn3 hHeld hF hG=> ?_)
  ·exact HSB.o _ (((hB.setCell (p:=⟨g8,0,aB⟩) hl8 _).setCell (p:=⟨g8,1,aB⟩) hl8 _).setCell (p:=⟨g8,2,aB⟩) hl8 _)
  ·exact h8.all3 _ _ _
  ·exact⟨((hB.setCell (p:=⟨g8,0,aB⟩) hl8 _).setCell (p:=⟨g8,1,aB⟩) hl8 _).setCell (p:=⟨g8,2,aB⟩) hl8 _,ku hl hn8 _ _ _⟩
  clear hB h8 hl hn8;clear hK K
  try simp only [sqP]
  refine wpAnyH_done wm ?_ _;dsimp only [Exit.then];clear hHeld;obtain⟨hB,hl⟩:=hG;have hall:=aD hB (aD hl (aD hF hl8));clear hB hl hF hl8;generalize wn3=wz at hall ⊢
  revert hall;revert wz;revert c5;revert A5;revert g8;exact REST.o
 refine AllReadyH.cons (o:=_) rfl (fun K hK=> ?_) ?_
 ·
  go_simp;refine k8 hK ?_ (Below wn0.heap.size wn0) (fun W=>Arr W wn0.heap.size 30 [ax ay 0,aw aB 0 0,az ⟨#[]⟩]/\w0.heap.size<=wn0.heap.size) ?_ ?_ (fun wn4 hHeld hst hnew=> ?_)
  ·(exact HSB.o _ (hB.trans (Below.mono (show Below wn0.heap.size wn0 _ from by(first | exact(Below.refl _ _).alloc ab _ | exact hb5)) hB.size)))
  ·(first | exact(Below.refl _ _).alloc ab _ | exact hb5)
  ·(exact⟨Arr.new _ _ _,hB.size⟩)
  replace hB:=wg hB hst;obtain⟨h8,hl8⟩:=hnew;obtain⟨g8,hg8⟩:=wU wn0.heap.size
  rw [<-hg8]at h8 hl8 ⊢
  clear hg8;clear hst;clear hK K
  try simp only [sqP]
  refine wQ 4 fun K hK=>?_;go_simp;refine(kK Ag ng aI wn4 wj (HRG.o _ hB)).mono ?_;rintro e5 w5 ⟨v5,rfl,ho5,hb5⟩;obtain⟨A5,c5,rfl, -, -⟩:=Rd.of_own' ho5;dsimp only;refine k8 hK ?_ (Below wn4.heap.size wn4) (fun W=>W.ownsRow w0.heap.size 9 1 (aw A5 aI.length c5) aI.length (strs aI)) ?_ ?_ (fun wn5 hHeld hst hnew=> ?_)
  ·(exact HSB.o _ (hB.trans (Below.mono (show Below wn4.heap.size wn4 _ from by(first | exact(Below.refl _ _).alloc ab _ | exact hb5)) hB.size)))
  ·(first | exact(Below.refl _ _).alloc ab _ | exact hb5)
  ·(exact zb ho5 hB.size)
  replace hB:=wg hB hst;replace h8:=h8.below hst;have hl:=hnew;clear hnew ho5 hb5;clear hst;clear hK K
  refine wM 7 ?_;refine wQ 9 fun K hK=>?_;obtain⟨z0,z1,z2⟩:=sqC3 h8;obtain⟨f0,f1,f2⟩:=sqF3 h8;go_simp;clear z0 z1 z2 f0 f1 f2;have hn8:=zf hl h8 wo;refine k8 hK ?_ (fun W=>Arr W g8 30 [ax ay aJ,aw A5 aI.length c5,az ats]) (fun W=>Below w0.heap.size w0 W/\W.ownsRow w0.heap.size 9 1 (aw A5 aI.length c5) aI.length (strs aI)) ?_ ?_ (fun wn6 hHeld hF hG=> ?_)
  ·exact HSB.o _ (((hB.setCell (p:=⟨g8,0,aB⟩) hl8 _).setCell (p:=⟨g8,1,aB⟩) hl8 _).setCell (p:=⟨g8,2,aB⟩) hl8 _)
  ·exact h8.all3 _ _ _
  ·exact⟨((hB.setCell (p:=⟨g8,0,aB⟩) hl8 _).setCell (p:=⟨g8,1,aB⟩) hl8 _).setCell (p:=⟨g8,2,aB⟩) hl8 _,ku hl hn8 _ _ _⟩
  clear hB h8 hl hn8;clear hK K
  try simp only [sqP]
  refine wpAnyH_done wm ?_ _;dsimp only [Exit.then];clear hHeld;obtain⟨hB,hl⟩:=hG;have hall:=aD hB (aD hl (aD hF hl8));clear hB hl hF hl8;generalize wn6=wz at hall ⊢
  revert hall;revert wz;revert c5;revert A5;revert g8;exact REST.o
 exact AllReadyH.nil;intro g8 A5 c5 wz hall;obtain⟨hB,hl,h8,hl8⟩:=hall;have h3:aJ=0\/aJ=1\/aJ=2:=wj
 obtain⟨hS,hC,hR,hQ,hD⟩:=HSX.o _ hB;have ho:=HO0.o.below hB;have hwz:=hB.size;have hbz:=hB;have hB:=HBX.o.trans (hB.mono (show H<=w0.heap.size by omega));have y0:=hC.c0;rcases h3 with h3 | h3 | h3
 ·have HKP:=sqH (show zG s ⟨aJ,aI,at_⟩ ds=(s,⟨aJ,aI,at_⟩) from z16 h3);have g1:((aJ:Int)==1)=false:=by rw [h3];rfl
  have g2:((aJ:Int)==2)=false:=by rw [h3];rfl
  clear hC hD HKP0 h3
  refine wH ?_;intros
  clear y0 g1 g2;have hHg:H+2≠H+3:=wj
  obtain⟨HF1,HF2,HF3,HF4,HF5⟩:=sqJ5 (qS (g:=H+2) (h:=H+3) (u0:=(aw A s.aE.length c)) (u1:= aw B s.aF.length d) (u2:= ax ay s.aH) (u3:= ax ay s.aG) (x0:= ax ay aJ) (x1:=(aw A5 aI.length c5)) (x2:= az ats) hR hHg) (qT (g:=H+2) (h:=H+3) (u0:=(aw A s.aE.length c)) (u1:= aw B s.aF.length d) (u2:= ax ay s.aH) (u3:= ax ay s.aG) (x0:= ax ay aJ) (x1:=(aw A5 aI.length c5)) (x2:= az ats) hQ hHg) (qB (g:=H+2) (h:=H+3) (u0:=(aw A s.aE.length c)) (u1:= aw B s.aF.length d) (u2:= ax ay s.aH) (u3:= ax ay s.aG) (x0:= ax ay aJ) (x1:=(aw A5 aI.length c5)) (x2:= az ats) ho (.inr ⟨wj,wj⟩) (.inr ⟨wj,wj⟩) (ho.nb hR wo wo).1 (ho.nb hR wo wo).2 (ho.nb hQ wo wo).1 (ho.nb hQ wo wo).2) (qM (g:=H+2) (h:=H+3) (u0:=(aw A s.aE.length c)) (u1:= aw B s.aF.length d) (u2:= ax ay s.aH) (u3:= ax ay s.aG) (x0:= ax ay aJ) (x1:=(aw A5 aI.length c5)) (x2:= az ats) hl (zf hl hR wo) (zf hl hQ wo)) (zL (g:=H+2) (h:=H+3) (u0:=(aw A s.aE.length c)) (u1:= aw B s.aF.length d) (u2:= ax ay s.aH) (u3:= ax ay s.aG) (x0:= ax ay aJ) (x1:=(aw A5 aI.length c5)) (x2:= az ats) hB wj wj);obtain⟨f0,f1,f2,f3⟩:=sqF4 hR;obtain⟨y0,y1,y2,y3⟩:=sqC4 hR;obtain⟨e0,e1,e2⟩:=sqF3 hQ;obtain⟨x0,x1,x2⟩:=sqC3 hQ;obtain⟨s0,s1,s2,s3⟩:=sqC4 hS;obtain⟨t0,t1,t2⟩:=sqC3 h8;have n1:¬(H=H+2):=wj
  have n2:¬(g8=H+2):=wj
  have n3:¬(H=H+3):=wj
  clear hR hQ ho hl hB hS h8
  refine wH ?_;intros
  go_region
  all_goals (try dsimp only [Exit.then])
  go_wp2_with fail;refine bodyPost_ret (kE rfl _ _ (H+2) (H+3) _ _ _ _ _ _ _ _ wu (Arr.drew HF1.o) underlying27 rfl wm wu (Arr.drew HF2.o) underlying30 rfl wm) rfl ?_;have e9:=HATS.o;subst e9;rw [HKP.o];exact⟨_,_,rfl,HF3.o.drewX.mono (fun b hb=> .inl hb),zb HF4.o.drew wj,HF5.o.drew⟩
 ·have HKP:=sqH (show zG s ⟨aJ,aI,at_⟩ ds=(s,⟨aJ,uni (aI++ds),at_⟩) from by rw [z30 h3,h3]);have g1:((aJ:Int)==1)=true:=by rw [h3];rfl
  have y1:=hC.c1;have hrg:Rd wz 1 Ag aI.length (strs aI):=HRG.o _ hbz;have HAD:=sqH (Jj Ag D ng nd aI ds wz hgcap hdn wj wj hrg hD);have ho1:=(HO0.o.wider (N':=fun b=>N b\/H<=b) (fun b hb=>by
   rcases hb with hb | hb
   ·exact .inl (.inl hb)
   ·by_cases h:b<w0.heap.size
    ·exact .inl (.inr ⟨hb,h⟩)
    ·exact .inr wj)).below hbz
  obtain⟨H8,HHS,HHR,HHQ,HO1,HBZ⟩:=sqJ6 h8 hS hR hQ ho1 hB;clear hC hD HKP0 h3 hrg ho1 ho hl h8 hS hR hQ hB;go_wp2_with fail;clear y0 y1 g1;refine HAD.o.mono ?_;rintro e_ w5 ⟨v5,N5,rfl,hN5, -,ho5,hb5⟩;dsimp only;obtain rfl:=hN5.uni (L:=aI++ds) (fun x=>List.mem_append.symm);obtain⟨A6,c6,rfl, -, -⟩:=Rd.of_own' ho5;have h8:=H8.o.below hb5;have hz1:=h8.c1;have hf1:=h8.frozen 1;have h8':=h8.set (k:=1) ws (aw A6 (uni (aI++ds)).length c6);simp only [List.set_cons_succ,List.set_cons_zero]at h8';have hn8:=zf ho5 h8 wo;have hne:=(HO1.o.below hb5).nb h8 wo wo;have ho':=((HO1.o.below hb5).setX (g:=g8) (k:=1) (.inr wj) hne.1 hne.2 (aw A6 (uni (aI++ds)).length c6)).mono (N':=fun b=>N b\/H<=b/\b<w0.heap.size) (fun b hb=>hb.imp id And.left);have hl':=zd (k:=1) (u:= aw A6 (uni (aI++ds)).length c6) ho5 hn8;have hS':=(HHS.o.below hb5).other (k:=1) (g':=g8) wj (aw A6 (uni (aI++ds)).length c6);have hR':=(HHR.o.below hb5).other (k:=1) (g':=g8) wj (aw A6 (uni (aI++ds)).length c6);have hQ':=(HHQ.o.below hb5).other (k:=1) (g':=g8) wj (aw A6 (uni (aI++ds)).length c6);have hB':=(HBZ.o.trans (hb5.mono (show H<=wz.heap.size by omega))).setCell (p:=⟨g8,1,aB⟩) ww (aw A6 (uni (aI++ds)).length c6);have HX:=sqH (aD ho' (aD hl' (aD hS' (aD hR' (aD hQ' (aD hB' h8'))))));clear ho' hl' hS' hR' hQ' hB' h8' hn8 hne h8 ho5 hb5 hN5;generalize uni (aI++ds)=U at *
  refine wH ?_;intros
  clear hz1 hf1;obtain⟨ho,hl,hS,hR,hQ,hB,h8⟩:=HX.o;clear HX;have hHg:H+2≠H+3:=wj
  obtain⟨HF1,HF2,HF3,HF4,HF5⟩:=sqJ5 (qS (g:=H+2) (h:=H+3) (u0:=(aw A s.aE.length c)) (u1:= aw B s.aF.length d) (u2:= ax ay s.aH) (u3:= ax ay s.aG) (x0:= ax ay aJ) (x1:=(aw A6 U.length c6)) (x2:= az ats) hR hHg) (qT (g:=H+2) (h:=H+3) (u0:=(aw A s.aE.length c)) (u1:= aw B s.aF.length d) (u2:= ax ay s.aH) (u3:= ax ay s.aG) (x0:= ax ay aJ) (x1:=(aw A6 U.length c6)) (x2:= az ats) hQ hHg) (qB (g:=H+2) (h:=H+3) (u0:=(aw A s.aE.length c)) (u1:= aw B s.aF.length d) (u2:= ax ay s.aH) (u3:= ax ay s.aG) (x0:= ax ay aJ) (x1:=(aw A6 U.length c6)) (x2:= az ats) ho (.inr ⟨wj,wj⟩) (.inr ⟨wj,wj⟩) (ho.nb hR wo wo).1 (ho.nb hR wo wo).2 (ho.nb hQ wo wo).1 (ho.nb hQ wo wo).2) (qM (g:=H+2) (h:=H+3) (u0:=(aw A s.aE.length c)) (u1:= aw B s.aF.length d) (u2:= ax ay s.aH) (u3:= ax ay s.aG) (x0:= ax ay aJ) (x1:=(aw A6 U.length c6)) (x2:= az ats) hl (zf hl hR wo) (zf hl hQ wo)) (zL (g:=H+2) (h:=H+3) (u0:=(aw A s.aE.length c)) (u1:= aw B s.aF.length d) (u2:= ax ay s.aH) (u3:= ax ay s.aG) (x0:= ax ay aJ) (x1:=(aw A6 U.length c6)) (x2:= az ats) hB wj wj);obtain⟨f0,f1,f2,f3⟩:=sqF4 hR;obtain⟨y0,y1,y2,y3⟩:=sqC4 hR;obtain⟨e0,e1,e2⟩:=sqF3 hQ;obtain⟨x0,x1,x2⟩:=sqC3 hQ;obtain⟨s0,s1,s2,s3⟩:=sqC4 hS;obtain⟨t0,t1,t2⟩:=sqC3 h8;have n1:¬(H=H+2):=wj
  have n2:¬(g8=H+2):=wj
  have n3:¬(H=H+3):=wj
  clear hR hQ ho hl hB hS h8
  refine wH ?_;intros
  go_region
  all_goals (try dsimp only [Exit.then])
  go_wp2_with fail;refine bodyPost_ret (kE rfl _ _ (H+2) (H+3) _ _ _ _ _ _ _ _ wu (Arr.drew HF1.o) underlying27 rfl wm wu (Arr.drew HF2.o) underlying30 rfl wm) rfl ?_;have e9:=HATS.o;subst e9;rw [HKP.o];exact⟨_,_,rfl,HF3.o.drewX.mono (fun b hb=> .inl hb),zb HF4.o.drew wj,HF5.o.drew⟩
 ·have HKP:=sqH (show zG s ⟨aJ,aI,at_⟩ ds=({ s with aE:=qe s.aE (Kn s.aE ds) },⟨aJ,aI,at_⟩) from z34 h3);have g1:((aJ:Int)==1)=false:=by rw [h3];rfl
  have g2:((aJ:Int)==2)=true:=by rw [h3];rfl
  have x0:=hS.c0;obtain⟨_,_,_,_,e1,e2,hrd⟩:=ho.rows;cases e1;cases e2
  obtain⟨HMA,H8,HHS,HHR,HHQ,HO1,HLL,HBZ⟩:=sqJ8 (z02 A D c nd s.aE ds wz wj hrd.bc hrd.bm HG.o.b.ris (fun b hb=>by have:=(HG.o.b.one b hb).2.1;omega) (fun x hx=>by rw [(HG.o.b.one x hx).1];have:=qK (zA x.data);omega) hrd.b wj hD) h8 hS hR hQ ho hl hB;have hH2:H<wz.heap.size:=hS.lt;clear hC hD HKP0 h3 hrd ho hl h8 hS hR hQ hB;go_wp2_with fail;clear y0 x0 g1 g2;refine HMA.o.mono ?_;rintro e_ w5 ⟨g5,L5,rfl,hL5,hx5,hb5⟩;dsimp only;obtain rfl:=hL5.uniq (J0 HG.o.b.ris ds);have hS5:=HHS.o.below hb5;have hz0:=hS5.c0;have hf0:=hS5.frozen 0;have ho5:=HO1.o.mixC (fun b hb=>by
   rcases hb with hb | hb
   ·have:=HN.o b hb;omega
   ·omega) hx5 wj hb5
  have hne:=ho5.nb hS5 wo wo;have ho':=ho5.setX (g:=H) (k:=0) (.inr ⟨Nat.le_refl _,wj⟩) hne.1 hne.2 (aw (aC ⟨g5,0,aB⟩) s.aE.length s.aE.length);have hl5:=zc HLL.o hb5;have hl':=zd (k:=0) (u:= aw (aC ⟨g5,0,aB⟩) s.aE.length s.aE.length) hl5 (zf hl5 hS5 wo);have hS':=hS5.set (k:=0) ws (aw (aC ⟨g5,0,aB⟩) s.aE.length s.aE.length);simp only [List.set_cons_zero]at hS';have h8':=(H8.o.below hb5).other (k:=0) (g':=H) wj (aw (aC ⟨g5,0,aB⟩) s.aE.length s.aE.length);have hR':=(HHR.o.below hb5).other (k:=0) (g':=H) wj (aw (aC ⟨g5,0,aB⟩) s.aE.length s.aE.length);have hQ':=(HHQ.o.below hb5).other (k:=0) (g':=H) wj (aw (aC ⟨g5,0,aB⟩) s.aE.length s.aE.length);have hB':=(HBZ.o.trans (hb5.mono (show H<=wz.heap.size by omega))).setCell (p:=⟨H,0,aB⟩) ww (aw (aC ⟨g5,0,aB⟩) s.aE.length s.aE.length);have HX:=sqH (aD ho' (aD hl' (aD hS' (aD hR' (aD hQ' (aD hB' h8'))))));clear ho' hl' hS' hR' hQ' hB' h8' hne ho5 hl5 hb5 hL5 hx5 hS5;generalize qe s.aE (Kn s.aE ds)=mk at *
  refine wH ?_;intros
  clear hz0 hf0;obtain⟨ho,hl,hS,hR,hQ,hB,h8⟩:=HX.o;clear HX;have hHg:H+2≠H+3:=wj
  obtain⟨HF1,HF2,HF3,HF4,HF5⟩:=sqJ5 (qS (g:=H+2) (h:=H+3) (u0:=(aw (aC ⟨g5,0,aB⟩) s.aE.length s.aE.length)) (u1:= aw B s.aF.length d) (u2:= ax ay s.aH) (u3:= ax ay s.aG) (x0:= ax ay aJ) (x1:=(aw A5 aI.length c5)) (x2:= az ats) hR hHg) (qT (g:=H+2) (h:=H+3) (u0:=(aw (aC ⟨g5,0,aB⟩) s.aE.length s.aE.length)) (u1:= aw B s.aF.length d) (u2:= ax ay s.aH) (u3:= ax ay s.aG) (x0:= ax ay aJ) (x1:=(aw A5 aI.length c5)) (x2:= az ats) hQ hHg) (qB (g:=H+2) (h:=H+3) (u0:=(aw (aC ⟨g5,0,aB⟩) s.aE.length s.aE.length)) (u1:= aw B s.aF.length d) (u2:= ax ay s.aH) (u3:= ax ay s.aG) (x0:= ax ay aJ) (x1:=(aw A5 aI.length c5)) (x2:= az ats) ho (.inr ⟨wj,wj⟩) (.inr ⟨wj,wj⟩) (ho.nb hR wo wo).1 (ho.nb hR wo wo).2 (ho.nb hQ wo wo).1 (ho.nb hQ wo wo).2) (qM (g:=H+2) (h:=H+3) (u0:=(aw (aC ⟨g5,0,aB⟩) s.aE.length s.aE.length)) (u1:= aw B s.aF.length d) (u2:= ax ay s.aH) (u3:= ax ay s.aG) (x0:= ax ay aJ) (x1:=(aw A5 aI.length c5)) (x2:= az ats) hl (zf hl hR wo) (zf hl hQ wo)) (zL (g:=H+2) (h:=H+3) (u0:=(aw (aC ⟨g5,0,aB⟩) s.aE.length s.aE.length)) (u1:= aw B s.aF.length d) (u2:= ax ay s.aH) (u3:= ax ay s.aG) (x0:= ax ay aJ) (x1:=(aw A5 aI.length c5)) (x2:= az ats) hB wj wj);obtain⟨f0,f1,f2,f3⟩:=sqF4 hR;obtain⟨y0,y1,y2,y3⟩:=sqC4 hR;obtain⟨e0,e1,e2⟩:=sqF3 hQ;obtain⟨x0,x1,x2⟩:=sqC3 hQ;obtain⟨s0,s1,s2,s3⟩:=sqC4 hS;obtain⟨t0,t1,t2⟩:=sqC3 h8;have n1:¬(H=H+2):=wj
  have n2:¬(g8=H+2):=wj
  have n3:¬(H=H+3):=wj
  clear hR hQ ho hl hB hS h8
  refine wH ?_;intros
  go_region
  all_goals (try dsimp only [Exit.then])
  go_wp2_with fail;refine bodyPost_ret (kE rfl _ _ (H+2) (H+3) _ _ _ _ _ _ _ _ wu (Arr.drew HF1.o) underlying27 rfl wm wu (Arr.drew HF2.o) underlying30 rfl wm) rfl ?_;have e9:=HATS.o;subst e9;rw [HKP.o];exact⟨_,_,rfl,HF3.o.drewX.mono (fun b hb=> .inl hb),zb HF4.o.drew wj,HF5.o.drew⟩
theorem JX (A:ae) (c:Nat) (x:List PartP) (w:World) (hx8:x.length<=1000) (hr:Rd w 3 A x.length (pcs x)) :
  Calls Tryz.prog 181 #[aw A x.length c] w fun e w'=>∃v,e= .returned v/\w'.ownsRow w.heap.size 9 1 v (x.map (·.dig)).length (strs (x.map (·.dig)))/\Below w.heap.size w w':=by
 have HR2:=sqH hr;clear hr;go_enter func181,ntmps181;go_wp2_with fail;go_loopg [3,8,5] x.length (fun gn v i u wr=>∃k:Nat,gn=x.length - k/\i= ax ay k/\k<=x.length/\wr.ownsRow w.heap.size 9 1 v k (dcs (x.take k))/\Below w.heap.size w wr)
 case atStart=>exact⟨0,rfl,rfl,wj,World.ownsRow_nil _ _ _ _,Below.refl _ _⟩
 case round =>
  obtain⟨k,hgk,rfl,hk,ho,hbl⟩:=hrel;have HGK:=sqH hgk;clear hgk;by_cases hlt:k<x.length
  ·have hstep:=K6 x k hlt;have hat:=fun j (hj:j<3)=>yA x k j hlt hj;obtain⟨b,off,rfl,hbw',hcell⟩:=(HR2.o.below hbl).2 wj;have c0:=hcell (k*3+0) _ (hat 0 wj);have c1:=hcell (k*3+1) _ (hat 1 wj);have c2:=hcell (k*3+2) _ (hat 2 wj);rw [Nat.add_zero]at c0;rw [show off+(k*3+1)=off+k*3+1 by omega]at c1;rw [show off+(k*3+2)=off+k*3+2 by omega]at c2
   try dsimp only [yo,List.getElem?_cons_zero,List.getElem?_cons_succ]at c0 c1 c2
   generalize (⟨x[k].name.toArray⟩:ByteArray)=s' at *
   generalize (⟨x[k].dig.toArray⟩:ByteArray)=t' at *
   generalize (x[k].size:Int)=z' at *
   have HST:=sqH hstep;have hk0:=wX k
   have hk1:(k:Int)<(x.length:Int):=wj
   have hcc:decide (k<x.length)=true:=decide_eq_true hlt;clear hstep hat hcell
   refine wH ?_;intros
   have hbl':=hbl.alloc hbl.size (.cells #[az s',az t',ax ay z'] 51);have ho':=ho.alloc (.cells #[az s',az t',ax ay z'] 51);have hs1:(wr.alloc (.cells #[az s',az t',ax ay z'] 51)).heap.size=wr.heap.size+1:=World.size_alloc _ _;generalize wr.alloc (.cells #[az s',az t',ax ay z'] 51)=wb at *
   rw [<-hs1];clear hs1 ho hbl c0 c1 c2;refine zg rfl (.tmp 12) (.tmp 15) rfl z2t wu ho' (us:= [az t']) (m:=1) wu rfl (by intro u hu;simp at hu;subst hu;rfl) wj hbl'.size ?_;intro v5 w5 ho5 hg5 hv5;rw [<-HST.o]at ho5;have hbl5:=zj hbl' ho' ab hg5;go_wp2_with fail;go_roundg (x.length - (k+1))
   case measure=>exact wW HGK
   case rel=>exact⟨k+1,rfl,by go_num,wj,ho5,hbl5⟩
  ·obtain rfl:k=x.length:=by omega
   have hcc:decide (x.length<x.length)=false:=ws
   rw [List.take_length,vD]at ho;have hml:(x.map (·.dig)).length=x.length:=List.length_map _;have HML:=sqH hml;clear hml;go_wp2_with fail;go_ret;exact⟨_,rfl,by rw [HML.o];exact ho,hbl⟩
end Go.Proofs.YtcjndgldjhmbgaaGreat
