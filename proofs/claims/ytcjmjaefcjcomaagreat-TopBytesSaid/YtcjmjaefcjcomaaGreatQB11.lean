/- Lemmas, as stated. -/
import Derived.Test.YtcjmjaefcjcomaaGreatQB10
set_option linter.unusedVariables false
set_option linter.unusedSimpArgs false
set_option maxRecDepth 100000
set_option maxHeartbeats 16000000
open Go.Proofs.Tryz
open Go.Proofs.Tryz renaming prog->zZZ
open Go.Value renaming slice->aA,int->aB,string->aD
open Go.IntKind renaming i64->aC
open Go.Obj renaming cells->aE
open Option renaming none->aF,some->aG
namespace Go.Proofs.YtcjmjaefcjcomaaGreat
open Go.RowKit
variable {l:List EntP} {cap g i j k:Nat} {e:TypeId} {u:Value} {w:World}
section
variable {w w6 w7 w8:World} {base:Nat} {v1 v1' v2 v2':Value} {s:StoP} {N:am}
theorem OwSt.mixB {l:List BlobP} (hv:RwX BlobS 55 w6 base v1 l N) (hN:∀b,N b->b<w6.heap.size) (hb:base<=w6.heap.size) (h:OwSt w7 w6.heap.size v1' v2 s (fun b=>b<w6.heap.size)) (hbl:Below w6.heap.size w6 w7):OwSt w7 base v1 v2 { s with aI:=l } N :=
 ⟨(hv.wider (fun b hb=>hb.imp id (fun e=>(h.e.rwo.blk e).1))).below hbl,(h.e.lower hb).wider (fun b hb=> .inl (.inl (hb.elim (hN b) (fun e=>(hv.rwo.blk e).2)))),fun g e1 e2=>by
  have:=(hv.rwo.blk e1).2;have:=(h.e.rwo.blk e2).1;omega⟩
theorem OwSt.mixE (h:OwSt w7 base v1 v2 s N) (hN:∀b,N b->b<w7.heap.size) (hv:RwX EntS 120 w8 w7.heap.size v2' l (fun b=>b<w7.heap.size)) (hbs:base<=w7.heap.size) (hbl:Below w7.heap.size w7 w8):OwSt w8 base v1 v2' { s with aJ:=l } N:=by
 have h1:∀g,v2'.ownBlock=aG g->w7.heap.size<=g:=fun g e=>(hv.rwo.blk e).1;have h2:∀g,v1.ownBlock=aG g->g<w7.heap.size:=fun g e=>(h.b.rwo.blk e).2;refine⟨RwX.below (RwX.wider h.b (N':=fun g=>N g\/v2'.ownBlock=aG g) fun b hb=> ?_) hbl,RwX.wider (hv.lower hbs) (N':=fun g=>N g\/v1.ownBlock=aG g) fun b hb=> .inl ?_,fun g e1 e2=> ?_⟩
 ·rcases hb with hb | hb
  ·exact .inl (.inl hb)
  ·exact .inr (h1 b hb)
 ·rcases hb with hb | hb
  ·exact hN b hb
  ·exact h2 b hb
 ·have:=h1 g e2;have:=h2 g e1;omega
theorem OwSt.setX (h:OwSt w base v1 v2 s N) (hN:N g) (h1:v1.ownBlock≠aG g) (h2:v2.ownBlock≠aG g) (u:Value):OwSt (w.setCell ⟨g,k,aF⟩ u) base v1 v2 s N:=by
 have hg:=zF w g k u;have e1:∀b,aG g=aG b->v1.ownBlock≠aG b:=fun b e=>by rw [<-e];exact h1
 have e2:∀b,aG g=aG b->v2.ownBlock≠aG b:=fun b e=>by rw [<-e];exact h2
 have e3:∀b,aG g=aG b->N b:=fun b e=>by cases e;exact hN
 exact⟨RwX.other h.b hg e1 fun b e=> .inl (e3 b e),RwX.other h.e hg e2 fun b e=> .inl (e3 b e),h.ne⟩
theorem OwSt.clk (h:OwSt w base v1 v2 s N) (r k:Nat):OwSt w base v1 v2 { s with aL:=r,aK:=k } N:=⟨h.b,h.e,h.ne⟩
theorem RwX.set1 {α:Type} {S:Shp α} {y:α} {l:List α} (h:RwX S e w base (aA (aG ⟨g,0,aF⟩) l.length cap) l N) (hi:i<l.length) (hj:j<S.size)
  (hR:∀W cs,S.R W l[i] cs->S.R W y (cs.set j u)) (hlead:∀b,¬leads b [u]) :
  (∃v0,w.cell? ⟨g,i*S.size+j,aF⟩=aG v0)/\w.frozen? ⟨g,i*S.size+j,aF⟩=false /\
   RwX S e (w.setCell ⟨g,i*S.size+j,aF⟩ u) base (aA (aG ⟨g,0,aF⟩) l.length cap) (l.set i y) N/\w.grownBy (w.setCell ⟨g,i*S.size+j,aF⟩ u) (aG g):=by
 obtain⟨h1,h2,h3,h4⟩:=RwO.set1 (S:=S.off N) (u:=u) (y:=y) h.off hi hj (fun W cs h=>⟨hR W cs h.1,fun b hb ⟨a,n,c,hm,e2⟩=>by
  rcases List.mem_or_eq_of_mem_set hm with h5 | h5
  ·exact h.2 b hb ⟨a,n,c,h5,e2⟩
  ·exact hlead b ⟨a,n,c,by simp [h5],e2⟩⟩) (fun b hb=>absurd hb (hlead b))
 exact⟨h1,h2,h3.on,h4⟩
theorem ym (z:Int) (b:Nat):¬leads b [aB aC z]:=fun ⟨a,n,c,hm,_⟩=>by simp at hm
theorem kQ (z:Bool) (b:Nat):¬leads b [.bool z]:=fun ⟨a,n,c,hm,_⟩=>by simp at hm
theorem OwSt.setB {y:BlobP} (h:OwSt w base (aA (aG ⟨g,0,aF⟩) s.aI.length cap) v2 s N) (hi:i<s.aI.length) (hj:j<4)
  (hR:∀W cs,BlobS.R W s.aI[i] cs->BlobS.R W y (cs.set j u)) (hlead:∀b,¬leads b [u]) :
  (∃v0,w.cell? ⟨g,i*4+j,aF⟩=aG v0)/\w.frozen? ⟨g,i*4+j,aF⟩=false /\
   OwSt (w.setCell ⟨g,i*4+j,aF⟩ u) base (aA (aG ⟨g,0,aF⟩) s.aI.length cap) v2 { s with aI:=s.aI.set i y } N/\w.grownBy (w.setCell ⟨g,i*4+j,aF⟩ u) (aG g):=by
 obtain⟨h1,h2,h3,h4⟩:=RwX.set1 (S:=BlobS) (u:=u) (y:=y) h.b hi hj hR hlead;refine⟨h1,h2,⟨h3,h.e.other h4 (fun b e1 e2=> ?_) (fun b e=> ?_),h.ne⟩,h4⟩
 ·cases e1;exact h.ne g rfl e2
 ·cases e;exact .inr rfl
theorem OwSt.setE {y:EntP} (h:OwSt w base v1 (aA (aG ⟨g,0,aF⟩) s.aJ.length cap) s N) (hi:i<s.aJ.length) (hj:j<4)
  (hR:∀W cs,EntS.R W s.aJ[i] cs->EntS.R W y (cs.set j u)) (hlead:∀b,¬leads b [u]) :
  (∃v0,w.cell? ⟨g,i*4+j,aF⟩=aG v0)/\w.frozen? ⟨g,i*4+j,aF⟩=false /\
   OwSt (w.setCell ⟨g,i*4+j,aF⟩ u) base v1 (aA (aG ⟨g,0,aF⟩) s.aJ.length cap) { s with aJ:=s.aJ.set i y } N/\w.grownBy (w.setCell ⟨g,i*4+j,aF⟩ u) (aG g):=by
 obtain⟨h1,h2,h3,h4⟩:=RwX.set1 (S:=EntS) (u:=u) (y:=y) h.e hi hj hR hlead;refine⟨h1,h2,⟨h.b.other h4 (fun b e1 e2=> ?_) (fun b e=> ?_),h3,h.ne⟩,h4⟩
 ·cases e1;exact h.ne g e2 rfl
 ·cases e;exact .inr rfl
theorem Xo (b:BlobP) (n:Nat) (W:World) (cs:ak) (h:BlobS.R W b cs):BlobS.R W { b with aQ:=n } (cs.set 2 (aB aC n)):=by
 obtain⟨A,c,rfl,hs⟩:=h;exact⟨A,c,rfl,hs⟩
theorem vV (b:BlobP) (m:Bool) (W:World) (cs:ak) (h:BlobS.R W b cs):BlobS.R W { b with mark:=m } (cs.set 3 (.bool m)):=by
 obtain⟨A,c,rfl,hs⟩:=h;exact⟨A,c,rfl,hs⟩
theorem UP (b:EntP) (n:Nat) (W:World) (cs:ak) (h:EntS.R W b cs):EntS.R W { b with aQ:=n } (cs.set 2 (aB aC n)):=by
 obtain⟨A,c,rfl,hs⟩:=h;exact⟨A,c,rfl,hs⟩
theorem XE (b:EntP) (n:Nat) (W:World) (cs:ak) (h:EntS.R W b cs):EntS.R W { b with aO:=n } (cs.set 3 (aB aC n)):=by
 obtain⟨A,c,rfl,hs⟩:=h;exact⟨A,c,rfl,hs⟩
end
theorem Uw (g:Nat) (x0 x1 x2:Value) (z:Int) (w:World) (h0:0<=z) (hk:z<1099511627776) (hS:Arr w g 38 [x0,x1,x2,aB aC z]) :
  Calls zZZ 94 #[.pointer (aG ⟨g,0,aF⟩)] w fun e w'=>e= .returned (aB aC 0)/\w'=w.setCell ⟨g,3,aF⟩ (aB aC (z+1)):=by
 have c3:=hS.c3;have f3:=hS.frozen 3;have hne:(z==1099511627776)=false:=by rw [beq_eq_false_iff_ne];omega
 have hw:IntKind.i64.wrap (z+1)=z+1:=IntWalk.i64_in _ wu;clear hS;go_enter func94,ntmps94;go_wp2_with fail;go_ret;exact⟨rfl,rfl⟩
theorem Xf (g:Nat) (x0 x1 x2:Value) (k:Nat) (w:World) (hk:k<1099511627776) (hS:Arr w g 38 [x0,x1,x2,aB aC k]) :
  Calls zZZ 94 #[.pointer (aG ⟨g,0,aF⟩)] w fun e w'=>e= .returned (aB aC 0)/\w'=w.setCell ⟨g,3,aF⟩ (aB aC ((k+1:Nat):Int)):=by
 have hz:((k+1:Nat):Int)=(k:Int)+1:=wu;rw [hz];exact Uw g x0 x1 x2 (k:Int) w wu wu hS
theorem KS (A:aj) (c:Nat) (B:aj) (d:Nat) (s:StoP) (dg:ai) (i:Nat) (w:World) (hg:GoodS s) (hr:RdSt w A c B d s) (hi:i<s.aI.length) (hk:s.aI[i].dig=dg) :
  Calls zZZ 64 #[.agg #[aA A s.aI.length c,aA B s.aJ.length d,aB aC s.aL,aB aC s.aK],aD ⟨dg.toArray⟩] w fun e w' =>
   ∃v,e= .returned (.tuple #[v,aB aC 0])/\w'.ownsRow w.heap.size 5 1 v s.aI[i].data.length (bys s.aI[i].data)/\Below w.heap.size w w':=by
 have hlb:s.aI.length<=24:=hg.b.len;obtain⟨D,hD⟩:=wY (s.aI[i].data)
 rw [<-hD];have hdl:=(hg.b.one _ (List.getElem_mem hi)).2.1;rw [<-hD]at hdl;have HD:=sqH hD;clear hD;obtain⟨w0,hw0⟩:=wY (w.alloc (aE #[aA A s.aI.length c,aA B s.aJ.length d,aB aC s.aL,aB aC s.aK] 38))
 have hb0:Below w.heap.size w w0:=by rw [hw0];exact(Below.refl _ _).alloc ag _
 have hr0:=hr.below hb0;obtain⟨H,hH⟩:=wY w.heap.size
 have hS:Arr w0 H 38 [aA A s.aI.length c,aA B s.aJ.length d,aB aC s.aL,aB aC s.aK]:=by rw [hw0,hH];exact Arr.new w 38 _
 have HCK:=sqH (zD A c B d s w0 hg hr0);have HF:=sqH (show s.aI.findIdx? (fun x=>x.dig==dg)=aG i by
  obtain⟨j,hj,h1,h2⟩:=Vp (f:=fun b:BlobP=>b.dig) hg.b.ris (List.getElem_mem hi) hk;rw [h1];have:=List.pairwise_iff_getElem.1 hg.b.ris;rcases Nat.lt_trichotomy j i with h3 | h3 | h3
  ·have h4:=xf (this j i hj hi h3);rw [h2]at h4;exact absurd rfl h4
  ·rw [h3]
  ·have h4:=xf (this i j hi hj h3);rw [h2]at h4;exact absurd rfl h4)
 obtain⟨sd,hsd⟩:=wY (⟨dg.toArray⟩:ByteArray)
 rw [<-hsd];have HSD:=sqH hsd;rw [<-hH]at hb0 ⊢
 have hHl:H<w0.heap.size:=hS.lt;obtain⟨x0,x1,x2,x3⟩:=sqC4 hS;rw [hw0,hH]at x0 x1 x2 x3;clear hg hr hk hsd;go_enter func64,ntmps64;go_wp2_with fail;rw [<-hw0,<-hH];clear hw0 hH x0 x1 x2 x3;refine wZ HCK.o fun w1 hb1=>?_;dsimp only;have hr1:=hr0.below hb1;have hS1:=hS.below hb1;have y0:=hS1.c0;have HFN:=ky A c s.aI dg w1 wu hr1.b;rw [HF.o,xx,<-HSD.o]at HFN;have HFN:=sqH HFN;clear hr0 hS;go_wp2_with fail;clear y0;refine wZ HFN.o fun w2 hb2=>?_;dsimp only;have hc2:=wm hb1 hb2;have hb02:=hb0.trans (hc2.mono (Nat.le_of_lt hHl));have hsz2:H<=w2.heap.size:=Nat.le_trans (Nat.le_of_lt hHl) hc2.size;have hr2:=hr1.below hb2;have hS2:=hS1.below hb2;have y0:=hS2.c0;obtain⟨b,off,DB,cb,e1,hbb,d0,d1,d2,d3,hsl⟩:=hr2.b.blob_at i hi;have hi0:=we i
 have hi1:(i:Int)<(s.aI.length:Int):=wu;rw [<-HD.o]at d1 hsl;have HCL:=sqH (kv DB D.length cb D w2 rfl hsl.cap wu hsl.rd);subst e1;clear hr1 hr2 hS1 hS2 hb2 hc2 d0 d2 d3 hsl;go_wp2_with fail;clear y0 d1;refine HCL.o.mono ?_;rintro e_ w3 ⟨v3,rfl,ho3,hb3⟩;dsimp only;have hb03:=hb02.trans (hb3.mono hsz2);have ho:=zb ho3 hsz2;clear ho3 hb3;go_wp2_with fail;go_ret2;exact⟨v3,rfl,ho,hb03⟩
theorem Zf (A:aj) (c:Nat) (B:aj) (d:Nat) (s:StoP) (dg:ai) (w:World) (hg:GoodS s) (hr:RdSt w A c B d s) (hk:∀b∈s.aI,b.dig≠dg) :
  Calls zZZ 64 #[.agg #[aA A s.aI.length c,aA B s.aJ.length d,aB aC s.aL,aB aC s.aK],aD ⟨dg.toArray⟩] w fun e w' =>
   e= .returned (.tuple #[aA aF 0 0,aB aC 5])/\Below w.heap.size w w':=by
 have hlb:s.aI.length<=24:=hg.b.len;obtain⟨w0,hw0⟩:=wY (w.alloc (aE #[aA A s.aI.length c,aA B s.aJ.length d,aB aC s.aL,aB aC s.aK] 38))
 have hb0:Below w.heap.size w w0:=by rw [hw0];exact(Below.refl _ _).alloc ag _
 have hr0:=hr.below hb0;obtain⟨H,hH⟩:=wY w.heap.size
 have hS:Arr w0 H 38 [aA A s.aI.length c,aA B s.aJ.length d,aB aC s.aL,aB aC s.aK]:=by rw [hw0,hH];exact Arr.new w 38 _
 have HCK:=sqH (zD A c B d s w0 hg hr0);have HF:=sqH (show s.aI.findIdx? (fun x=>x.dig==dg)=aF by
  rw [List.findIdx?_eq_none_iff];intro x hx;simp [hk x hx])
 obtain⟨sd,hsd⟩:=wY (⟨dg.toArray⟩:ByteArray)
 rw [<-hsd];have HSD:=sqH hsd;rw [<-hH]at hb0 ⊢
 have hHl:H<w0.heap.size:=hS.lt;obtain⟨x0,x1,x2,x3⟩:=sqC4 hS;rw [hw0,hH]at x0 x1 x2 x3;clear hg hr hk hsd;go_enter func64,ntmps64;go_wp2_with fail;rw [<-hw0,<-hH];clear hw0 hH x0 x1 x2 x3;refine wZ HCK.o fun w1 hb1=>?_;dsimp only;have hr1:=hr0.below hb1;have hS1:=hS.below hb1;have y0:=hS1.c0;have HFN:=ky A c s.aI dg w1 wu hr1.b;rw [HF.o,xx,<-HSD.o]at HFN;have HFN:=sqH HFN;clear hr0 hS;go_wp2_with fail;clear y0;refine wZ HFN.o fun w2 hb2=>?_;dsimp only;have hc2:=wm hb1 hb2;have hb02:=hb0.trans (hc2.mono (Nat.le_of_lt hHl));clear hr1 hS1 hb1 hb2 hc2;go_wp2_with fail;go_ret2;exact⟨rfl,hb02⟩
theorem Y1 (A:aj) (c:Nat) (B:aj) (d:Nat) (s:StoP) (D:ai) (DA:aj) (dc:Nat) (w:World) (hg:GoodS s) (hr:RdSt w A c B d s) (hd:D.length<=300) (hlen:s.aI.length<24\/(s.aI.findIdx? (fun b=>b.dig==shaS D)).isSome=true) (hus:usd (putB s.aI D)<=s.aL) (hD:Sl w 1 DA D.length dc (bys D)) :
  Calls zZZ 83 #[.agg #[aA A s.aI.length c,aA B s.aJ.length d,aB aC s.aL,aB aC s.aK],aA DA D.length dc] w fun e w' =>
   ∃v1 v2,e= .returned (.tuple #[.agg #[v1,v2,aB aC s.aL,aB aC s.aK],aD ⟨(shaS D).toArray⟩,aB aC 0])/\OwSt w' w.heap.size v1 v2 (zJ s D) (fun b=>b<w.heap.size)/\Below w.heap.size w w':=by
 have hlb:s.aI.length<=24:=hg.b.len;have hle:s.aJ.length<=10:=hg.e.len;have hrm:=hg.aL;have hpl:=xE s.aI D;have HGB:=sqH hg.b;obtain⟨sd,hsd⟩:=wY (⟨(shaS D).toArray⟩:ByteArray)
 rw [<-hsd];obtain⟨HSD,HLN,HDD⟩:=sqJ3 hsd hlen (fun W (h:Below w.heap.size w W)=>hD.below h);clear hD hsd hlen;obtain⟨w0,hw0,hS,hR,hb0⟩:=zW w 38 [aA A s.aI.length c,aA B s.aJ.length d,aB aC s.aL,aB aC s.aK] [aA aF 0 0,aA aF 0 0,aB aC 0,aB aC 0];have hr0:=hr.below hb0;obtain⟨H,hH⟩:=wY w.heap.size
 have HCK:=sqH (zD A c B d s w0 hg hr0);rw [<-hH]at hS hR hb0 ⊢
 have hHl:H<w0.heap.size:=hS.lt;have hHr:H+1<w0.heap.size:=hR.lt;obtain⟨x0,x1,x2,x3⟩:=sqC4 hS;rw [hw0,hH]at x0 x1 x2 x3;obtain⟨HPL,HQL,HG⟩:=sqJ3 (show ∀b∈s.aI,b.data.length<=1000000 from fun b hb=>by have:=(hg.b.one b hb).2.1;omega) (show ∀x∈s.aJ,x.aP.length<=1000000 from fun x hx=>by have:=(zi (hg.e.one x hx).2.1).1;omega) hg;clear hg hr;go_enter func83,ntmps83;go_wp2_with fail;rw [<-hw0,<-hH];have HH:=sqH hH;clear hw0 hH x0 x1 x2 x3;have hD0:=HDD.o w0 (by rw [<-HH.o];exact hb0);refine wZ HCK.o fun w1 hb1=>?_;dsimp only;have hr1:=hr0.below hb1;have hS1:=hS.below hb1;have y0:=hS1.c0;have HPT:=X5 A c s.aI D DA dc w1 HGB.o hd HLN.o hr1.b (hD0.below hb1);rw [<-HSD.o]at HPT;have HPT:=sqH HPT;clear hr0 hS hD0;go_wp2_with fail;clear y0;refine HPT.o.mono ?_;rintro e_ w2 ⟨v2,rfl,hx2,hb2⟩;dsimp only;have hc2:=wm hb1 hb2;have hr2:=hr1.below hb2;have hS2:=hS1.below hb2;obtain⟨A2,c2,e2,h21,h22,hR2⟩:=hx2.rwo.rows;subst e2;have y2:=hS2.c2;have HFT:=Qc A2 c2 (putB s.aI D) s.aL 0 w2 wu wu hrm wu hR2;rw [if_pos wu]at HFT;have HFT:=sqH HFT;clear hr1 hS1 hR2;go_wp2_with fail;clear y2;refine wZ HFT.o fun w3 hb3=>?_;dsimp only;have hc3:=wm hc2 hb3;have hr3:=hr2.below hb3;have hS3:=hS2.below hb3;have hx3:=hx2.below hb3;obtain⟨z0,z1,z2,z3⟩:=sqC4 hS3;have HCP:=sqH (qL A c B d s w3 wu wu HPL.o HQL.o hr3);have q12:=hb2.size;have q23:=hb3.size;clear hr2 hS2 hx2 hb2 hb3 hr3;go_wp2_with fail;clear z0 z1 z2 z3;refine HCP.o.mono ?_;rintro e_ w4 ⟨q1,q2,rfl,ho4',hb4⟩;dsimp only;have hc4:=wm hc3 hb4;have ho4:=((OwSt.mixB hx3 (fun b hb=>Nat.lt_of_lt_of_le hb (Nat.le_trans q12 q23)) (Nat.le_trans q12 q23) ho4' hb4).lower hb1.size).wider (N':=fun b=>b<w0.heap.size) (fun b hb=> .inl (Nat.lt_of_lt_of_le hb hb1.size));clear ho4' hx3 hc3 hb4 hS3 hc2;have h41:∀b,(aA A2 (putB s.aI D).length c2).ownBlock=aG b->b<w4.heap.size:=fun b e=>(ho4.b.rwo.blk e).2;have h42:∀b,(aA (aG ⟨q2,0,aF⟩) s.aJ.length s.aJ.length).ownBlock=aG b->b<w4.heap.size:=fun b e=>(ho4.e.rwo.blk e).2;have hG:w0.heap.size<=w4.heap.size:=hc4.size;obtain⟨G,hGe⟩:=wY w4.heap.size
 rw [<-hGe]at h41 h42 hG;have hba:=ws w4 (aE #[(aA A2 (putB s.aI D).length c2),(aA (aG ⟨q2,0,aF⟩) s.aJ.length s.aJ.length),aB aC s.aL,aB aC s.aK] 38);have hX:Arr (w4.alloc (aE #[(aA A2 (putB s.aI D).length c2),(aA (aG ⟨q2,0,aF⟩) s.aJ.length s.aJ.length),aB aC s.aL,aB aC s.aK] 38)) G 38 [(aA A2 (putB s.aI D).length c2),(aA (aG ⟨q2,0,aF⟩) s.aJ.length s.aJ.length),aB aC s.aL,aB aC s.aK]:=by rw [hGe];exact Arr.new w4 38 _
 have ho:=(ho4.wider (N':=fun b=>b<w0.heap.size\/b=G) (fun b hb=>hb.imp id (fun e=>wu))).below hba;have hR5:=(hR.below hc4).below hba;have hb5:=(hb0.trans (hc4.mono (Nat.le_of_lt hHl))).alloc wu (aE #[(aA A2 (putB s.aI D).length c2),(aA (aG ⟨q2,0,aF⟩) s.aJ.length s.aJ.length),aB aC s.aL,aB aC s.aK] 38);clear hR ho4 hc4 hba hb0;have hR:=hR5;clear hR5;have hb:=hb5;clear hb5;obtain⟨z0,z1,z2,z3⟩:=sqC4 hX;obtain⟨f0,f1,f2,f3⟩:=sqF4 hR;obtain⟨y0,y1,y2,y3⟩:=sqC4 hR;have hfin:=hR.all4 (aA A2 (putB s.aI D).length c2) (aA (aG ⟨q2,0,aF⟩) s.aJ.length s.aJ.length) (aB aC s.aL) (aB aC s.aK);have hoF:=(((ho.set (g:=H+1) (k:=0) hHr (.inl hHr) (aA A2 (putB s.aI D).length c2)).set (g:=H+1) (k:=1) hHr (.inl hHr) (aA (aG ⟨q2,0,aF⟩) s.aJ.length s.aJ.length)).set (g:=H+1) (k:=2) hHr (.inl hHr) (aB aC s.aL)).set (g:=H+1) (k:=3) hHr (.inl hHr) (aB aC s.aK);have hbF:=(((hb.setCell (p:=⟨H+1,0,aF⟩) ae (aA A2 (putB s.aI D).length c2)).setCell (p:=⟨H+1,1,aF⟩) ae (aA (aG ⟨q2,0,aF⟩) s.aJ.length s.aJ.length)).setCell (p:=⟨H+1,2,aF⟩) ae (aB aC s.aL)).setCell (p:=⟨H+1,3,aF⟩) ae (aB aC s.aK);clear hR ho hb hX;subst hGe;go_wp2_with fail;refine bodyPost_ret (zz rfl _ _ (H+1) _ _ _ _ ac hfin underlying38 rfl ww) rfl ?_;exact⟨_,_,rfl,(hoF.lower (base':=H) wu).wider (N':=fun b=>b<H) (fun b hb=> .inl (.inl wu)),hbF⟩
theorem z4i (k:Int) (h:k=0\/k=1\/k=2\/k=3) (w:World):(Instr.index 243 (.agg #[aB aC 0,aB aC 0,aB aC 0,aB aC 0]) (aB aC k)).run zZZ w= .ok (aB aC 0) w:=by
 rcases h with rfl | rfl | rfl | rfl<;>kernel_rfl
theorem z0o (A:aj) (c:Nat) (B:aj) (d:Nat) (s:StoP) (key:ai) (ps:List PartP) (PA:aj) (pc:Nat) (w:World) (hg:GoodS s) (hr:RdSt w A c B d s) (hk:hexC key=0) (hpz:chk ps=0) (hhv:qK s.aI ps=0) (hclk:s.aK<1099511627776) (hlen:s.aJ.length<10) (hP:Sl w 3 PA ps.length pc (pcs ps)) :
  Calls zZZ 126 #[.agg #[aA A s.aI.length c,aA B s.aJ.length d,aB aC s.aL,aB aC s.aK],aD ⟨key.toArray⟩,aA PA ps.length pc] w fun e w' =>
   ∃v1 v2,e= .returned (.tuple #[.agg #[v1,v2,aB aC s.aL,aB aC ((s.aK+1:Nat):Int)],aB aC 0])/\OwSt w' w.heap.size v1 v2 (xF s key ps) (fun b=>b<w.heap.size)/\Below w.heap.size w w':=by
 have hlb:s.aI.length<=24:=hg.b.len;obtain⟨w0,hw0,hS,hR,hb0⟩:=zW w 38 [aA A s.aI.length c,aA B s.aJ.length d,aB aC s.aL,aB aC s.aK] [aA aF 0 0,aA aF 0 0,aB aC 0,aB aC 0];have hr0:=hr.below hb0;have hP0:=hP.below hb0;obtain⟨H,hH⟩:=wY w.heap.size
 have HCK:=sqH (fun W (h:Below w0.heap.size w0 W)=>zD A c B d s W hg (hr0.below h));have hkl:=qQ hk;have HKX:=sqH (show ∀W,Below w0.heap.size w0 W->Calls zZZ 39 #[aD ⟨key.toArray⟩] W fun e w'=>e= .returned (aB aC 0)/\Below W.heap.size W w' from fun W _=>by
  have:=kG ⟨key.toArray⟩ W (by show(key.toArray).size<=_;rw [List.size_toArray];omega);rw [show(⟨key.toArray⟩:ByteArray).data.toList=key from rfl,hk]at this;exact this)
 have HPC:=sqH (show ∀W,Below w0.heap.size w0 W->Calls zZZ 40 #[aA PA ps.length pc] W fun e w'=>e= .returned (aB aC 0)/\Below W.heap.size W w' from fun W h=>by
  have:=yK PA ps.length pc ps W rfl hP0.cap (by have:=(zi hpz).1;omega) (vL hpz) (hP0.below h).rd
  rwa [hpz]at this)
 have hpl8:=(zi hpz).1;obtain⟨HHV,HGX,HPL,HQL⟩:=sqJ4 (fun W (h:Below w0.heap.size w0 W)=>Qf A c s.aI PA pc ps W wu wu (hr0.b.below h) (hP0.below h).rd) hg (show ∀b∈s.aI,b.data.length<=1000000 from fun b hb=>by have:=(hg.b.one b hb).2.1;omega) (show ∀x∈s.aJ,x.aP.length<=1000000 from fun x hx=>by have:=(zi (hg.e.one x hx).2.1).1;omega);have HSB:=sqH (show ∀W,Below w0.heap.size w0 W->wI W H (aA A s.aI.length c) (aA B s.aJ.length d) (aB aC s.aL) (aB aC s.aK) from fun W h=>by
  rw [hH];exact sqC4 (hS.below h))
 have HKK:=sqH hk;have HPZ:=sqH hpz;rw [<-hH]at hS hR hb0 ⊢
 have hHl:H<w0.heap.size:=hS.lt;have hHr:H+1<w0.heap.size:=hR.lt;obtain⟨sk,hsk⟩:=wY (⟨key.toArray⟩:ByteArray)
 rw [<-hsk]at HKX ⊢
 have HSK:=sqH hsk;clear hg hr hk hP hpz hsk;go_enter func126,ntmps126;go_wp2_with fail;rw [<-hw0,<-hH];have HH:=sqH hH;clear hw0 hH;rw [hhv]at HHV;refine wp_region_held_drew (S:=(fun w'=>wI w' H (aA A s.aI.length c) (aA B s.aJ.length d) (aB aC s.aL) (aB aC s.aK))) ww ?_ (fun hHeld=> ?_)
 ·exact HSB.o _ (Below.refl _ w0).drew
 have hB:=(Below.refl w0.heap.size w0).drew;generalize w0.drew=wn0 at *
 refine wQ 0 ?_;refine wQ 2 ?_;refine wQ 4 ?_;refine wQ 6 ?_;refine wQ 7 ?_;refine wQ 8 ?_;refine wQ 11 ?_;refine wU 1 fun K hK=>?_;go_simp;refine(HCK.o wn0 hB).mono ?_;rintro e5 w5 ⟨rfl,hb5⟩;dsimp only;refine wF hK (HSB.o _ (wm hB hb5)) (Below wn0.heap.size wn0) hb5 fun wn1 hHeld hst=> ?_;have hB:=wm hB hst;clear hst;clear hK K
 try simp only [sqP]
 refine wU 3 fun K hK=>?_;go_simp;refine(HKX.o wn1 hB).mono ?_;rintro e5 w5 ⟨rfl,hb5⟩;dsimp only;refine wF hK (HSB.o _ (wm hB hb5)) (Below wn1.heap.size wn1) hb5 fun wn2 hHeld hst=> ?_;have hB:=wm hB hst;clear hst;clear hK K
 try simp only [sqP]
 refine wU 5 fun K hK=>?_;go_simp;refine(HPC.o wn2 hB).mono ?_;rintro e5 w5 ⟨rfl,hb5⟩;dsimp only;refine wF hK (HSB.o _ (wm hB hb5)) (Below wn2.heap.size wn2) hb5 fun wn3 hHeld hst=> ?_;have hB:=wm hB hst;clear hst;clear hK K
 try simp only [sqP]
 refine wU 9 fun K hK=>?_;go_simp;refine(HHV.o wn3 hB).mono ?_;rintro e5 w5 ⟨rfl,hb5⟩;dsimp only;refine wF hK (HSB.o _ (wm hB hb5)) (Below wn3.heap.size wn3) hb5 fun wn4 hHeld hst=> ?_;have hB:=wm hB hst;clear hst;clear hK K
 refine wQ 10 ?_;refine wpAnyH_done ww ?_ _;dsimp only [Exit.then];clear hHeld;generalize wn4=w1 at *
 go_wp2_with fail;go_loopg [25] 4 (fun gn i wr=>∃j:Int,i= aB aC j/\(j=0\/j=1\/j=2\/j=3\/j=4)/\gn=(4 - j).toNat/\wr=w1)
 case atStart=>exact⟨0,rfl,wu,rfl,rfl⟩
 case round =>
  obtain⟨j,rfl,hj,hgn,hwr⟩:=hrel;subst hwr;have ix0:=z4i 0 wu wr;have ix1:=z4i 1 wu wr;have ix2:=z4i 2 wu wr;have ix3:=z4i 3 wu wr;rcases hj with rfl | rfl | rfl | rfl | rfl
  ·go_wp2_with fail;go_roundg 3
   case measure=>omega
   case rel=>exact⟨1,rfl,wu,rfl,rfl⟩
  ·go_wp2_with fail;go_roundg 2
   case measure=>omega
   case rel=>exact⟨2,rfl,wu,rfl,rfl⟩
  ·go_wp2_with fail;go_roundg 1
   case measure=>omega
   case rel=>exact⟨3,rfl,wu,rfl,rfl⟩
  ·go_wp2_with fail;go_roundg 0
   case measure=>omega
   case rel=>exact⟨4,rfl,wu,rfl,rfl⟩
  ·clear hgn ix0 ix1 ix2 ix3;generalize wr=wr0 at *
   obtain⟨z0,z1,z2,z3⟩:=HSB.o wr0 hB;have hr1:=hr0.below hB;have HCP:=sqH (qL A c B d s wr0 wu wu HPL.o HQL.o hr1);have hP1:=hP0.below hB;clear hr0 hP0 hS;go_wp2_with fail;clear z0 z1 z2 z3;refine HCP.o.mono ?_;rintro e_ w4 ⟨q1,q2,rfl,ho4',hb4⟩;dsimp only;have hc4:=wm hB hb4;have hP4:=hP1.below hb4;have ho4:=(ho4'.lower hB.size).wider (N':=fun b=>b<w0.heap.size) (fun b hb=> .inl (Nat.lt_of_lt_of_le hb hB.size));have hPl:=hP4.live;clear ho4' hB hb4 hP1;have h41:∀b,(aA (aG ⟨q1,0,aF⟩) s.aI.length s.aI.length).ownBlock=aG b->b<w4.heap.size:=fun b e=>(ho4.b.rwo.blk e).2;have h42:∀b,(aA (aG ⟨q2,0,aF⟩) s.aJ.length s.aJ.length).ownBlock=aG b->b<w4.heap.size:=fun b e=>(ho4.e.rwo.blk e).2;have hG:w0.heap.size<=w4.heap.size:=hc4.size;obtain⟨G,hGe⟩:=wY w4.heap.size
   rw [<-hGe]at h41 h42 hG;have hba:=ws w4 (aE #[(aA (aG ⟨q1,0,aF⟩) s.aI.length s.aI.length),(aA (aG ⟨q2,0,aF⟩) s.aJ.length s.aJ.length),aB aC s.aL,aB aC s.aK] 38);have hX:Arr (w4.alloc (aE #[(aA (aG ⟨q1,0,aF⟩) s.aI.length s.aI.length),(aA (aG ⟨q2,0,aF⟩) s.aJ.length s.aJ.length),aB aC s.aL,aB aC s.aK] 38)) G 38 [(aA (aG ⟨q1,0,aF⟩) s.aI.length s.aI.length),(aA (aG ⟨q2,0,aF⟩) s.aJ.length s.aJ.length),aB aC s.aL,aB aC s.aK]:=by rw [hGe];exact Arr.new w4 38 _
   have ho:=(ho4.wider (N':=fun b=>b<w0.heap.size\/b=G) (fun b hb=>hb.imp id (fun e=>wu))).below hba;have hR5:=(hR.below hc4).below hba;have hb5:=(hb0.trans (hc4.mono (Nat.le_of_lt hHl))).alloc wu (aE #[(aA (aG ⟨q1,0,aF⟩) s.aI.length s.aI.length),(aA (aG ⟨q2,0,aF⟩) s.aJ.length s.aJ.length),aB aC s.aL,aB aC s.aK] 38);clear hR ho4 hc4 hba hb0;have hR:=hR5;clear hR5;have hb:=hb5;clear hb5;have hP5:=hP4.below (ws w4 (aE #[(aA (aG ⟨q1,0,aF⟩) s.aI.length s.aI.length),(aA (aG ⟨q2,0,aF⟩) s.aJ.length s.aJ.length),aB aC s.aL,aB aC s.aK] 38));have HTK:=sqH (Xf G (aA (aG ⟨q1,0,aF⟩) s.aI.length s.aI.length) (aA (aG ⟨q2,0,aF⟩) s.aJ.length s.aJ.length) (aB aC s.aL) s.aK _ hclk hX);have hPG:∀a,PA=aG a->a.block≠G:=fun a ha=>by have:=hPl a ha;omega
   clear hP4 hPl;go_wp2_with fail;rw [<-hGe];clear hGe;generalize w4.alloc (aE #[(aA (aG ⟨q1,0,aF⟩) s.aI.length s.aI.length),(aA (aG ⟨q2,0,aF⟩) s.aJ.length s.aJ.length),aB aC s.aL,aB aC s.aK] 38)=w5 at *
   refine HTK.o.mono ?_;rintro e_ _ ⟨rfl,rfl⟩;dsimp only;have hX6:Arr (w5.setCell ⟨G,3,aF⟩ (aB aC ((s.aK+1:Nat):Int))) G 38 [(aA (aG ⟨q1,0,aF⟩) s.aI.length s.aI.length),(aA (aG ⟨q2,0,aF⟩) s.aJ.length s.aJ.length),aB aC s.aL,aB aC ((s.aK+1:Nat):Int)]:=hX.set (k:=3) ab (aB aC ((s.aK+1:Nat):Int));have hR6:=hR.other (g':=G) (k:=3) wu (aB aC ((s.aK+1:Nat):Int));have ho6:=ho.setX (g:=G) (k:=3) (.inr rfl) (fun e=>by have:=h41 _ e;omega) (fun e=>by have:=h42 _ e;omega) (aB aC ((s.aK+1:Nat):Int));have hb6:=hb.setCell (p:=⟨G,3,aF⟩) ae (aB aC ((s.aK+1:Nat):Int));have hP6:=hP5.other (g:=G) (k:=3) hPG (aB aC ((s.aK+1:Nat):Int));have hGl:G<(w5.setCell ⟨G,3,aF⟩ (aB aC ((s.aK+1:Nat):Int))).heap.size:=hX6.lt;clear hX hR ho hb hP5 HTK;generalize w5.setCell ⟨G,3,aF⟩ (aB aC ((s.aK+1:Nat):Int))=w6 at *
   obtain⟨A',c',e1,_,_,hRe6⟩:=ho6.e.rwo.rows;cases e1
   have hgx:GoodE1 ⟨key,ps,0,s.aK+1⟩:=⟨HKK.o,HPZ.o,by show 0<=5;omega,by show s.aK+1<=_;omega⟩
   have HPT:=z0n (aG ⟨q2,0,aF⟩) s.aJ.length s.aJ ⟨key,ps,0,s.aK+1⟩ PA pc w6 HGX.o.e hgx hlen hRe6 hP6;dsimp only at HPT;rw [<-HSK.o]at HPT;have HPT:=sqH HPT;have x1:=hX6.c1;have x3:=hX6.c3;clear hRe6 hP6 hgx;go_wp2_with fail;clear x1 x3;refine HPT.o.mono ?_;rintro e_ w7 ⟨v3,rfl,hx7,hb7⟩;dsimp only;have hN6:∀b,(b<w0.heap.size\/b=G)->b<w6.heap.size:=fun b hb=>by omega
   have ho7:=((OwSt.mixE ho6 hN6 hx7 wu hb7).clk s.aL (s.aK+1))
   have hX7:=hX6.below hb7;have hR7:=hR6.below hb7;have hb7':=hb6.trans (hb7.mono wu);have h43:∀b,v3.ownBlock=aG b->w6.heap.size<=b:=fun b e=>(hx7.rwo.blk e).1;obtain⟨A3,c3,e3,_,_,_⟩:=hx7.rwo.rows;subst e3;clear hX6 hR6 ho6 hb6 hx7 hb7;have f1:=hX7.frozen 1;have x1:=hX7.c1;have hX:Arr (w7.setCell ⟨G,1,aF⟩ (aA A3 (xl s.aJ ⟨key,ps,0,s.aK+1⟩).length c3)) G 38 [(aA (aG ⟨q1,0,aF⟩) s.aI.length s.aI.length),aA A3 (xl s.aJ ⟨key,ps,0,s.aK+1⟩).length c3,aB aC s.aL,aB aC ((s.aK+1:Nat):Int)]:=hX7.set (k:=1) ab _;have hR:=hR7.other (g':=G) (k:=1) wu (aA A3 (xl s.aJ ⟨key,ps,0,s.aK+1⟩).length c3);have ho:=ho7.setX (g:=G) (k:=1) (.inr rfl) (fun e=>by have:=h41 _ e;omega) (fun e=>by have:=h43 _ e;omega) (aA A3 (xl s.aJ ⟨key,ps,0,s.aK+1⟩).length c3);have hb:=hb7'.setCell (p:=⟨G,1,aF⟩) ae (aA A3 (xl s.aJ ⟨key,ps,0,s.aK+1⟩).length c3);clear hX7 hR7 ho7 hb7';obtain⟨z0,z1,z2,z3⟩:=sqC4 hX;obtain⟨f0,f1,f2,f3⟩:=sqF4 hR;obtain⟨y0,y1,y2,y3⟩:=sqC4 hR;have hfin:=hR.all4 (aA (aG ⟨q1,0,aF⟩) s.aI.length s.aI.length) (aA A3 (xl s.aJ ⟨key,ps,0,s.aK+1⟩).length c3) (aB aC s.aL) (aB aC ((s.aK+1:Nat):Int));have hoF:=(((ho.set (g:=H+1) (k:=0) hHr (.inl hHr) (aA (aG ⟨q1,0,aF⟩) s.aI.length s.aI.length)).set (g:=H+1) (k:=1) hHr (.inl hHr) (aA A3 (xl s.aJ ⟨key,ps,0,s.aK+1⟩).length c3)).set (g:=H+1) (k:=2) hHr (.inl hHr) (aB aC s.aL)).set (g:=H+1) (k:=3) hHr (.inl hHr) (aB aC ((s.aK+1:Nat):Int));have hbF:=(((hb.setCell (p:=⟨H+1,0,aF⟩) ae (aA (aG ⟨q1,0,aF⟩) s.aI.length s.aI.length)).setCell (p:=⟨H+1,1,aF⟩) ae (aA A3 (xl s.aJ ⟨key,ps,0,s.aK+1⟩).length c3)).setCell (p:=⟨H+1,2,aF⟩) ae (aB aC s.aL)).setCell (p:=⟨H+1,3,aF⟩) ae (aB aC ((s.aK+1:Nat):Int));clear hR ho hb hX;go_wp2_with fail;refine bodyPost_ret (zK rfl _ _ (H+1) _ _ _ _ ac hfin underlying38 rfl ww) rfl ?_;exact⟨_,_,rfl,(hoF.lower (base':=H) wu).wider (N':=fun b=>b<H) (fun b hb=> .inl (.inl wu)),hbF⟩
theorem kW {g':Nat} (h:g≠g') {a b c d:Value}:((((w.setCell ⟨g',0,aF⟩ a).setCell ⟨g',1,aF⟩ b).setCell ⟨g',2,aF⟩ c).setCell ⟨g',3,aF⟩ d).cell? ⟨g,k,aF⟩=w.cell? ⟨g,k,aF⟩:=by
 refine(World.cell?_of_block (Below.heap_setCell _ _ d g h)).trans ((World.cell?_of_block (Below.heap_setCell _ _ c g h)).trans ((World.cell?_of_block (Below.heap_setCell _ _ b g h)).trans (World.cell?_of_block (Below.heap_setCell _ _ a g h))))
theorem Vg {base n:Nat} {size:Nat} {v:Value} {xs:ak} (h:w.ownsRow base e size v n xs) (hg:g<base) (a b c d:Value) :
  ((((w.setCell ⟨g,0,aF⟩ a).setCell ⟨g,1,aF⟩ b).setCell ⟨g,2,aF⟩ c).setCell ⟨g,3,aF⟩ d).ownsRow base e size v n xs:=by
 have hne:v.ownBlock≠aG g:=fun e=>by have:=(h.lt g e).1;omega
 exact zd (zd (zd (zd h hne) hne) hne) hne
theorem z1e {k:ai} (hr:RisesBy (·.key) l) (hi:i<l.length) (hk:l[i].key=k):l.findIdx? (fun x=>x.key==k)=aG i:=by
 rw [List.findIdx?_eq_some_iff_getElem];refine⟨hi,by simp [hk],fun j hj=> ?_⟩;have:=List.pairwise_iff_getElem.1 hr j i wu hi hj;rw [<-hk];simpa using xf this
theorem z3g {l:List BlobP} {k:ai} (hr:RisesBy (·.dig) l) (hi:i<l.length) (hk:l[i].dig=k):l.findIdx? (fun x=>x.dig==k)=aG i:=by
 rw [List.findIdx?_eq_some_iff_getElem];refine⟨hi,by simp [hk],fun j hj=> ?_⟩;have:=List.pairwise_iff_getElem.1 hr j i wu hi hj;rw [<-hk];simpa using xf this
theorem Rw.ent_at' {A:aj} {x:EntP} (h:Rw EntS w A l) (hx:l[k]?=aG x) :
  ∃b off B c,A=aG ⟨b,off,aF⟩/\b<w.heap.size/\w.cell? ⟨b,off+k*4,aF⟩=aG (aD ⟨x.key.toArray⟩)/\w.cell? ⟨b,off+k*4+1,aF⟩=aG (aA B x.aP.length c) /\
   w.cell? ⟨b,off+k*4+2,aF⟩=aG (aB aC x.aQ)/\w.cell? ⟨b,off+k*4+3,aF⟩=aG (aB aC x.aO)/\Sl w 3 B x.aP.length c (pcs x.aP):=by
 obtain⟨hk,rfl⟩:=List.getElem?_eq_some_iff.1 hx;exact h.ent_at k hk
theorem z1h (s:StoP) (i:Nat) (x:EntP) (hi:i<s.aJ.length):(kD s i x).aJ[i]?=aG { x with aO:=s.aK+1 }:=by
 unfold kD;simp [hi]
theorem YP (A:aj) (c:Nat) (B:aj) (d:Nat) (s:StoP) (key:ai) (i:Nat) (w:World) (hg:GoodS s) (hr:RdSt w A c B d s) (hi:i<s.aJ.length) (hk:s.aJ[i].key=key) (hclk:s.aK<1099511627776) :
  Calls zZZ 68 #[.agg #[aA A s.aI.length c,aA B s.aJ.length d,aB aC s.aL,aB aC s.aK],aD ⟨key.toArray⟩] w fun e w' =>
   ∃v1 v2 v3,e= .returned (.tuple #[.agg #[v1,v2,aB aC s.aL,aB aC ((s.aK+1:Nat):Int)],v3,aB aC 0])/\OwSt w' w.heap.size v1 v2 (kD s i s.aJ[i]) (fun b=>b<w.heap.size)/\w'.ownsRow w.heap.size 85 3 v3 s.aJ[i].aP.length (pcs s.aJ[i].aP)/\Below w.heap.size w w':=by
 obtain⟨z,hz⟩:=wY (s.aK+1)
 rw [<-hz];have HZ:=sqH hz;clear hz;have hlb:s.aI.length<=24:=hg.b.len;have hle:s.aJ.length<=10:=hg.e.len;have HPN:=sqH (show s.aJ[i].aP.length<=8 from(zi (hg.e.one _ (List.getElem_mem hi)).2.1).1);have HFX:=sqH (z1e hg.e.ris hi hk);obtain⟨sk,hsk⟩:=wY (⟨key.toArray⟩:ByteArray)
 rw [<-hsk];have HSK:=sqH hsk;clear hk hsk;obtain⟨w0,hw0,hS,hR,hb0⟩:=zW w 38 [aA A s.aI.length c,aA B s.aJ.length d,aB aC s.aL,aB aC s.aK] [aA aF 0 0,aA aF 0 0,aB aC 0,aB aC 0];have hr0:=hr.below hb0;obtain⟨H,hH⟩:=wY w.heap.size
 have HCK:=sqH (zD A c B d s w0 hg hr0);rw [<-hH]at hS hR hb0 ⊢
 have hHl:H<w0.heap.size:=hS.lt;have hHr:H+1<w0.heap.size:=hR.lt;obtain⟨x0,x1,x2,x3⟩:=sqC4 hS;rw [hw0,hH]at x0 x1 x2 x3;obtain⟨HPL,HQL,HG⟩:=sqJ3 (show ∀b∈s.aI,b.data.length<=1000000 from fun b hb=>by have:=(hg.b.one b hb).2.1;omega) (show ∀x∈s.aJ,x.aP.length<=1000000 from fun x hx=>by have:=(zi (hg.e.one x hx).2.1).1;omega) hg;clear hg hr;go_enter func68,ntmps68;go_wp2_with fail;rw [<-hw0,<-hH];have HH:=sqH hH;clear hw0 hH x0 x1 x2 x3;refine wZ HCK.o fun w1 hb1=>?_;dsimp only;have hr1:=hr0.below hb1;have hS1:=hS.below hb1;have y0:=hS1.c1;have HFN:=kN B d s.aJ key w1 wu hr1.e;rw [HFX.o,xx,<-HSK.o]at HFN;have HFN:=sqH HFN;clear hr0 hS;go_wp2_with fail;clear y0;refine wZ HFN.o fun w2 hb2=>?_;dsimp only;have hc2:=wm hb1 hb2;have hr2:=hr1.below hb2;have hS2:=hS1.below hb2;obtain⟨z0,z1,z2,z3⟩:=sqC4 hS2;have HCP:=sqH (qL A c B d s w2 wu wu HPL.o HQL.o hr2);clear hr1 hS1 hb1 hb2 hr2;go_wp2_with fail;clear z0 z1 z2 z3;refine HCP.o.mono ?_;rintro e_ w4 ⟨q1,q2,rfl,ho4',hb4⟩;dsimp only;have hc4:=wm hc2 hb4;have ho4:=(ho4'.lower hc2.size).wider (N':=fun b=>b<w0.heap.size) (fun b hb=> .inl (Nat.lt_of_lt_of_le hb hc2.size));clear ho4' hc2 hb4 hS2;have h41:∀b,(aA (aG ⟨q1,0,aF⟩) s.aI.length s.aI.length).ownBlock=aG b->b<w4.heap.size:=fun b e=>(ho4.b.rwo.blk e).2;have h42:∀b,(aA (aG ⟨q2,0,aF⟩) s.aJ.length s.aJ.length).ownBlock=aG b->b<w4.heap.size:=fun b e=>(ho4.e.rwo.blk e).2;have hG:w0.heap.size<=w4.heap.size:=hc4.size;obtain⟨G,hGe⟩:=wY w4.heap.size
 rw [<-hGe]at h41 h42 hG;have hba:=ws w4 (aE #[(aA (aG ⟨q1,0,aF⟩) s.aI.length s.aI.length),(aA (aG ⟨q2,0,aF⟩) s.aJ.length s.aJ.length),aB aC s.aL,aB aC s.aK] 38);have hX:Arr (w4.alloc (aE #[(aA (aG ⟨q1,0,aF⟩) s.aI.length s.aI.length),(aA (aG ⟨q2,0,aF⟩) s.aJ.length s.aJ.length),aB aC s.aL,aB aC s.aK] 38)) G 38 [(aA (aG ⟨q1,0,aF⟩) s.aI.length s.aI.length),(aA (aG ⟨q2,0,aF⟩) s.aJ.length s.aJ.length),aB aC s.aL,aB aC s.aK]:=by rw [hGe];exact Arr.new w4 38 _
 have ho:=(ho4.wider (N':=fun b=>b<w0.heap.size\/b=G) (fun b hb=>hb.imp id (fun e=>wu))).below hba;have hR5:=(hR.below hc4).below hba;have hb5:=(hb0.trans (hc4.mono (Nat.le_of_lt hHl))).alloc wu (aE #[(aA (aG ⟨q1,0,aF⟩) s.aI.length s.aI.length),(aA (aG ⟨q2,0,aF⟩) s.aJ.length s.aJ.length),aB aC s.aL,aB aC s.aK] 38);clear hR ho4 hc4 hba hb0;have hR:=hR5;clear hR5;have hb:=hb5;clear hb5;have htk:=(Xf G (aA (aG ⟨q1,0,aF⟩) s.aI.length s.aI.length) (aA (aG ⟨q2,0,aF⟩) s.aJ.length s.aJ.length) (aB aC s.aL) s.aK _ hclk hX)
 rw [<-HZ.o]at htk;have HTK:=sqH htk;clear htk;have hq2:w0.heap.size<=q2:=(ho.e.rwo.blk rfl).1;have hqG:q2<G:=h42 _ rfl;go_wp2_with fail;rw [<-hGe];clear hGe;generalize w4.alloc (aE #[(aA (aG ⟨q1,0,aF⟩) s.aI.length s.aI.length),(aA (aG ⟨q2,0,aF⟩) s.aJ.length s.aJ.length),aB aC s.aL,aB aC s.aK] 38)=w5 at *
 refine HTK.o.mono ?_;rintro e_ _ ⟨rfl,rfl⟩;dsimp only;have hX6:Arr (w5.setCell ⟨G,3,aF⟩ (aB aC z)) G 38 [(aA (aG ⟨q1,0,aF⟩) s.aI.length s.aI.length),(aA (aG ⟨q2,0,aF⟩) s.aJ.length s.aJ.length),aB aC s.aL,aB aC z]:=hX.set (k:=3) ab (aB aC z);have hR6:=hR.other (g':=G) (k:=3) wu (aB aC z);have ho6:=(ho.setX (g:=G) (k:=3) (.inr rfl) (fun e=>by have:=h41 _ e;omega) (fun e=>by have:=h42 _ e;omega) (aB aC z))
 have hb6:=hb.setCell (p:=⟨G,3,aF⟩) ae (aB aC z);clear hX hR ho hb HTK;generalize w5.setCell ⟨G,3,aF⟩ (aB aC z)=w6 at *
 obtain⟨⟨v0,k3⟩,f3,ho7',hg7⟩:=ho6.setE (j:=3) (u:= aB aC z) (y:= { s.aJ[i] with aO:=s.aK+1 }) hi wu (fun W cs h=>by rw [HZ.o];exact XE _ _ W cs h) (ym _);have x1:=hX6.c1;have x3:=hX6.c3;have hi0:=we i
 have hi1:(i:Int)<(s.aJ.length:Int):=wu;have hX7:=hX6.other (g':=q2) (k:=i*4+3) wu (aB aC z);have hR7:=hR6.other (g':=q2) (k:=i*4+3) wu (aB aC z);have hb7:=hb6.setCell (p:=⟨q2,i*4+3,aF⟩) ae (aB aC z);have ho7:OwSt (w6.setCell ⟨q2,i*4+3,aF⟩ (aB aC z)) w0.heap.size (aA (aG ⟨q1,0,aF⟩) s.aI.length s.aI.length) (aA (aG ⟨q2,0,aF⟩) s.aJ.length s.aJ.length) (kD s i s.aJ[i]) (fun b=>b<w0.heap.size\/b=G):=ho7'.clk s.aL (s.aK+1);have hw7:H<=(w6.setCell ⟨q2,i*4+3,aF⟩ (aB aC z)).heap.size:=by have:=hR7.lt;omega
 clear hX6 hR6 ho6 hb6 ho7' hg7;go_wp2_with fail;clear x1 x3 k3 f3;generalize w6.setCell ⟨q2,i*4+3,aF⟩ (aB aC z)=w7 at *
 have hX:=hX7;have hR:=hR7;have ho:=ho7;have hb:=hb7;clear hX7 hR7 ho7 hb7;obtain⟨A',c',e1,_,_,hRe7⟩:=ho.e.rwo.rows;obtain⟨b',off',XB,xc,e2,_,_,k1,_,_,hsl⟩:=hRe7.ent_at' (z1h s i s.aJ[i] hi);dsimp only at k1 hsl;injection e1 with e11 e12 e13;clear e12 e13;subst e11;cases e2
 rw [Nat.zero_add]at k1;have HSB:=sqH (show ∀W,Below w7.heap.size w7 W->(W.cell? ⟨G,0,aF⟩=aG (aA (aG ⟨q1,0,aF⟩) s.aI.length s.aI.length)/\W.cell? ⟨G,1,aF⟩=aG (aA (aG ⟨q2,0,aF⟩) s.aJ.length s.aJ.length)/\W.cell? ⟨G,2,aF⟩=aG (aB aC s.aL)/\W.cell? ⟨G,3,aF⟩=aG (aB aC z))/\W.cell? ⟨q2,i*4+1,aF⟩=aG (aA XB s.aJ[i].aP.length xc) from fun W h =>
  ⟨sqC4 (hX.below h),(h.cell (p:=⟨q2,i*4+1,aF⟩) (ho.e.rwo.blk rfl).2).trans k1⟩)
 have HCL:=sqH (show ∀W,Below w7.heap.size w7 W->Calls zZZ 95 #[aA XB s.aJ[i].aP.length xc] W fun e w'=>∃v,e= .returned v/\w'.ownsRow W.heap.size 85 3 v s.aJ[i].aP.length (pcs s.aJ[i].aP)/\Below W.heap.size W w' from fun W h =>
  yz XB s.aJ[i].aP.length xc (pcs s.aJ[i].aP) W (wc HPN) (hsl.below h).rd (jX _))
 have hGH:G≠H+1:=wu;have hqH:q2≠H+1:=wu;have hH7:H+1<w7.heap.size:=hR.lt;clear hRe7 hsl k1 hX;refine wp_region_held_drew (S:=(fun w'=>(w'.cell? ⟨G,0,aF⟩=aG (aA (aG ⟨q1,0,aF⟩) s.aI.length s.aI.length)/\w'.cell? ⟨G,1,aF⟩=aG (aA (aG ⟨q2,0,aF⟩) s.aJ.length s.aJ.length)/\w'.cell? ⟨G,2,aF⟩=aG (aB aC s.aL)/\w'.cell? ⟨G,3,aF⟩=aG (aB aC z))/\w'.cell? ⟨q2,i*4+1,aF⟩=aG (aA XB s.aJ[i].aP.length xc))) ww ?_ (fun hHeld=> ?_)
 ·exact HSB.o _ (Below.refl _ w7).drew
 have hB:=(Below.refl w7.heap.size w7).drew;generalize w7.drew=wn0 at *
 refine wQ 0 ?_;refine wQ 1 ?_;refine wQ 2 ?_;refine wQ 3 ?_;refine wQ 4 ?_;refine wQ 5 ?_;refine wQ 6 ?_;refine wU 7 fun K hK=>?_;go_simp;refine(HCL.o wn0 hB).mono ?_;rintro e9 w9 ⟨v9,rfl,ho9,hb9⟩;dsimp only;refine kn hK (HSB.o _ (wm hB hb9)) (Below wn0.heap.size wn0) (fun W=>W.ownsRow w7.heap.size 85 3 v9 s.aJ[i].aP.length (pcs s.aJ[i].aP)) hb9 (zb ho9 hB.size) fun wn1 hHeld hst hnew=> ?_;have hB:=wm hB hst;have ho9':=hnew;clear hnew;clear hst;clear hK K
 try simp only [sqP]
 refine wU 8 fun K hK=>?_;obtain⟨f0,f1,f2,f3⟩:=sqF4 (hR.below hB);obtain⟨y0,y1,y2,y3⟩:=sqC4 (hR.below hB);go_simp;clear f0 f1 f2 f3 y0 y1 y2 y3;have hB1:=hB;have hfin:=(hR.below hB).all4 (aA (aG ⟨q1,0,aF⟩) s.aI.length s.aI.length) (aA (aG ⟨q2,0,aF⟩) s.aJ.length s.aJ.length) (aB aC s.aL) (aB aC z);have ho1:=ho.below hB;have hoF:=(((ho1.set (g:=H+1) (k:=0) hHr (.inl hHr) (aA (aG ⟨q1,0,aF⟩) s.aI.length s.aI.length)).set (g:=H+1) (k:=1) hHr (.inl hHr) (aA (aG ⟨q2,0,aF⟩) s.aJ.length s.aJ.length)).set (g:=H+1) (k:=2) hHr (.inl hHr) (aB aC s.aL)).set (g:=H+1) (k:=3) hHr (.inl hHr) (aB aC z);have hb1:=hb.trans (hB.mono hw7);have hbF:=(((hb1.setCell (p:=⟨H+1,0,aF⟩) ae (aA (aG ⟨q1,0,aF⟩) s.aI.length s.aI.length)).setCell (p:=⟨H+1,1,aF⟩) ae (aA (aG ⟨q2,0,aF⟩) s.aJ.length s.aJ.length)).setCell (p:=⟨H+1,2,aF⟩) ae (aB aC s.aL)).setCell (p:=⟨H+1,3,aF⟩) ae (aB aC z);have ho9F:=Vg ho9' (g:=H+1) wu (aA (aG ⟨q1,0,aF⟩) s.aI.length s.aI.length) (aA (aG ⟨q2,0,aF⟩) s.aJ.length s.aJ.length) (aB aC s.aL) (aB aC z);have hne:w7.heap.size<=wn1.heap.size:=hB.size;refine kn hK ?_ (fun W=>Arr W (H+1) 38 [(aA (aG ⟨q1,0,aF⟩) s.aI.length s.aI.length),(aA (aG ⟨q2,0,aF⟩) s.aJ.length s.aJ.length),aB aC s.aL,aB aC z]) (fun W=>OwSt W w0.heap.size (aA (aG ⟨q1,0,aF⟩) s.aI.length s.aI.length) (aA (aG ⟨q2,0,aF⟩) s.aJ.length s.aJ.length) (kD s i s.aJ[i]) (fun b=>b<w0.heap.size\/b=G)/\Below H w W/\W.ownsRow w7.heap.size 85 3 v9 s.aJ[i].aP.length (pcs s.aJ[i].aP)) ?_ ?_ (fun wn2 hHeld hF hG=> ?_)
 ·have h1:=HSB.o _ hB;rw [kW hGH,kW hGH,kW hGH,kW hGH,kW hqH];exact h1
 ·exact hfin
 ·exact⟨hoF,hbF,ho9F⟩
 clear hB hB1 hfin ho1 hoF hb1 hbF ho9F hne ho9';clear hK K
 refine wQ 9 ?_;refine wQ 10 ?_;refine wpAnyH_done ww ?_ _;dsimp only [Exit.then];clear hHeld;obtain⟨hoF,hbF,ho9⟩:=hG;go_wp2_with fail;refine bodyPost_ret (zz rfl _ _ (H+1) _ _ _ _ ac hF underlying38 rfl ww) rfl ?_;exact⟨_,_,_,rfl,(hoF.lower (base':=H) wu).wider (N':=fun b=>b<H) (fun b hb=> .inl (.inl wu)),zb ho9 wu,hbF⟩
def mvN (n:Nat) (up:Bool):Nat:=if up then n+1 else n - 1
theorem YX (n:Nat) (up:Bool) (w:World) (h:if up then n<5 else 0<n/\n<=5):Calls zZZ 96 #[aB aC n,.bool up] w fun e w'=>e= .returned (.tuple #[aB aC (mvN n up:Nat),aB aC 0])/\w'=w:=by
 have HC:=sqH (show n<=5->∀W,Calls zZZ 133 #[aB aC n] W fun e w'=>e= .returned (aB aC 0)/\W=w' from fun h5 W=>xr (n:Int) wu wu W);cases up with
 | true =>
  have h':n<5:=h;have h5:((n:Int)==5)=false:=beq_eq_false_iff_ne.2 wu;have hw:IntKind.i64.wrap ((n:Int)+1)=(n:Int)+1:=IntWalk.i64_in _ wu;have HC2:=sqH (HC.o wu);clear h HC;go_enter func96,ntmps96;go_wp2_with fail;refine(HC2.o w).mono ?_;rintro e_ _ ⟨rfl,rfl⟩;dsimp only;go_wp2_with fail;go_ret2;exact⟨rfl,rfl⟩
 | false =>
  have h':0<n/\n<=5:=h;have h5:((n:Int)==0)=false:=beq_eq_false_iff_ne.2 wu;have hw:IntKind.i64.wrap ((n:Int) - 1)=(n:Int) - 1:=IntWalk.i64_in _ wu;have HC2:=sqH (HC.o wu);have e1:((mvN n false:Nat):Int)=(n:Int) - 1:=by show((n - 1:Nat):Int)=_;omega
  rw [e1];clear h HC e1;go_enter func96,ntmps96;go_wp2_with fail;refine(HC2.o w).mono ?_;rintro e_ _ ⟨rfl,rfl⟩;dsimp only;go_wp2_with fail;go_ret2;exact⟨rfl,rfl⟩
theorem Uf (A:aj) (c:Nat) (B:aj) (d:Nat) (s:StoP) (key:ai) (up:Bool) (i:Nat) (w:World) (hg:GoodS s) (hr:RdSt w A c B d s) (hi:i<s.aI.length) (hk:s.aI[i].dig=key) (hmv:if up then s.aI[i].aQ<5 else 0<s.aI[i].aQ/\s.aI[i].aQ<=5) :
  Calls zZZ 87 #[.agg #[aA A s.aI.length c,aA B s.aJ.length d,aB aC s.aL,aB aC s.aK],aD ⟨key.toArray⟩,.bool up] w fun e w' =>
   ∃v1 v2,e= .returned (.tuple #[.agg #[v1,v2,aB aC s.aL,aB aC s.aK],aB aC 0])/\OwSt w' w.heap.size v1 v2 (kg s i s.aI[i] (mvN s.aI[i].aQ up)) (fun b=>b<w.heap.size)/\Below w.heap.size w w':=by
 have hlb:s.aI.length<=24:=hg.b.len;have hle:s.aJ.length<=10:=hg.e.len;have HFX:=sqH (z3g hg.b.ris hi hk);obtain⟨p,hp⟩:=wY (s.aI[i].aQ)
 rw [<-hp]at hmv ⊢
 have HPI:=sqH hp.symm;obtain⟨n,hn⟩:=wY (mvN p up)
 have HMV:=sqH (fun W=>YX p up W hmv);rw [<-hn]at HMV ⊢
 obtain⟨sk,hsk⟩:=wY (⟨key.toArray⟩:ByteArray)
 rw [<-hsk];have HSK:=sqH hsk;clear hk hsk hn hp hmv;obtain⟨w0,hw0,hS,hR,hb0⟩:=zW w 38 [aA A s.aI.length c,aA B s.aJ.length d,aB aC s.aL,aB aC s.aK] [aA aF 0 0,aA aF 0 0,aB aC 0,aB aC 0];have hr0:=hr.below hb0;obtain⟨H,hH⟩:=wY w.heap.size
 have HCK:=sqH (zD A c B d s w0 hg hr0);rw [<-hH]at hS hR hb0 ⊢
 have hHl:H<w0.heap.size:=hS.lt;have hHr:H+1<w0.heap.size:=hR.lt;obtain⟨x0,x1,x2,x3⟩:=sqC4 hS;rw [hw0,hH]at x0 x1 x2 x3;obtain⟨HPL,HQL,HG⟩:=sqJ3 (show ∀b∈s.aI,b.data.length<=1000000 from fun b hb=>by have:=(hg.b.one b hb).2.1;omega) (show ∀x∈s.aJ,x.aP.length<=1000000 from fun x hx=>by have:=(zi (hg.e.one x hx).2.1).1;omega) hg;clear hg hr;go_enter func87,ntmps87;go_wp2_with fail;rw [<-hw0,<-hH];have HH:=sqH hH;clear hw0 hH x0 x1 x2 x3;refine wZ HCK.o fun w1 hb1=>?_;dsimp only;have hr1:=hr0.below hb1;have hS1:=hS.below hb1;have y0:=hS1.c0;have HFN:=ky A c s.aI key w1 wu hr1.b;rw [HFX.o,xx,<-HSK.o]at HFN;have HFN:=sqH HFN;clear hr0 hS;go_wp2_with fail;clear y0;refine wZ HFN.o fun w2 hb2=>?_;dsimp only;have hc2:=wm hb1 hb2;have hr2:=hr1.below hb2;have hS2:=hS1.below hb2;obtain⟨b,off,XB,xc,e1,hbb,d0,d1,d2,d3,_⟩:=hr2.b.blob_at i hi;have hi0:=we i
 have hi1:(i:Int)<(s.aI.length:Int):=wu;have y0:=hS2.c0;rw [HPI.o]at d2;rw [e1]at y0;clear hr1 hS1 hb1 hb2 d0 d1 d3;go_wp2_with fail;clear y0 d2;refine wZ (HMV.o w2) fun wq hwq=>?_;dsimp only;replace hwq:=hwq.symm;subst hwq;obtain⟨z0,z1,z2,z3⟩:=sqC4 hS2;have HCP:=sqH (qL A c B d s w2 wu wu HPL.o HQL.o hr2);clear hr2 e1;go_wp2_with fail;clear z0 z1 z2 z3;refine HCP.o.mono ?_;rintro e_ w4 ⟨q1,q2,rfl,ho4',hb4⟩;dsimp only;have hc4:=wm hc2 hb4;have ho4:=(ho4'.lower hc2.size).wider (N':=fun b=>b<w0.heap.size) (fun b hb=> .inl (Nat.lt_of_lt_of_le hb hc2.size));clear ho4' hc2 hb4 hS2;have h41:∀b,(aA (aG ⟨q1,0,aF⟩) s.aI.length s.aI.length).ownBlock=aG b->b<w4.heap.size:=fun b e=>(ho4.b.rwo.blk e).2;have h42:∀b,(aA (aG ⟨q2,0,aF⟩) s.aJ.length s.aJ.length).ownBlock=aG b->b<w4.heap.size:=fun b e=>(ho4.e.rwo.blk e).2;have hG:w0.heap.size<=w4.heap.size:=hc4.size;obtain⟨G,hGe⟩:=wY w4.heap.size
 rw [<-hGe]at h41 h42 hG;have hba:=ws w4 (aE #[(aA (aG ⟨q1,0,aF⟩) s.aI.length s.aI.length),(aA (aG ⟨q2,0,aF⟩) s.aJ.length s.aJ.length),aB aC s.aL,aB aC s.aK] 38);have hX:Arr (w4.alloc (aE #[(aA (aG ⟨q1,0,aF⟩) s.aI.length s.aI.length),(aA (aG ⟨q2,0,aF⟩) s.aJ.length s.aJ.length),aB aC s.aL,aB aC s.aK] 38)) G 38 [(aA (aG ⟨q1,0,aF⟩) s.aI.length s.aI.length),(aA (aG ⟨q2,0,aF⟩) s.aJ.length s.aJ.length),aB aC s.aL,aB aC s.aK]:=by rw [hGe];exact Arr.new w4 38 _
 have ho:=(ho4.wider (N':=fun b=>b<w0.heap.size\/b=G) (fun b hb=>hb.imp id (fun e=>wu))).below hba;have hR5:=(hR.below hc4).below hba;have hb5:=(hb0.trans (hc4.mono (Nat.le_of_lt hHl))).alloc wu (aE #[(aA (aG ⟨q1,0,aF⟩) s.aI.length s.aI.length),(aA (aG ⟨q2,0,aF⟩) s.aJ.length s.aJ.length),aB aC s.aL,aB aC s.aK] 38);clear hR ho4 hc4 hba hb0;have hR:=hR5;clear hR5;have hb:=hb5;clear hb5;have hq:w0.heap.size<=q1:=(ho.b.rwo.blk rfl).1;have hqG:q1<G:=h41 _ rfl
 refine wO 3 ?_;intros;rw [<-hGe];clear hGe;generalize w4.alloc (aE #[(aA (aG ⟨q1,0,aF⟩) s.aI.length s.aI.length),(aA (aG ⟨q2,0,aF⟩) s.aJ.length s.aJ.length),aB aC s.aL,aB aC s.aK] 38)=w5 at *
 obtain⟨⟨v0,k3⟩,f3,ho6,hg6⟩:=ho.setB (j:=2) (u:= aB aC n) (y:= { s.aI[i] with aQ:=n }) hi wu (fun W cs h=>Xo _ _ W cs h) (ym _);have hX6:=hX.other (g':=q1) (k:=i*4+2) wu (aB aC n);have hR6:=hR.other (g':=q1) (k:=i*4+2) wu (aB aC n);have hb6:=hb.setCell (p:=⟨q1,i*4+2,aF⟩) ae (aB aC n);have x0:=hX.c0;clear hX hR hb ho;have hX:=hX6;have hR:=hR6;have hb:=hb6;have ho:=ho6;clear hX6 hR6 hb6 ho6 hg6;obtain⟨z0,z1,z2,z3⟩:=sqC4 hX;obtain⟨f0,f1,f2,f3⟩:=sqF4 hR;obtain⟨y0,y1,y2,y3⟩:=sqC4 hR;have hfin:=hR.all4 (aA (aG ⟨q1,0,aF⟩) s.aI.length s.aI.length) (aA (aG ⟨q2,0,aF⟩) s.aJ.length s.aJ.length) (aB aC s.aL) (aB aC s.aK);have hoF:=(((ho.set (g:=H+1) (k:=0) hHr (.inl hHr) (aA (aG ⟨q1,0,aF⟩) s.aI.length s.aI.length)).set (g:=H+1) (k:=1) hHr (.inl hHr) (aA (aG ⟨q2,0,aF⟩) s.aJ.length s.aJ.length)).set (g:=H+1) (k:=2) hHr (.inl hHr) (aB aC s.aL)).set (g:=H+1) (k:=3) hHr (.inl hHr) (aB aC s.aK);have hbF:=(((hb.setCell (p:=⟨H+1,0,aF⟩) ae (aA (aG ⟨q1,0,aF⟩) s.aI.length s.aI.length)).setCell (p:=⟨H+1,1,aF⟩) ae (aA (aG ⟨q2,0,aF⟩) s.aJ.length s.aJ.length)).setCell (p:=⟨H+1,2,aF⟩) ae (aB aC s.aL)).setCell (p:=⟨H+1,3,aF⟩) ae (aB aC s.aK);clear hR ho hb hX;go_wp2_with fail;refine bodyPost_ret (zK rfl _ _ (H+1) _ _ _ _ ac hfin underlying38 rfl ww) rfl ?_;exact⟨_,_,rfl,(hoF.lower (base':=H) wu).wider (N':=fun b=>b<H) (fun b hb=> .inl (.inl wu)),hbF⟩
theorem Uh (A:aj) (c:Nat) (B:aj) (d:Nat) (s:StoP) (key:ai) (up:Bool) (i:Nat) (w:World) (hg:GoodS s) (hr:RdSt w A c B d s) (hi:i<s.aJ.length) (hk:s.aJ[i].key=key) (hmv:if up then s.aJ[i].aQ<5 else 0<s.aJ[i].aQ/\s.aJ[i].aQ<=5) :
  Calls zZZ 69 #[.agg #[aA A s.aI.length c,aA B s.aJ.length d,aB aC s.aL,aB aC s.aK],aD ⟨key.toArray⟩,.bool up] w fun e w' =>
   ∃v1 v2,e= .returned (.tuple #[.agg #[v1,v2,aB aC s.aL,aB aC s.aK],aB aC 0])/\OwSt w' w.heap.size v1 v2 (ZJ s i s.aJ[i] (mvN s.aJ[i].aQ up)) (fun b=>b<w.heap.size)/\Below w.heap.size w w':=by
 have hlb:s.aI.length<=24:=hg.b.len;have hle:s.aJ.length<=10:=hg.e.len;have HFX:=sqH (z1e hg.e.ris hi hk);obtain⟨p,hp⟩:=wY (s.aJ[i].aQ)
 rw [<-hp]at hmv ⊢
 have HPI:=sqH hp.symm;obtain⟨n,hn⟩:=wY (mvN p up)
 have HMV:=sqH (fun W=>YX p up W hmv);rw [<-hn]at HMV ⊢
 obtain⟨sk,hsk⟩:=wY (⟨key.toArray⟩:ByteArray)
 rw [<-hsk];have HSK:=sqH hsk;clear hk hsk hn hp hmv;obtain⟨w0,hw0,hS,hR,hb0⟩:=zW w 38 [aA A s.aI.length c,aA B s.aJ.length d,aB aC s.aL,aB aC s.aK] [aA aF 0 0,aA aF 0 0,aB aC 0,aB aC 0];have hr0:=hr.below hb0;obtain⟨H,hH⟩:=wY w.heap.size
 have HCK:=sqH (zD A c B d s w0 hg hr0);rw [<-hH]at hS hR hb0 ⊢
 have hHl:H<w0.heap.size:=hS.lt;have hHr:H+1<w0.heap.size:=hR.lt;obtain⟨x0,x1,x2,x3⟩:=sqC4 hS;rw [hw0,hH]at x0 x1 x2 x3;obtain⟨HPL,HQL,HG⟩:=sqJ3 (show ∀b∈s.aI,b.data.length<=1000000 from fun b hb=>by have:=(hg.b.one b hb).2.1;omega) (show ∀x∈s.aJ,x.aP.length<=1000000 from fun x hx=>by have:=(zi (hg.e.one x hx).2.1).1;omega) hg;clear hg hr;go_enter func69,ntmps69;go_wp2_with fail;rw [<-hw0,<-hH];have HH:=sqH hH;clear hw0 hH x0 x1 x2 x3;refine wZ HCK.o fun w1 hb1=>?_;dsimp only;have hr1:=hr0.below hb1;have hS1:=hS.below hb1;have y0:=hS1.c1;have HFN:=kN B d s.aJ key w1 wu hr1.e;rw [HFX.o,xx,<-HSK.o]at HFN;have HFN:=sqH HFN;clear hr0 hS;go_wp2_with fail;clear y0;refine wZ HFN.o fun w2 hb2=>?_;dsimp only;have hc2:=wm hb1 hb2;have hr2:=hr1.below hb2;have hS2:=hS1.below hb2;obtain⟨b,off,XB,xc,e1,hbb,d0,d1,d2,d3,_⟩:=hr2.e.ent_at i hi;have hi0:=we i
 have hi1:(i:Int)<(s.aJ.length:Int):=wu;have y0:=hS2.c1;rw [HPI.o]at d2;rw [e1]at y0;clear hr1 hS1 hb1 hb2 d0 d1 d3;go_wp2_with fail;clear y0 d2;refine wZ (HMV.o w2) fun wq hwq=>?_;dsimp only;replace hwq:=hwq.symm;subst hwq;obtain⟨z0,z1,z2,z3⟩:=sqC4 hS2;have HCP:=sqH (qL A c B d s w2 wu wu HPL.o HQL.o hr2);clear hr2 e1;go_wp2_with fail;clear z0 z1 z2 z3;refine HCP.o.mono ?_;rintro e_ w4 ⟨q1,q2,rfl,ho4',hb4⟩;dsimp only;have hc4:=wm hc2 hb4;have ho4:=(ho4'.lower hc2.size).wider (N':=fun b=>b<w0.heap.size) (fun b hb=> .inl (Nat.lt_of_lt_of_le hb hc2.size));clear ho4' hc2 hb4 hS2;have h41:∀b,(aA (aG ⟨q1,0,aF⟩) s.aI.length s.aI.length).ownBlock=aG b->b<w4.heap.size:=fun b e=>(ho4.b.rwo.blk e).2;have h42:∀b,(aA (aG ⟨q2,0,aF⟩) s.aJ.length s.aJ.length).ownBlock=aG b->b<w4.heap.size:=fun b e=>(ho4.e.rwo.blk e).2;have hG:w0.heap.size<=w4.heap.size:=hc4.size;obtain⟨G,hGe⟩:=wY w4.heap.size
 rw [<-hGe]at h41 h42 hG;have hba:=ws w4 (aE #[(aA (aG ⟨q1,0,aF⟩) s.aI.length s.aI.length),(aA (aG ⟨q2,0,aF⟩) s.aJ.length s.aJ.length),aB aC s.aL,aB aC s.aK] 38);have hX:Arr (w4.alloc (aE #[(aA (aG ⟨q1,0,aF⟩) s.aI.length s.aI.length),(aA (aG ⟨q2,0,aF⟩) s.aJ.length s.aJ.length),aB aC s.aL,aB aC s.aK] 38)) G 38 [(aA (aG ⟨q1,0,aF⟩) s.aI.length s.aI.length),(aA (aG ⟨q2,0,aF⟩) s.aJ.length s.aJ.length),aB aC s.aL,aB aC s.aK]:=by rw [hGe];exact Arr.new w4 38 _
 have ho:=(ho4.wider (N':=fun b=>b<w0.heap.size\/b=G) (fun b hb=>hb.imp id (fun e=>wu))).below hba;have hR5:=(hR.below hc4).below hba;have hb5:=(hb0.trans (hc4.mono (Nat.le_of_lt hHl))).alloc wu (aE #[(aA (aG ⟨q1,0,aF⟩) s.aI.length s.aI.length),(aA (aG ⟨q2,0,aF⟩) s.aJ.length s.aJ.length),aB aC s.aL,aB aC s.aK] 38);clear hR ho4 hc4 hba hb0;have hR:=hR5;clear hR5;have hb:=hb5;clear hb5;have hq:w0.heap.size<=q2:=(ho.e.rwo.blk rfl).1;have hqG:q2<G:=h42 _ rfl
 refine wO 3 ?_;intros;rw [<-hGe];clear hGe;generalize w4.alloc (aE #[(aA (aG ⟨q1,0,aF⟩) s.aI.length s.aI.length),(aA (aG ⟨q2,0,aF⟩) s.aJ.length s.aJ.length),aB aC s.aL,aB aC s.aK] 38)=w5 at *
 obtain⟨⟨v0,k3⟩,f3,ho6,hg6⟩:=ho.setE (j:=2) (u:= aB aC n) (y:= { s.aJ[i] with aQ:=n }) hi wu (fun W cs h=>UP _ _ W cs h) (ym _);have hX6:=hX.other (g':=q2) (k:=i*4+2) wu (aB aC n);have hR6:=hR.other (g':=q2) (k:=i*4+2) wu (aB aC n);have hb6:=hb.setCell (p:=⟨q2,i*4+2,aF⟩) ae (aB aC n);have x0:=hX.c1;clear hX hR hb ho;have hX:=hX6;have hR:=hR6;have hb:=hb6;have ho:=ho6;clear hX6 hR6 hb6 ho6 hg6;obtain⟨z0,z1,z2,z3⟩:=sqC4 hX;obtain⟨f0,f1,f2,f3⟩:=sqF4 hR;obtain⟨y0,y1,y2,y3⟩:=sqC4 hR;have hfin:=hR.all4 (aA (aG ⟨q1,0,aF⟩) s.aI.length s.aI.length) (aA (aG ⟨q2,0,aF⟩) s.aJ.length s.aJ.length) (aB aC s.aL) (aB aC s.aK);have hoF:=(((ho.set (g:=H+1) (k:=0) hHr (.inl hHr) (aA (aG ⟨q1,0,aF⟩) s.aI.length s.aI.length)).set (g:=H+1) (k:=1) hHr (.inl hHr) (aA (aG ⟨q2,0,aF⟩) s.aJ.length s.aJ.length)).set (g:=H+1) (k:=2) hHr (.inl hHr) (aB aC s.aL)).set (g:=H+1) (k:=3) hHr (.inl hHr) (aB aC s.aK);have hbF:=(((hb.setCell (p:=⟨H+1,0,aF⟩) ae (aA (aG ⟨q1,0,aF⟩) s.aI.length s.aI.length)).setCell (p:=⟨H+1,1,aF⟩) ae (aA (aG ⟨q2,0,aF⟩) s.aJ.length s.aJ.length)).setCell (p:=⟨H+1,2,aF⟩) ae (aB aC s.aL)).setCell (p:=⟨H+1,3,aF⟩) ae (aB aC s.aK);clear hR ho hb hX;go_wp2_with fail;refine bodyPost_ret (zK rfl _ _ (H+1) _ _ _ _ ac hfin underlying38 rfl ww) rfl ?_;exact⟨_,_,rfl,(hoF.lower (base':=H) wu).wider (N':=fun b=>b<H) (fun b hb=> .inl (.inl wu)),hbF⟩
end Go.Proofs.YtcjmjaefcjcomaaGreat
