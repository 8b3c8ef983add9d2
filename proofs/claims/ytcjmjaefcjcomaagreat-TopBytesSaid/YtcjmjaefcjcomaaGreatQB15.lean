/- Lemmas, as stated. -/
import Derived.Test.YtcjmjaefcjcomaaGreatQB14
set_option linter.unusedVariables false
set_option linter.unusedSimpArgs false
set_option maxRecDepth 100000
set_option maxHeartbeats 16000000
open Go.Proofs.Tryz
open Go.Proofs.Tryz renaming prog->zZZ
open Go.Value renaming slice->aA,int->aB,string->aD
open Go.IntKind renaming i64->aC
open Go.Obj renaming cells->aE
open Option renaming none->aF,some->aG
namespace Go.Proofs.YtcjmjaefcjcomaaGreat
open Go.RowKit Go.Maps
variable {c:ColP} {bl:List BlobP} {L ds:List ai} {base cap g i n size:Nat} {s:StoP} {e e':TypeId} {w:World} {x:ai} {xs:ak}
theorem Uq (A:aj) (c:Nat) (B:aj) (d:Nat) (s:StoP) (Ag:aj) (ng:Nat) (cp:ColP) (w:World) (hg:GoodS s) (hr:RdSt w A c B d s) (hp:cp.aN=2) (hgc:GoodC s cp) :
  Calls zZZ 100 #[.agg #[aA A s.aI.length c,aA B s.aJ.length d,aB aC s.aL,aB aC s.aK],coV (aA Ag cp.aM.length ng) cp] w fun e w' =>
   ∃v1 v2,e= .returned (.tuple #[stV v1 v2 s,coV (aA aF 0 0) (k8 s cp).2.1,aD ⟨(k8 s cp).2.2.toArray⟩,aB aC 0])/\OwSt w' w.heap.size v1 v2 (k8 s cp).1 (fun b=>b<w.heap.size)/\Below w.heap.size w w':=by
 have hlb:s.aI.length<=24:=hg.b.len;have hle:s.aJ.length<=10:=hg.e.len;have HGD:=sqH hg;have HSW:=sqH (hgc.sw hp);obtain⟨aN,aM,at_⟩:=cp;simp only at hp;subst hp;clear hgc;obtain⟨w0,hw0,hS,hC,hR,hD,hb0⟩:=ql w 38 41 [aA A s.aI.length c,aA B s.aJ.length d,aB aC s.aL,aB aC s.aK] [aB aC 2,aA Ag aM.length ng,aD ⟨at_.toArray⟩] [aA aF 0 0,aA aF 0 0,aB aC 0,aB aC 0] [aB aC 0,aA aF 0 0,aD ⟨#[]⟩];have hr0:=hr.below hb0;obtain⟨H,hH⟩:=wY w.heap.size
 have HCK:=sqH (zD A c B d s w0 hg hr0);rw [<-hH]at hS hC hR hD hb0 ⊢
 have hHl:H+1+1+1<w0.heap.size:=hD.lt;obtain⟨x0,x1,x2,x3⟩:=sqC4 hS;rw [hw0,hH]at x0 x1 x2 x3;have HPL:=sqH (show ∀b∈s.aI,b.data.length<=1000000 from fun b hb=>by have:=(hg.b.one b hb).2.1;omega);have HQL:=sqH (show ∀x∈s.aJ,x.aP.length<=1000000 from fun x hx=>by have:=(zi (hg.e.one x hx).2.1).1;omega);clear hg hr;go_enter func100,ntmps100;go_wp2_with fail;rw [<-hw0,<-hH];have HH:=sqH hH;clear hw0 hH x0 x1 x2 x3;refine wZ HCK.o fun w1 hb1=>?_;dsimp only;have hr1:=hr0.below hb1;have hS1:=hS.below hb1;obtain⟨z0,z1,z2,z3⟩:=sqC4 hS1;have x0:=(hC.below hb1).c0;have HCP:=sqH (qL A c B d s w1 wu wu HPL.o HQL.o hr1);clear HCK;go_wp2_with fail;clear z0 z1 z2 z3 x0;refine HCP.o.mono ?_;rintro e_ w3 ⟨q1,q2,rfl,ho3,hb3⟩;dsimp only;have hc3:=wm hb1 hb3;have ho3:=ho3.lower (base':=w0.heap.size) hb1.size;obtain⟨G,hG⟩:=wY w3.heap.size
 have hba:=ws w3 (aE #[aA (aG ⟨q1,0,aF⟩) s.aI.length s.aI.length,aA (aG ⟨q2,0,aF⟩) s.aJ.length s.aJ.length,aB aC s.aL,aB aC s.aK] 38);have hX:Arr (w3.alloc (aE #[aA (aG ⟨q1,0,aF⟩) s.aI.length s.aI.length,aA (aG ⟨q2,0,aF⟩) s.aJ.length s.aJ.length,aB aC s.aL,aB aC s.aK] 38)) G 38 [aA (aG ⟨q1,0,aF⟩) s.aI.length s.aI.length,aA (aG ⟨q2,0,aF⟩) s.aJ.length s.aJ.length,aB aC s.aL,aB aC s.aK]:=by rw [hG];exact Arr.new w3 38 _
 have ho:OwSt (w3.alloc (aE #[aA (aG ⟨q1,0,aF⟩) s.aI.length s.aI.length,aA (aG ⟨q2,0,aF⟩) s.aJ.length s.aJ.length,aB aC s.aL,aB aC s.aK] 38)) w0.heap.size (aA (aG ⟨q1,0,aF⟩) s.aI.length s.aI.length) (aA (aG ⟨q2,0,aF⟩) s.aJ.length s.aJ.length) s (fun b=>b<w0.heap.size\/b=G) :=
  (ho3.wider fun b hb=>by
   rcases hb with hb | hb
   ·exact .inl (Nat.lt_of_lt_of_le hb hb1.size)
   ·exact .inr (by rw [hb,hG];exact Nat.le_refl _)).below hba
 have hbk:=wm hc3 hba;have hGL:w0.heap.size<=G:=by rw [hG];exact hc3.size
 have HG:=sqH hG;have x0:=(hS.below hbk).c0;have x2:=(hC.below hbk).c2;have hr4:=hr0.below hbk;have HNX:=sqH (z0k A c s.aI at_ _ wu hr4.b);clear hG ho3 hb3 hr1 HCP hba hb1 hS1 hc3;go_wp2_with fail;rw [<-HG.o];clear x0 x2;generalize (w3.alloc (aE #[aA (aG ⟨q1,0,aF⟩) s.aI.length s.aI.length,aA (aG ⟨q2,0,aF⟩) s.aJ.length s.aJ.length,aB aC s.aL,aB aC s.aK] 38))=w4 at *
 refine wZ HNX.o fun w5 hb5=>?_;dsimp only;have hX:=hX.below hb5;have ho:=ho.below hb5;have hbk:=wm hbk hb5;clear hb5 HNX;rcases yT s ⟨2,aM,at_⟩ with ⟨hf,hs⟩ | ⟨i,hi,hf,hm,hs⟩ | ⟨i,hi,hf,hm,hs⟩
 ·have hf':s.aI.findIdx? (fun b=>Op.bytesLess at_ b.dig)=aF:=hf;rw [hf',xx];have HSS:=sqH hs;have hR:=hR.below hbk;have hD:=hD.below hbk;have hB:=hb0.trans (hbk.mono (show H<=w0.heap.size by omega));clear hf hf' hs hr4;obtain⟨hF1,hF2,hF3,hF5⟩:=sqJ4 (qV (g:=H+1+1) (h:=H+1+1+1) (u0:=(aA (aG ⟨q1,0,aF⟩) s.aI.length s.aI.length)) (u1:=(aA (aG ⟨q2,0,aF⟩) s.aJ.length s.aJ.length)) (u2:= aB aC s.aL) (u3:= aB aC s.aK) (x0:= aB aC 0) (x1:= aA aF 0 0) (x2:= aD ⟨#[]⟩) hR wu) (qW (g:=H+1+1) (h:=H+1+1+1) (u0:=(aA (aG ⟨q1,0,aF⟩) s.aI.length s.aI.length)) (u1:=(aA (aG ⟨q2,0,aF⟩) s.aJ.length s.aJ.length)) (u2:= aB aC s.aL) (u3:= aB aC s.aK) (x0:= aB aC 0) (x1:= aA aF 0 0) (x2:= aD ⟨#[]⟩) hD wu) (qE (g:=H+1+1) (h:=H+1+1+1) (u0:=(aA (aG ⟨q1,0,aF⟩) s.aI.length s.aI.length)) (u1:=(aA (aG ⟨q2,0,aF⟩) s.aJ.length s.aJ.length)) (u2:= aB aC s.aL) (u3:= aB aC s.aK) (x0:= aB aC 0) (x1:= aA aF 0 0) (x2:= aD ⟨#[]⟩) ho (.inl wu) (.inl wu) (ho.nb hR aa aa).1 (ho.nb hR aa aa).2 (ho.nb hD aa aa).1 (ho.nb hD aa aa).2) (zL (g:=H+1+1) (h:=H+1+1+1) (u0:=(aA (aG ⟨q1,0,aF⟩) s.aI.length s.aI.length)) (u1:=(aA (aG ⟨q2,0,aF⟩) s.aJ.length s.aJ.length)) (u2:= aB aC s.aL) (u3:= aB aC s.aK) (x0:= aB aC 0) (x1:= aA aF 0 0) (x2:= aD ⟨#[]⟩) hB wu wu);obtain⟨f0,f1,f2,f3⟩:=sqF4 hR;obtain⟨y0,y1,y2,y3⟩:=sqC4 hR;obtain⟨e0,e1,e2⟩:=sqF3 hD;obtain⟨x0,x1,x2⟩:=sqC3 hD;obtain⟨b0,b1,b2,b3⟩:=sqC4 hX;clear hR hD ho hB hX hbk hb0 hS hC;go_wp2_with fail;refine bodyPost_ret (zY rfl _ _ (H+1+1) (H+1+1+1) _ _ _ _ _ _ _ _ ac hF1.o underlying38 rfl ww ac hF2.o underlying41 rfl ww) rfl ?_;rw [HSS.o];exact⟨_,_,rfl,(hF3.o.lower wu).mono (fun b hb=> .inl wu),hF5.o⟩
 ·have hf':s.aI.findIdx? (fun b=>Op.bytesLess at_ b.dig)=aG i:=hf;rw [hf',xx];have HSS:=sqH hs;obtain⟨bq,oq,Bq,cq,eq,hbq,d0,d1,d2,d3,hsl⟩:=(hr0.below hbk).b.blob_at i hi;subst eq;have hi0:=we i
  have hi1:(i:Int)<(s.aI.length:Int):=wu;have hdg:s.aI[i].dig=s.aI[i].dig:=rfl;rw [hm]at d3;have z0:=(hS.below hbk).c0;generalize hqq:s.aI[i]=q at *
  obtain⟨gb,hgb⟩:=wY w5.heap.size
  have hba:=ws w5 (aE #[aD ⟨q.dig.toArray⟩,aA Bq q.data.length cq,aB aC q.aQ,.bool true] 55);have hbb:Arr (w5.alloc (aE #[aD ⟨q.dig.toArray⟩,aA Bq q.data.length cq,aB aC q.aQ,.bool true] 55)) gb 55 [aD ⟨q.dig.toArray⟩,aA Bq q.data.length cq,aB aC q.aQ,.bool true]:=by rw [hgb];exact Arr.new w5 55 _
  have hgb5:w0.heap.size<=gb:=by rw [hgb];exact hbk.size
  have hX:=hX.below hba;have ho:=ho.below hba;have hbk:=wm hbk hba;have hR:=hR.below hbk;have hD:=hD.below hbk;have hB:=hb0.trans (hbk.mono (show H<=w0.heap.size by omega));have HGB:=sqH hgb;have p0:=hbb.c0;have p3:=hbb.c3;rw [hgb]at p0 p3;clear hf hf' hs hr4 hsl hbq hdg hgb hba hm hqq hbb
  refine wL ?_;intros;rw [<-HGB.o];rw [<-HGB.o]at p0 p3;clear d0 d1 d2 d3 z0;generalize (w5.alloc (aE #[aD ⟨q.dig.toArray⟩,aA Bq q.data.length cq,aB aC q.aQ,.bool true] 55))=w6 at *
  have n1:¬(gb=H+1+1):=wu;have n2:¬(G=H+1+1):=wu;obtain⟨hF1,hF2,hF3,hF5⟩:=sqJ4 (qV (g:=H+1+1) (h:=H+1+1+1) (u0:=(aA (aG ⟨q1,0,aF⟩) s.aI.length s.aI.length)) (u1:=(aA (aG ⟨q2,0,aF⟩) s.aJ.length s.aJ.length)) (u2:= aB aC s.aL) (u3:= aB aC s.aK) (x0:= aB aC 2) (x1:= aA aF 0 0) (x2:= aD ⟨q.dig.toArray⟩) hR wu) (qW (g:=H+1+1) (h:=H+1+1+1) (u0:=(aA (aG ⟨q1,0,aF⟩) s.aI.length s.aI.length)) (u1:=(aA (aG ⟨q2,0,aF⟩) s.aJ.length s.aJ.length)) (u2:= aB aC s.aL) (u3:= aB aC s.aK) (x0:= aB aC 2) (x1:= aA aF 0 0) (x2:= aD ⟨q.dig.toArray⟩) hD wu) (qE (g:=H+1+1) (h:=H+1+1+1) (u0:=(aA (aG ⟨q1,0,aF⟩) s.aI.length s.aI.length)) (u1:=(aA (aG ⟨q2,0,aF⟩) s.aJ.length s.aJ.length)) (u2:= aB aC s.aL) (u3:= aB aC s.aK) (x0:= aB aC 2) (x1:= aA aF 0 0) (x2:= aD ⟨q.dig.toArray⟩) ho (.inl wu) (.inl wu) (ho.nb hR aa aa).1 (ho.nb hR aa aa).2 (ho.nb hD aa aa).1 (ho.nb hD aa aa).2) (zL (g:=H+1+1) (h:=H+1+1+1) (u0:=(aA (aG ⟨q1,0,aF⟩) s.aI.length s.aI.length)) (u1:=(aA (aG ⟨q2,0,aF⟩) s.aJ.length s.aJ.length)) (u2:= aB aC s.aL) (u3:= aB aC s.aK) (x0:= aB aC 2) (x1:= aA aF 0 0) (x2:= aD ⟨q.dig.toArray⟩) hB wu wu);obtain⟨f0,f1,f2,f3⟩:=sqF4 hR;obtain⟨y0,y1,y2,y3⟩:=sqC4 hR;obtain⟨e0,e1,e2⟩:=sqF3 hD;obtain⟨x0,x1,x2⟩:=sqC3 hD;obtain⟨b0,b1,b2,b3⟩:=sqC4 hX;clear hR hD ho hB hX hbk hb0 hS hC;go_region
  all_goals (try dsimp only [Exit.then])
  go_wp2_with fail;refine bodyPost_ret (zY rfl _ _ (H+1+1) (H+1+1+1) _ _ _ _ _ _ _ _ ac (Arr.drew hF1.o) underlying38 rfl ww ac (Arr.drew hF2.o) underlying41 rfl ww) rfl ?_;rw [HSS.o];exact⟨_,_,rfl,(hF3.o.drewX.lower wu).mono (fun b hb=> .inl wu),hF5.o.drew⟩
 ·have hf':s.aI.findIdx? (fun b=>Op.bytesLess at_ b.dig)=aG i:=hf;rw [hf',xx];have HSS:=sqH hs;have hn:=Kk HGD.o hi hm HSW.o;have HPZ:=sqH (ZL HGD.o hi hn);have HGE:=sqH (ZK HGD.o hi hn);obtain⟨bq,oq,Bq,cq,eq,hbq,d0,d1,d2,d3,hsl⟩:=(hr0.below hbk).b.blob_at i hi;subst eq;have hi0:=we i
  have hi1:(i:Int)<(s.aI.length:Int):=wu;rw [hm]at d3;have z0:=(hS.below hbk).c0;generalize hqq:s.aI[i]=q at *
  obtain⟨gb,hgb⟩:=wY w5.heap.size
  have hba:=ws w5 (aE #[aD ⟨q.dig.toArray⟩,aA Bq q.data.length cq,aB aC q.aQ,.bool false] 55);have hbb:Arr (w5.alloc (aE #[aD ⟨q.dig.toArray⟩,aA Bq q.data.length cq,aB aC q.aQ,.bool false] 55)) gb 55 [aD ⟨q.dig.toArray⟩,aA Bq q.data.length cq,aB aC q.aQ,.bool false]:=by rw [hgb];exact Arr.new w5 55 _
  have hgb5:w0.heap.size<=gb:=by rw [hgb];exact hbk.size
  have hnq:q1≠gb:=fun e=>by have h:=(ho.b.rwo.blk rfl).2;rw [hgb]at e;exact absurd (e▸h) (Nat.lt_irrefl _)
  have xx0:=hX.c0;have hGlt:=hX.lt;have hX:=hX.below hba;have ho:=ho.below hba;have hbk:=wm hbk hba;have p3:=hbb.c3;rw [hgb]at p3;have x0:=hX.c0;have hw1:IntKind.i64.wrap ((i:Int)+1)=(i:Int)+1:=IntWalk.i64_in _ wu;have HDL:=sqH (z09 q1 i s.aI w0.heap.size s.aI.length _ _ hi ho.b);have HGB:=sqH hgb;clear hf hf' hs hr4 hsl hbq hba hm hqq hgb;go_wp2_with fail;rw [<-HGB.o];clear d0 d1 d2 d3 z0 p3 x0 xx0;generalize (w5.alloc (aE #[aD ⟨q.dig.toArray⟩,aA Bq q.data.length cq,aB aC q.aQ,.bool false] 55))=w6 at *
  refine HDL.o.mono ?_;rintro e_ w7 ⟨rfl,hx7,hg7⟩;dsimp only;have hne:=(ho.nb hX aa aa).1;have hne2:=(ho.nb hX aa aa).2;have ho7:=ho.turnB hx7 hg7 rfl;have hX7:=hX.grown hg7 hne;have hbb7:=hbb.grown hg7 (fun e=>by injection e with e;exact hnq e);have hbk7:=hbk.grown hg7 hbk.size (fun b e=>by cases e;exact(ho.b.rwo.blk rfl).1);have f0:=hX7.frozen 0;have x0:=hX7.c0;have hX:=hX7.set (k:=0) ab (aA (aG ⟨q1,0,aF⟩) (s.aI.eraseIdx i).length s.aI.length);have ho:=ho7.setX (g:=G) (k:=0) (.inr rfl) hne hne2 (aA (aG ⟨q1,0,aF⟩) (s.aI.eraseIdx i).length s.aI.length);have hbb:=hbb7.other (k:=0) (show gb≠G from JC hbb7 hX7 aa) (aA (aG ⟨q1,0,aF⟩) (s.aI.eraseIdx i).length s.aI.length);have hbk:=hbk7.setCell (p:=⟨G,0,aF⟩) hGL (aA (aG ⟨q1,0,aF⟩) (s.aI.eraseIdx i).length s.aI.length);simp only [List.set_cons_zero]at hX;have g1:decide ((q.aQ:Int)>0)=false:=decide_eq_false (wc HPZ);have g2:decide ((0:Int)<(q.aQ:Int))=false:=decide_eq_false (wc HPZ);have g3:decide (0<q.aQ)=false:=decide_eq_false (wc HPZ);have p2:=hbb.c2;have x1:=hX7.c1;have x2:=hX7.c2;have x3:=hX7.c3;obtain⟨A9,c9,B9,d9,e1,e2,hrd9⟩:=ho.rows;injection e1 with e11 e12 e13;injection e2 with e21 e22 e23;subst e11 e13 e21 e23;clear e12 e22;have hck:=zD (aG ⟨q1,0,aF⟩) s.aI.length (aG ⟨q2,0,aF⟩) s.aJ.length { s with aI:=s.aI.eraseIdx i } _ HGE.o hrd9;have HCK:=sqH hck;have p0:=hbb.c0;clear hx7 hg7 hne hne2 ho7 hX7 hbb7 hbk7 hck hrd9 HDL;go_wp2_with fail;clear f0 x0 x1 x2 x3 p2 p0;generalize (w7.setCell ⟨G,0,aF⟩ (aA (aG ⟨q1,0,aF⟩) (s.aI.eraseIdx i).length s.aI.length))=w8 at *
  refine wZ HCK.o fun w9 hb9=>?_;dsimp only;have hX:=hX.below hb9;have ho:=ho.below hb9;have hbb:=hbb.below hb9;have hbk:=wm hbk hb9;have hR:=hR.below hbk;have hD:=hD.below hbk;have hB:=hb0.trans (hbk.mono (show H<=w0.heap.size by omega));have p0:=hbb.c0;have n1:¬(gb=H+1+1):=wu;have n2:¬(G=H+1+1):=wu;clear hb9 hbb HCK
  refine wL ?_;intros;obtain⟨hF1,hF2,hF3,hF5⟩:=sqJ4 (qV (g:=H+1+1) (h:=H+1+1+1) (u0:=(aA (aG ⟨q1,0,aF⟩) (s.aI.eraseIdx i).length s.aI.length)) (u1:=(aA (aG ⟨q2,0,aF⟩) s.aJ.length s.aJ.length)) (u2:= aB aC s.aL) (u3:= aB aC s.aK) (x0:= aB aC 2) (x1:= aA aF 0 0) (x2:= aD ⟨q.dig.toArray⟩) hR wu) (qW (g:=H+1+1) (h:=H+1+1+1) (u0:=(aA (aG ⟨q1,0,aF⟩) (s.aI.eraseIdx i).length s.aI.length)) (u1:=(aA (aG ⟨q2,0,aF⟩) s.aJ.length s.aJ.length)) (u2:= aB aC s.aL) (u3:= aB aC s.aK) (x0:= aB aC 2) (x1:= aA aF 0 0) (x2:= aD ⟨q.dig.toArray⟩) hD wu) (qE (g:=H+1+1) (h:=H+1+1+1) (u0:=(aA (aG ⟨q1,0,aF⟩) (s.aI.eraseIdx i).length s.aI.length)) (u1:=(aA (aG ⟨q2,0,aF⟩) s.aJ.length s.aJ.length)) (u2:= aB aC s.aL) (u3:= aB aC s.aK) (x0:= aB aC 2) (x1:= aA aF 0 0) (x2:= aD ⟨q.dig.toArray⟩) ho (.inl wu) (.inl wu) (ho.nb hR aa aa).1 (ho.nb hR aa aa).2 (ho.nb hD aa aa).1 (ho.nb hD aa aa).2) (zL (g:=H+1+1) (h:=H+1+1+1) (u0:=(aA (aG ⟨q1,0,aF⟩) (s.aI.eraseIdx i).length s.aI.length)) (u1:=(aA (aG ⟨q2,0,aF⟩) s.aJ.length s.aJ.length)) (u2:= aB aC s.aL) (u3:= aB aC s.aK) (x0:= aB aC 2) (x1:= aA aF 0 0) (x2:= aD ⟨q.dig.toArray⟩) hB wu wu);obtain⟨f0,f1,f2,f3⟩:=sqF4 hR;obtain⟨y0,y1,y2,y3⟩:=sqC4 hR;obtain⟨e0,e1,e2⟩:=sqF3 hD;obtain⟨x0,x1,x2⟩:=sqC3 hD;obtain⟨b0,b1,b2,b3⟩:=sqC4 hX;clear hR hD ho hB hX hbk hb0 hS hC;go_region
  all_goals (try dsimp only [Exit.then])
  go_wp2_with fail;refine bodyPost_ret (zY rfl _ _ (H+1+1) (H+1+1+1) _ _ _ _ _ _ _ _ ac (Arr.drew hF1.o) underlying38 rfl ww ac (Arr.drew hF2.o) underlying41 rfl ww) rfl ?_;rw [HSS.o];exact⟨_,_,rfl,(hF3.o.drewX.lower wu).mono (fun b hb=> .inl wu),hF5.o.drew⟩
def Xe (w:World) (l:List ai) (f:FuncId) (x:Value) (p:List UInt8->Bool):Prop :=
 (∀args W,(callFunc f args).run zZZ W= .ok (.enter f args) W)/\∀(b:ai) (W:World),b∈l->Below w.heap.size w W ->
  Calls zZZ f #[aD ⟨b.toArray⟩,x] W fun e w'=>e= .returned (.bool (p b))/\Below W.heap.size W w'
theorem YR (A:aj) (c:Nat) (l:List ai) (f:FuncId) (x:Value) (p:List UInt8->Bool) (w:World) (hl:l.length<=1000000) (hA:Rd w 1 A l.length (strs l)) (HC:Xe w l f x p) :
  Calls zZZ 148 #[aA A l.length c,.func (.func f) #[] #[x]] w fun e w'=>e= .returned (aB aC (plc (l.findIdx? p)))/\Below w.heap.size w w':=by
 obtain⟨hcf,hcc0⟩:=HC;have HCC:=sqH hcc0;clear hcc0;generalize hR:l.findIdx? p=R;have HR:=sqH hR;clear hR;go_enter func148,ntmps148;go_wp2_with fail;go_loopg [5,8] l.length (fun gn u i wr=>∃j:Nat,gn=l.length - j/\i= aB aC j/\j<=l.length/\(∀k (h:k<l.length),k<j->p l[k]=false)/\Below w.heap.size w wr)
 case atStart=>exact⟨0,rfl,rfl,wu,fun k _ h=>absurd h wu,Below.refl _ _⟩
 case round =>
  obtain⟨j,hgk,rfl,hj,hno,hbl⟩:=hrel;have HGK:=sqH hgk;have HNO:=sqH hno;clear hgk hno;by_cases hlt:j<l.length
  ·have hcc:decide (j<l.length)=true:=decide_eq_true hlt;obtain⟨b,off,hAb,_,hcell⟩:=(hA.below hbl).2 wu;subst hAb;have c0:=hcell j _ (kL l j hlt);have hcl:=HCC.o l[j] wr (List.getElem_mem hlt) hbl;have hj0:=we j
   have hj1:(j:Int)<(l.length:Int):=wu;cases hp:p l[j] with
   | true =>
    have HF:=sqH (show R=aG j by
     rw [<-HR.o,List.findIdx?_eq_some_iff_getElem];exact⟨hlt,hp,fun k hk=>by rw [HNO.o k wu hk];simp⟩)
    rw [hp]at hcl;have HCL:=sqH hcl;clear hp hcl hcell;generalize l[j]=bl at *
    go_wp2_with fail;refine wZ HCL.o fun w5 hb5=>?_;dsimp only;have hb05:=wm hbl hb5;go_wp2_with fail;go_ret;rw [HF.o];exact⟨rfl,hb05⟩
   | false =>
    have HN:=sqH (show ∀k (h:k<l.length),k<j+1->p l[k]=false from fun k h hk=>by
     rcases Nat.lt_or_ge k j with h1 | h1
     ·exact HNO.o k h h1
     ·have:k=j:=by omega
      subst this;exact hp)
    rw [hp]at hcl;have HCL:=sqH hcl;clear hp hcl hcell;generalize l[j]=bl at *
    go_wp2_with fail;refine wZ HCL.o fun w5 hb5=>?_;dsimp only;have hb05:=wm hbl hb5;go_wp2_with fail;go_roundg (l.length - (j+1))
    case measure=>exact wc HGK
    case rel=>exact⟨j+1,rfl,by go_num,wu,HN.o,hb05⟩
  ·obtain rfl:j=l.length:=by omega
   have hcc:decide (l.length<l.length)=false:=ab;have HF:=sqH (show R=aF by
    rw [<-HR.o,List.findIdx?_eq_none_iff];intro x hx;obtain⟨k,hk,rfl⟩:=List.mem_iff_getElem.1 hx;exact HNO.o k hk hk)
   go_wp2_with fail;go_ret;rw [HF.o];exact⟨rfl,hbl⟩
theorem z03 (A:aj) (c:Nat) (l:List ai) (f:FuncId) (x:Value) (p:List UInt8->Bool) (w:World) (hl:l.length<=1000000) (hA:Rd w 1 A l.length (strs l)) (HC:Xe w l f x p) :
  Calls zZZ 150 #[aA A l.length c,.func (.func f) #[] #[x]] w fun e w'=>e= .returned (.bool (l.any p))/\Below w.heap.size w w':=by
 have hI:=YR A c l f x p w hl hA HC;clear HC;have HI:=sqH hI;clear hI;have hany:l.any p=(l.findIdx? p).isSome:=by rw [List.findIdx?_isSome]
 rw [hany];cases hf:l.findIdx? p with
 | none =>
  rw [hf]at HI;go_enter func150,ntmps150;go_wp2_with fail;refine wZ HI.o fun w1 hb1=>?_;dsimp only;go_wp2_with fail;go_ret;exact⟨rfl,hb1⟩
 | some i =>
  rw [hf]at HI;have hi:decide ((i:Int)≥0)=true:=decide_eq_true wu;have hi2:decide ((0:Int)<=(i:Int))=true:=decide_eq_true wu;go_enter func150,ntmps150;go_wp2_with fail;refine wZ HI.o fun w1 hb1=>?_;dsimp only;go_wp2_with fail;go_ret;exact⟨rfl,hb1⟩
theorem Xg (gk:Nat) (B:aj) (d:Nat) (M l:List ai) (w:World) (hk:w.cell? ⟨gk,0,aF⟩=aG (aA B M.length d)) (hg:gk<w.heap.size) (hM:M.length<=1000000) (hB:Rd w 1 B M.length (strs M)):Xe w l 151 (.pointer (aG ⟨gk,0,aF⟩)) (fun s=> !decide (s∈M)):=by
 refine⟨fun _ _=>ww,fun b W hb hbel=> ?_⟩;have hk0:W.cell? ⟨gk,0,aF⟩=aG (aA B M.length d):=(hbel.cell (p:=⟨gk,0,aF⟩) hg).trans hk;have HCT:=sqH (YQ B d M b W wu (hB.below hbel));dsimp only;generalize decide (b∈M)=dv at *
 clear hk hB hbel;go_enter func151,ntmps151;go_wp2_with fail;refine HCT.o.mono ?_;rintro e_ wx ⟨rfl,rfl⟩;dsimp only;go_wp2_with fail;go_ret;exact⟨rfl,Below.refl _ _⟩
theorem Zk (A B:aj) (c d:Nat) (L M:List ai) (w:World) (hl:L.length<=1000000) (hm:M.length<=1000000) (hA:Rd w 1 A L.length (strs L)) (hB:Rd w 1 B M.length (strs M)) (hsub:∀x∈L,x∈M) :
  Calls zZZ 111 #[aA A L.length c,aA B M.length d] w fun e w'=>e= .returned (.bool true)/\Below w.heap.size w w':=by
 have hb1:=ws w (aE #[aA B M.length d] 39);have hbx:Arr (w.alloc (aE #[aA B M.length d] 39)) w.heap.size 39 [aA B M.length d]:=Arr.new w 39 _;have hct:=z03 A c L _ (.pointer (aG ⟨w.heap.size,0,aF⟩)) (fun s=> !decide (s∈M)) _ hl (hA.below hb1) (Xg w.heap.size B d M L _ (hbx.c0) hbx.lt hm (hB.below hb1));rw [show L.any (fun s=> !decide (s∈M))=false from List.any_eq_false.2 fun x hx=>by simp [hsub x hx]]at hct;have HCT:=sqH hct;clear hct hbx hA hB hsub;go_enter func111,ntmps111;go_wp2_with fail;refine wZ HCT.o fun w2 hb2=>?_;dsimp only;go_wp2_with fail;go_ret;exact⟨rfl,wm hb1 hb2⟩
theorem YB {P:Program} {ops:Array Oper} {rest:List Oper} {o:Oper} {a:Act} {Q:al} (hgd:o.guard=aF) (s x:Operand) {t:TypeId} {bytes:Nat}
  (ho:o.op= .call { callee:= .builtin .append,args:=#[s,x],argTypes:=#[t,t] }) (E:El P t e size bytes)
  {base:Nat} {v:Value} {n:Nat} {xs:ak} (hs:a.eval s=v) (hown:w.ownsRow base e size v n xs) {H:Nat}
  {us:ak} {m c:Nat} (hx:a.eval x= aA (aG ⟨H,0,aF⟩) m c) (hH:H=w.heap.size) (hl:us.length=m*size) (h1:∀u∈us,u.oneCell'=true)
  (hb:(n+m)*bytes<=140737488355328) (hbase:base<=w.heap.size)
  (h:∀v' w',w'.ownsRow base e size v' (n+m) (xs++us)->w.grownBy w' v.ownBlock->(v'.ownBlock=v.ownBlock\/∃g,v'.ownBlock=aG g/\w.heap.size<=g)->wpList P ops Q rest (a.put o.dst v') w') :
  wpList P ops Q (o::rest) a (w.alloc (.cells us.toArray e')):=by
 subst hH;exact zj hgd s x ho E hs hown hx hl h1 hb hbase h
theorem Jb (bl:List BlobP) (k:Nat) (h:k<bl.length):mkd (bl.take (k+1))=mkd (bl.take k)++(if bl[k].mark then [bl[k].dig] else []):=by
 unfold mkd;rw [List.take_succ_eq_append_getElem h,List.filter_append,List.map_append]
 congr 1
 by_cases hp:bl[k].mark=true
 ·rw [if_pos hp,List.filter_cons_of_pos hp];rfl
 ·rw [if_neg hp,List.filter_cons_of_neg hp];rfl
theorem Qz (bl:List BlobP):(mkd bl).length<=bl.length:=by
 unfold mkd;rw [List.length_map];exact List.length_filter_le _ _
theorem vR (A:aj) (c:Nat) (bl:List BlobP) (w:World) (hl:bl.length<=1000) (hA:Rw BlobS w A bl) :
  Calls zZZ 105 #[aA A bl.length c] w fun e w'=>∃v,e= .returned v/\w'.ownsRow w.heap.size 9 1 v (mkd bl).length (strs (mkd bl))/\Below w.heap.size w w':=by
 have HA:=sqH hA;have hb63:(bl.length:Int)<=9223372036854775807:=wu;clear hA;go_enter func105,ntmps105;go_wp2_with fail;go_loopg [3,8] bl.length (fun gn u i wr=>∃k:Nat,gn=bl.length - k/\i= aB aC k/\k<=bl.length/\wr.ownsRow w.heap.size 9 1 u (mkd (bl.take k)).length (strs (mkd (bl.take k)))/\Below w.heap.size w wr)
 case atStart=>exact⟨0,rfl,rfl,wu,World.ownsRow_nil _ _ _ _,Below.refl _ _⟩
 case round =>
  obtain⟨k,hgk,rfl,hk,hown,hbel⟩:=hrel;have HGK:=sqH hgk;clear hgk;by_cases hlt:k<bl.length
  rotate_left
  ·obtain rfl:k=bl.length:=by omega
   have hlb:decide (bl.length<bl.length)=false:=ab;rw [List.take_length]at hown;have HO:=sqH hown;clear hown;go_wp2_with fail;go_ret;exact⟨_,rfl,HO.o,hbel⟩
  have hlb:decide (k<bl.length)=true:=decide_eq_true hlt;have hk0:=we k
  have hk1:(k:Int)<(bl.length:Int):=wu;obtain⟨bq,oq,Bq,cq,hA,hbq,d0,d1,d2,d3,hsl⟩:=(HA.o.below hbel).blob_at k hlt;subst hA;have HSU:=sqH (Jb bl k hlt);have HKL:=sqH hlt;have hml:=Qz (bl.take k);rw [List.length_take]at hml;generalize bl[k]=q at *
  generalize q.mark=qm at *
  have hbox:Arr (wr.alloc (aE #[aD ⟨q.dig.toArray⟩,aA Bq q.data.length cq,aB aC q.aQ,.bool qm] 55)) wr.heap.size 55 [aD ⟨q.dig.toArray⟩,aA Bq q.data.length cq,aB aC q.aQ,.bool qm]:=Arr.new wr 55 _;have hbA:=hbel.alloc hbel.size (aE #[aD ⟨q.dig.toArray⟩,aA Bq q.data.length cq,aB aC q.aQ,.bool qm] 55);have hownA:=hown.alloc (aE #[aD ⟨q.dig.toArray⟩,aA Bq q.data.length cq,aB aC q.aQ,.bool qm] 55);have p0:=hbox.c0;have p3:=hbox.c3;clear hsl hown hbox;cases qm with
  | false =>
   have hsu:=HSU.o;rw [if_neg aa,List.append_nil]at hsu;have HSV:=sqH hsu;have HOA:=sqH hownA;clear hsu hownA;go_wp2_with fail;go_roundg (bl.length - (k+1))
   case measure=>have:=HGK.o;have:=HKL.o;omega
   case rel=>exact⟨k+1,rfl,by go_num,by have:=HKL.o;omega,by rw [HSV.o];exact HOA.o,hbA⟩
  | true =>
   have hsu:=HSU.o;rw [if_pos rfl]at hsu;have HSV:=sqH hsu;have HSZ:=sqH (World.size_alloc wr (aE #[aD ⟨q.dig.toArray⟩,aA Bq q.data.length cq,aB aC q.aQ,.bool true] 55)).symm;clear hsu
   refine wL ?_;intros;clear d0 d1 d2 d3;generalize (wr.alloc (aE #[aD ⟨q.dig.toArray⟩,aA Bq q.data.length cq,aB aC q.aQ,.bool true] 55))=wA at *
   refine YB rfl (.tmp 14) (.tmp 17) rfl j5 ac hownA (us:= [aD ⟨q.dig.toArray⟩]) ac HSZ.o rfl (by intro u hu;rw [List.mem_singleton.1 hu];rfl) wu hbA.size ?_;intro v9 w9 ho9 hg9 hv9;have hb9:=zh hbA hownA ag hg9;have HO9:=sqH ho9;clear ho9 hg9 hv9 hownA p0 p3;go_wp2_with fail;go_roundg (bl.length - (k+1))
   case measure=>have:=HGK.o;have:=HKL.o;omega
   case rel=>exact⟨k+1,rfl,by go_num,by have:=HKL.o;omega,by rw [HSV.o,vN,List.length_append];exact HO9.o,hb9⟩
def Xd (w:World) (g:Option Nat) (l:List ai) (f:FuncId) (x:Value) (p:List UInt8->Bool):Prop :=
 (∀args W,(callFunc f args).run zZZ W= .ok (.enter f args) W)/\∀(b:ai) (W:World),b∈l->w.grownBy W g ->
  Calls zZZ f #[aD ⟨b.toArray⟩,x] W fun e w'=>e= .returned (.bool (p b))/\Below W.heap.size W w'
theorem z5d (w:World):(zeroValue 9).run zZZ w= .ok (aD ByteArray.empty) w:=by kernel_rfl
theorem z42 (h:w.ownsRow base 9 1 (aA (aG ⟨g,0,aF⟩) n cap) n xs) (i:Nat) (hi:i<n) :
  ∃zs:ak,zs.length=n - i/\(∀ty c,(Builtin.clear_ #[39] ty #[aA (aG ⟨g,i,aF⟩) (n - i) c]).run zZZ w= .ok (.tuple #[]) (w.setCells g i zs)) /\
   (w.setCells g i zs).ownsRow base 9 1 (aA (aG ⟨g,0,aF⟩) i cap) i (xs.take i)/\w.grownBy (w.setCells g i zs) (aG g):=by
 have hl:=xQ (aD ByteArray.empty).cells (n - i);obtain⟨k1,k2,k3,k4⟩:=ZS h wu hi (zs:=(Builtin.zeroCells (aD ByteArray.empty).cells (n - i)).toList) hl;simp only [Nat.mul_one]at k1 k2 k3 k4;exact⟨_,by rw [hl];simp [Value.cells],fun ty c=>uy w _ _ ty _ _ _ wu underlying39 z5d rfl (xR _ _ (by simp [Value.cells]) (by intro u hu;simp [Value.cells]at hu;subst hu;rfl)) g _ c k3 k4,k1,k2⟩
theorem z0c (base:Nat) (v:Value) (l:List ai) (f:FuncId) (x:Value) (p:List UInt8->Bool) (w:World) (hl:l.length<=1000000) (hx:w.ownsRow base 9 1 v l.length (strs l)) (HC:Xd w v.ownBlock l f x p) :
  Calls zZZ 108 #[v,.func (.func f) #[] #[x]] w fun e w'=>∃v',e= .returned v'/\w'.ownsRow base 9 1 v' (l.filter (fun b=> !p b)).length (strs (l.filter (fun b=> !p b)))/\w.grownBy w' v.ownBlock:=by
 obtain⟨hce,hcc0⟩:=HC;have HCC:=sqH hcc0;clear hcc0;obtain⟨A,cap,rfl,hlc,hrw⟩:=Rd.of_own' hx;have HI:=sqH (YR A cap l f x p w wu hrw ⟨hce,fun b W hb hbl=>HCC.o b W hb ⟨hbl.os,hbl.tape,hbl.output,hbl.size,fun k hk _=>hbl.block k hk⟩⟩);cases hf:l.findIdx? p with
 | none =>
  rw [hf]at HI;have hall:l.filter (fun b=> !p b)=l:=List.filter_eq_self.2 fun b hb=>by
   have:=List.findIdx?_eq_none_iff.1 hf b hb;rw [this];rfl
  have HALL:=sqH hall;have HX:=sqH hx;clear hall hf hx hrw;go_enter func108,ntmps108;go_wp2_with fail;refine wZ HI.o fun w1 hb1=>?_;dsimp only;simp only [plc];go_wp2_with fail;go_ret;refine⟨_,rfl,by rw [HALL.o];exact zc HX.o hb1,⟨hb1.os,hb1.tape,hb1.output,hb1.size,fun k hk _=>hb1.block k hk⟩⟩
 | some i0 =>
  rw [hf]at HI;simp only [plc]at HI;obtain⟨hi0,hpi,hno⟩:=List.findIdx?_eq_some_iff_getElem.1 hf;have hkeep0:(l.take (i0+1)).filter (fun b=> !p b)=l.take i0:=by
   rw [List.take_succ_eq_append_getElem hi0,List.filter_append,List.filter_cons_of_neg (by rw [hpi];simp)];rw [List.filter_nil,List.append_nil];refine List.filter_eq_self.2 fun b hb=> ?_;obtain⟨k,hk,rfl⟩:=List.mem_iff_getElem.1 hb;rw [List.length_take]at hk;have:=hno k wu;rw [List.getElem_take];simpa using this
  obtain⟨g,cap',cs,e1,hbg,hA,hnc, -, -, -⟩:=yt hx wu;injection e1 with e11 e12 e13;clear e12;subst e11 e13;have hgw:g<w.heap.size:=hA.lt;have HGW:=sqH hgw;have HK0:=sqH hkeep0;clear hkeep0 hno hf hA hrw hgw;have hw1:IntKind.i64.wrap ((i0:Int)+1)=(i0:Int)+1:=IntWalk.i64_in _ wu;have hm1:((i0:Int)== -1)=false:=by rw [beq_eq_false_iff_ne];omega
  go_enter func108,ntmps108;go_wp2_with fail;refine wZ HI.o fun w1 hb1=>?_;dsimp only;have hx1:=zc hx hb1;have HG1:=sqH (show w.grownBy w1 (aG g) from⟨hb1.os,hb1.tape,hb1.output,hb1.size,fun k hk _=>hb1.block k hk⟩);clear hx hb1 HI;go_wp2_with fail;go_loopg [5,6] (l.length - (i0+1)) (fun gn u v wr=>∃(i j:Nat) (M:List ai),gn=l.length - j/\u= aB aC i/\v= aB aC j/\i<j/\j<=l.length/\M.length=l.length/\M.take i=(l.take j).filter (fun b=> !p b)/\M.drop j=l.drop j/\wr.ownsRow base 9 1 (aA (aG ⟨g,0,aF⟩) l.length cap) l.length (strs M)/\w.grownBy wr (aG g))
  case atStart=>exact⟨i0,i0+1,l,rfl,rfl,by go_num,wu,wu,rfl,HK0.o.symm,rfl,hx1,HG1.o⟩
  case round =>
   clear hx1;obtain⟨i,j,M,hgk,rfl,rfl,hij,hj,hM,hMt,hMd,hxr,hgr⟩:=hrel;obtain⟨HGK,HML,HMT,HMD,HGR⟩:=sqJ5 hgk hM hMt hMd hgr;clear hgk hM hMt hMd hgr;by_cases hlt:j<l.length
   ·have hjj:decide (j<l.length)=true:=decide_eq_true hlt;have hMj:j<M.length:=by have:=HML.o;omega
    have eMj:M[j]=l[j]:=by
     have h1:=HMD.o;rw [List.drop_eq_getElem_cons hMj,List.drop_eq_getElem_cons hlt]at h1;injection h1
    obtain⟨bq,oq,hq, -,d0⟩:=(Rd.of_own hxr).2 wu;injection hq with hq;injection hq with hq1 hq2;subst hq1 hq2;have d0:=d0 j _ (kL M j hMj);rw [Nat.zero_add,eMj]at d0;have hmem:l[j]∈l:=List.getElem_mem hlt;have hpt:(l.take (j+1)).filter (fun b=> !p b)=(l.take j).filter (fun b=> !p b)++(if p l[j] then [] else [l[j]]):=by
     rw [List.take_succ_eq_append_getElem hlt,List.filter_append]
     congr 1
     cases hp:p l[j] with
     | true=>rw [List.filter_cons_of_neg (by rw [hp];simp)];rfl
     | false=>rw [List.filter_cons_of_pos (by rw [hp];rfl)];rfl
    have hMset:∀y,(M.set i y).drop (j+1)=l.drop (j+1):=fun y=>by
     rw [List.drop_set,if_pos wu];have h1:=HMD.o;rw [List.drop_eq_getElem_cons hMj,List.drop_eq_getElem_cons hlt]at h1;injection h1
    have hMs0:M.drop (j+1)=l.drop (j+1):=by
     have h1:=HMD.o;rw [List.drop_eq_getElem_cons hMj,List.drop_eq_getElem_cons hlt]at h1;injection h1
    have hMtk:∀y,(M.set i y).take (i+1)=M.take i++ [y]:=fun y=>by
     have hi:i<(M.set i y).length:=by rw [List.length_set];omega
     rw [List.take_succ_eq_append_getElem hi,List.getElem_set_self,List.take_set]
     congr 1
     rw [List.set_eq_of_length_le (by rw [List.length_take];omega)]
    obtain⟨HPT,HMS,HMS0,HMK⟩:=sqJ4 hpt hMset hMs0 hMtk;have hwj:IntKind.i64.wrap ((j:Int)+1)=(j:Int)+1:=IntWalk.i64_in _ wu;have hwi:IntKind.i64.wrap ((i:Int)+1)=(i:Int)+1:=IntWalk.i64_in _ wu;have hcl:=HCC.o l[j] wr hmem HGR.o;clear hpt hMset hMs0 hMtk hmem eMj;have hj0:=we j
    have hj1:(j:Int)<(l.length:Int):=wu;have hi0':=we i
    have hi1':(i:Int)<(l.length:Int):=wu;have hiM:i<(strs M).length:=by rw [strs,List.length_map];omega
    generalize l[j]=bl at *
    cases hp:p bl with
    | true =>
     rw [hp]at hcl;have HCL:=sqH hcl;have HPV:=sqH hp;clear hcl hp;go_wp2_with fail;clear d0;refine wZ HCL.o fun wB hbB=>?_;dsimp only;have hxB:=zc hxr hbB;have HGB:=sqH (HGR.o.trans (show wr.grownBy wB (aG g) from⟨hbB.os,hbB.tape,hbB.output,hbB.size,fun k hk _=>hbB.block k hk⟩));clear hxr hbB;go_wp2_with fail;go_roundg (l.length - (j+1))
     case measure=>exact wc HGK
     case rel=>exact⟨i,j+1,M,rfl,rfl,by go_num,wu,wu,HML.o,by rw [HPT.o,HPV.o,if_pos rfl,List.append_nil];exact HMT.o,HMS0.o,hxB,HGB.o⟩
    | false =>
     rw [hp]at hcl;have HCL:=sqH hcl;have HPV:=sqH hp;clear hcl hp;generalize hsd:(⟨bl.toArray⟩:ByteArray)=sd at *
     have HSD:=sqH hsd;clear hsd;go_wp2_with fail;clear d0;refine wZ HCL.o fun wB hbB=>?_;dsimp only;have hxB:=zc hxr hbB;have hgB:=HGR.o.trans (show wr.grownBy wB (aG g) from⟨hbB.os,hbB.tape,hbB.output,hbB.size,fun k hk _=>hbB.block k hk⟩);obtain⟨hx8,hg8,⟨v0,q0⟩,p0⟩:=xZ hxB hiM (aD sd);rw [show(strs M).set i (aD sd)=strs (M.set i bl) by rw [strs,strs,List.map_set,<-HSD.o]]at hx8;have HG9:=sqH (hgB.trans hg8);clear hxr hxB hgB hbB hg8;go_wp2_with fail;clear q0 p0;generalize (wB.setCell ⟨g,i,aF⟩ (aD sd))=w8 at *
     go_roundg (l.length - (j+1))
     case measure=>exact wc HGK
     case rel=>exact⟨i+1,j+1,M.set i bl,rfl,by go_num,by go_num,wu,wu,by rw [List.length_set];exact HML.o,by rw [HPT.o,HPV.o,HMK.o,HMT.o];rfl,HMS.o _,hx8,HG9.o⟩
   ·obtain rfl:j=l.length:=by omega
    have hjj:decide (l.length<l.length)=false:=ab;have hMl:M.take i=l.filter (fun b=> !p b):=by rw [HMT.o,List.take_length]
    have hle:(l.filter (fun b=> !p b)).length=i:=by rw [<-hMl,List.length_take];have:=HML.o;omega
    obtain⟨zs,hzz,hclr,hx9,hg9⟩:=z42 hxr i wu;have hi0':=we i
    have hi1':(i:Int)<=(l.length:Int):=wu;have hi2':(i:Int)<=(cap:Int):=wu;have hce:¬cap=i:=wu;obtain⟨HX9,HG9,HLE,HML2⟩:=sqJ4 hx9 (HGR.o.trans hg9) hle hMl;clear hx9 hg9 hxr hle hMl;go_wp2_with fail;go_ret;refine⟨_,rfl,?_,HG9.o⟩;have h1:=HX9.o;rw [show(strs M).take i=strs (l.filter (fun b=> !p b)) by rw [strs,<-List.map_take,HML2.o];rfl]at h1;rw [HLE.o];exact h1
theorem z5h (d:ai) (h:hexC d=0) (W:World):Calls zZZ 39 #[aD ⟨d.toArray⟩] W fun e w'=>e= .returned (aB aC 0)/\Below W.heap.size W w':=by
 have hl:=qQ h;have:=kG ⟨d.toArray⟩ W (by show d.toArray.size<=_;rw [List.size_toArray];omega);rw [show(⟨d.toArray⟩:ByteArray).data.toList=d from rfl,h]at this;exact this
theorem jC (Ag:aj) (ng:Nat) (cp:ColP) (s:StoP) (w:World) (hgl:cp.aM.length<=1000) (hg:GoodC s cp) (hc:RdC w Ag ng cp) :
  Calls zZZ 104 #[coV (aA Ag cp.aM.length ng) cp] w fun e w'=>e= .returned (aB aC 0)/\Below w.heap.size w w':=by
 obtain⟨aN,aM,at_⟩:=cp;have h1:=hg.ph;have h2:=hg.gh;have h3:=hg.ris;have h4:=hg.ah;have h5:=hg.g0;have h6:=hg.a0;clear hg;simp only at h1 h2 h3 h4 h5 h6 hgl;rcases (show aN=0\/aN=1\/aN=2 by omega) with rfl | rfl | rfl
 ·obtain rfl:=h5 wu;obtain rfl:=h6 wu;clear h1 h2 h3 h4 h5 h6 hgl hc;have hx:Arr (w.alloc (aE #[aB aC 0,aA Ag 0 ng,aD ⟨#[]⟩] 41)) w.heap.size 41 [aB aC 0,aA Ag 0 ng,aD ⟨#[]⟩]:=Arr.new w 41 _;have hb:=ws w (aE #[aB aC 0,aA Ag 0 ng,aD ⟨#[]⟩] 41);obtain⟨x0,x1,x2⟩:=sqC3 hx;go_enter func104,ntmps104;go_wp2_with fail;go_loopg [46] 1 (fun gn i wr=>gn=1/\i= aB aC 0/\Below w.heap.size w wr)
  case atStart=>exact⟨rfl,rfl,hb⟩
  case round =>
   obtain⟨hgk,rfl,hbl⟩:=hrel;clear hgk;go_wp2_with fail;go_ret;exact⟨rfl,hbl⟩
 ·obtain rfl:=h6 wu;clear h4 h5 h6;have hx:Arr (w.alloc (aE #[aB aC 1,aA Ag aM.length ng,aD ⟨#[]⟩] 41)) w.heap.size 41 [aB aC 1,aA Ag aM.length ng,aD ⟨#[]⟩]:=Arr.new w 41 _;have hb:=ws w (aE #[aB aC 1,aA Ag aM.length ng,aD ⟨#[]⟩] 41);have hrd:=hc.rd.below hb;simp only at hrd;have hg63:(aM.length:Int)<=9223372036854775807:=wu
  obtain⟨x0,x1,x2⟩:=sqC3 hx;obtain⟨HX,HRD,H2,H3⟩:=sqJ4 hx hrd h2 h3;clear h1 h2 h3 hc hx hrd;go_enter func104,ntmps104;go_wp2_with fail;generalize (w.alloc (aE #[aB aC 1,aA Ag aM.length ng,aD ⟨#[]⟩] 41))=w0 at *
  clear x0 x1 x2;go_loopg [46] aM.length (fun gn i wr=>∃j:Nat,gn=aM.length - j/\i= aB aC j/\j<=aM.length/\Below w0.heap.size w0 wr)
  case atStart=>exact⟨0,rfl,rfl,wu,Below.refl _ _⟩
  case round =>
   obtain⟨j,hgk,rfl,hj,hbl⟩:=hrel;have HGK:=sqH hgk;clear hgk;by_cases hlt:j<aM.length
   rotate_left
   ·obtain rfl:j=aM.length:=by omega
    have hlb:decide (aM.length<aM.length)=false:=ab;go_wp2_with fail;go_ret;exact⟨rfl,wm hb hbl⟩
   have hlb:decide (j<aM.length)=true:=decide_eq_true hlt;have hj0:=we j
   have hj1:(j:Int)<(aM.length:Int):=wu;have hrd2:=HRD.o.below hbl;obtain⟨b,off,hAb,hbb,hcell⟩:=hrd2.2 wu;subst hAb;have c0:=hcell j _ (kL aM j hlt);have HHX:=sqH (z5h aM[j] (H2.o _ (List.getElem_mem hlt)) wr);have HKL:=sqH hlt;by_cases hj00:0<j
   ·have hq:=List.pairwise_iff_getElem.1 H3.o (j - 1) j wu hlt wu;have c1:=hcell (j - 1) _ (kL aM (j - 1) wu);generalize aM[j - 1]=q at *
    generalize aM[j]=p at *
    have hkb:decide (0<(j:Int))=true:=decide_eq_true wu;have hkc:decide ((j:Int)>0)=true:=decide_eq_true wu;have hkd:decide (0<j)=true:=decide_eq_true hj00;have hm1:IntKind.i64.wrap ((j:Int) - 1)=(j:Int) - 1:=IntWalk.i64_in _ wu;have hm2:((j:Int) - 1).toNat=j - 1:=wu;have hm3:(0:Int)<=(j:Int) - 1:=wu;have hm4:(j:Int) - 1<(aM.length:Int):=wu;have hm5:(1:Int)<=(j:Int):=wu;obtain⟨sq,hsq⟩:=wY (⟨q.toArray⟩:ByteArray)
    obtain⟨sp,hsp⟩:=wY (⟨p.toArray⟩:ByteArray)
    rw [<-hsq]at c1;rw [<-hsp]at c0 HHX;have l1:Op.bytesLess sp.toList sq.toList=false:=by
     rw [hsp,hsq,ByteArray.toList_eq,ByteArray.toList_eq];exact yC hq
    have l2:(sp.toList==sq.toList)=false:=by
     rw [hsp,hsq,ByteArray.toList_eq,ByteArray.toList_eq,beq_eq_false_iff_ne];exact(xf hq).symm
    have HCL:=sqH (show ∀W,Below w0.heap.size w0 W->W.cell? ⟨w.heap.size,1,aF⟩=aG (aA (aG ⟨b,off,aF⟩) aM.length ng) from fun W h=>(HX.o.below h).c1);have HBB:=sqH hbb;clear hsq hsp hq hcell hrd2 hbb;go_wp2_with fail;clear c0;refine wZ HHX.o fun w5 hb5=>?_;dsimp only;have hb05:=wm hbl hb5;have c2:=(hb5.cell (p:=⟨b,off+(j - 1),aF⟩) HBB.o).trans c1;have x1:=HCL.o _ hb05;clear c1;go_wp2_with fail;go_roundg (aM.length - (j+1))
    case measure=>have:=HGK.o;have:=HKL.o;omega
    case rel=>exact⟨j+1,rfl,by go_num,by have:=HKL.o;omega,hb05⟩
   ·have hkb:decide (0<(j:Int))=false:=decide_eq_false wu;have hkc:decide ((j:Int)>0)=false:=decide_eq_false wu;have hkd:decide (0<j)=false:=decide_eq_false hj00;clear hcell hrd2 hbb;go_wp2_with fail;refine wZ HHX.o fun w5 hb5=>?_;dsimp only;have hb05:=wm hbl hb5;go_wp2_with fail;go_roundg (aM.length - (j+1))
    case measure=>have:=HGK.o;have:=HKL.o;omega
    case rel=>exact⟨j+1,rfl,by go_num,by have:=HKL.o;omega,hb05⟩
 ·obtain rfl:=h5 wu;rcases h4 with rfl | h4
  ·clear h1 h2 h3 h5 h6 hgl hc;have hx:Arr (w.alloc (aE #[aB aC 2,aA Ag 0 ng,aD ⟨#[]⟩] 41)) w.heap.size 41 [aB aC 2,aA Ag 0 ng,aD ⟨#[]⟩]:=Arr.new w 41 _;have hb:=ws w (aE #[aB aC 2,aA Ag 0 ng,aD ⟨#[]⟩] 41);obtain⟨x0,x1,x2⟩:=sqC3 hx;go_enter func104,ntmps104;go_wp2_with fail;go_loopg [46] 1 (fun gn i wr=>gn=1/\i= aB aC 0/\Below w.heap.size w wr)
   case atStart=>exact⟨rfl,rfl,hb⟩
   case round =>
    obtain⟨hgk,rfl,hbl⟩:=hrel;clear hgk;go_wp2_with fail;go_ret;exact⟨rfl,hbl⟩
  ·clear h1 h2 h3 h5 h6 hgl hc;by_cases hem:at_= []
   ·subst hem;exact absurd h4 aa
   have HH:=fun W=>z5h at_ h4 W;have hne:(⟨at_.toArray⟩:ByteArray).toList.isEmpty=false:=by
    rw [ByteArray.toList_eq];cases at_ with
    | nil=>exact absurd rfl hem
    | cons a l=>rfl
   obtain⟨ds,hds⟩:=wY (⟨at_.toArray⟩:ByteArray)
   simp only [coV];rw [<-hds]at hne HH ⊢
   clear hds h4 hem;have HHX:=sqH HH;clear HH;have hx:Arr (w.alloc (aE #[aB aC 2,aA Ag 0 ng,aD ds] 41)) w.heap.size 41 [aB aC 2,aA Ag 0 ng,aD ds]:=Arr.new w 41 _;have hb:=ws w (aE #[aB aC 2,aA Ag 0 ng,aD ds] 41);obtain⟨x0,x1,x2⟩:=sqC3 hx;go_enter func104,ntmps104;go_wp2_with fail;refine wZ (HHX.o _) fun w5 hb5=>?_;dsimp only;have x0':=(hx.below hb5).c0;have x1':=(hx.below hb5).c1;have x2':=(hx.below hb5).c2;have hb05:=wm hb hb5;go_wp2_with fail;go_loopg [46] 1 (fun gn i wr=>gn=1/\i= aB aC 0/\Below w.heap.size w wr)
   case atStart=>exact⟨rfl,rfl,hb05⟩
   case round =>
    obtain⟨hgk,rfl,hbl⟩:=hrel;clear hgk;go_wp2_with fail;go_ret;exact⟨rfl,hbl⟩
theorem XN {d:ai} (h:StrL L (Rch bl [d])):((L.length:Int)==0)= !(bl.any (fun b=>b.dig==d)):=by
 cases ha:bl.any (fun b=>b.dig==d) with
 | true =>
  obtain⟨b,hb,e⟩:=List.any_eq_true.1 ha;have hm:=(h.mem d).2 (.root (List.mem_singleton.2 rfl) ⟨b,hb,by simpa using e⟩);have:=List.length_pos_of_mem hm;rw [beq_eq_false_iff_ne.2 wu];rfl
 | false =>
  have hn:L= []:=by
   cases L with
   | nil=>rfl
   | cons x L =>
    exfalso;have hx:=(h.mem x).1 ab;have key:∀y,Rch bl [d] y->InB bl d:=fun y hy=>by
     induction hy with
     | root h1 h2=>rw [List.mem_singleton]at h1;subst h1;exact h2
     | step _ _ _ ih=>exact ih
    obtain⟨b,hb,e⟩:=key x hx;have:=List.any_eq_false.1 ha b hb;simp [e]at this
  rw [hn];rfl
theorem z02 (gs c:Nat) (A:aj) (bl:List BlobP) (d:ai) (w:World) (hl:bl.length<=1000) (hcap:bl.length<=c) (hcm:c<=maxLen) (hdig:∀x∈bl,x.dig.length<=1000) (hrd:Rw BlobS w A bl) (hx:w.cell? ⟨gs,0,aF⟩=aG (aA A bl.length c)) :
  Calls zZZ 109 #[aD ⟨d.toArray⟩,.pointer (aG ⟨gs,0,aF⟩)] w fun e w'=>e= .returned (.bool (!(bl.any (fun b=>b.dig==d))))/\Below w.heap.size w w':=by
 have hb1:=ws w (aE #[aD ⟨d.toArray⟩] 9);have hbx:Arr (w.alloc (aE #[aD ⟨d.toArray⟩] 9)) w.heap.size 9 (strs [d]):=Arr.new w 9 _;have HFR:=sqH (Qd A (aG ⟨w.heap.size,0,aF⟩) c 1 bl [d] _ hl hcap hcm hdig (hrd.below hb1) ab (Rd.of_arr hbx rfl rfl));clear hrd hbx;go_enter func109,ntmps109;go_wp2_with fail;refine HFR.o.mono ?_;rintro e_ w2 ⟨v,L,rfl,hL,hLl,hown,hb2⟩;dsimp only;obtain⟨Av,cv,rfl, -, -⟩:=Rd.of_own' hown;have hfn:=XN hL;go_wp2_with fail;go_ret;rw [<-hfn];exact⟨rfl,wm hb1 hb2⟩
theorem KI (w w0:World) (g:Option Nat) (gs c:Nat) (A:aj) (bl:List BlobP) (l:List ai) (hl:bl.length<=1000) (hcap:bl.length<=c) (hcm:c<=maxLen) (hdig:∀x∈bl,x.dig.length<=1000) (hrd:Rw BlobS w0 A bl) (hx:w0.cell? ⟨gs,0,aF⟩=aG (aA A bl.length c)) (hgs:gs<w0.heap.size) (hB:∀W,w.grownBy W g->Below w0.heap.size w0 W) :
  Xd w g l 109 (.pointer (aG ⟨gs,0,aF⟩)) (fun d=> !(bl.any (fun b=>b.dig==d))):=by
 refine⟨fun _ _=>ww,fun b W _ hbel=> ?_⟩;have h:=hB W hbel;exact z02 gs c A bl b W hl hcap hcm hdig (hrd.below h) ((h.cell (p:=⟨gs,0,aF⟩) hgs).trans hx)
def prt (bl:List BlobP):List ai:=(bl.filter (·.mark)).flatMap fun b=>(qU b.data).1.map (·.dig)
theorem Ko (bl:List BlobP) (k:Nat) (h:k<bl.length):prt (bl.take (k+1))=prt (bl.take k)++(if bl[k].mark then (qU bl[k].data).1.map (·.dig) else []):=by
 unfold prt;rw [List.take_succ_eq_append_getElem h,List.filter_append,List.flatMap_append]
 congr 1
 by_cases hp:bl[k].mark=true
 ·rw [if_pos hp,List.filter_cons_of_pos hp];simp
 ·rw [if_neg hp,List.filter_cons_of_neg hp];rfl
theorem Vi (bl:List BlobP):∀k,k<=bl.length->(prt (bl.take k)).length<=8*k
 | 0,_=>by simp [prt]
 | k+1,h=>by
  have ih:=Vi bl k wu
  rw [Ko bl k wu,List.length_append]
  have:=yO (bl[k]'(by omega)).data
  split
  ·rw [List.length_map];omega
  ·simp only [List.length_nil];omega
theorem z0z {cp:ColP} {R:List ai} (hg:GoodS s) (hc:GoodC s cp) (hp:cp.aN=1) (hR:StrL R (fun x=>x∈rts s)):∀x∈(R++prt s.aI).filter (fun d=> !(!(s.aI.any (fun b=>b.dig==d)))),x∈mkd s.aI++cp.aM:=by
 intro x hx;obtain⟨h1,h2⟩:=List.mem_filter.1 hx;rw [Bool.not_not]at h2;obtain⟨b,hb,e⟩:=List.any_eq_true.1 h2;have hin:InB s.aI x:=⟨b,hb,by simpa using e⟩
 rw [List.mem_append];rcases List.mem_append.1 h1 with h | h
 ·exact hc.mr hp x ((hR.mem x).1 h) hin
 ·obtain⟨y,hy,hyx⟩:=List.mem_flatMap.1 h;obtain⟨hy1,hy2⟩:=List.mem_filter.1 hy;exact hc.mb hp y hy1 (by simpa using hy2) x (by rw [xC hg.b.ris hy1];exact hyx) hin
theorem zI (w:World) (e1 e2:TypeId) (c1 c2:ak):∃W,W=(w.alloc (.cells c1.toArray e1)).alloc (.cells c2.toArray e2)/\Arr W w.heap.size e1 c1/\Arr W (w.heap.size+1) e2 c2/\Below w.heap.size w W:=by
 have b1:=ws w (.cells c1.toArray e1);have a2:=Arr.new (w.alloc (.cells c1.toArray e1)) e2 c2;rw [World.size_alloc]at a2;exact⟨_,rfl,(Arr.new w e1 c1).alloc _,a2,b1.alloc b1.size _⟩
theorem qu (A:aj) (c:Nat) (B:aj) (d:Nat) (s:StoP) (Ag:aj) (ng:Nat) (cp:ColP) (w:World) (hg:GoodS s) (hr:RdSt w A c B d s) (hgl:cp.aM.length<=1000) (hgc:GoodC s cp) (hc:RdC w Ag ng cp) :
  Calls zZZ 82 #[.agg #[aA A s.aI.length c,aA B s.aJ.length d,aB aC s.aL,aB aC s.aK],coV (aA Ag cp.aM.length ng) cp] w fun e w'=>e= .returned (aB aC 0)/\Below w.heap.size w w':=by
 have hlb:s.aI.length<=24:=hg.b.len;obtain⟨aN,aM,at_⟩:=cp;have h1:=hgc.ph;simp only at h1 hgl;rcases (show aN=0\/aN=1\/aN=2 by omega) with rfl | rfl | rfl
 ·clear h1;obtain⟨w0,hw0,hS,hC,hb0⟩:=zI w 38 41 [aA A s.aI.length c,aA B s.aJ.length d,aB aC s.aL,aB aC s.aK] [aB aC 0,aA Ag (aM).length ng,aD ⟨(at_).toArray⟩];have hr0:=hr.below hb0;obtain⟨H,hH⟩:=wY w.heap.size
  obtain⟨HCK,HSH,HMK,HRT,HAL,HDG⟩:=sqJ6 (zD A c B d s w0 hg hr0) (fun W (h:Below w0.heap.size w0 W)=>jC Ag ng ⟨0,aM,at_⟩ s W hgl hgc ((hc.below hb0).below h)) (fun W (h:Below w0.heap.size w0 W)=>vR A c s.aI W wu (hr0.below h).b) (fun W (h:Below w0.heap.size w0 W)=>xt A B c d s (s.aL:Int) (s.aK:Int) W hg.rts (hr0.below h)) (fun W (h:Below w0.heap.size w0 W)=>QR A B c d s (s.aL:Int) (s.aK:Int) W hg.rts (hr0.below h)) (show ∀x∈s.aI,x.dig.length<=1000 from fun x hx=>by rw [(hg.b.one x hx).1];have:=qQ (zE x.data);omega);have hcb:=hr0.bc;have hcm:=hr0.bm;obtain⟨HR0,HRC,HGD,HGC⟩:=sqJ4 hr0.b (hc.below hb0) hg hgc;rw [<-hH]at hS hC hb0 ⊢
  have hsz:H<=w0.heap.size:=by rw [hH]at hb0 ⊢;exact hb0.size
  have hHl:H+1<w0.heap.size:=hC.lt;obtain⟨x0,x1,x2,x3⟩:=sqC4 hS;rw [hw0,hH]at x0 x1 x2 x3;have HSX:=sqH hS;have HCX:=sqH hC;clear hg hr hgc hc hr0 hS hC;go_enter func82,ntmps82;go_wp2_with fail;rw [<-hw0,<-hH];have HH:=sqH hH;clear hw0 hH x0 x1 x2 x3;refine wZ HCK.o fun w1 hb1=>?_;dsimp only;obtain⟨x0,x1,x2⟩:=sqC3 (HCX.o.below hb1);have z0:=(HSX.o.below hb1).c0;go_wp2_with fail;clear x0 x1 x2 z0;refine wZ ((HSH.o _ hb1)) fun w2 hb2=>?_;dsimp only;have hb12:=wm hb1 hb2;obtain⟨x0,x1,x2⟩:=sqC3 (HCX.o.below hb12);obtain⟨z0,z1,z2,z3⟩:=sqC4 (HSX.o.below hb12);clear hb1 hb2;go_wp2_with fail;clear x0 x1 x2 z0 z1 z2 z3;refine((HMK.o _ hb12)).mono ?_;rintro e_ w3 ⟨v3,rfl,ho3,hb3⟩;dsimp only;have hb13:=wm hb12 hb3;obtain⟨x0,x1,x2⟩:=sqC3 (HCX.o.below hb13);obtain⟨z0,z1,z2,z3⟩:=sqC4 (HSX.o.below hb13);clear hb3;go_wp2_with fail;go_ret;exact⟨rfl,hb0.trans (hb13.mono hsz)⟩
 ·clear h1;obtain⟨w0,hw0,hS,hC,hb0⟩:=zI w 38 41 [aA A s.aI.length c,aA B s.aJ.length d,aB aC s.aL,aB aC s.aK] [aB aC 1,aA Ag (aM).length ng,aD ⟨(at_).toArray⟩];have hr0:=hr.below hb0;obtain⟨H,hH⟩:=wY w.heap.size
  obtain⟨HCK,HSH,HMK,HRT,HAL,HDG⟩:=sqJ6 (zD A c B d s w0 hg hr0) (fun W (h:Below w0.heap.size w0 W)=>jC Ag ng ⟨1,aM,at_⟩ s W hgl hgc ((hc.below hb0).below h)) (fun W (h:Below w0.heap.size w0 W)=>vR A c s.aI W wu (hr0.below h).b) (fun W (h:Below w0.heap.size w0 W)=>xt A B c d s (s.aL:Int) (s.aK:Int) W hg.rts (hr0.below h)) (fun W (h:Below w0.heap.size w0 W)=>QR A B c d s (s.aL:Int) (s.aK:Int) W hg.rts (hr0.below h)) (show ∀x∈s.aI,x.dig.length<=1000 from fun x hx=>by rw [(hg.b.one x hx).1];have:=qQ (zE x.data);omega);have hcb:=hr0.bc;have hcm:=hr0.bm;obtain⟨HR0,HRC,HGD,HGC⟩:=sqJ4 hr0.b (hc.below hb0) hg hgc;rw [<-hH]at hS hC hb0 ⊢
  have hsz:H<=w0.heap.size:=by rw [hH]at hb0 ⊢;exact hb0.size
  have hHl:H+1<w0.heap.size:=hC.lt;obtain⟨x0,x1,x2,x3⟩:=sqC4 hS;rw [hw0,hH]at x0 x1 x2 x3;have HSX:=sqH hS;have HCX:=sqH hC;clear hg hr hgc hc hr0 hS hC;go_enter func82,ntmps82;go_wp2_with fail;rw [<-hw0,<-hH];have HH:=sqH hH;clear hw0 hH x0 x1 x2 x3;refine wZ HCK.o fun w1 hb1=>?_;dsimp only;obtain⟨x0,x1,x2⟩:=sqC3 (HCX.o.below hb1);have z0:=(HSX.o.below hb1).c0;go_wp2_with fail;clear x0 x1 x2 z0;refine wZ ((HSH.o _ hb1)) fun w2 hb2=>?_;dsimp only;have hb12:=wm hb1 hb2;obtain⟨x0,x1,x2⟩:=sqC3 (HCX.o.below hb12);obtain⟨z0,z1,z2,z3⟩:=sqC4 (HSX.o.below hb12);clear hb1 hb2;go_wp2_with fail;clear x0 x1 x2 z0 z1 z2 z3;refine((HMK.o _ hb12)).mono ?_;rintro e_ w3 ⟨v3,rfl,ho3,hb3⟩;dsimp only;have hb13:=wm hb12 hb3;obtain⟨x0,x1,x2⟩:=sqC3 (HCX.o.below hb13);obtain⟨z0,z1,z2,z3⟩:=sqC4 (HSX.o.below hb13);clear hb3;go_wp2_with fail;clear x0 x1 x2 z0 z1 z2 z3;refine((HRT.o _ hb13)).mono ?_;rintro e_ w4 ⟨v4,R4,rfl,hR4,hl4,ho4,hb4⟩;dsimp only;have hb14:=wm hb13 hb4;have ho34:=zc ho3 hb4;obtain⟨A4,c4,rfl,hc4,hr4⟩:=Rd.of_own' ho4;have HCN:=sqH (kS A4 c4 R4 w4 wu hr4);have HSB:=sqH (z0z HGD.o HGC.o rfl hR4);clear hr4 ho4 ho3 hb4 hR4;go_wp2_with fail;refine HCN.o.mono ?_;rintro e_ w5 ⟨v5,rfl,ho5,hb5⟩;dsimp only;have ho35:=zc ho34 hb5;have hb15:=wm hb14 hb5;obtain⟨z0,z1,z2,z3⟩:=sqC4 (HSX.o.below hb15);have h04:=hb14.size;have hb63:(s.aI.length:Int)<=9223372036854775807:=wu;have HO34:=sqH ho34;clear ho34 ho35 hb13 hb12 HRT HAL HMK HSH HCK HCN hb15;go_wp2_with fail;clear z0 z1 z2 z3;go_loopg [8,35] s.aI.length (fun gn u i wr=>∃(k:Nat) (vn:Value),gn=s.aI.length - k/\vn=u/\i= aB aC k/\k<=s.aI.length/\wr.ownsRow w4.heap.size 9 1 vn (R4++prt (s.aI.take k)).length (strs (R4++prt (s.aI.take k)))/\Below w4.heap.size w4 wr)
  case atStart=>exact⟨0,_,rfl,rfl,rfl,wu,by rw [List.take_zero];simpa [prt] using ho5,hb5⟩
  case round =>
   clear ho5 hb5;obtain⟨k,vn,hgk,rfl,rfl,hk,hown,hbel⟩:=hrel;have HGK:=sqH hgk;clear hgk;have hpl:=Vi s.aI k hk;have hb0r:=wm hb14 hbel;by_cases hlt:k<s.aI.length
   rotate_left
   ·obtain rfl:k=s.aI.length:=by omega
    have hlbb:decide (s.aI.length<s.aI.length)=false:=ab;rw [List.take_length]at hown hpl;have hmd:=Qz s.aI;have hRl:(R4++prt s.aI).length<=1000:=by rw [List.length_append];omega
    obtain⟨HDL,HOR,HBO⟩:=sqJ3 (z0c w4.heap.size vn (R4++prt s.aI) _ (.pointer (aG ⟨H,0,aF⟩)) (fun d=> !(s.aI.any (fun b=>b.dig==d))) wr wu hown (KI wr w4 vn.ownBlock H c A s.aI (R4++prt s.aI) wu hcb hcm HDG.o (HR0.o.below hb14) ((HSX.o.below hb14).c0) wu (fun W h=>zh hbel hown ag h))) (zh hbel hown ag (w':=wr) (World.grownBy.refl _ _)) (fun (W:World) (h:wr.grownBy W vn.ownBlock)=>zh hbel hown ag h);clear hown;go_wp2_with fail;refine HDL.o.mono ?_;rintro e_ w6 ⟨v6,rfl,ho6,hg6⟩;dsimp only;have hb46:=HBO.o w6 hg6;have hb16:=wm hb14 hb46;obtain⟨x0,x1,x2⟩:=sqC3 (HCX.o.below hb16);have hfl:((R4++prt s.aI).filter (fun d=> !(!(s.aI.any (fun b=>b.dig==d))))).length<=1000:=Nat.le_trans (List.length_filter_le _ _) hRl;have ho36:=zc HO34.o hb46;clear hbel hg6 hb0r HDL HOR HBO hpl hRl;generalize hF:((R4++prt s.aI).filter (fun d=> !(!(s.aI.any (fun b=>b.dig==d)))))=F at *
    obtain⟨A3,c3,rfl,hc3,hr3⟩:=Rd.of_own' ho36;obtain⟨A6,c6,rfl,hc6,hr6⟩:=Rd.of_own' ho6;have hrc:=HRC.o.below hb16;have hbq:=ws w6 (aE #[aA A3 (mkd s.aI).length c3,aA Ag aM.length ng] 39);have hAq:Arr (w6.alloc (aE #[aA A3 (mkd s.aI).length c3,aA Ag aM.length ng] 39)) w6.heap.size 39 [aA A3 (mkd s.aI).length c3,aA Ag aM.length ng]:=Arr.new w6 39 _;have HCC:=sqH (uP w6.heap.size A3 Ag c3 ng (mkd s.aI) aM _ hc3 hrc.cap wu wu (hAq.c0) (hAq.c1) (hr3.below hbq) (hrc.rd.below hbq));have HR6:=sqH (hr6.below hbq);have hb1q:=wm hb16 hbq;clear hr3 hr6 hrc hAq ho36 ho6 hbq;go_wp2_with fail;clear x0 x1 x2;generalize (w6.alloc (aE #[aA A3 (mkd s.aI).length c3,aA Ag aM.length ng] 39))=wq at *
    refine HCC.o.mono ?_;rintro e_ w7 ⟨v7,rfl,ho7,hb7⟩;dsimp only;obtain⟨A7,c7,rfl,hc7,hr7⟩:=Rd.of_own' ho7;have hwt:=Zk A6 A7 c6 c7 F (mkd s.aI++aM) w7 wu (by rw [List.length_append];omega) (HR6.o.below hb7) hr7 HSB.o;rw [List.length_append]at hwt;have HWT:=sqH hwt;clear hwt;have hb17:=wm hb1q hb7;clear hr7 ho7 hb7 HR6;go_wp2_with fail;refine wZ HWT.o fun w8 hb8=>?_;dsimp only;have hb18:=wm hb17 hb8;go_wp2_with fail;go_ret;exact⟨rfl,hb0.trans (hb18.mono hsz)⟩
   have hlbb:decide (k<s.aI.length)=true:=decide_eq_true hlt;have hk0:=we k
   have hk1:(k:Int)<(s.aI.length:Int):=wu;obtain⟨bq,oq,Bq,cq,hA,hbq,d0,d1,d2,d3,hsl⟩:=(HR0.o.below hb0r).blob_at k hlt;subst hA;have HSU:=sqH (Ko s.aI k hlt);have HKL:=sqH hlt;generalize s.aI[k]=q at *
   generalize hqm:q.mark=qm at *
   have hbox:Arr (wr.alloc (aE #[aD ⟨q.dig.toArray⟩,aA Bq q.data.length cq,aB aC q.aQ,.bool qm] 55)) wr.heap.size 55 [aD ⟨q.dig.toArray⟩,aA Bq q.data.length cq,aB aC q.aQ,.bool qm]:=Arr.new wr 55 _;have hbA:=hbel.alloc hbel.size (aE #[aD ⟨q.dig.toArray⟩,aA Bq q.data.length cq,aB aC q.aQ,.bool qm] 55);have hbn:=ws wr (aE #[aD ⟨q.dig.toArray⟩,aA Bq q.data.length cq,aB aC q.aQ,.bool qm] 55);have hownA:=hown.alloc (aE #[aD ⟨q.dig.toArray⟩,aA Bq q.data.length cq,aB aC q.aQ,.bool qm] 55);have hslA:=hsl.below hbn;obtain⟨p0,p1,p2,p3⟩:=sqC4 hbox;clear hsl hown hbox hbn hb0r;cases qm with
   | false =>
    have hsu:=HSU.o;rw [if_neg aa,List.append_nil]at hsu;have HSV:=sqH hsu;have HOA:=sqH hownA;clear hsu hownA hslA;go_wp2_with fail;go_roundg (s.aI.length - (k+1))
    case measure=>have:=HGK.o;have:=HKL.o;omega
    case rel=>exact⟨k+1,_,rfl,rfl,by go_num,by have:=HKL.o;omega,by rw [HSV.o];exact HOA.o,hbA⟩
   | true =>
    have hsu:=HSU.o;rw [if_pos rfl]at hsu;have HPT:=vS ⟨q.dig.toArray⟩ Bq q.data.length cq q.data (q.aQ:Int) true _ rfl hslA.cap hslA.max hslA.rd;have hk8:(qU q.data).1.length<=8:=yO _;rw [vG]at HPT;have hkl:(qU q.data).1.length=((qU q.data).1.map (fun p:PartP=>p.dig)).length:=by rw [List.length_map]
    rw [hkl]at HPT hk8;generalize (qU q.data).1.map (fun p:PartP=>p.dig)=ks at *
    have HSV:=sqH hsu;have HPT':=sqH HPT;clear hsu HPT hkl hslA;go_wp2_with fail;clear d0 d1 d2 d3 p0 p1 p2 p3;generalize (wr.alloc (aE #[aD ⟨q.dig.toArray⟩,aA Bq q.data.length cq,aB aC q.aQ,.bool true] 55))=wA at *
    refine(HPT'.o).mono ?_;rintro e_ w8 ⟨v8,rfl,ho8,hb8⟩;dsimp only;obtain⟨A8,c8,rfl,_,hr8⟩:=Rd.of_own' ho8;have hown8:=zc hownA hb8;have hbA8:=wm hbA hb8;clear ho8 hb8 hownA hbA HPT';have hrl:(R4++prt (s.aI.take k)).length<=1000:=by rw [List.length_append];omega
    refine wL ?_;intros;refine zG rfl (.tmp 41) (.tmp 43) rfl j5 ac hown8 ac hr8 (Z5 _) wu hbA8.size ?_;intro v9 w9 ho9 hg9 hv9;have hb9:=zh hbA8 hown8 ag hg9;have HO9:=sqH ho9;clear ho9 hg9 hv9 hown8 hr8;go_wp2_with fail;go_roundg (s.aI.length - (k+1))
    case measure=>have:=HGK.o;have:=HKL.o;omega
    case rel=>exact⟨k+1,_,rfl,rfl,by go_num,by have:=HKL.o;omega,by rw [HSV.o,<-List.append_assoc,vN (R4++prt (s.aI.take k)) ks,show((R4++prt (s.aI.take k))++ks).length=(R4++prt (s.aI.take k)).length+ks.length from List.length_append];exact HO9.o,hb9⟩
 ·clear h1;obtain⟨w0,hw0,hS,hC,hb0⟩:=zI w 38 41 [aA A s.aI.length c,aA B s.aJ.length d,aB aC s.aL,aB aC s.aK] [aB aC 2,aA Ag (aM).length ng,aD ⟨(at_).toArray⟩];have hr0:=hr.below hb0;obtain⟨H,hH⟩:=wY w.heap.size
  obtain⟨HCK,HSH,HMK,HRT,HAL,HDG⟩:=sqJ6 (zD A c B d s w0 hg hr0) (fun W (h:Below w0.heap.size w0 W)=>jC Ag ng ⟨2,aM,at_⟩ s W hgl hgc ((hc.below hb0).below h)) (fun W (h:Below w0.heap.size w0 W)=>vR A c s.aI W wu (hr0.below h).b) (fun W (h:Below w0.heap.size w0 W)=>xt A B c d s (s.aL:Int) (s.aK:Int) W hg.rts (hr0.below h)) (fun W (h:Below w0.heap.size w0 W)=>QR A B c d s (s.aL:Int) (s.aK:Int) W hg.rts (hr0.below h)) (show ∀x∈s.aI,x.dig.length<=1000 from fun x hx=>by rw [(hg.b.one x hx).1];have:=qQ (zE x.data);omega);have hcb:=hr0.bc;have hcm:=hr0.bm;obtain⟨HR0,HRC,HGD,HGC⟩:=sqJ4 hr0.b (hc.below hb0) hg hgc;rw [<-hH]at hS hC hb0 ⊢
  have hsz:H<=w0.heap.size:=by rw [hH]at hb0 ⊢;exact hb0.size
  have hHl:H+1<w0.heap.size:=hC.lt;obtain⟨x0,x1,x2,x3⟩:=sqC4 hS;rw [hw0,hH]at x0 x1 x2 x3;have HSX:=sqH hS;have HCX:=sqH hC;clear hg hr hgc hc hr0 hS hC;go_enter func82,ntmps82;go_wp2_with fail;rw [<-hw0,<-hH];have HH:=sqH hH;clear hw0 hH x0 x1 x2 x3;refine wZ HCK.o fun w1 hb1=>?_;dsimp only;obtain⟨x0,x1,x2⟩:=sqC3 (HCX.o.below hb1);have z0:=(HSX.o.below hb1).c0;go_wp2_with fail;clear x0 x1 x2 z0;refine wZ ((HSH.o _ hb1)) fun w2 hb2=>?_;dsimp only;have hb12:=wm hb1 hb2;obtain⟨x0,x1,x2⟩:=sqC3 (HCX.o.below hb12);obtain⟨z0,z1,z2,z3⟩:=sqC4 (HSX.o.below hb12);clear hb1 hb2;go_wp2_with fail;clear x0 x1 x2 z0 z1 z2 z3;refine((HMK.o _ hb12)).mono ?_;rintro e_ w3 ⟨v3,rfl,ho3,hb3⟩;dsimp only;have hb13:=wm hb12 hb3;obtain⟨x0,x1,x2⟩:=sqC3 (HCX.o.below hb13);obtain⟨z0,z1,z2,z3⟩:=sqC4 (HSX.o.below hb13);clear hb3;go_wp2_with fail;clear x0 x1 x2 z0 z1 z2 z3;refine((HAL.o _ hb13)).mono ?_;rintro e_ w4 ⟨v4,L4,rfl,hL4,hl4,ho4,hb4⟩;dsimp only;have hb14:=wm hb13 hb4;have hml:=Qz s.aI;obtain⟨A3,c3,rfl,hc3,hr3⟩:=Rd.of_own' (zc ho3 hb4);obtain⟨A4,c4,rfl,hc4,hr4⟩:=Rd.of_own' ho4;have hwt:=Zk A4 A3 c4 c3 L4 (mkd s.aI) w4 wu wu hr4 hr3 (fun x hx=>HGC.o.sw rfl x ((hL4.mem x).1 hx));have HWT:=sqH hwt;clear hwt hr3 hr4 ho3 ho4 hb4;go_wp2_with fail;refine wZ HWT.o fun w5 hb5=>?_;dsimp only;have hb15:=wm hb14 hb5;go_wp2_with fail;go_ret;exact⟨rfl,hb0.trans (hb15.mono hsz)⟩
structure LoP where
 st:StoP
 co:ColP
 fs:List FlP
structure GoodL (l:LoP):Prop where
 s:GoodS l.st
 c:GoodC l.st l.co
 g:l.co.aM.length<=1000
 f:GoodF l.fs
 no:∀j (h:j<l.fs.length),l.st.aJ.findIdx? (fun x=>x.key==l.fs[j].key)=aF
structure LoW where
 X:aj
 cX:Nat
 Y:aj
 dY:Nat
 G:aj
 ng:Nat
 F:aj
 cF:Nat
structure RdLo (w:World) (p:LoW) (l:LoP):Prop where
 s:RdSt w p.X p.cX p.Y p.dY l.st
 c:RdC w p.G p.ng l.co
 f:Fls w p.F l.fs
 fc:l.fs.length<=p.cF
 fm:p.cF<=maxLen
theorem RdLo.below {w':World} {p:LoW} {l:LoP} (h:RdLo w p l) (hb:Below w.heap.size w w'):RdLo w' p l:=⟨h.s.below hb,h.c.below hb,h.f.below hb,h.fc,h.fm⟩
abbrev loC (p:LoW) (l:LoP):ak:= [aA p.X l.st.aI.length p.cX,aA p.Y l.st.aJ.length p.dY,aB aC l.st.aL,aB aC l.st.aK,aB aC l.co.aN,aA p.G l.co.aM.length p.ng,aD ⟨l.co.at_.toArray⟩,aA p.F l.fs.length p.cF]
abbrev loV (p:LoW) (l:LoP):Value:= .agg #[aA p.X l.st.aI.length p.cX,aA p.Y l.st.aJ.length p.dY,aB aC l.st.aL,aB aC l.st.aK,aB aC l.co.aN,aA p.G l.co.aM.length p.ng,aD ⟨l.co.at_.toArray⟩,aA p.F l.fs.length p.cF]
theorem uQ (p:LoW) (l:LoP) (w:World) (hg:GoodL l) (hr:RdLo w p l) :
  Calls zZZ 88 #[loV p l] w fun e w'=>e= .returned (aB aC 0)/\Below w.heap.size w w':=by
 have HR:=sqH hr;have HG:=sqH hg;clear hr hg;go_enter func88,ntmps88;obtain⟨X,cX,Y,dY,G,ng,F,cF⟩:=p;obtain⟨s,co,fs⟩:=l;have hbo:Arr (w.alloc (aE #[aA X s.aI.length cX,aA Y s.aJ.length dY,aB aC s.aL,aB aC s.aK,aB aC co.aN,aA G co.aM.length ng,aD ⟨co.at_.toArray⟩,aA F fs.length cF] 44)) w.heap.size 44 (loC ⟨X,cX,Y,dY,G,ng,F,cF⟩ ⟨s,co,fs⟩):=Arr.new w 44 (loC ⟨X,cX,Y,dY,G,ng,F,cF⟩ ⟨s,co,fs⟩);have hba:=ws w (aE #[aA X s.aI.length cX,aA Y s.aJ.length dY,aB aC s.aL,aB aC s.aK,aB aC co.aN,aA G co.aM.length ng,aD ⟨co.at_.toArray⟩,aA F fs.length cF] 44);go_wp2_with fail;generalize w.alloc (aE #[aA X s.aI.length cX,aA Y s.aJ.length dY,aB aC s.aL,aB aC s.aK,aB aC co.aN,aA G co.aM.length ng,aD ⟨co.at_.toArray⟩,aA F fs.length cF] 44)=w1 at *
 have hr1:=HR.o.below hba;obtain⟨HCK,HFK,HR1,HBO,HBA⟩:=sqJ5 (qu X cX Y dY s G ng co w1 HG.o.s hr1.s HG.o.g HG.o.c hr1.c) (fun W (h:Below w1.heap.size w1 W)=>kb F cF fs W HG.o.f (hr1.f.below h) hr1.fc hr1.fm) hr1 hbo hba;have hsz:w.heap.size<=w1.heap.size:=hba.size;clear hr1 hbo hba;refine wZ HCK.o fun w2 hb2=>?_;dsimp only;have x7:=(HBO.o.below hb2).c7;go_wp2_with fail;refine wZ (HFK.o w2 hb2) fun w3 hb3=>?_;dsimp only;have hb13:=wm hb2 hb3;clear x7;have x7:=(HBO.o.below hb13).c7;have HB13:=sqH hb13;clear hb2 hb3 hb13 HCK HFK;have hfc:(cF:Int)<=9223372036854775807:=by have h:cF<=maxLen:=HR1.o.fm;unfold maxLen at h;omega
 have hfcl:fs.length<=cF:=HR1.o.fc;have hsl:s.aJ.length<=10:=HG.o.s.e.len;have HFE:=sqH (fun W (k:ai) (h:Below w1.heap.size w1 W)=>kN Y dY s.aJ k W wu (HR1.o.s.below h).e);go_wp2_with fail;go_loopg [26] fs.length (fun gn u wr=>∃i:Nat,gn=fs.length - i/\u= aB aC i/\i<=fs.length/\Below w1.heap.size w1 wr)
 case atStart=>exact⟨0,rfl,rfl,wu,HB13.o⟩
 case round =>
  obtain⟨i,hgk,rfl,hi,hbl⟩:=hrel;have HGK:=sqH hgk;clear hgk;by_cases hlt:i<fs.length
  ·have hcc:decide (i<fs.length)=true:=decide_eq_true hlt;have hci:decide ((i:Int)<(fs.length:Int))=true:=decide_eq_true wu;obtain⟨b,off,B,cb,rfl,hbb,c0,c1,c2, -⟩:=(HR1.o.f.below hbl).at_ i hlt;have hno:=HG.o.no i hlt;have hi0:=we i
   have hi1:(i:Int)<(fs.length:Int):=wu;generalize fs[i]=fl at *
   obtain⟨k,ld,wt⟩:=fl;dsimp only at c0 c1 c2 hno;have hP:Arr (wr.alloc (aE #[aD ⟨k.toArray⟩,aB aC ld,aA B wt.length cb] 90)) wr.heap.size 90 [aD ⟨k.toArray⟩,aB aC ld,aA B wt.length cb]:=Arr.new wr 90 [aD ⟨k.toArray⟩,aB aC ld,aA B wt.length cb];have hb1:=hbl.alloc hbl.size (aE #[aD ⟨k.toArray⟩,aB aC ld,aA B wt.length cb] 90);have z0:=hP.c0;have x1:=(HBO.o.below hb1).c1;have HNO:=sqH hno;have HB1:=sqH hb1;clear hno hb1 hP x7;go_wp2_with fail;clear c0 c1 c2;generalize wr.alloc (aE #[aD ⟨k.toArray⟩,aB aC ld,aA B wt.length cb] 90)=w4 at *
   refine wZ (HFE.o w4 k HB1.o) fun w5 hb5=>?_;dsimp only;rw [HNO.o];dsimp only [xx];go_wp2_with fail;go_roundg (fs.length - (i+1))
   case measure=>exact wc HGK
   case rel=>exact⟨i+1,rfl,by go_num,wu,wm HB1.o hb5⟩
  ·obtain rfl:i=fs.length:=by omega
   have hcc:decide (fs.length<fs.length)=false:=ab;have hci:decide ((fs.length:Int)<(fs.length:Int))=false:=ab;go_wp2_with fail;go_ret;exact⟨rfl,wm HBA.o hbl⟩
def q9 (bl:List BlobP) (L:List ai):List BlobP:=bl.map fun b=>if b.dig∈L then { b with mark:=true } else b
theorem V4 (bl:List BlobP):q9 bl []=bl:=by simp [q9]
theorem qR (bl:List BlobP) (L:List ai):(q9 bl L).length=bl.length:=by simp [q9]
theorem ur (bl:List BlobP) (L:List ai):EqM bl (q9 bl L):=by
 unfold EqM q9;rw [List.map_map];refine List.map_congr_left fun b _=> ?_;show NoM b=NoM (if b.dig∈L then { b with mark:=true } else b);split<;>rfl
theorem vK (bl:List BlobP) (L:List ai) (i:Nat) (h:i<bl.length) (h':i<(q9 bl L).length):(q9 bl L)[i]=if bl[i].dig∈L then { bl[i] with mark:=true } else bl[i]:=by
 simp [q9]
theorem Yn (hr:RisesBy (·.dig) bl) (L:List ai) (d:ai) (hi:i<(q9 bl L).length) (hd:(q9 bl L)[i].dig=d):(q9 bl L).set i { (q9 bl L)[i] with mark:=true }=q9 bl (L++ [d]):=by
 have hi':i<bl.length:=by rw [<-qR bl L];exact hi
 refine List.ext_getElem (by rw [List.length_set,qR,qR]) fun j h1 h2=> ?_;have hj:j<bl.length:=by rw [<-qR bl (L++ [d])];exact h2
 have hdi:∀k (h:k<bl.length) (h':k<(q9 bl L).length),(q9 bl L)[k].dig=bl[k].dig:=fun k h h'=>by
  rw [vK bl L k h h'];split<;>rfl
 rw [List.getElem_set,vK bl (L++ [d]) j hj h2];by_cases hij:i=j
 ·subst hij;rw [if_pos rfl,if_pos (by rw [<-hdi i hi' hi,hd];simp),vK bl L i hi' hi];split<;>rfl
 ·rw [if_neg hij,vK bl L j hj (by rw [qR];exact hj)];have hne:bl[j].dig≠d:=fun e=>by
   rw [<-hd,hdi i hi' hi]at e;have hnd:=hr.map.nodup;have:=(List.getElem_inj (xs:=bl.map (·.dig)) (i:=j) (j:=i) (h₀:=by simpa using hj) (h₁:=by simpa using hi') hnd).1 (by simpa using e);exact hij this.symm
  by_cases hm:bl[j].dig∈L
  ·rw [if_pos hm,if_pos (by simp [hm])]
  ·rw [if_neg hm,if_neg (by simp [hm,hne])]
theorem RwX.set1' {α:Type} {S:Shp α} {j:Nat} {u:Value} {y:α} {l:List α} {N:am} (h:RwX S e w base (aA (aG ⟨g,0,aF⟩) n cap) l N) (hn:n=l.length) (hi:i<l.length) (hj:j<S.size)
  (hR:∀W cs,S.R W l[i] cs->S.R W y (cs.set j u)) (hlead:∀b,¬leads b [u]) :
  (∃v0,w.cell? ⟨g,i*S.size+j,aF⟩=aG v0)/\w.frozen? ⟨g,i*S.size+j,aF⟩=false /\
   RwX S e (w.setCell ⟨g,i*S.size+j,aF⟩ u) base (aA (aG ⟨g,0,aF⟩) n cap) (l.set i y) N/\w.grownBy (w.setCell ⟨g,i*S.size+j,aF⟩ u) (aG g):=by
 subst hn;exact h.set1 hi hj hR hlead
theorem z0h (A D:aj) (c dc:Nat) (bl:List BlobP) (ds:List ai) (w:World) (hl:bl.length<=1000) (hcap:bl.length<=c) (hcm:c<=maxLen) (hri:RisesBy (·.dig) bl) (hdat:∀b∈bl,b.data.length<=1000000) (hdig:∀x∈bl,x.dig.length<=1000) (hrd:Rw BlobS w A bl) (hdn:ds.length<=1000000) (hrd2:Rd w 1 D ds.length (strs ds)) :
  Calls zZZ 117 #[aA A bl.length c,aA D ds.length dc] w fun e w'=>∃g L,e= .returned (aA (aG ⟨g,0,aF⟩) bl.length bl.length)/\StrL L (Rch bl ds)/\RwX BlobS 55 w' w.heap.size (aA (aG ⟨g,0,aF⟩) bl.length bl.length) (q9 bl L) (fun b=>b<w.heap.size)/\Below w.heap.size w w':=by
 obtain⟨HCP,HFR,HRI⟩:=sqJ3 (vC A c bl w wu hdat hrd) (fun W (h:Below w.heap.size w W)=>Qd A D c dc bl ds W hl hcap hcm hdig (hrd.below h) hdn (hrd2.below h)) hri;clear hdat hdig hrd hdn hrd2 hri;go_enter func117,ntmps117;go_wp2_with fail;refine HCP.o.mono ?_;rintro e_ w1 ⟨q1,rfl,hx1,hb1⟩;dsimp only;have HF1:=sqH (HFR.o w1 hb1);clear HCP HFR;go_wp2_with fail;refine HF1.o.mono ?_;rintro e_ w2 ⟨v2,L,rfl,hL,hLl,ho2,hb2⟩;dsimp only;obtain⟨AL,cL,rfl,_,hrL⟩:=Rd.of_own' ho2;have hLb:∀a,AL=aG a->w1.heap.size<=a.block:=fun a e=>by
  obtain⟨A',c',e1,_,h⟩:=Sl.of_own ho2;injection e1 with e1 _ _;exact h a (by rw [<-e1];exact e)
 have hx2:=hx1.below hb2;have hb12:=wm hb1 hb2;obtain⟨HRL,HL,HLB⟩:=sqJ3 hrL hL hLb;have hq1:q1<w1.heap.size:=(hx1.rwo.blk rfl).2;have hL63:(L.length:Int)<=9223372036854775807:=wu;have hb63:(bl.length:Int)<=9223372036854775807:=wu;have hx2':RwX BlobS 55 w2 w.heap.size (aA (aG ⟨q1,0,aF⟩) bl.length bl.length) (q9 bl []) (fun b=>b<w.heap.size):=by rw [V4];exact hx2
 clear hx1 hb1 hb2 ho2 hL hrL hx2 HF1 hLb;go_wp2_with fail;go_loopg [16] L.length (fun gn i wr=>∃k:Nat,gn=L.length - k/\i= aB aC k/\k<=L.length/\RwX BlobS 55 wr w.heap.size (aA (aG ⟨q1,0,aF⟩) bl.length bl.length) (q9 bl (L.take k)) (fun b=>b<w.heap.size)/\Below w.heap.size w wr/\w2.grownBy wr (aG q1))
 case atStart=>exact⟨0,rfl,rfl,wu,hx2',hb12,World.grownBy.refl _ _⟩
 case round =>
  obtain⟨k,hgk,rfl,hk,hx,hbk,hgr⟩:=hrel;have HGK:=sqH hgk;clear hgk hx2' hb12;by_cases hlt:k<L.length
  rotate_left
  ·obtain rfl:k=L.length:=by omega
   have hlb:decide (L.length<L.length)=false:=ab;rw [List.take_length]at hx;have HX:=sqH hx;clear hx;go_wp2_with fail;go_ret;exact⟨_,L,rfl,HL.o,HX.o,hbk⟩
  have hlb:decide (k<L.length)=true:=decide_eq_true hlt;have hk0:=we k
  have hk1:(k:Int)<(L.length:Int):=wu;have hrLr:Rd wr 1 AL L.length (strs L):=HRL.o.keepb hgr.size (fun b hb ⟨a,e1,e2⟩=>hgr.block b hb (fun e=>by
   injection e with e;have:=HLB.o a e1;omega))
  obtain⟨bb,off,hAb,_,hcell⟩:=hrLr.2 wu;subst hAb;have c0:=hcell k _ (kL L k hlt);have hin:InB bl L[k]:=((HL.o.mem _).1 (List.getElem_mem hlt)).inB;have hin2:InB (q9 bl (L.take k)) L[k]:=(uf (ur bl (L.take k))).2 hin;obtain⟨i,hfi⟩:∃i,(q9 bl (L.take k)).findIdx? (fun b=>b.dig==L[k])=aG i:=by
   rw [jS]at hin2;exact Option.isSome_iff_exists.1 hin2
  have hi:i<(q9 bl (L.take k)).length:=(List.findIdx?_eq_some_iff_getElem.1 hfi).1;have hid:(q9 bl (L.take k))[i].dig=L[k]:=by simpa using (List.findIdx?_eq_some_iff_getElem.1 hfi).2.1
  have hib:i<bl.length:=by rw [<-qR bl (L.take k)];exact hi
  have hi0:=we i
  have hi1:(i:Int)<(bl.length:Int):=wu;have hsn:=Yn HRI.o (L.take k) L[k] hi hid;have htk:L.take k++ [L[k]]=L.take (k+1):=(List.take_succ_eq_append_getElem hlt).symm;rw [htk]at hsn;have hfb:=ky (aG ⟨q1,0,aF⟩) bl.length (q9 bl (L.take k)) L[k] wr (by rw [qR];omega) (by
   obtain⟨A9,c9,e1,_,_,hrw⟩:=hx.rwo.rows;injection e1 with e1 _ _;subst e1;exact hrw)
  rw [hfi,qR]at hfb;obtain⟨HFB,HSN,HKL⟩:=sqJ3 hfb hsn hlt;generalize hLk:L[k]=dk at *
  clear hLk hfb hsn htk hfi hin hin2 hcell hid;go_wp2_with fail;clear c0;refine wZ HFB.o fun w5 hb5=>?_;dsimp only;rw [xx];have hx5:=hx.below hb5;have hbk5:=wm hbk hb5;have hgr5:=zQ hgr hb5;obtain⟨⟨v0,c3⟩,f3,hx6,hg6⟩:=hx5.set1' (i:=i) (j:=3) (y:= { (q9 bl (L.take k))[i] with mark:=true }) (u:= .bool true) (qR bl (L.take k)).symm hi (by show 3<4;omega) (fun W cs h=>vV _ true W cs h) (kQ true);rw [HSN.o]at hx6;have hbk6:=hbk5.grown hg6 hbk5.size (fun b e=>by cases e;exact(hx5.rwo.blk rfl).1);obtain⟨HX6,HB6,HG6⟩:=sqJ3 hx6 hbk6 (hgr5.trans hg6);clear hx hx5 hx6 hbk hbk5 hbk6 hgr hgr5 hg6 hb5 hrLr;simp only [show BlobS.size=4 from rfl]at c3 f3 HX6 HB6 HG6;go_wp2_with fail;go_roundg (L.length - (k+1))
  case measure=>have:=HGK.o;have:=HKL.o;omega
  case rel=>exact⟨k+1,rfl,by go_num,by have:=HKL.o;omega,HX6.o,HB6.o,HG6.o⟩
noncomputable def Kr (bl:List BlobP) (ds:List ai):List ai:=(bl.filter (fun b=> @decide (Rch bl ds b.dig) (Classical.propDecidable _))).map (·.dig)
theorem Km:x∈Kr bl ds↔Rch bl ds x:=by
 unfold Kr;rw [List.mem_map];constructor
 ·rintro⟨b,hb,rfl⟩;exact @of_decide_eq_true _ (Classical.propDecidable _) (List.mem_filter.1 hb).2
 ·intro h;obtain⟨b,hb,rfl⟩:=h.inB;exact⟨b,List.mem_filter.2 ⟨hb, @decide_eq_true _ (Classical.propDecidable _) h⟩,rfl⟩
theorem Ji (hr:RisesBy (·.dig) bl) (ds:List ai):StrL (Kr bl ds) (Rch bl ds):=by
 have h:Rises (Kr bl ds):=by
  have:RisesBy (·.dig) (bl.filter (fun b=> @decide (Rch bl ds b.dig) (Classical.propDecidable _))):=List.Pairwise.filter _ hr;exact this.map
 exact⟨h.nodup,Vq h,fun x=>Km⟩
noncomputable def zH (s:StoP) (c:ColP) (ds:List ai):StoP×ColP :=
 if c.aN=1 then (s,⟨1,uni (c.aM++ds),c.at_⟩) else if c.aN=2 then ({ s with aI:=q9 s.aI (Kr s.aI ds) },c) else (s,c)
theorem UV (h:c.aN=0):zH s c ds=(s,c):=by unfold zH;rw [if_neg wu,if_neg wu]
theorem z3k (h:c.aN=1):zH s c ds=(s,⟨1,uni (c.aM++ds),c.at_⟩):=by unfold zH;rw [if_pos h]
theorem z3l (h:c.aN=2):zH s c ds=({ s with aI:=q9 s.aI (Kr s.aI ds) },c):=by unfold zH;rw [if_neg wu,if_pos h]
theorem UW (s:StoP) (c:ColP) (ds:List ai):EqM s.aI (zH s c ds).1.aI:=by
 unfold zH;split
 ·exact EqM.rfl_ _
 ·split
  ·exact ur _ _
  ·exact EqM.rfl_ _
theorem kI (s:StoP) (c:ColP) (ds:List ai):(zH s c ds).1= { s with aI:=(zH s c ds).1.aI }:=by
 unfold zH;split
 ·rfl
 ·split<;>rfl
theorem uo (c:ColP) (ds:List ai) (hg:GoodS s):GoodS (zH s c ds).1:=by
 rw [kI];exact jM (UW s c ds) hg
theorem V5:x∈mkd (q9 bl L)↔x∈mkd bl\/(x∈L/\InB bl x):=by
 rw [qD,qD];unfold q9;constructor
 ·rintro⟨b,hb,hm,rfl⟩;obtain⟨a,ha,rfl⟩:=List.mem_map.1 hb;by_cases h:a.dig∈L
  ·rw [if_pos h];exact .inr ⟨h,a,ha,rfl⟩
  ·rw [if_neg h]at hm ⊢;exact .inl ⟨a,ha,hm,rfl⟩
 ·rintro(⟨b,hb,hm,rfl⟩ | ⟨hx,b,hb,rfl⟩)
  ·refine⟨_,List.mem_map.2 ⟨b,hb,rfl⟩,?_,?_⟩<;>split<;>first | rfl | exact hm
  ·exact⟨_,List.mem_map.2 ⟨b,hb,rfl⟩,by rw [if_pos hx],by rw [if_pos hx]⟩
theorem xV {t:StoP} (hc:GoodC s c) (hr:RisesBy (·.dig) s.aI) (hr':RisesBy (·.dig) t.aI)
  (hh:∀d∈ds,hexC d=0) (hrt:∀x∈rts t,x∈rts s\/x∈ds)
  (hin:∀x,InB t.aI x->InB s.aI x\/x∈ds)
  (hmk:∀x,x∈mkd t.aI↔x∈mkd s.aI)
  (hkd:∀x,InB s.aI x->kids t.aI x=kids s.aI x):GoodC (zH t c ds).1 (zH t c ds).2:=by
 by_cases h1:c.aN=1
 ·rw [z3k h1];refine⟨by show 1<=2;omega,fun d hd=> ?_,yJ _,hc.ah,fun h=>absurd rfl h,fun _=>hc.a0 wu,fun _ x hx hb=> ?_,fun _ b hb hm x hx hi=> ?_,fun h=>by cases h⟩
  ·rcases List.mem_append.1 (yl.1 hd) with h | h
   ·exact hc.gh d h
   ·exact hh d h
  ·show x∈mkd t.aI\/x∈uni (c.aM++ds);rw [yl,List.mem_append];rcases hrt x hx with h | h
   ·rcases hin x hb with h2 | h2
    ·rcases hc.mr h1 x h h2 with h3 | h3
     ·exact .inl ((hmk x).2 h3)
     ·exact .inr (.inl h3)
    ·exact .inr (.inr h2)
   ·exact .inr (.inr h)
  ·show x∈mkd t.aI\/x∈uni (c.aM++ds);rw [yl,List.mem_append];have hbm:b.dig∈mkd s.aI:=(hmk _).1 (qD.2 ⟨b,hb,hm,rfl⟩);obtain⟨b',hb',hm',e⟩:=qD.1 hbm;have hx':x∈kids s.aI b'.dig:=by
    have h2:=hkd b'.dig ⟨b',hb',rfl⟩;rw [<-h2,e];exact hx
   rcases hin x hi with h2 | h2
   ·rcases hc.mb h1 b' hb' hm' x hx' h2 with h3 | h3
    ·exact .inl ((hmk x).2 h3)
    ·exact .inr (.inl h3)
   ·exact .inr (.inr h2)
 ·by_cases h2:c.aN=2
  ·rw [z3l h2];have hg0:=hc.g0 h1;refine⟨hc.ph,hc.gh,hc.ris,hc.ah,hc.g0,hc.a0,fun h=>absurd h h1,fun h=>absurd h h1,fun _ x hx=> ?_⟩;show x∈mkd (q9 t.aI (Kr t.aI ds));have hE:EqM t.aI (q9 t.aI (Kr t.aI ds)):=ur _ _;have hx':Rch t.aI (rts t) x:=by
    have:Rch (q9 t.aI (Kr t.aI ds)) (rts { t with aI:=q9 t.aI (Kr t.aI ds) }) x:=hx;rw [jN hE,XG hE]at this;exact this
   clear hx;rw [V5];have key:Rch s.aI (rts s) x\/Rch t.aI ds x:=by
    induction hx' with
    | @root x h3 h4 =>
     rcases hrt x h3 with h | h
     ·rcases hin x h4 with h5 | h5
      ·exact .inl (.root h h5)
      ·exact .inr (.root h5 h4)
     ·exact .inr (.root h h4)
    | @step x y h3 h4 h5 ih =>
     rcases ih with ih | ih
     ·rw [hkd x ih.inB]at h4;rcases hin y h5 with h6 | h6
      ·exact .inl (.step ih h4 h6)
      ·exact .inr (.root h6 h5)
     ·exact .inr (.step ih h4 h5)
   rcases key with h | h
   ·exact .inl ((hmk x).2 (hc.sw h2 x h))
   ·exact .inr ⟨Km.2 h,h.inB⟩
  ·have h0:c.aN=0:=by have:=hc.ph;omega
   rw [UV h0];exact⟨hc.ph,hc.gh,hc.ris,hc.ah,hc.g0,hc.a0,fun h=>absurd h h1,fun h=>absurd h h1,fun h=>absurd h h2⟩
theorem uq (s:StoP) (c:ColP) (ds:List ai):8*unm (zH s c ds).1.aI+(zH s c ds).2.aM.length<=8*unm s.aI+c.aM.length+ds.length:=by
 unfold zH;split
 ·have:=QL (c.aM++ds);rw [List.length_append]at this;show 8*unm s.aI+(uni (c.aM++ds)).length<=_;omega
 ·split
  ·have h:unm (q9 s.aI (Kr s.aI ds))<=unm s.aI:=by
    unfold unm q9;generalize Kr s.aI ds=L;generalize s.aI=bl
    induction bl with
    | nil=>exact Nat.le_refl _
    | cons b bl ih =>
     rw [List.map_cons,List.filter_cons,List.filter_cons];by_cases hb:b.dig∈L
     ·rw [if_pos hb];cases hm:b.mark with
      | true=>simpa [hm] using ih
      | false=>simp only [hm];simp;omega
     ·rw [if_neg hb];cases hm:b.mark with
      | true=>simpa [hm] using ih
      | false=>simpa [hm] using ih
   show 8*unm (q9 s.aI _)+c.aM.length<=_;omega
  ·show 8*unm s.aI+c.aM.length<=_;omega
theorem Uv (A:aj) (c:Nat) (B:aj) (d:Nat) (s:StoP) (Ag:aj) (ng:Nat) (cp:ColP) (w:World) (hg:GoodS s) (hr:RdSt w A c B d s) (hp:cp.aN=2) (hgl:cp.aM.length<=1000) (hgc:GoodC s cp) (hc:RdC w Ag ng cp) :
  Calls zZZ 72 #[.agg #[aA A s.aI.length c,aA B s.aJ.length d,aB aC s.aL,aB aC s.aK],coV (aA Ag cp.aM.length ng) cp] w fun e w' =>
   ∃v1 v2,e= .returned (.tuple #[stV v1 v2 s,coV (aA aF 0 0) (k8 s cp).2.1,aD ⟨(k8 s cp).2.2.toArray⟩,aB aC 0])/\OwSt w' w.heap.size v1 v2 (k8 s cp).1 (fun b=>b<w.heap.size)/\Below w.heap.size w w':=by
 have hlb:s.aI.length<=24:=hg.b.len;obtain⟨aN,aM,at_⟩:=cp;simp only at hp hgl;subst hp;obtain⟨w0,hw0,hS,hC,hR,hD,hb0⟩:=ql w 38 41 [aA A s.aI.length c,aA B s.aJ.length d,aB aC s.aL,aB aC s.aK] [aB aC 2,aA Ag aM.length ng,aD ⟨at_.toArray⟩] [aA aF 0 0,aA aF 0 0,aB aC 0,aB aC 0] [aB aC 0,aA aF 0 0,aD ⟨#[]⟩];have hr0:=hr.below hb0;obtain⟨H,hH⟩:=wY w.heap.size
 have HCK:=sqH (qu A c B d s Ag ng ⟨2,aM,at_⟩ w0 hg hr0 hgl hgc (hc.below hb0));have HST:=sqH (fun W (h:Below w0.heap.size w0 W)=>Uq A c B d s Ag ng ⟨2,aM,at_⟩ W hg (hr0.below h) rfl hgc);rw [<-hH]at hS hC hR hD hb0 ⊢
 have hHl:H+1+1+1<w0.heap.size:=hD.lt;obtain⟨x0,x1,x2,x3⟩:=sqC4 hS;obtain⟨y0,y1,y2⟩:=sqC3 hC;rw [hw0,hH]at x0 x1 x2 x3 y0 y1 y2;clear hg hr hgc hc hr0;go_enter func72,ntmps72;go_wp2_with fail;rw [<-hw0,<-hH];have HH:=sqH hH;clear hw0 hH x0 x1 x2 x3 y0 y1 y2;refine wZ HCK.o fun w1 hb1=>?_;dsimp only;obtain⟨x0,x1,x2⟩:=sqC3 (hC.below hb1);obtain⟨z0,z1,z2,z3⟩:=sqC4 (hS.below hb1);clear HCK;go_wp2_with fail;clear x0 x1 x2 z0 z1 z2 z3;refine((HST.o _ hb1)).mono ?_;rintro e_ w2 ⟨v1,v2,rfl,ho,hb2⟩;dsimp only;have hb12:=wm hb1 hb2;obtain⟨A5,c5,B5,d5,e5,e6, -⟩:=ho.rows;generalize (k8 s ⟨2,aM,at_⟩).1.aI.length=n5 at e5;generalize (k8 s ⟨2,aM,at_⟩).1.aJ.length=n6 at e6;subst e5 e6;have hR:=hR.below hb12;have hD:=hD.below hb12;have hB:=hb0.trans (hb12.mono (show H<=w0.heap.size by omega));have h01:=hb1.size;generalize hcq:(k8 s ⟨2,aM,at_⟩).2.1=cq at *
 generalize hdq:(k8 s ⟨2,aM,at_⟩).2.2=dq at *
 obtain⟨hF1,hF2,hF3,hF5⟩:=sqJ4 (qV (g:=H+1+1) (h:=H+1+1+1) (u0:= aA A5 n5 c5) (u1:= aA B5 n6 d5) (u2:= aB aC s.aL) (u3:= aB aC s.aK) (x0:= aB aC cq.aN) (x1:= aA aF 0 0) (x2:= aD ⟨cq.at_.toArray⟩) hR wu) (qW (g:=H+1+1) (h:=H+1+1+1) (u0:= aA A5 n5 c5) (u1:= aA B5 n6 d5) (u2:= aB aC s.aL) (u3:= aB aC s.aK) (x0:= aB aC cq.aN) (x1:= aA aF 0 0) (x2:= aD ⟨cq.at_.toArray⟩) hD wu) (qE (g:=H+1+1) (h:=H+1+1+1) (u0:= aA A5 n5 c5) (u1:= aA B5 n6 d5) (u2:= aB aC s.aL) (u3:= aB aC s.aK) (x0:= aB aC cq.aN) (x1:= aA aF 0 0) (x2:= aD ⟨cq.at_.toArray⟩) ho wu wu (ho.nb hR aa aa).1 (ho.nb hR aa aa).2 (ho.nb hD aa aa).1 (ho.nb hD aa aa).2) (zL (g:=H+1+1) (h:=H+1+1+1) (u0:= aA A5 n5 c5) (u1:= aA B5 n6 d5) (u2:= aB aC s.aL) (u3:= aB aC s.aK) (x0:= aB aC cq.aN) (x1:= aA aF 0 0) (x2:= aD ⟨cq.at_.toArray⟩) hB wu wu);obtain⟨f0,f1,f2,f3⟩:=sqF4 hR;obtain⟨y0,y1,y2,y3⟩:=sqC4 hR;obtain⟨e0,e1,e2⟩:=sqF3 hD;obtain⟨x0,x1,x2⟩:=sqC3 hD;clear hR hD ho hB hb12 hb2 hb0 hS hC HST;simp only [stV,coV];go_wp2_with fail;refine bodyPost_ret (zY rfl _ _ (H+1+1) (H+1+1+1) _ _ _ _ _ _ _ _ ac hF1.o underlying38 rfl ww ac hF2.o underlying41 rfl ww) rfl ?_;rw [hcq,hdq];exact⟨_,_,rfl,(hF3.o.lower wu).mono (fun b hb=>wu),hF5.o⟩
theorem Uu (A:aj) (c:Nat) (B:aj) (d:Nat) (s:StoP) (Ag:aj) (ng:Nat) (cp:ColP) (w:World) (hg:GoodS s) (hr:RdSt w A c B d s) (hp:cp.aN=1) (hgl:cp.aM.length<=1000) (hgc:GoodC s cp) (hc:RdC w Ag ng cp) :
  Calls zZZ 72 #[.agg #[aA A s.aI.length c,aA B s.aJ.length d,aB aC s.aL,aB aC s.aK],coV (aA Ag cp.aM.length ng) cp] w fun e w' =>
   ∃v1 v2 v3,e= .returned (.tuple #[stV v1 v2 s,coV v3 (zU s cp).2,aD ⟨#[]⟩,aB aC 0])/\OwSt w' w.heap.size v1 v2 (zU s cp).1 (fun b=>b<w.heap.size)/\w'.ownsRow w.heap.size 9 1 v3 (zU s cp).2.aM.length (strs (zU s cp).2.aM)/\Below w.heap.size w w':=by
 have hlb:s.aI.length<=24:=hg.b.len;obtain⟨aN,aM,at_⟩:=cp;simp only at hp hgl;subst hp;obtain⟨w0,hw0,hS,hC,hR,hD,hb0⟩:=ql w 38 41 [aA A s.aI.length c,aA B s.aJ.length d,aB aC s.aL,aB aC s.aK] [aB aC 1,aA Ag aM.length ng,aD ⟨at_.toArray⟩] [aA aF 0 0,aA aF 0 0,aB aC 0,aB aC 0] [aB aC 0,aA aF 0 0,aD ⟨#[]⟩];have hr0:=hr.below hb0;obtain⟨H,hH⟩:=wY w.heap.size
 have HCK:=sqH (qu A c B d s Ag ng ⟨1,aM,at_⟩ w0 hg hr0 hgl hgc (hc.below hb0));have HST:=sqH (fun W (h:Below w0.heap.size w0 W)=>Ul A c B d s Ag ng ⟨1,aM,at_⟩ W hg (hr0.below h) rfl (hgc.a0 (by show ¬(1=2);omega)) hgl ((hc.below hb0).below h));rw [<-hH]at hS hC hR hD hb0 ⊢
 have hHl:H+1+1+1<w0.heap.size:=hD.lt;obtain⟨x0,x1,x2,x3⟩:=sqC4 hS;obtain⟨y0,y1,y2⟩:=sqC3 hC;rw [hw0,hH]at x0 x1 x2 x3 y0 y1 y2;clear hg hr hgc hc hr0;go_enter func72,ntmps72;go_wp2_with fail;rw [<-hw0,<-hH];have HH:=sqH hH;clear hw0 hH x0 x1 x2 x3 y0 y1 y2;refine wZ HCK.o fun w1 hb1=>?_;dsimp only;obtain⟨x0,x1,x2⟩:=sqC3 (hC.below hb1);obtain⟨z0,z1,z2,z3⟩:=sqC4 (hS.below hb1);clear HCK;go_wp2_with fail;clear x0 x1 x2 z0 z1 z2 z3;refine((HST.o _ hb1)).mono ?_;rintro e_ w2 ⟨v1,v2,v3,rfl,ho,hl,hb2⟩;dsimp only;have hb12:=wm hb1 hb2;obtain⟨A5,c5,B5,d5,e5,e6, -⟩:=ho.rows;obtain⟨A6,n6,e7, -, -⟩:=Rd.of_own' hl;generalize hcq:(zU s ⟨1,aM,at_⟩).2=cq at *
 generalize hsq:(zU s ⟨1,aM,at_⟩).1=sq at *
 subst e5 e6 e7;have h01:=hb1.size;have h02:=hb12.size;obtain⟨W3,hW3,hX3,hY3,hb3⟩:=zI w2 38 41 [aA A5 sq.aI.length c5,aA B5 sq.aJ.length d5,aB aC s.aL,aB aC s.aK] [aB aC cq.aN,aA A6 cq.aM.length n6,aD ⟨cq.at_.toArray⟩];obtain⟨G,hG⟩:=wY w2.heap.size
 have hb13:=wm hb12 hb3;have ho:=ho.below hb3;have hl:=zc hl hb3;have hR:=hR.below hb13;have hD:=hD.below hb13;have hB:=hb0.trans (hb13.mono (show H<=w0.heap.size by omega));rw [<-hG]at hX3 hY3;have n1:¬(G=H+1+1):=wu;have n2:¬(G+1=H+1+1):=wu;have HG:=sqH hG;clear hb12 hb2 hb0 hS hC HST hb3 hb13 hG;have o1:=zf hl hR aa;have o2:=zf hl hD aa;obtain⟨hF1,hF2,hF3,hF4,hF5,HW⟩:=sqJ6 (qV (g:=H+1+1) (h:=H+1+1+1) (u0:= aA A5 sq.aI.length c5) (u1:= aA B5 sq.aJ.length d5) (u2:= aB aC s.aL) (u3:= aB aC s.aK) (x0:= aB aC cq.aN) (x1:= aA A6 cq.aM.length n6) (x2:= aD ⟨cq.at_.toArray⟩) hR wu) (qW (g:=H+1+1) (h:=H+1+1+1) (u0:= aA A5 sq.aI.length c5) (u1:= aA B5 sq.aJ.length d5) (u2:= aB aC s.aL) (u3:= aB aC s.aK) (x0:= aB aC cq.aN) (x1:= aA A6 cq.aM.length n6) (x2:= aD ⟨cq.at_.toArray⟩) hD wu) (qE (g:=H+1+1) (h:=H+1+1+1) (u0:= aA A5 sq.aI.length c5) (u1:= aA B5 sq.aJ.length d5) (u2:= aB aC s.aL) (u3:= aB aC s.aK) (x0:= aB aC cq.aN) (x1:= aA A6 cq.aM.length n6) (x2:= aD ⟨cq.at_.toArray⟩) ho wu wu (ho.nb hR aa aa).1 (ho.nb hR aa aa).2 (ho.nb hD aa aa).1 (ho.nb hD aa aa).2) (qS (g:=H+1+1) (h:=H+1+1+1) (u0:= aA A5 sq.aI.length c5) (u1:= aA B5 sq.aJ.length d5) (u2:= aB aC s.aL) (u3:= aB aC s.aK) (x0:= aB aC cq.aN) (x1:= aA A6 cq.aM.length n6) (x2:= aD ⟨cq.at_.toArray⟩) hl o1 o2) (zL (g:=H+1+1) (h:=H+1+1+1) (u0:= aA A5 sq.aI.length c5) (u1:= aA B5 sq.aJ.length d5) (u2:= aB aC s.aL) (u3:= aB aC s.aK) (x0:= aB aC cq.aN) (x1:= aA A6 cq.aM.length n6) (x2:= aD ⟨cq.at_.toArray⟩) hB wu wu) hW3;clear hW3 o1 o2;go_wp2_with fail;rw [<-HW.o,<-HG.o];obtain⟨f0,f1,f2,f3⟩:=sqF4 hR;obtain⟨y0,y1,y2,y3⟩:=sqC4 hR;obtain⟨e0,e1,e2⟩:=sqF3 hD;obtain⟨x0,x1,x2⟩:=sqC3 hD;obtain⟨b0,b1,b2,b3⟩:=sqC4 hX3;obtain⟨c0,c1,c2⟩:=sqC3 hY3;clear hR hD ho hB hl hX3 hY3;go_region
 all_goals (try dsimp only [Exit.then])
 go_wp2_with fail;refine bodyPost_ret (zY rfl _ _ (H+1+1) (H+1+1+1) _ _ _ _ _ _ _ _ ac (Arr.drew hF1.o) underlying38 rfl ww ac (Arr.drew hF2.o) underlying41 rfl ww) rfl ?_;rw [hcq,hsq];exact⟨_,_,_,rfl,(hF3.o.drewX.lower wu).mono (fun b hb=>wu),zb hF4.o.drew wu,hF5.o.drew⟩
theorem jd (s:StoP) (c:ColP):(k8 s c).2.1.aM= []:=by
 rcases yT s c with ⟨_,e⟩ | ⟨_,_,_,_,e⟩ | ⟨_,_,_,_,e⟩<;>rw [e]
theorem VV (A:aj) (c:Nat) (B:aj) (d:Nat) (s:StoP) (Ag:aj) (ng:Nat) (cp:ColP) (w:World) (hg:GoodS s) (hr:RdSt w A c B d s) (hp:cp.aN=1\/cp.aN=2) (hgl:cp.aM.length<=1000) (hgc:GoodC s cp) (hc:RdC w Ag ng cp) :
  Calls zZZ 72 #[.agg #[aA A s.aI.length c,aA B s.aJ.length d,aB aC s.aL,aB aC s.aK],coV (aA Ag cp.aM.length ng) cp] w fun e w' =>
   ∃v1 v2 v3,e= .returned (.tuple #[stV v1 v2 s,coV v3 (qF s cp).2.1,aD ⟨(qF s cp).2.2.toArray⟩,aB aC 0])/\OwSt w' w.heap.size v1 v2 (qF s cp).1 (fun b=>b<w.heap.size)/\w'.ownsRow w.heap.size 9 1 v3 (qF s cp).2.1.aM.length (strs (qF s cp).2.1.aM)/\Below w.heap.size w w':=by
 rcases hp with hp | hp
 ·have hT:qF s cp=((zU s cp).1,(zU s cp).2, []):=by unfold qF;rw [if_pos hp]
  rw [hT];refine(Uu A c B d s Ag ng cp w hg hr hp hgl hgc hc).mono ?_;rintro e w' ⟨v1,v2,v3,he,h1,h2,h3⟩;exact⟨v1,v2,v3,he,h1,h2,h3⟩
 ·have hT:qF s cp=k8 s cp:=by unfold qF;rw [if_neg wu]
  rw [hT];refine(Uv A c B d s Ag ng cp w hg hr hp hgl hgc hc).mono ?_;rintro e w' ⟨v1,v2,he,h1,h3⟩;refine⟨v1,v2,aA aF 0 0,he,h1,?_,h3⟩;rw [jd];exact World.ownsRow_nil _ _ _ _
theorem Yw (w:World) (e1 e2:TypeId) (c1 c2 c3:ak):∃W,W=((w.alloc (.cells c1.toArray e1)).alloc (.cells c2.toArray e2)).alloc (.cells c3.toArray e1)/\Arr W w.heap.size e1 c1/\Arr W (w.heap.size+1) e2 c2/\Arr W (w.heap.size+1+1) e1 c3/\Below w.heap.size w W:=by
 obtain⟨W2,h2,a1,a2,b2⟩:=zI w e1 e2 c1 c2;have a3:=Arr.new W2 e1 c3;have hs:W2.heap.size=w.heap.size+1+1:=by rw [h2];simp
 have b3:=ws W2 (.cells c3.toArray e1);rw [hs]at a3;exact⟨_,rfl,by rw [<-h2];exact a1.below b3,by rw [<-h2];exact a2.below b3,by rw [<-h2];exact a3,by rw [<-h2];exact wm b2 b3⟩
theorem Q1 (s:StoP) (c:ColP):8*unm (qF s c).1.aI+(qF s c).2.1.aM.length<=8*unm s.aI+c.aM.length:=by
 unfold qF;split
 ·rcases J8 s c with h | h
  ·have:=Ym (UY s.aI) h;show 8*unm (zU s c).1.aI+(zU s c).2.aM.length<=_;omega
  ·rcases kA s c with ⟨_,e⟩ | ⟨_,_,_,_,e⟩ | ⟨_,_,_,_,_,_,_,_,e⟩ | ⟨_,_,_,_,_,_,_,_,e⟩
   ·rw [e];show 8*unm s.aI+0<=_;omega
   all_goals rw [e]at h;cases h
 ·have h1:unm (k8 s c).1.aI<=unm s.aI:=by
   rcases yT s c with ⟨_,e⟩ | ⟨_,_,_,_,e⟩ | ⟨_,_,_,_,e⟩
   ·rw [e];exact Nat.le_refl _
   ·rw [e];exact Nat.le_refl _
   ·rw [e];exact((List.eraseIdx_sublist _ _).filter _).length_le
  rw [jd];show 8*unm (k8 s c).1.aI+0<=_;omega
theorem uv {base' size' n':Nat} {v v':Value} {xs':ak} (h:w.ownsRow base e size v n xs) (h':w.ownsRow base' e' size' v' n' xs') (hne:e≠e'):∀b,v.ownBlock=aG b->v'.ownBlock≠aG b:=fun b hb hb'=>by
 rcases h.2 with ⟨rfl,_⟩ | ⟨g,cap,cur,rfl,_,h2,_⟩
 ·cases hb
 ·cases hb
  rcases h'.2 with ⟨rfl,_⟩ | ⟨g',cap',cur',rfl,_,h3,_⟩
  ·cases hb'
  ·cases hb'
   have h4:=Eq.trans (Eq.symm h2) h3
   simp only [Option.some.injEq,Obj.cells.injEq]at h4
   exact hne h4.2.1
structure RunC (w:World) (H K gs gc:Nat) (v1 v2 v3:Value) (Ag:aj) (ng:Nat) (t:StoP) (cc:ColP) (g:List ai):Prop where
 bs:Arr w gs 38 [v1,v2,aB aC t.aL,aB aC t.aK]
 bc:Arr w gc 41 [aB aC cc.aN,aA Ag cc.aM.length ng,aD ⟨cc.at_.toArray⟩]
 st:OwSt w H v1 v2 t (fun b=>b<K\/b=gs\/v3.ownBlock=aG b)
 gr:RdC w Ag ng cc
 gone:w.ownsRow H 9 1 v3 g.length (strs g)
section
variable {w w':World} {H K gs gc:Nat} {v1 v2 v3 v3':Value} {Ag:aj} {ng:Nat} {t:StoP} {cc:ColP} {g:List ai}
theorem RunC.below (h:RunC w H K gs gc v1 v2 v3 Ag ng t cc g) (hb:Below w.heap.size w w'):RunC w' H K gs gc v1 v2 v3 Ag ng t cc g:=⟨h.bs.below hb,h.bc.below hb,h.st.below hb,h.gr.below hb,zc h.gone hb⟩
theorem RunC.key (h:RunC w H K gs gc v1 v2 v3 Ag ng t cc g) {B:Nat} (hgr:∃vg,w.ownsRow B 9 1 vg cc.aM.length (strs cc.aM)/\vg= aA Ag cc.aM.length ng) (hB:∀b,v3.ownBlock=aG b->b<B) {g':List ai} (ho:w'.ownsRow H 9 1 v3' g'.length (strs g')) (hg:w.grownBy w' v3.ownBlock) (hv:v3'.ownBlock=v3.ownBlock\/∃b,v3'.ownBlock=aG b/\w.heap.size<=b):RunC w' H K gs gc v1 v2 v3' Ag ng t cc g':=by
 obtain⟨xs,hx⟩:=h.st.b.own_m;obtain⟨ys,hy⟩:=h.st.e.own_m;have n1:=uv h.gone hx aa;have n2:=uv h.gone hy aa;have h1:OwSt w H v1 v2 t (fun b=>b<K\/b=gs\/v3'.ownBlock=aG b\/v3.ownBlock=aG b):=h.st.wider fun b hb=>by
  rcases hb with hb | hb | hb | hb
  ·exact .inl (.inl hb)
  ·exact .inl (.inr (.inl hb))
  ·rcases hv with e | ⟨b',e,hb'⟩
   ·exact .inl (.inr (.inr (by rw [<-e];exact hb)))
   ·rw [e]at hb;cases hb;exact .inr hb'
  ·exact .inl (.inr (.inr hb))
 have h2:OwSt w' H v1 v2 t (fun b=>b<K\/b=gs\/v3'.ownBlock=aG b\/v3.ownBlock=aG b) :=
  ⟨h1.b.other hg (fun b e=>n1 b e) (fun b e=> .inl (.inr (.inr (.inr e)))),h1.e.other hg (fun b e=>n2 b e) (fun b e=> .inl (.inr (.inr (.inr e)))),h1.ne⟩
 obtain⟨vg,hvg,rfl⟩:=hgr;have hvg':w'.ownsRow B 9 1 (aA Ag cc.aM.length ng) cc.aM.length (strs cc.aM):=hvg.kept hg (by
  rcases hvg.2 with ⟨e2,_⟩ | ⟨g2,cap,cur,e2,h4,_⟩
  ·exact .inl (by rw [e2];rfl)
  ·refine .inr fun e=> ?_;rw [e2]at e;have h3:g2<B:=hB g2 e.symm;omega)
 obtain⟨_,_,e1,hgr2⟩:=RdC.of_own (c:=cc) hvg';cases e1
 exact⟨h.bs.grown hg (zf h.gone h.bs aa),h.bc.grown hg (zf h.gone h.bc aa),h2.mono (fun b hb=>hb.imp id fun h=>h.imp id .inl),hgr2,ho⟩
end
end Go.Proofs.YtcjmjaefcjcomaaGreat
