/- Lemmas, as stated. -/
import Derived.Test.YtaboknhfiijipaaGreatQT17
set_option linter.unusedVariables false
set_option linter.unusedSimpArgs false
set_option maxRecDepth 100000
set_option maxHeartbeats 16000000
open Go.Proofs.Tryz
open Go.Proofs.Tryz renaming prog->zZZ
open Go.Value renaming slice->ax,int->ay,string->aA
open Go.IntKind renaming i64->az
open Go.Obj renaming cells->aB
open Option renaming none->aC,some->aD
namespace Go.Proofs.YtaboknhfiijipaaGreat
open Go.RowKit Go.Maps
variable {c:ColP} {bl:List BlobP} {L ds:List ae} {base cap g i n size:Nat} {s:StoP} {e e':TypeId} {w:World} {x:ae} {xs:ag}
theorem VC (A:af) (c:Nat) (B:af) (d:Nat) (s:StoP) (Ag:af) (ng:Nat) (cp:ColP) (w:World) (hg:GoodS s) (hr:RdSt w A c B d s) (hp:cp.aK=2) (hgc:GoodC s cp) :
  Calls zZZ 38 #[.agg #[ax A s.aF.length c,ax B s.aG.length d,ay az s.aI,ay az s.aH],coV (ax Ag cp.aJ.length ng) cp] w fun e w' =>
   ∃v1 v2,e= .returned (.tuple #[stV v1 v2 s,coV (ax aC 0 0) (qY s cp).2.1,aA ⟨(qY s cp).2.2.toArray⟩,ay az 0])/\OwSt w' w.heap.size v1 v2 (qY s cp).1 (fun b=>b<w.heap.size)/\Below w.heap.size w w':=by
 have hlb:s.aF.length<=24:=hg.b.len;have hle:s.aG.length<=10:=hg.e.len;have HGD:=sqH hg;have HSW:=sqH (hgc.sw hp);obtain⟨aK,aJ,at_⟩:=cp;simp only at hp;subst hp;clear hgc;obtain⟨w0,hw0,hS,hC,hR,hD,hb0⟩:=qi w 34 37 [ax A s.aF.length c,ax B s.aG.length d,ay az s.aI,ay az s.aH] [ay az 2,ax Ag aJ.length ng,aA ⟨at_.toArray⟩] [ax aC 0 0,ax aC 0 0,ay az 0,ay az 0] [ay az 0,ax aC 0 0,aA ⟨#[]⟩];have hr0:=hr.below hb0;obtain⟨H,hH⟩:=wV w.heap.size
 have HCK:=sqH (zF A c B d s w0 hg hr0);rw [<-hH]at hS hC hR hD hb0 ⊢
 have hHl:H+1+1+1<w0.heap.size:=hD.lt;obtain⟨x0,x1,x2,x3⟩:=sqC4 hS;rw [hw0,hH]at x0 x1 x2 x3;have HPL:=sqH (show ∀b∈s.aF,b.data.length<=1000000 from fun b hb=>by have:=(hg.b.one b hb).2.1;omega);have HQL:=sqH (show ∀x∈s.aG,x.aM.length<=1000000 from fun x hx=>by have:=(zk (hg.e.one x hx).2.1).1;omega);clear hg hr;go_enter func38,ntmps38;go_wp2_with fail;rw [<-hw0,<-hH];have HH:=sqH hH;clear hw0 hH x0 x1 x2 x3;refine wW HCK.o fun w1 hb1=>?_;dsimp only;have hr1:=hr0.below hb1;have hS1:=hS.below hb1;obtain⟨z0,z1,z2,z3⟩:=sqC4 hS1;have x0:=(hC.below hb1).c0;have HCP:=sqH (qH A c B d s w1 wm wm HPL.o HQL.o hr1);clear HCK;go_wp2_with fail;clear z0 z1 z2 z3 x0;refine HCP.o.mono ?_;rintro e_ w3 ⟨q1,q2,rfl,ho3,hb3⟩;dsimp only;have hc3:=wh hb1 hb3;have ho3:=ho3.lower (base':=w0.heap.size) hb1.size;obtain⟨G,hG⟩:=wV w3.heap.size
 have hba:=wj w3 (aB #[ax (aD ⟨q1,0,aC⟩) s.aF.length s.aF.length,ax (aD ⟨q2,0,aC⟩) s.aG.length s.aG.length,ay az s.aI,ay az s.aH] 34);have hX:Arr (w3.alloc (aB #[ax (aD ⟨q1,0,aC⟩) s.aF.length s.aF.length,ax (aD ⟨q2,0,aC⟩) s.aG.length s.aG.length,ay az s.aI,ay az s.aH] 34)) G 34 [ax (aD ⟨q1,0,aC⟩) s.aF.length s.aF.length,ax (aD ⟨q2,0,aC⟩) s.aG.length s.aG.length,ay az s.aI,ay az s.aH]:=by rw [hG];exact Arr.new w3 34 _
 have ho:OwSt (w3.alloc (aB #[ax (aD ⟨q1,0,aC⟩) s.aF.length s.aF.length,ax (aD ⟨q2,0,aC⟩) s.aG.length s.aG.length,ay az s.aI,ay az s.aH] 34)) w0.heap.size (ax (aD ⟨q1,0,aC⟩) s.aF.length s.aF.length) (ax (aD ⟨q2,0,aC⟩) s.aG.length s.aG.length) s (fun b=>b<w0.heap.size\/b=G) :=
  (ho3.wider fun b hb=>by
   rcases hb with hb | hb
   ·exact .inl (Nat.lt_of_lt_of_le hb hb1.size)
   ·exact .inr (by rw [hb,hG];exact Nat.le_refl _)).below hba
 have hbk:=wh hc3 hba;have hGL:w0.heap.size<=G:=by rw [hG];exact hc3.size
 have HG:=sqH hG;have x0:=(hS.below hbk).c0;have x2:=(hC.below hbk).c2;have hr4:=hr0.below hbk;have HNX:=sqH (Jp A c s.aF at_ _ wm hr4.b);clear hG ho3 hb3 hr1 HCP hba hb1 hS1 hc3;go_wp2_with fail;rw [<-HG.o];clear x0 x2;generalize (w3.alloc (aB #[ax (aD ⟨q1,0,aC⟩) s.aF.length s.aF.length,ax (aD ⟨q2,0,aC⟩) s.aG.length s.aG.length,ay az s.aI,ay az s.aH] 34))=w4 at *
 refine wW HNX.o fun w5 hb5=>?_;dsimp only;have hX:=hX.below hb5;have ho:=ho.below hb5;have hbk:=wh hbk hb5;clear hb5 HNX;rcases yF s ⟨2,aJ,at_⟩ with ⟨hf,hs⟩ | ⟨i,hi,hf,hm,hs⟩ | ⟨i,hi,hf,hm,hs⟩
 ·have hf':s.aF.findIdx? (fun b=>Op.bytesLess at_ b.dig)=aC:=hf;rw [hf',xf];have HSS:=sqH hs;have hR:=hR.below hbk;have hD:=hD.below hbk;have hB:=hb0.trans (hbk.mono (show H<=w0.heap.size by omega));clear hf hf' hs hr4;obtain⟨hF1,hF2,hF3,hF5⟩:=sqJ4 (qO (g:=H+1+1) (h:=H+1+1+1) (u0:=(ax (aD ⟨q1,0,aC⟩) s.aF.length s.aF.length)) (u1:=(ax (aD ⟨q2,0,aC⟩) s.aG.length s.aG.length)) (u2:= ay az s.aI) (u3:= ay az s.aH) (x0:= ay az 0) (x1:= ax aC 0 0) (x2:= aA ⟨#[]⟩) hR wm) (qP (g:=H+1+1) (h:=H+1+1+1) (u0:=(ax (aD ⟨q1,0,aC⟩) s.aF.length s.aF.length)) (u1:=(ax (aD ⟨q2,0,aC⟩) s.aG.length s.aG.length)) (u2:= ay az s.aI) (u3:= ay az s.aH) (x0:= ay az 0) (x1:= ax aC 0 0) (x2:= aA ⟨#[]⟩) hD wm) (qC (g:=H+1+1) (h:=H+1+1+1) (u0:=(ax (aD ⟨q1,0,aC⟩) s.aF.length s.aF.length)) (u1:=(ax (aD ⟨q2,0,aC⟩) s.aG.length s.aG.length)) (u2:= ay az s.aI) (u3:= ay az s.aH) (x0:= ay az 0) (x1:= ax aC 0 0) (x2:= aA ⟨#[]⟩) ho (.inl wm) (.inl wm) (ho.nb hR ws ws).1 (ho.nb hR ws ws).2 (ho.nb hD ws ws).1 (ho.nb hD ws ws).2) (zK (g:=H+1+1) (h:=H+1+1+1) (u0:=(ax (aD ⟨q1,0,aC⟩) s.aF.length s.aF.length)) (u1:=(ax (aD ⟨q2,0,aC⟩) s.aG.length s.aG.length)) (u2:= ay az s.aI) (u3:= ay az s.aH) (x0:= ay az 0) (x1:= ax aC 0 0) (x2:= aA ⟨#[]⟩) hB wm wm);obtain⟨f0,f1,f2,f3⟩:=sqF4 hR;obtain⟨y0,y1,y2,y3⟩:=sqC4 hR;obtain⟨e0,e1,e2⟩:=sqF3 hD;obtain⟨x0,x1,x2⟩:=sqC3 hD;obtain⟨b0,b1,b2,b3⟩:=sqC4 hX;clear hR hD ho hB hX hbk hb0 hS hC;go_wp2_with fail;refine bodyPost_ret (zX rfl _ _ (H+1+1) (H+1+1+1) _ _ _ _ _ _ _ _ ww hF1.o underlying34 rfl wo ww hF2.o underlying37 rfl wo) rfl ?_;rw [HSS.o];exact⟨_,_,rfl,(hF3.o.lower wm).mono (fun b hb=> .inl wm),hF5.o⟩
 ·have hf':s.aF.findIdx? (fun b=>Op.bytesLess at_ b.dig)=aD i:=hf;rw [hf',xf];have HSS:=sqH hs;obtain⟨bq,oq,Bq,cq,eq,hbq,d0,d1,d2,d3,hsl⟩:=(hr0.below hbk).b.blob_at i hi;subst eq;have hi0:=wY i
  have hi1:(i:Int)<(s.aF.length:Int):=wm;have hdg:s.aF[i].dig=s.aF[i].dig:=rfl;rw [hm]at d3;have z0:=(hS.below hbk).c0;generalize hqq:s.aF[i]=q at *
  obtain⟨gb,hgb⟩:=wV w5.heap.size
  have hba:=wj w5 (aB #[aA ⟨q.dig.toArray⟩,ax Bq q.data.length cq,ay az q.aN,.bool true] 76);have hbb:Arr (w5.alloc (aB #[aA ⟨q.dig.toArray⟩,ax Bq q.data.length cq,ay az q.aN,.bool true] 76)) gb 76 [aA ⟨q.dig.toArray⟩,ax Bq q.data.length cq,ay az q.aN,.bool true]:=by rw [hgb];exact Arr.new w5 76 _
  have hgb5:w0.heap.size<=gb:=by rw [hgb];exact hbk.size
  have hX:=hX.below hba;have ho:=ho.below hba;have hbk:=wh hbk hba;have hR:=hR.below hbk;have hD:=hD.below hbk;have hB:=hb0.trans (hbk.mono (show H<=w0.heap.size by omega));have HGB:=sqH hgb;have p0:=hbb.c0;have p3:=hbb.c3;rw [hgb]at p0 p3;clear hf hf' hs hr4 hsl hbq hdg hgb hba hm hqq hbb
  refine wH ?_;intros;rw [<-HGB.o];rw [<-HGB.o]at p0 p3;clear d0 d1 d2 d3 z0;generalize (w5.alloc (aB #[aA ⟨q.dig.toArray⟩,ax Bq q.data.length cq,ay az q.aN,.bool true] 76))=w6 at *
  have n1:¬(gb=H+1+1):=wm;have n2:¬(G=H+1+1):=wm;obtain⟨hF1,hF2,hF3,hF5⟩:=sqJ4 (qO (g:=H+1+1) (h:=H+1+1+1) (u0:=(ax (aD ⟨q1,0,aC⟩) s.aF.length s.aF.length)) (u1:=(ax (aD ⟨q2,0,aC⟩) s.aG.length s.aG.length)) (u2:= ay az s.aI) (u3:= ay az s.aH) (x0:= ay az 2) (x1:= ax aC 0 0) (x2:= aA ⟨q.dig.toArray⟩) hR wm) (qP (g:=H+1+1) (h:=H+1+1+1) (u0:=(ax (aD ⟨q1,0,aC⟩) s.aF.length s.aF.length)) (u1:=(ax (aD ⟨q2,0,aC⟩) s.aG.length s.aG.length)) (u2:= ay az s.aI) (u3:= ay az s.aH) (x0:= ay az 2) (x1:= ax aC 0 0) (x2:= aA ⟨q.dig.toArray⟩) hD wm) (qC (g:=H+1+1) (h:=H+1+1+1) (u0:=(ax (aD ⟨q1,0,aC⟩) s.aF.length s.aF.length)) (u1:=(ax (aD ⟨q2,0,aC⟩) s.aG.length s.aG.length)) (u2:= ay az s.aI) (u3:= ay az s.aH) (x0:= ay az 2) (x1:= ax aC 0 0) (x2:= aA ⟨q.dig.toArray⟩) ho (.inl wm) (.inl wm) (ho.nb hR ws ws).1 (ho.nb hR ws ws).2 (ho.nb hD ws ws).1 (ho.nb hD ws ws).2) (zK (g:=H+1+1) (h:=H+1+1+1) (u0:=(ax (aD ⟨q1,0,aC⟩) s.aF.length s.aF.length)) (u1:=(ax (aD ⟨q2,0,aC⟩) s.aG.length s.aG.length)) (u2:= ay az s.aI) (u3:= ay az s.aH) (x0:= ay az 2) (x1:= ax aC 0 0) (x2:= aA ⟨q.dig.toArray⟩) hB wm wm);obtain⟨f0,f1,f2,f3⟩:=sqF4 hR;obtain⟨y0,y1,y2,y3⟩:=sqC4 hR;obtain⟨e0,e1,e2⟩:=sqF3 hD;obtain⟨x0,x1,x2⟩:=sqC3 hD;obtain⟨b0,b1,b2,b3⟩:=sqC4 hX;clear hR hD ho hB hX hbk hb0 hS hC;go_region
  all_goals (try dsimp only [Exit.then])
  go_wp2_with fail;refine bodyPost_ret (zX rfl _ _ (H+1+1) (H+1+1+1) _ _ _ _ _ _ _ _ ww (Arr.drew hF1.o) underlying34 rfl wo ww (Arr.drew hF2.o) underlying37 rfl wo) rfl ?_;rw [HSS.o];exact⟨_,_,rfl,(hF3.o.drewX.lower wm).mono (fun b hb=> .inl wm),hF5.o.drew⟩
 ·have hf':s.aF.findIdx? (fun b=>Op.bytesLess at_ b.dig)=aD i:=hf;rw [hf',xf];have HSS:=sqH hs;have hn:=QN HGD.o hi hm HSW.o;have HPZ:=sqH (Zn HGD.o hi hn);have HGE:=sqH (Zm HGD.o hi hn);obtain⟨bq,oq,Bq,cq,eq,hbq,d0,d1,d2,d3,hsl⟩:=(hr0.below hbk).b.blob_at i hi;subst eq;have hi0:=wY i
  have hi1:(i:Int)<(s.aF.length:Int):=wm;rw [hm]at d3;have z0:=(hS.below hbk).c0;generalize hqq:s.aF[i]=q at *
  obtain⟨gb,hgb⟩:=wV w5.heap.size
  have hba:=wj w5 (aB #[aA ⟨q.dig.toArray⟩,ax Bq q.data.length cq,ay az q.aN,.bool false] 76);have hbb:Arr (w5.alloc (aB #[aA ⟨q.dig.toArray⟩,ax Bq q.data.length cq,ay az q.aN,.bool false] 76)) gb 76 [aA ⟨q.dig.toArray⟩,ax Bq q.data.length cq,ay az q.aN,.bool false]:=by rw [hgb];exact Arr.new w5 76 _
  have hgb5:w0.heap.size<=gb:=by rw [hgb];exact hbk.size
  have hnq:q1≠gb:=fun e=>by have h:=(ho.b.rwo.blk rfl).2;rw [hgb]at e;exact absurd (e▸h) (Nat.lt_irrefl _)
  have xx0:=hX.c0;have hGlt:=hX.lt;have hX:=hX.below hba;have ho:=ho.below hba;have hbk:=wh hbk hba;have p3:=hbb.c3;rw [hgb]at p3;have x0:=hX.c0;have hw1:IntKind.i64.wrap ((i:Int)+1)=(i:Int)+1:=IntWalk.i64_in _ wm;have HDL:=sqH (Je q1 i s.aF w0.heap.size s.aF.length _ _ hi ho.b);have HGB:=sqH hgb;clear hf hf' hs hr4 hsl hbq hba hm hqq hgb;go_wp2_with fail;rw [<-HGB.o];clear d0 d1 d2 d3 z0 p3 x0 xx0;generalize (w5.alloc (aB #[aA ⟨q.dig.toArray⟩,ax Bq q.data.length cq,ay az q.aN,.bool false] 76))=w6 at *
  refine HDL.o.mono ?_;rintro e_ w7 ⟨rfl,hx7,hg7⟩;dsimp only;have hne:=(ho.nb hX ws ws).1;have hne2:=(ho.nb hX ws ws).2;have ho7:=ho.turnB hx7 hg7 rfl;have hX7:=hX.grown hg7 hne;have hbb7:=hbb.grown hg7 (fun e=>by injection e with e;exact hnq e);have hbk7:=hbk.grown hg7 hbk.size (fun b e=>by cases e;exact(ho.b.rwo.blk rfl).1);have f0:=hX7.frozen 0;have x0:=hX7.c0;have hX:=hX7.set (k:=0) wu (ax (aD ⟨q1,0,aC⟩) (s.aF.eraseIdx i).length s.aF.length);have ho:=ho7.setX (g:=G) (k:=0) (.inr rfl) hne hne2 (ax (aD ⟨q1,0,aC⟩) (s.aF.eraseIdx i).length s.aF.length);have hbb:=hbb7.other (k:=0) (show gb≠G from UG hbb7 hX7 ws) (ax (aD ⟨q1,0,aC⟩) (s.aF.eraseIdx i).length s.aF.length);have hbk:=hbk7.setCell (p:=⟨G,0,aC⟩) hGL (ax (aD ⟨q1,0,aC⟩) (s.aF.eraseIdx i).length s.aF.length);simp only [List.set_cons_zero]at hX;have g1:decide ((q.aN:Int)>0)=false:=decide_eq_false (wX HPZ);have g2:decide ((0:Int)<(q.aN:Int))=false:=decide_eq_false (wX HPZ);have g3:decide (0<q.aN)=false:=decide_eq_false (wX HPZ);have p2:=hbb.c2;have x1:=hX7.c1;have x2:=hX7.c2;have x3:=hX7.c3;obtain⟨A9,c9,B9,d9,e1,e2,hrd9⟩:=ho.rows;injection e1 with e11 e12 e13;injection e2 with e21 e22 e23;subst e11 e13 e21 e23;clear e12 e22;have hck:=zF (aD ⟨q1,0,aC⟩) s.aF.length (aD ⟨q2,0,aC⟩) s.aG.length { s with aF:=s.aF.eraseIdx i } _ HGE.o hrd9;have HCK:=sqH hck;have p0:=hbb.c0;clear hx7 hg7 hne hne2 ho7 hX7 hbb7 hbk7 hck hrd9 HDL;go_wp2_with fail;clear f0 x0 x1 x2 x3 p2 p0;generalize (w7.setCell ⟨G,0,aC⟩ (ax (aD ⟨q1,0,aC⟩) (s.aF.eraseIdx i).length s.aF.length))=w8 at *
  refine wW HCK.o fun w9 hb9=>?_;dsimp only;have hX:=hX.below hb9;have ho:=ho.below hb9;have hbb:=hbb.below hb9;have hbk:=wh hbk hb9;have hR:=hR.below hbk;have hD:=hD.below hbk;have hB:=hb0.trans (hbk.mono (show H<=w0.heap.size by omega));have p0:=hbb.c0;have n1:¬(gb=H+1+1):=wm;have n2:¬(G=H+1+1):=wm;clear hb9 hbb HCK
  refine wH ?_;intros;obtain⟨hF1,hF2,hF3,hF5⟩:=sqJ4 (qO (g:=H+1+1) (h:=H+1+1+1) (u0:=(ax (aD ⟨q1,0,aC⟩) (s.aF.eraseIdx i).length s.aF.length)) (u1:=(ax (aD ⟨q2,0,aC⟩) s.aG.length s.aG.length)) (u2:= ay az s.aI) (u3:= ay az s.aH) (x0:= ay az 2) (x1:= ax aC 0 0) (x2:= aA ⟨q.dig.toArray⟩) hR wm) (qP (g:=H+1+1) (h:=H+1+1+1) (u0:=(ax (aD ⟨q1,0,aC⟩) (s.aF.eraseIdx i).length s.aF.length)) (u1:=(ax (aD ⟨q2,0,aC⟩) s.aG.length s.aG.length)) (u2:= ay az s.aI) (u3:= ay az s.aH) (x0:= ay az 2) (x1:= ax aC 0 0) (x2:= aA ⟨q.dig.toArray⟩) hD wm) (qC (g:=H+1+1) (h:=H+1+1+1) (u0:=(ax (aD ⟨q1,0,aC⟩) (s.aF.eraseIdx i).length s.aF.length)) (u1:=(ax (aD ⟨q2,0,aC⟩) s.aG.length s.aG.length)) (u2:= ay az s.aI) (u3:= ay az s.aH) (x0:= ay az 2) (x1:= ax aC 0 0) (x2:= aA ⟨q.dig.toArray⟩) ho (.inl wm) (.inl wm) (ho.nb hR ws ws).1 (ho.nb hR ws ws).2 (ho.nb hD ws ws).1 (ho.nb hD ws ws).2) (zK (g:=H+1+1) (h:=H+1+1+1) (u0:=(ax (aD ⟨q1,0,aC⟩) (s.aF.eraseIdx i).length s.aF.length)) (u1:=(ax (aD ⟨q2,0,aC⟩) s.aG.length s.aG.length)) (u2:= ay az s.aI) (u3:= ay az s.aH) (x0:= ay az 2) (x1:= ax aC 0 0) (x2:= aA ⟨q.dig.toArray⟩) hB wm wm);obtain⟨f0,f1,f2,f3⟩:=sqF4 hR;obtain⟨y0,y1,y2,y3⟩:=sqC4 hR;obtain⟨e0,e1,e2⟩:=sqF3 hD;obtain⟨x0,x1,x2⟩:=sqC3 hD;obtain⟨b0,b1,b2,b3⟩:=sqC4 hX;clear hR hD ho hB hX hbk hb0 hS hC;go_region
  all_goals (try dsimp only [Exit.then])
  go_wp2_with fail;refine bodyPost_ret (zX rfl _ _ (H+1+1) (H+1+1+1) _ _ _ _ _ _ _ _ ww (Arr.drew hF1.o) underlying34 rfl wo ww (Arr.drew hF2.o) underlying37 rfl wo) rfl ?_;rw [HSS.o];exact⟨_,_,rfl,(hF3.o.drewX.lower wm).mono (fun b hb=> .inl wm),hF5.o.drew⟩
def Yu (w:World) (l:List ae) (f:FuncId) (x:Value) (p:List UInt8->Bool):Prop :=
 (∀args W,(callFunc f args).run zZZ W= .ok (.enter f args) W)/\∀(b:ae) (W:World),b∈l->Below w.heap.size w W ->
  Calls zZZ f #[aA ⟨b.toArray⟩,x] W fun e w'=>e= .returned (.bool (p b))/\Below W.heap.size W w'
theorem Ye (A:af) (c:Nat) (l:List ae) (f:FuncId) (x:Value) (p:List UInt8->Bool) (w:World) (hl:l.length<=1000000) (hA:Rd w 1 A l.length (strs l)) (HC:Yu w l f x p) :
  Calls zZZ 132 #[ax A l.length c,.func (.func f) #[] #[x]] w fun e w'=>e= .returned (ay az (plc (l.findIdx? p)))/\Below w.heap.size w w':=by
 obtain⟨hcf,hcc0⟩:=HC;have HCC:=sqH hcc0;clear hcc0;generalize hR:l.findIdx? p=R;have HR:=sqH hR;clear hR;go_enter func132,ntmps132;go_wp2_with fail;go_loopg [5,8] l.length (fun gn u i wr=>∃j:Nat,gn=l.length - j/\i= ay az j/\j<=l.length/\(∀k (h:k<l.length),k<j->p l[k]=false)/\Below w.heap.size w wr)
 case atStart=>exact⟨0,rfl,rfl,wm,fun k _ h=>absurd h wm,Below.refl _ _⟩
 case round =>
  obtain⟨j,hgk,rfl,hj,hno,hbl⟩:=hrel;have HGK:=sqH hgk;have HNO:=sqH hno;clear hgk hno;by_cases hlt:j<l.length
  ·have hcc:decide (j<l.length)=true:=decide_eq_true hlt;obtain⟨b,off,hAb,_,hcell⟩:=(hA.below hbl).2 wm;subst hAb;have c0:=hcell j _ (yh l j hlt);have hcl:=HCC.o l[j] wr (List.getElem_mem hlt) hbl;have hj0:=wY j
   have hj1:(j:Int)<(l.length:Int):=wm;cases hp:p l[j] with
   | true =>
    have HF:=sqH (show R=aD j by
     rw [<-HR.o,List.findIdx?_eq_some_iff_getElem];exact⟨hlt,hp,fun k hk=>by rw [HNO.o k wm hk];simp⟩)
    rw [hp]at hcl;have HCL:=sqH hcl;clear hp hcl hcell;generalize l[j]=bl at *
    go_wp2_with fail;refine wW HCL.o fun w5 hb5=>?_;dsimp only;have hb05:=wh hbl hb5;go_wp2_with fail;go_ret;rw [HF.o];exact⟨rfl,hb05⟩
   | false =>
    have HN:=sqH (show ∀k (h:k<l.length),k<j+1->p l[k]=false from fun k h hk=>by
     rcases Nat.lt_or_ge k j with h1 | h1
     ·exact HNO.o k h h1
     ·have:k=j:=by omega
      subst this;exact hp)
    rw [hp]at hcl;have HCL:=sqH hcl;clear hp hcl hcell;generalize l[j]=bl at *
    go_wp2_with fail;refine wW HCL.o fun w5 hb5=>?_;dsimp only;have hb05:=wh hbl hb5;go_wp2_with fail;go_roundg (l.length - (j+1))
    case measure=>exact wX HGK
    case rel=>exact⟨j+1,rfl,by go_num,wm,HN.o,hb05⟩
  ·obtain rfl:j=l.length:=by omega
   have hcc:decide (l.length<l.length)=false:=wu;have HF:=sqH (show R=aC by
    rw [<-HR.o,List.findIdx?_eq_none_iff];intro x hx;obtain⟨k,hk,rfl⟩:=List.mem_iff_getElem.1 hx;exact HNO.o k hk hk)
   go_wp2_with fail;go_ret;rw [HF.o];exact⟨rfl,hbl⟩
theorem J7 (A:af) (c:Nat) (l:List ae) (f:FuncId) (x:Value) (p:List UInt8->Bool) (w:World) (hl:l.length<=1000000) (hA:Rd w 1 A l.length (strs l)) (HC:Yu w l f x p) :
  Calls zZZ 133 #[ax A l.length c,.func (.func f) #[] #[x]] w fun e w'=>e= .returned (.bool (l.any p))/\Below w.heap.size w w':=by
 have hI:=Ye A c l f x p w hl hA HC;clear HC;have HI:=sqH hI;clear hI;have hany:l.any p=(l.findIdx? p).isSome:=by rw [List.findIdx?_isSome]
 rw [hany];cases hf:l.findIdx? p with
 | none =>
  rw [hf]at HI;go_enter func133,ntmps133;go_wp2_with fail;refine wW HI.o fun w1 hb1=>?_;dsimp only;go_wp2_with fail;go_ret;exact⟨rfl,hb1⟩
 | some i =>
  rw [hf]at HI;have hi:decide ((i:Int)≥0)=true:=decide_eq_true wm;have hi2:decide ((0:Int)<=(i:Int))=true:=decide_eq_true wm;go_enter func133,ntmps133;go_wp2_with fail;refine wW HI.o fun w1 hb1=>?_;dsimp only;go_wp2_with fail;go_ret;exact⟨rfl,hb1⟩
theorem Yx (gk:Nat) (B:af) (d:Nat) (M l:List ae) (w:World) (hk:w.cell? ⟨gk,0,aC⟩=aD (ax B M.length d)) (hg:gk<w.heap.size) (hM:M.length<=1000000) (hB:Rd w 1 B M.length (strs M)):Yu w l 134 (.pointer (aD ⟨gk,0,aC⟩)) (fun s=> !decide (s∈M)):=by
 refine⟨fun _ _=>wo,fun b W hb hbel=> ?_⟩;have hk0:W.cell? ⟨gk,0,aC⟩=aD (ax B M.length d):=(hbel.cell (p:=⟨gk,0,aC⟩) hg).trans hk;have HCT:=sqH (Yd B d M b W wm (hB.below hbel));dsimp only;generalize decide (b∈M)=dv at *
 clear hk hB hbel;go_enter func134,ntmps134;go_wp2_with fail;refine HCT.o.mono ?_;rintro e_ wx ⟨rfl,rfl⟩;dsimp only;go_wp2_with fail;go_ret;exact⟨rfl,Below.refl _ _⟩
theorem jZ (A B:af) (c d:Nat) (L M:List ae) (w:World) (hl:L.length<=1000000) (hm:M.length<=1000000) (hA:Rd w 1 A L.length (strs L)) (hB:Rd w 1 B M.length (strs M)) (hsub:∀x∈L,x∈M) :
  Calls zZZ 84 #[ax A L.length c,ax B M.length d] w fun e w'=>e= .returned (.bool true)/\Below w.heap.size w w':=by
 have hb1:=wj w (aB #[ax B M.length d] 35);have hbx:Arr (w.alloc (aB #[ax B M.length d] 35)) w.heap.size 35 [ax B M.length d]:=Arr.new w 35 _;have hct:=J7 A c L _ (.pointer (aD ⟨w.heap.size,0,aC⟩)) (fun s=> !decide (s∈M)) _ hl (hA.below hb1) (Yx w.heap.size B d M L _ (hbx.c0) hbx.lt hm (hB.below hb1));rw [show L.any (fun s=> !decide (s∈M))=false from List.any_eq_false.2 fun x hx=>by simp [hsub x hx]]at hct;have HCT:=sqH hct;clear hct hbx hA hB hsub;go_enter func84,ntmps84;go_wp2_with fail;refine wW HCT.o fun w2 hb2=>?_;dsimp only;go_wp2_with fail;go_ret;exact⟨rfl,wh hb1 hb2⟩
theorem KV {P:Program} {ops:Array Oper} {rest:List Oper} {o:Oper} {a:Act} {Q:ai} (hgd:o.guard=aC) (s x:Operand) {t:TypeId} {bytes:Nat}
  (ho:o.op= .call { callee:= .builtin .append,args:=#[s,x],argTypes:=#[t,t] }) (E:El P t e size bytes)
  {base:Nat} {v:Value} {n:Nat} {xs:ag} (hs:a.eval s=v) (hown:w.ownsRow base e size v n xs) {H:Nat}
  {us:ag} {m c:Nat} (hx:a.eval x= ax (aD ⟨H,0,aC⟩) m c) (hH:H=w.heap.size) (hl:us.length=m*size) (h1:∀u∈us,u.oneCell'=true)
  (hb:(n+m)*bytes<=140737488355328) (hbase:base<=w.heap.size)
  (h:∀v' w',w'.ownsRow base e size v' (n+m) (xs++us)->w.grownBy w' v.ownBlock->(v'.ownBlock=v.ownBlock\/∃g,v'.ownBlock=aD g/\w.heap.size<=g)->wpList P ops Q rest (a.put o.dst v') w') :
  wpList P ops Q (o::rest) a (w.alloc (.cells us.toArray e')):=by
 subst hH;exact zh hgd s x ho E hs hown hx hl h1 hb hbase h
theorem Ug (bl:List BlobP) (k:Nat) (h:k<bl.length):mkd (bl.take (k+1))=mkd (bl.take k)++(if bl[k].mark then [bl[k].dig] else []):=by
 unfold mkd;rw [List.take_succ_eq_append_getElem h,List.filter_append,List.map_append]
 congr 1
 by_cases hp:bl[k].mark=true
 ·rw [if_pos hp,List.filter_cons_of_pos hp];rfl
 ·rw [if_neg hp,List.filter_cons_of_neg hp];rfl
theorem Q6 (bl:List BlobP):(mkd bl).length<=bl.length:=by
 unfold mkd;rw [List.length_map];exact List.length_filter_le _ _
theorem vH (A:af) (c:Nat) (bl:List BlobP) (w:World) (hl:bl.length<=1000) (hA:Rw BlobS w A bl) :
  Calls zZZ 79 #[ax A bl.length c] w fun e w'=>∃v,e= .returned v/\w'.ownsRow w.heap.size 9 1 v (mkd bl).length (strs (mkd bl))/\Below w.heap.size w w':=by
 have HA:=sqH hA;have hb63:(bl.length:Int)<=9223372036854775807:=wm;clear hA;go_enter func79,ntmps79;go_wp2_with fail;go_loopg [3,8] bl.length (fun gn u i wr=>∃k:Nat,gn=bl.length - k/\i= ay az k/\k<=bl.length/\wr.ownsRow w.heap.size 9 1 u (mkd (bl.take k)).length (strs (mkd (bl.take k)))/\Below w.heap.size w wr)
 case atStart=>exact⟨0,rfl,rfl,wm,World.ownsRow_nil _ _ _ _,Below.refl _ _⟩
 case round =>
  obtain⟨k,hgk,rfl,hk,hown,hbel⟩:=hrel;have HGK:=sqH hgk;clear hgk;by_cases hlt:k<bl.length
  rotate_left
  ·obtain rfl:k=bl.length:=by omega
   have hlb:decide (bl.length<bl.length)=false:=wu;rw [List.take_length]at hown;have HO:=sqH hown;clear hown;go_wp2_with fail;go_ret;exact⟨_,rfl,HO.o,hbel⟩
  have hlb:decide (k<bl.length)=true:=decide_eq_true hlt;have hk0:=wY k
  have hk1:(k:Int)<(bl.length:Int):=wm;obtain⟨bq,oq,Bq,cq,hA,hbq,d0,d1,d2,d3,hsl⟩:=(HA.o.below hbel).blob_at k hlt;subst hA;have HSU:=sqH (Ug bl k hlt);have HKL:=sqH hlt;have hml:=Q6 (bl.take k);rw [List.length_take]at hml;generalize bl[k]=q at *
  generalize q.mark=qm at *
  have hbox:Arr (wr.alloc (aB #[aA ⟨q.dig.toArray⟩,ax Bq q.data.length cq,ay az q.aN,.bool qm] 76)) wr.heap.size 76 [aA ⟨q.dig.toArray⟩,ax Bq q.data.length cq,ay az q.aN,.bool qm]:=Arr.new wr 76 _;have hbA:=hbel.alloc hbel.size (aB #[aA ⟨q.dig.toArray⟩,ax Bq q.data.length cq,ay az q.aN,.bool qm] 76);have hownA:=hown.alloc (aB #[aA ⟨q.dig.toArray⟩,ax Bq q.data.length cq,ay az q.aN,.bool qm] 76);have p0:=hbox.c0;have p3:=hbox.c3;clear hsl hown hbox;cases qm with
  | false =>
   have hsu:=HSU.o;rw [if_neg ws,List.append_nil]at hsu;have HSV:=sqH hsu;have HOA:=sqH hownA;clear hsu hownA;go_wp2_with fail;go_roundg (bl.length - (k+1))
   case measure=>have:=HGK.o;have:=HKL.o;omega
   case rel=>exact⟨k+1,rfl,by go_num,by have:=HKL.o;omega,by rw [HSV.o];exact HOA.o,hbA⟩
  | true =>
   have hsu:=HSU.o;rw [if_pos rfl]at hsu;have HSV:=sqH hsu;have HSZ:=sqH (World.size_alloc wr (aB #[aA ⟨q.dig.toArray⟩,ax Bq q.data.length cq,ay az q.aN,.bool true] 76)).symm;clear hsu
   refine wH ?_;intros;clear d0 d1 d2 d3;generalize (wr.alloc (aB #[aA ⟨q.dig.toArray⟩,ax Bq q.data.length cq,ay az q.aN,.bool true] 76))=wA at *
   refine KV rfl (.tmp 14) (.tmp 17) rfl uP ww hownA (us:= [aA ⟨q.dig.toArray⟩]) ww HSZ.o rfl (by intro u hu;rw [List.mem_singleton.1 hu];rfl) wm hbA.size ?_;intro v9 w9 ho9 hg9 hv9;have hb9:=zj hbA hownA ac hg9;have HO9:=sqH ho9;clear ho9 hg9 hv9 hownA p0 p3;go_wp2_with fail;go_roundg (bl.length - (k+1))
   case measure=>have:=HGK.o;have:=HKL.o;omega
   case rel=>exact⟨k+1,rfl,by go_num,by have:=HKL.o;omega,by rw [HSV.o,vC,List.length_append];exact HO9.o,hb9⟩
def Yt (w:World) (g:Option Nat) (l:List ae) (f:FuncId) (x:Value) (p:List UInt8->Bool):Prop :=
 (∀args W,(callFunc f args).run zZZ W= .ok (.enter f args) W)/\∀(b:ae) (W:World),b∈l->w.grownBy W g ->
  Calls zZZ f #[aA ⟨b.toArray⟩,x] W fun e w'=>e= .returned (.bool (p b))/\Below W.heap.size W w'
theorem z3d (w:World):(zeroValue 9).run zZZ w= .ok (aA ByteArray.empty) w:=by kernel_rfl
theorem z21 (h:w.ownsRow base 9 1 (ax (aD ⟨g,0,aC⟩) n cap) n xs) (i:Nat) (hi:i<n) :
  ∃zs:ag,zs.length=n - i/\(∀ty c,(Builtin.clear_ #[35] ty #[ax (aD ⟨g,i,aC⟩) (n - i) c]).run zZZ w= .ok (.tuple #[]) (w.setCells g i zs)) /\
   (w.setCells g i zs).ownsRow base 9 1 (ax (aD ⟨g,0,aC⟩) i cap) i (xs.take i)/\w.grownBy (w.setCells g i zs) (aD g):=by
 have hl:=xA (aA ByteArray.empty).cells (n - i);obtain⟨k1,k2,k3,k4⟩:=Zv h wm hi (zs:=(Builtin.zeroCells (aA ByteArray.empty).cells (n - i)).toList) hl;simp only [Nat.mul_one]at k1 k2 k3 k4;exact⟨_,by rw [hl];simp [Value.cells],fun ty c=>ul w _ _ ty _ _ _ wm underlying35 z3d rfl (xB _ _ (by simp [Value.cells]) (by intro u hu;simp [Value.cells]at hu;subst hu;rfl)) g _ c k3 k4,k1,k2⟩
theorem Jh (base:Nat) (v:Value) (l:List ae) (f:FuncId) (x:Value) (p:List UInt8->Bool) (w:World) (hl:l.length<=1000000) (hx:w.ownsRow base 9 1 v l.length (strs l)) (HC:Yt w v.ownBlock l f x p) :
  Calls zZZ 82 #[v,.func (.func f) #[] #[x]] w fun e w'=>∃v',e= .returned v'/\w'.ownsRow base 9 1 v' (l.filter (fun b=> !p b)).length (strs (l.filter (fun b=> !p b)))/\w.grownBy w' v.ownBlock:=by
 obtain⟨hce,hcc0⟩:=HC;have HCC:=sqH hcc0;clear hcc0;obtain⟨A,cap,rfl,hlc,hrw⟩:=Rd.of_own' hx;have HI:=sqH (Ye A cap l f x p w wm hrw ⟨hce,fun b W hb hbl=>HCC.o b W hb ⟨hbl.os,hbl.tape,hbl.output,hbl.size,fun k hk _=>hbl.block k hk⟩⟩);cases hf:l.findIdx? p with
 | none =>
  rw [hf]at HI;have hall:l.filter (fun b=> !p b)=l:=List.filter_eq_self.2 fun b hb=>by
   have:=List.findIdx?_eq_none_iff.1 hf b hb;rw [this];rfl
  have HALL:=sqH hall;have HX:=sqH hx;clear hall hf hx hrw;go_enter func82,ntmps82;go_wp2_with fail;refine wW HI.o fun w1 hb1=>?_;dsimp only;simp only [plc];go_wp2_with fail;go_ret;refine⟨_,rfl,by rw [HALL.o];exact zc HX.o hb1,⟨hb1.os,hb1.tape,hb1.output,hb1.size,fun k hk _=>hb1.block k hk⟩⟩
 | some i0 =>
  rw [hf]at HI;simp only [plc]at HI;obtain⟨hi0,hpi,hno⟩:=List.findIdx?_eq_some_iff_getElem.1 hf;have hkeep0:(l.take (i0+1)).filter (fun b=> !p b)=l.take i0:=by
   rw [List.take_succ_eq_append_getElem hi0,List.filter_append,List.filter_cons_of_neg (by rw [hpi];simp)];rw [List.filter_nil,List.append_nil];refine List.filter_eq_self.2 fun b hb=> ?_;obtain⟨k,hk,rfl⟩:=List.mem_iff_getElem.1 hb;rw [List.length_take]at hk;have:=hno k wm;rw [List.getElem_take];simpa using this
  obtain⟨g,cap',cs,e1,hbg,hA,hnc, -, -, -⟩:=yi hx wm;injection e1 with e11 e12 e13;clear e12;subst e11 e13;have hgw:g<w.heap.size:=hA.lt;have HGW:=sqH hgw;have HK0:=sqH hkeep0;clear hkeep0 hno hf hA hrw hgw;have hw1:IntKind.i64.wrap ((i0:Int)+1)=(i0:Int)+1:=IntWalk.i64_in _ wm;have hm1:((i0:Int)== -1)=false:=by rw [beq_eq_false_iff_ne];omega
  go_enter func82,ntmps82;go_wp2_with fail;refine wW HI.o fun w1 hb1=>?_;dsimp only;have hx1:=zc hx hb1;have HG1:=sqH (show w.grownBy w1 (aD g) from⟨hb1.os,hb1.tape,hb1.output,hb1.size,fun k hk _=>hb1.block k hk⟩);clear hx hb1 HI;go_wp2_with fail;go_loopg [5,6] (l.length - (i0+1)) (fun gn u v wr=>∃(i j:Nat) (M:List ae),gn=l.length - j/\u= ay az i/\v= ay az j/\i<j/\j<=l.length/\M.length=l.length/\M.take i=(l.take j).filter (fun b=> !p b)/\M.drop j=l.drop j/\wr.ownsRow base 9 1 (ax (aD ⟨g,0,aC⟩) l.length cap) l.length (strs M)/\w.grownBy wr (aD g))
  case atStart=>exact⟨i0,i0+1,l,rfl,rfl,by go_num,wm,wm,rfl,HK0.o.symm,rfl,hx1,HG1.o⟩
  case round =>
   clear hx1;obtain⟨i,j,M,hgk,rfl,rfl,hij,hj,hM,hMt,hMd,hxr,hgr⟩:=hrel;obtain⟨HGK,HML,HMT,HMD,HGR⟩:=sqJ5 hgk hM hMt hMd hgr;clear hgk hM hMt hMd hgr;by_cases hlt:j<l.length
   ·have hjj:decide (j<l.length)=true:=decide_eq_true hlt;have hMj:j<M.length:=by have:=HML.o;omega
    have eMj:M[j]=l[j]:=by
     have h1:=HMD.o;rw [List.drop_eq_getElem_cons hMj,List.drop_eq_getElem_cons hlt]at h1;injection h1
    obtain⟨bq,oq,hq, -,d0⟩:=(Rd.of_own hxr).2 wm;injection hq with hq;injection hq with hq1 hq2;subst hq1 hq2;have d0:=d0 j _ (yh M j hMj);rw [Nat.zero_add,eMj]at d0;have hmem:l[j]∈l:=List.getElem_mem hlt;have hpt:(l.take (j+1)).filter (fun b=> !p b)=(l.take j).filter (fun b=> !p b)++(if p l[j] then [] else [l[j]]):=by
     rw [List.take_succ_eq_append_getElem hlt,List.filter_append]
     congr 1
     cases hp:p l[j] with
     | true=>rw [List.filter_cons_of_neg (by rw [hp];simp)];rfl
     | false=>rw [List.filter_cons_of_pos (by rw [hp];rfl)];rfl
    have hMset:∀y,(M.set i y).drop (j+1)=l.drop (j+1):=fun y=>by
     rw [List.drop_set,if_pos wm];have h1:=HMD.o;rw [List.drop_eq_getElem_cons hMj,List.drop_eq_getElem_cons hlt]at h1;injection h1
    have hMs0:M.drop (j+1)=l.drop (j+1):=by
     have h1:=HMD.o;rw [List.drop_eq_getElem_cons hMj,List.drop_eq_getElem_cons hlt]at h1;injection h1
    have hMtk:∀y,(M.set i y).take (i+1)=M.take i++ [y]:=fun y=>by
     have hi:i<(M.set i y).length:=by rw [List.length_set];omega
     rw [List.take_succ_eq_append_getElem hi,List.getElem_set_self,List.take_set]
     congr 1
     rw [List.set_eq_of_length_le (by rw [List.length_take];omega)]
    obtain⟨HPT,HMS,HMS0,HMK⟩:=sqJ4 hpt hMset hMs0 hMtk;have hwj:IntKind.i64.wrap ((j:Int)+1)=(j:Int)+1:=IntWalk.i64_in _ wm;have hwi:IntKind.i64.wrap ((i:Int)+1)=(i:Int)+1:=IntWalk.i64_in _ wm;have hcl:=HCC.o l[j] wr hmem HGR.o;clear hpt hMset hMs0 hMtk hmem eMj;have hj0:=wY j
    have hj1:(j:Int)<(l.length:Int):=wm;have hi0':=wY i
    have hi1':(i:Int)<(l.length:Int):=wm;have hiM:i<(strs M).length:=by rw [strs,List.length_map];omega
    generalize l[j]=bl at *
    cases hp:p bl with
    | true =>
     rw [hp]at hcl;have HCL:=sqH hcl;have HPV:=sqH hp;clear hcl hp;go_wp2_with fail;clear d0;refine wW HCL.o fun wB hbB=>?_;dsimp only;have hxB:=zc hxr hbB;have HGB:=sqH (HGR.o.trans (show wr.grownBy wB (aD g) from⟨hbB.os,hbB.tape,hbB.output,hbB.size,fun k hk _=>hbB.block k hk⟩));clear hxr hbB;go_wp2_with fail;go_roundg (l.length - (j+1))
     case measure=>exact wX HGK
     case rel=>exact⟨i,j+1,M,rfl,rfl,by go_num,wm,wm,HML.o,by rw [HPT.o,HPV.o,if_pos rfl,List.append_nil];exact HMT.o,HMS0.o,hxB,HGB.o⟩
    | false =>
     rw [hp]at hcl;have HCL:=sqH hcl;have HPV:=sqH hp;clear hcl hp;generalize hsd:(⟨bl.toArray⟩:ByteArray)=sd at *
     have HSD:=sqH hsd;clear hsd;go_wp2_with fail;clear d0;refine wW HCL.o fun wB hbB=>?_;dsimp only;have hxB:=zc hxr hbB;have hgB:=HGR.o.trans (show wr.grownBy wB (aD g) from⟨hbB.os,hbB.tape,hbB.output,hbB.size,fun k hk _=>hbB.block k hk⟩);obtain⟨hx8,hg8,⟨v0,q0⟩,p0⟩:=xM hxB hiM (aA sd);rw [show(strs M).set i (aA sd)=strs (M.set i bl) by rw [strs,strs,List.map_set,<-HSD.o]]at hx8;have HG9:=sqH (hgB.trans hg8);clear hxr hxB hgB hbB hg8;go_wp2_with fail;clear q0 p0;generalize (wB.setCell ⟨g,i,aC⟩ (aA sd))=w8 at *
     go_roundg (l.length - (j+1))
     case measure=>exact wX HGK
     case rel=>exact⟨i+1,j+1,M.set i bl,rfl,by go_num,by go_num,wm,wm,by rw [List.length_set];exact HML.o,by rw [HPT.o,HPV.o,HMK.o,HMT.o];rfl,HMS.o _,hx8,HG9.o⟩
   ·obtain rfl:j=l.length:=by omega
    have hjj:decide (l.length<l.length)=false:=wu;have hMl:M.take i=l.filter (fun b=> !p b):=by rw [HMT.o,List.take_length]
    have hle:(l.filter (fun b=> !p b)).length=i:=by rw [<-hMl,List.length_take];have:=HML.o;omega
    obtain⟨zs,hzz,hclr,hx9,hg9⟩:=z21 hxr i wm;have hi0':=wY i
    have hi1':(i:Int)<=(l.length:Int):=wm;have hi2':(i:Int)<=(cap:Int):=wm;have hce:¬cap=i:=wm;obtain⟨HX9,HG9,HLE,HML2⟩:=sqJ4 hx9 (HGR.o.trans hg9) hle hMl;clear hx9 hg9 hxr hle hMl;go_wp2_with fail;go_ret;refine⟨_,rfl,?_,HG9.o⟩;have h1:=HX9.o;rw [show(strs M).take i=strs (l.filter (fun b=> !p b)) by rw [strs,<-List.map_take,HML2.o];rfl]at h1;rw [HLE.o];exact h1
theorem z3h (d:ae) (h:hexC d=0) (W:World):Calls zZZ 89 #[aA ⟨d.toArray⟩] W fun e w'=>e= .returned (ay az 0)/\Below W.heap.size W w':=by
 have hl:=qJ h;have:=ky ⟨d.toArray⟩ W (by show d.toArray.size<=_;rw [List.size_toArray];omega);rw [show(⟨d.toArray⟩:ByteArray).data.toList=d from rfl,h]at this;exact this
theorem jn (Ag:af) (ng:Nat) (cp:ColP) (s:StoP) (w:World) (hgl:cp.aJ.length<=1000) (hg:GoodC s cp) (hc:RdC w Ag ng cp) :
  Calls zZZ 78 #[coV (ax Ag cp.aJ.length ng) cp] w fun e w'=>e= .returned (ay az 0)/\Below w.heap.size w w':=by
 obtain⟨aK,aJ,at_⟩:=cp;have h1:=hg.ph;have h2:=hg.gh;have h3:=hg.ris;have h4:=hg.ah;have h5:=hg.g0;have h6:=hg.a0;clear hg;simp only at h1 h2 h3 h4 h5 h6 hgl;rcases (show aK=0\/aK=1\/aK=2 by omega) with rfl | rfl | rfl
 ·obtain rfl:=h5 wm;obtain rfl:=h6 wm;clear h1 h2 h3 h4 h5 h6 hgl hc;have hx:Arr (w.alloc (aB #[ay az 0,ax Ag 0 ng,aA ⟨#[]⟩] 37)) w.heap.size 37 [ay az 0,ax Ag 0 ng,aA ⟨#[]⟩]:=Arr.new w 37 _;have hb:=wj w (aB #[ay az 0,ax Ag 0 ng,aA ⟨#[]⟩] 37);obtain⟨x0,x1,x2⟩:=sqC3 hx;go_enter func78,ntmps78;go_wp2_with fail;go_loopg [46] 1 (fun gn i wr=>gn=1/\i= ay az 0/\Below w.heap.size w wr)
  case atStart=>exact⟨rfl,rfl,hb⟩
  case round =>
   obtain⟨hgk,rfl,hbl⟩:=hrel;clear hgk;go_wp2_with fail;go_ret;exact⟨rfl,hbl⟩
 ·obtain rfl:=h6 wm;clear h4 h5 h6;have hx:Arr (w.alloc (aB #[ay az 1,ax Ag aJ.length ng,aA ⟨#[]⟩] 37)) w.heap.size 37 [ay az 1,ax Ag aJ.length ng,aA ⟨#[]⟩]:=Arr.new w 37 _;have hb:=wj w (aB #[ay az 1,ax Ag aJ.length ng,aA ⟨#[]⟩] 37);have hrd:=hc.rd.below hb;simp only at hrd;have hg63:(aJ.length:Int)<=9223372036854775807:=wm
  obtain⟨x0,x1,x2⟩:=sqC3 hx;obtain⟨HX,HRD,H2,H3⟩:=sqJ4 hx hrd h2 h3;clear h1 h2 h3 hc hx hrd;go_enter func78,ntmps78;go_wp2_with fail;generalize (w.alloc (aB #[ay az 1,ax Ag aJ.length ng,aA ⟨#[]⟩] 37))=w0 at *
  clear x0 x1 x2;go_loopg [46] aJ.length (fun gn i wr=>∃j:Nat,gn=aJ.length - j/\i= ay az j/\j<=aJ.length/\Below w0.heap.size w0 wr)
  case atStart=>exact⟨0,rfl,rfl,wm,Below.refl _ _⟩
  case round =>
   obtain⟨j,hgk,rfl,hj,hbl⟩:=hrel;have HGK:=sqH hgk;clear hgk;by_cases hlt:j<aJ.length
   rotate_left
   ·obtain rfl:j=aJ.length:=by omega
    have hlb:decide (aJ.length<aJ.length)=false:=wu;go_wp2_with fail;go_ret;exact⟨rfl,wh hb hbl⟩
   have hlb:decide (j<aJ.length)=true:=decide_eq_true hlt;have hj0:=wY j
   have hj1:(j:Int)<(aJ.length:Int):=wm;have hrd2:=HRD.o.below hbl;obtain⟨b,off,hAb,hbb,hcell⟩:=hrd2.2 wm;subst hAb;have c0:=hcell j _ (yh aJ j hlt);have HHX:=sqH (z3h aJ[j] (H2.o _ (List.getElem_mem hlt)) wr);have HKL:=sqH hlt;by_cases hj00:0<j
   ·have hq:=List.pairwise_iff_getElem.1 H3.o (j - 1) j wm hlt wm;have c1:=hcell (j - 1) _ (yh aJ (j - 1) wm);generalize aJ[j - 1]=q at *
    generalize aJ[j]=p at *
    have hkb:decide (0<(j:Int))=true:=decide_eq_true wm;have hkc:decide ((j:Int)>0)=true:=decide_eq_true wm;have hkd:decide (0<j)=true:=decide_eq_true hj00;have hm1:IntKind.i64.wrap ((j:Int) - 1)=(j:Int) - 1:=IntWalk.i64_in _ wm;have hm2:((j:Int) - 1).toNat=j - 1:=wm;have hm3:(0:Int)<=(j:Int) - 1:=wm;have hm4:(j:Int) - 1<(aJ.length:Int):=wm;have hm5:(1:Int)<=(j:Int):=wm;obtain⟨sq,hsq⟩:=wV (⟨q.toArray⟩:ByteArray)
    obtain⟨sp,hsp⟩:=wV (⟨p.toArray⟩:ByteArray)
    rw [<-hsq]at c1;rw [<-hsp]at c0 HHX;have l1:Op.bytesLess sp.toList sq.toList=false:=by
     rw [hsp,hsq,ByteArray.toList_eq,ByteArray.toList_eq];exact yt hq
    have l2:(sp.toList==sq.toList)=false:=by
     rw [hsp,hsq,ByteArray.toList_eq,ByteArray.toList_eq,beq_eq_false_iff_ne];exact(yR hq).symm
    have HCL:=sqH (show ∀W,Below w0.heap.size w0 W->W.cell? ⟨w.heap.size,1,aC⟩=aD (ax (aD ⟨b,off,aC⟩) aJ.length ng) from fun W h=>(HX.o.below h).c1);have HBB:=sqH hbb;clear hsq hsp hq hcell hrd2 hbb;go_wp2_with fail;clear c0;refine wW HHX.o fun w5 hb5=>?_;dsimp only;have hb05:=wh hbl hb5;have c2:=(hb5.cell (p:=⟨b,off+(j - 1),aC⟩) HBB.o).trans c1;have x1:=HCL.o _ hb05;clear c1;go_wp2_with fail;go_roundg (aJ.length - (j+1))
    case measure=>have:=HGK.o;have:=HKL.o;omega
    case rel=>exact⟨j+1,rfl,by go_num,by have:=HKL.o;omega,hb05⟩
   ·have hkb:decide (0<(j:Int))=false:=decide_eq_false wm;have hkc:decide ((j:Int)>0)=false:=decide_eq_false wm;have hkd:decide (0<j)=false:=decide_eq_false hj00;clear hcell hrd2 hbb;go_wp2_with fail;refine wW HHX.o fun w5 hb5=>?_;dsimp only;have hb05:=wh hbl hb5;go_wp2_with fail;go_roundg (aJ.length - (j+1))
    case measure=>have:=HGK.o;have:=HKL.o;omega
    case rel=>exact⟨j+1,rfl,by go_num,by have:=HKL.o;omega,hb05⟩
 ·obtain rfl:=h5 wm;rcases h4 with rfl | h4
  ·clear h1 h2 h3 h5 h6 hgl hc;have hx:Arr (w.alloc (aB #[ay az 2,ax Ag 0 ng,aA ⟨#[]⟩] 37)) w.heap.size 37 [ay az 2,ax Ag 0 ng,aA ⟨#[]⟩]:=Arr.new w 37 _;have hb:=wj w (aB #[ay az 2,ax Ag 0 ng,aA ⟨#[]⟩] 37);obtain⟨x0,x1,x2⟩:=sqC3 hx;go_enter func78,ntmps78;go_wp2_with fail;go_loopg [46] 1 (fun gn i wr=>gn=1/\i= ay az 0/\Below w.heap.size w wr)
   case atStart=>exact⟨rfl,rfl,hb⟩
   case round =>
    obtain⟨hgk,rfl,hbl⟩:=hrel;clear hgk;go_wp2_with fail;go_ret;exact⟨rfl,hbl⟩
  ·clear h1 h2 h3 h5 h6 hgl hc;by_cases hem:at_= []
   ·subst hem;exact absurd h4 ws
   have HH:=fun W=>z3h at_ h4 W;have hne:(⟨at_.toArray⟩:ByteArray).toList.isEmpty=false:=by
    rw [ByteArray.toList_eq];cases at_ with
    | nil=>exact absurd rfl hem
    | cons a l=>rfl
   obtain⟨ds,hds⟩:=wV (⟨at_.toArray⟩:ByteArray)
   simp only [coV];rw [<-hds]at hne HH ⊢
   clear hds h4 hem;have HHX:=sqH HH;clear HH;have hx:Arr (w.alloc (aB #[ay az 2,ax Ag 0 ng,aA ds] 37)) w.heap.size 37 [ay az 2,ax Ag 0 ng,aA ds]:=Arr.new w 37 _;have hb:=wj w (aB #[ay az 2,ax Ag 0 ng,aA ds] 37);obtain⟨x0,x1,x2⟩:=sqC3 hx;go_enter func78,ntmps78;go_wp2_with fail;refine wW (HHX.o _) fun w5 hb5=>?_;dsimp only;have x0':=(hx.below hb5).c0;have x1':=(hx.below hb5).c1;have x2':=(hx.below hb5).c2;have hb05:=wh hb hb5;go_wp2_with fail;go_loopg [46] 1 (fun gn i wr=>gn=1/\i= ay az 0/\Below w.heap.size w wr)
   case atStart=>exact⟨rfl,rfl,hb05⟩
   case round =>
    obtain⟨hgk,rfl,hbl⟩:=hrel;clear hgk;go_wp2_with fail;go_ret;exact⟨rfl,hbl⟩
theorem X2 {d:ae} (h:StrL L (Rch bl [d])):((L.length:Int)==0)= !(bl.any (fun b=>b.dig==d)):=by
 cases ha:bl.any (fun b=>b.dig==d) with
 | true =>
  obtain⟨b,hb,e⟩:=List.any_eq_true.1 ha;have hm:=(h.mem d).2 (.root (List.mem_singleton.2 rfl) ⟨b,hb,by simpa using e⟩);have:=List.length_pos_of_mem hm;rw [beq_eq_false_iff_ne.2 wm];rfl
 | false =>
  have hn:L= []:=by
   cases L with
   | nil=>rfl
   | cons x L =>
    exfalso;have hx:=(h.mem x).1 wu;have key:∀y,Rch bl [d] y->InB bl d:=fun y hy=>by
     induction hy with
     | root h1 h2=>rw [List.mem_singleton]at h1;subst h1;exact h2
     | step _ _ _ ih=>exact ih
    obtain⟨b,hb,e⟩:=key x hx;have:=List.any_eq_false.1 ha b hb;simp [e]at this
  rw [hn];rfl
theorem J6 (gs c:Nat) (A:af) (bl:List BlobP) (d:ae) (w:World) (hl:bl.length<=1000) (hcap:bl.length<=c) (hcm:c<=maxLen) (hdig:∀x∈bl,x.dig.length<=1000) (hrd:Rw BlobS w A bl) (hx:w.cell? ⟨gs,0,aC⟩=aD (ax A bl.length c)) :
  Calls zZZ 83 #[aA ⟨d.toArray⟩,.pointer (aD ⟨gs,0,aC⟩)] w fun e w'=>e= .returned (.bool (!(bl.any (fun b=>b.dig==d))))/\Below w.heap.size w w':=by
 have hb1:=wj w (aB #[aA ⟨d.toArray⟩] 9);have hbx:Arr (w.alloc (aB #[aA ⟨d.toArray⟩] 9)) w.heap.size 9 (strs [d]):=Arr.new w 9 _;have HFR:=sqH (ZO A (aD ⟨w.heap.size,0,aC⟩) c 1 bl [d] _ hl hcap hcm hdig (hrd.below hb1) wu (Rd.of_arr hbx rfl rfl));clear hrd hbx;go_enter func83,ntmps83;go_wp2_with fail;refine HFR.o.mono ?_;rintro e_ w2 ⟨v,L,rfl,hL,hLl,hown,hb2⟩;dsimp only;obtain⟨Av,cv,rfl, -, -⟩:=Rd.of_own' hown;have hfn:=X2 hL;go_wp2_with fail;go_ret;rw [<-hfn];exact⟨rfl,wh hb1 hb2⟩
theorem K9 (w w0:World) (g:Option Nat) (gs c:Nat) (A:af) (bl:List BlobP) (l:List ae) (hl:bl.length<=1000) (hcap:bl.length<=c) (hcm:c<=maxLen) (hdig:∀x∈bl,x.dig.length<=1000) (hrd:Rw BlobS w0 A bl) (hx:w0.cell? ⟨gs,0,aC⟩=aD (ax A bl.length c)) (hgs:gs<w0.heap.size) (hB:∀W,w.grownBy W g->Below w0.heap.size w0 W) :
  Yt w g l 83 (.pointer (aD ⟨gs,0,aC⟩)) (fun d=> !(bl.any (fun b=>b.dig==d))):=by
 refine⟨fun _ _=>wo,fun b W _ hbel=> ?_⟩;have h:=hB W hbel;exact J6 gs c A bl b W hl hcap hcm hdig (hrd.below h) ((h.cell (p:=⟨gs,0,aC⟩) hgs).trans hx)
def prt (bl:List BlobP):List ae:=(bl.filter (·.mark)).flatMap fun b=>(ko b.data).1.map (·.dig)
theorem QR (bl:List BlobP) (k:Nat) (h:k<bl.length):prt (bl.take (k+1))=prt (bl.take k)++(if bl[k].mark then (ko bl[k].data).1.map (·.dig) else []):=by
 unfold prt;rw [List.take_succ_eq_append_getElem h,List.filter_append,List.flatMap_append]
 congr 1
 by_cases hp:bl[k].mark=true
 ·rw [if_pos hp,List.filter_cons_of_pos hp];simp
 ·rw [if_neg hp,List.filter_cons_of_neg hp];rfl
theorem XE (bl:List BlobP):∀k,k<=bl.length->(prt (bl.take k)).length<=8*k
 | 0,_=>by simp [prt]
 | k+1,h=>by
  have ih:=XE bl k wm
  rw [QR bl k wm,List.length_append]
  have:=yB (bl[k]'(by omega)).data
  split
  ·rw [List.length_map];omega
  ·simp only [List.length_nil];omega
theorem JB {cp:ColP} {R:List ae} (hg:GoodS s) (hc:GoodC s cp) (hp:cp.aK=1) (hR:StrL R (fun x=>x∈rts s)):∀x∈(R++prt s.aF).filter (fun d=> !(!(s.aF.any (fun b=>b.dig==d)))),x∈mkd s.aF++cp.aJ:=by
 intro x hx;obtain⟨h1,h2⟩:=List.mem_filter.1 hx;rw [Bool.not_not]at h2;obtain⟨b,hb,e⟩:=List.any_eq_true.1 h2;have hin:InB s.aF x:=⟨b,hb,by simpa using e⟩
 rw [List.mem_append];rcases List.mem_append.1 h1 with h | h
 ·exact hc.mr hp x ((hR.mem x).1 h) hin
 ·obtain⟨y,hy,hyx⟩:=List.mem_flatMap.1 h;obtain⟨hy1,hy2⟩:=List.mem_filter.1 hy;exact hc.mb hp y hy1 (by simpa using hy2) x (by rw [xl hg.b.ris hy1];exact hyx) hin
theorem zo (w:World) (e1 e2:TypeId) (c1 c2:ag):∃W,W=(w.alloc (.cells c1.toArray e1)).alloc (.cells c2.toArray e2)/\Arr W w.heap.size e1 c1/\Arr W (w.heap.size+1) e2 c2/\Below w.heap.size w W:=by
 have b1:=wj w (.cells c1.toArray e1);have a2:=Arr.new (w.alloc (.cells c1.toArray e1)) e2 c2;rw [World.size_alloc]at a2;exact⟨_,rfl,(Arr.new w e1 c1).alloc _,a2,b1.alloc b1.size _⟩
theorem ql (A:af) (c:Nat) (B:af) (d:Nat) (s:StoP) (Ag:af) (ng:Nat) (cp:ColP) (w:World) (hg:GoodS s) (hr:RdSt w A c B d s) (hgl:cp.aJ.length<=1000) (hgc:GoodC s cp) (hc:RdC w Ag ng cp) :
  Calls zZZ 36 #[.agg #[ax A s.aF.length c,ax B s.aG.length d,ay az s.aI,ay az s.aH],coV (ax Ag cp.aJ.length ng) cp] w fun e w'=>e= .returned (ay az 0)/\Below w.heap.size w w':=by
 have hlb:s.aF.length<=24:=hg.b.len;obtain⟨aK,aJ,at_⟩:=cp;have h1:=hgc.ph;simp only at h1 hgl;rcases (show aK=0\/aK=1\/aK=2 by omega) with rfl | rfl | rfl
 ·clear h1;obtain⟨w0,hw0,hS,hC,hb0⟩:=zo w 34 37 [ax A s.aF.length c,ax B s.aG.length d,ay az s.aI,ay az s.aH] [ay az 0,ax Ag (aJ).length ng,aA ⟨(at_).toArray⟩];have hr0:=hr.below hb0;obtain⟨H,hH⟩:=wV w.heap.size
  obtain⟨HCK,HSH,HMK,HRT,HAL,HDG⟩:=sqJ6 (zF A c B d s w0 hg hr0) (fun W (h:Below w0.heap.size w0 W)=>jn Ag ng ⟨0,aJ,at_⟩ s W hgl hgc ((hc.below hb0).below h)) (fun W (h:Below w0.heap.size w0 W)=>vH A c s.aF W wm (hr0.below h).b) (fun W (h:Below w0.heap.size w0 W)=>xb A B c d s (s.aI:Int) (s.aH:Int) W hg.rts (hr0.below h)) (fun W (h:Below w0.heap.size w0 W)=>Ql A B c d s (s.aI:Int) (s.aH:Int) W hg.rts (hr0.below h)) (show ∀x∈s.aF,x.dig.length<=1000 from fun x hx=>by rw [(hg.b.one x hx).1];have:=qJ (zn x.data);omega);have hcb:=hr0.bc;have hcm:=hr0.bm;obtain⟨HR0,HRC,HGD,HGC⟩:=sqJ4 hr0.b (hc.below hb0) hg hgc;rw [<-hH]at hS hC hb0 ⊢
  have hsz:H<=w0.heap.size:=by rw [hH]at hb0 ⊢;exact hb0.size
  have hHl:H+1<w0.heap.size:=hC.lt;obtain⟨x0,x1,x2,x3⟩:=sqC4 hS;rw [hw0,hH]at x0 x1 x2 x3;have HSX:=sqH hS;have HCX:=sqH hC;clear hg hr hgc hc hr0 hS hC;go_enter func36,ntmps36;go_wp2_with fail;rw [<-hw0,<-hH];have HH:=sqH hH;clear hw0 hH x0 x1 x2 x3;refine wW HCK.o fun w1 hb1=>?_;dsimp only;obtain⟨x0,x1,x2⟩:=sqC3 (HCX.o.below hb1);have z0:=(HSX.o.below hb1).c0;go_wp2_with fail;clear x0 x1 x2 z0;refine wW ((HSH.o _ hb1)) fun w2 hb2=>?_;dsimp only;have hb12:=wh hb1 hb2;obtain⟨x0,x1,x2⟩:=sqC3 (HCX.o.below hb12);obtain⟨z0,z1,z2,z3⟩:=sqC4 (HSX.o.below hb12);clear hb1 hb2;go_wp2_with fail;clear x0 x1 x2 z0 z1 z2 z3;refine((HMK.o _ hb12)).mono ?_;rintro e_ w3 ⟨v3,rfl,ho3,hb3⟩;dsimp only;have hb13:=wh hb12 hb3;obtain⟨x0,x1,x2⟩:=sqC3 (HCX.o.below hb13);obtain⟨z0,z1,z2,z3⟩:=sqC4 (HSX.o.below hb13);clear hb3;go_wp2_with fail;go_ret;exact⟨rfl,hb0.trans (hb13.mono hsz)⟩
 ·clear h1;obtain⟨w0,hw0,hS,hC,hb0⟩:=zo w 34 37 [ax A s.aF.length c,ax B s.aG.length d,ay az s.aI,ay az s.aH] [ay az 1,ax Ag (aJ).length ng,aA ⟨(at_).toArray⟩];have hr0:=hr.below hb0;obtain⟨H,hH⟩:=wV w.heap.size
  obtain⟨HCK,HSH,HMK,HRT,HAL,HDG⟩:=sqJ6 (zF A c B d s w0 hg hr0) (fun W (h:Below w0.heap.size w0 W)=>jn Ag ng ⟨1,aJ,at_⟩ s W hgl hgc ((hc.below hb0).below h)) (fun W (h:Below w0.heap.size w0 W)=>vH A c s.aF W wm (hr0.below h).b) (fun W (h:Below w0.heap.size w0 W)=>xb A B c d s (s.aI:Int) (s.aH:Int) W hg.rts (hr0.below h)) (fun W (h:Below w0.heap.size w0 W)=>Ql A B c d s (s.aI:Int) (s.aH:Int) W hg.rts (hr0.below h)) (show ∀x∈s.aF,x.dig.length<=1000 from fun x hx=>by rw [(hg.b.one x hx).1];have:=qJ (zn x.data);omega);have hcb:=hr0.bc;have hcm:=hr0.bm;obtain⟨HR0,HRC,HGD,HGC⟩:=sqJ4 hr0.b (hc.below hb0) hg hgc;rw [<-hH]at hS hC hb0 ⊢
  have hsz:H<=w0.heap.size:=by rw [hH]at hb0 ⊢;exact hb0.size
  have hHl:H+1<w0.heap.size:=hC.lt;obtain⟨x0,x1,x2,x3⟩:=sqC4 hS;rw [hw0,hH]at x0 x1 x2 x3;have HSX:=sqH hS;have HCX:=sqH hC;clear hg hr hgc hc hr0 hS hC;go_enter func36,ntmps36;go_wp2_with fail;rw [<-hw0,<-hH];have HH:=sqH hH;clear hw0 hH x0 x1 x2 x3;refine wW HCK.o fun w1 hb1=>?_;dsimp only;obtain⟨x0,x1,x2⟩:=sqC3 (HCX.o.below hb1);have z0:=(HSX.o.below hb1).c0;go_wp2_with fail;clear x0 x1 x2 z0;refine wW ((HSH.o _ hb1)) fun w2 hb2=>?_;dsimp only;have hb12:=wh hb1 hb2;obtain⟨x0,x1,x2⟩:=sqC3 (HCX.o.below hb12);obtain⟨z0,z1,z2,z3⟩:=sqC4 (HSX.o.below hb12);clear hb1 hb2;go_wp2_with fail;clear x0 x1 x2 z0 z1 z2 z3;refine((HMK.o _ hb12)).mono ?_;rintro e_ w3 ⟨v3,rfl,ho3,hb3⟩;dsimp only;have hb13:=wh hb12 hb3;obtain⟨x0,x1,x2⟩:=sqC3 (HCX.o.below hb13);obtain⟨z0,z1,z2,z3⟩:=sqC4 (HSX.o.below hb13);clear hb3;go_wp2_with fail;clear x0 x1 x2 z0 z1 z2 z3;refine((HRT.o _ hb13)).mono ?_;rintro e_ w4 ⟨v4,R4,rfl,hR4,hl4,ho4,hb4⟩;dsimp only;have hb14:=wh hb13 hb4;have ho34:=zc ho3 hb4;obtain⟨A4,c4,rfl,hc4,hr4⟩:=Rd.of_own' ho4;have HCN:=sqH (kJ A4 c4 R4 w4 wm hr4);have HSB:=sqH (JB HGD.o HGC.o rfl hR4);clear hr4 ho4 ho3 hb4 hR4;go_wp2_with fail;refine HCN.o.mono ?_;rintro e_ w5 ⟨v5,rfl,ho5,hb5⟩;dsimp only;have ho35:=zc ho34 hb5;have hb15:=wh hb14 hb5;obtain⟨z0,z1,z2,z3⟩:=sqC4 (HSX.o.below hb15);have h04:=hb14.size;have hb63:(s.aF.length:Int)<=9223372036854775807:=wm;have HO34:=sqH ho34;clear ho34 ho35 hb13 hb12 HRT HAL HMK HSH HCK HCN hb15;go_wp2_with fail;clear z0 z1 z2 z3;go_loopg [8,35] s.aF.length (fun gn u i wr=>∃(k:Nat) (vn:Value),gn=s.aF.length - k/\vn=u/\i= ay az k/\k<=s.aF.length/\wr.ownsRow w4.heap.size 9 1 vn (R4++prt (s.aF.take k)).length (strs (R4++prt (s.aF.take k)))/\Below w4.heap.size w4 wr)
  case atStart=>exact⟨0,_,rfl,rfl,rfl,wm,by rw [List.take_zero];simpa [prt] using ho5,hb5⟩
  case round =>
   clear ho5 hb5;obtain⟨k,vn,hgk,rfl,rfl,hk,hown,hbel⟩:=hrel;have HGK:=sqH hgk;clear hgk;have hpl:=XE s.aF k hk;have hb0r:=wh hb14 hbel;by_cases hlt:k<s.aF.length
   rotate_left
   ·obtain rfl:k=s.aF.length:=by omega
    have hlbb:decide (s.aF.length<s.aF.length)=false:=wu;rw [List.take_length]at hown hpl;have hmd:=Q6 s.aF;have hRl:(R4++prt s.aF).length<=1000:=by rw [List.length_append];omega
    obtain⟨HDL,HOR,HBO⟩:=sqJ3 (Jh w4.heap.size vn (R4++prt s.aF) _ (.pointer (aD ⟨H,0,aC⟩)) (fun d=> !(s.aF.any (fun b=>b.dig==d))) wr wm hown (K9 wr w4 vn.ownBlock H c A s.aF (R4++prt s.aF) wm hcb hcm HDG.o (HR0.o.below hb14) ((HSX.o.below hb14).c0) wm (fun W h=>zj hbel hown ac h))) (zj hbel hown ac (w':=wr) (World.grownBy.refl _ _)) (fun (W:World) (h:wr.grownBy W vn.ownBlock)=>zj hbel hown ac h);clear hown;go_wp2_with fail;refine HDL.o.mono ?_;rintro e_ w6 ⟨v6,rfl,ho6,hg6⟩;dsimp only;have hb46:=HBO.o w6 hg6;have hb16:=wh hb14 hb46;obtain⟨x0,x1,x2⟩:=sqC3 (HCX.o.below hb16);have hfl:((R4++prt s.aF).filter (fun d=> !(!(s.aF.any (fun b=>b.dig==d))))).length<=1000:=Nat.le_trans (List.length_filter_le _ _) hRl;have ho36:=zc HO34.o hb46;clear hbel hg6 hb0r HDL HOR HBO hpl hRl;generalize hF:((R4++prt s.aF).filter (fun d=> !(!(s.aF.any (fun b=>b.dig==d)))))=F at *
    obtain⟨A3,c3,rfl,hc3,hr3⟩:=Rd.of_own' ho36;obtain⟨A6,c6,rfl,hc6,hr6⟩:=Rd.of_own' ho6;have hrc:=HRC.o.below hb16;have hbq:=wj w6 (aB #[ax A3 (mkd s.aF).length c3,ax Ag aJ.length ng] 35);have hAq:Arr (w6.alloc (aB #[ax A3 (mkd s.aF).length c3,ax Ag aJ.length ng] 35)) w6.heap.size 35 [ax A3 (mkd s.aF).length c3,ax Ag aJ.length ng]:=Arr.new w6 35 _;have HCC:=sqH (uD w6.heap.size A3 Ag c3 ng (mkd s.aF) aJ _ hc3 hrc.cap wm wm (hAq.c0) (hAq.c1) (hr3.below hbq) (hrc.rd.below hbq));have HR6:=sqH (hr6.below hbq);have hb1q:=wh hb16 hbq;clear hr3 hr6 hrc hAq ho36 ho6 hbq;go_wp2_with fail;clear x0 x1 x2;generalize (w6.alloc (aB #[ax A3 (mkd s.aF).length c3,ax Ag aJ.length ng] 35))=wq at *
    refine HCC.o.mono ?_;rintro e_ w7 ⟨v7,rfl,ho7,hb7⟩;dsimp only;obtain⟨A7,c7,rfl,hc7,hr7⟩:=Rd.of_own' ho7;have hwt:=jZ A6 A7 c6 c7 F (mkd s.aF++aJ) w7 wm (by rw [List.length_append];omega) (HR6.o.below hb7) hr7 HSB.o;rw [List.length_append]at hwt;have HWT:=sqH hwt;clear hwt;have hb17:=wh hb1q hb7;clear hr7 ho7 hb7 HR6;go_wp2_with fail;refine wW HWT.o fun w8 hb8=>?_;dsimp only;have hb18:=wh hb17 hb8;go_wp2_with fail;go_ret;exact⟨rfl,hb0.trans (hb18.mono hsz)⟩
   have hlbb:decide (k<s.aF.length)=true:=decide_eq_true hlt;have hk0:=wY k
   have hk1:(k:Int)<(s.aF.length:Int):=wm;obtain⟨bq,oq,Bq,cq,hA,hbq,d0,d1,d2,d3,hsl⟩:=(HR0.o.below hb0r).blob_at k hlt;subst hA;have HSU:=sqH (QR s.aF k hlt);have HKL:=sqH hlt;generalize s.aF[k]=q at *
   generalize hqm:q.mark=qm at *
   have hbox:Arr (wr.alloc (aB #[aA ⟨q.dig.toArray⟩,ax Bq q.data.length cq,ay az q.aN,.bool qm] 76)) wr.heap.size 76 [aA ⟨q.dig.toArray⟩,ax Bq q.data.length cq,ay az q.aN,.bool qm]:=Arr.new wr 76 _;have hbA:=hbel.alloc hbel.size (aB #[aA ⟨q.dig.toArray⟩,ax Bq q.data.length cq,ay az q.aN,.bool qm] 76);have hbn:=wj wr (aB #[aA ⟨q.dig.toArray⟩,ax Bq q.data.length cq,ay az q.aN,.bool qm] 76);have hownA:=hown.alloc (aB #[aA ⟨q.dig.toArray⟩,ax Bq q.data.length cq,ay az q.aN,.bool qm] 76);have hslA:=hsl.below hbn;obtain⟨p0,p1,p2,p3⟩:=sqC4 hbox;clear hsl hown hbox hbn hb0r;cases qm with
   | false =>
    have hsu:=HSU.o;rw [if_neg ws,List.append_nil]at hsu;have HSV:=sqH hsu;have HOA:=sqH hownA;clear hsu hownA hslA;go_wp2_with fail;go_roundg (s.aF.length - (k+1))
    case measure=>have:=HGK.o;have:=HKL.o;omega
    case rel=>exact⟨k+1,_,rfl,rfl,by go_num,by have:=HKL.o;omega,by rw [HSV.o];exact HOA.o,hbA⟩
   | true =>
    have hsu:=HSU.o;rw [if_pos rfl]at hsu;have HPT:=vJ ⟨q.dig.toArray⟩ Bq q.data.length cq q.data (q.aN:Int) true _ rfl hslA.cap hslA.max hslA.rd;have hk8:(ko q.data).1.length<=8:=yB _;rw [vt]at HPT;have hkl:(ko q.data).1.length=((ko q.data).1.map (fun p:PartP=>p.dig)).length:=by rw [List.length_map]
    rw [hkl]at HPT hk8;generalize (ko q.data).1.map (fun p:PartP=>p.dig)=ks at *
    have HSV:=sqH hsu;have HPT':=sqH HPT;clear hsu HPT hkl hslA;go_wp2_with fail;clear d0 d1 d2 d3 p0 p1 p2 p3;generalize (wr.alloc (aB #[aA ⟨q.dig.toArray⟩,ax Bq q.data.length cq,ay az q.aN,.bool true] 76))=wA at *
    refine(HPT'.o).mono ?_;rintro e_ w8 ⟨v8,rfl,ho8,hb8⟩;dsimp only;obtain⟨A8,c8,rfl,_,hr8⟩:=Rd.of_own' ho8;have hown8:=zc hownA hb8;have hbA8:=wh hbA hb8;clear ho8 hb8 hownA hbA HPT';have hrl:(R4++prt (s.aF.take k)).length<=1000:=by rw [List.length_append];omega
    refine wH ?_;intros;refine zM rfl (.tmp 41) (.tmp 43) rfl uP ww hown8 ww hr8 (jN _) wm hbA8.size ?_;intro v9 w9 ho9 hg9 hv9;have hb9:=zj hbA8 hown8 ac hg9;have HO9:=sqH ho9;clear ho9 hg9 hv9 hown8 hr8;go_wp2_with fail;go_roundg (s.aF.length - (k+1))
    case measure=>have:=HGK.o;have:=HKL.o;omega
    case rel=>exact⟨k+1,_,rfl,rfl,by go_num,by have:=HKL.o;omega,by rw [HSV.o,<-List.append_assoc,vC (R4++prt (s.aF.take k)) ks,show((R4++prt (s.aF.take k))++ks).length=(R4++prt (s.aF.take k)).length+ks.length from List.length_append];exact HO9.o,hb9⟩
 ·clear h1;obtain⟨w0,hw0,hS,hC,hb0⟩:=zo w 34 37 [ax A s.aF.length c,ax B s.aG.length d,ay az s.aI,ay az s.aH] [ay az 2,ax Ag (aJ).length ng,aA ⟨(at_).toArray⟩];have hr0:=hr.below hb0;obtain⟨H,hH⟩:=wV w.heap.size
  obtain⟨HCK,HSH,HMK,HRT,HAL,HDG⟩:=sqJ6 (zF A c B d s w0 hg hr0) (fun W (h:Below w0.heap.size w0 W)=>jn Ag ng ⟨2,aJ,at_⟩ s W hgl hgc ((hc.below hb0).below h)) (fun W (h:Below w0.heap.size w0 W)=>vH A c s.aF W wm (hr0.below h).b) (fun W (h:Below w0.heap.size w0 W)=>xb A B c d s (s.aI:Int) (s.aH:Int) W hg.rts (hr0.below h)) (fun W (h:Below w0.heap.size w0 W)=>Ql A B c d s (s.aI:Int) (s.aH:Int) W hg.rts (hr0.below h)) (show ∀x∈s.aF,x.dig.length<=1000 from fun x hx=>by rw [(hg.b.one x hx).1];have:=qJ (zn x.data);omega);have hcb:=hr0.bc;have hcm:=hr0.bm;obtain⟨HR0,HRC,HGD,HGC⟩:=sqJ4 hr0.b (hc.below hb0) hg hgc;rw [<-hH]at hS hC hb0 ⊢
  have hsz:H<=w0.heap.size:=by rw [hH]at hb0 ⊢;exact hb0.size
  have hHl:H+1<w0.heap.size:=hC.lt;obtain⟨x0,x1,x2,x3⟩:=sqC4 hS;rw [hw0,hH]at x0 x1 x2 x3;have HSX:=sqH hS;have HCX:=sqH hC;clear hg hr hgc hc hr0 hS hC;go_enter func36,ntmps36;go_wp2_with fail;rw [<-hw0,<-hH];have HH:=sqH hH;clear hw0 hH x0 x1 x2 x3;refine wW HCK.o fun w1 hb1=>?_;dsimp only;obtain⟨x0,x1,x2⟩:=sqC3 (HCX.o.below hb1);have z0:=(HSX.o.below hb1).c0;go_wp2_with fail;clear x0 x1 x2 z0;refine wW ((HSH.o _ hb1)) fun w2 hb2=>?_;dsimp only;have hb12:=wh hb1 hb2;obtain⟨x0,x1,x2⟩:=sqC3 (HCX.o.below hb12);obtain⟨z0,z1,z2,z3⟩:=sqC4 (HSX.o.below hb12);clear hb1 hb2;go_wp2_with fail;clear x0 x1 x2 z0 z1 z2 z3;refine((HMK.o _ hb12)).mono ?_;rintro e_ w3 ⟨v3,rfl,ho3,hb3⟩;dsimp only;have hb13:=wh hb12 hb3;obtain⟨x0,x1,x2⟩:=sqC3 (HCX.o.below hb13);obtain⟨z0,z1,z2,z3⟩:=sqC4 (HSX.o.below hb13);clear hb3;go_wp2_with fail;clear x0 x1 x2 z0 z1 z2 z3;refine((HAL.o _ hb13)).mono ?_;rintro e_ w4 ⟨v4,L4,rfl,hL4,hl4,ho4,hb4⟩;dsimp only;have hb14:=wh hb13 hb4;have hml:=Q6 s.aF;obtain⟨A3,c3,rfl,hc3,hr3⟩:=Rd.of_own' (zc ho3 hb4);obtain⟨A4,c4,rfl,hc4,hr4⟩:=Rd.of_own' ho4;have hwt:=jZ A4 A3 c4 c3 L4 (mkd s.aF) w4 wm wm hr4 hr3 (fun x hx=>HGC.o.sw rfl x ((hL4.mem x).1 hx));have HWT:=sqH hwt;clear hwt hr3 hr4 ho3 ho4 hb4;go_wp2_with fail;refine wW HWT.o fun w5 hb5=>?_;dsimp only;have hb15:=wh hb14 hb5;go_wp2_with fail;go_ret;exact⟨rfl,hb0.trans (hb15.mono hsz)⟩
structure LoP where
 st:StoP
 co:ColP
 fs:List FlP
structure GoodL (l:LoP):Prop where
 s:GoodS l.st
 c:GoodC l.st l.co
 g:l.co.aJ.length<=1000
 f:GoodF l.fs
 no:∀j (h:j<l.fs.length),l.st.aG.findIdx? (fun x=>x.key==l.fs[j].key)=aC
structure LoW where
 X:af
 cX:Nat
 Y:af
 dY:Nat
 G:af
 ng:Nat
 F:af
 cF:Nat
structure RdLo (w:World) (p:LoW) (l:LoP):Prop where
 s:RdSt w p.X p.cX p.Y p.dY l.st
 c:RdC w p.G p.ng l.co
 f:Fls w p.F l.fs
 fc:l.fs.length<=p.cF
 fm:p.cF<=maxLen
theorem RdLo.below {w':World} {p:LoW} {l:LoP} (h:RdLo w p l) (hb:Below w.heap.size w w'):RdLo w' p l:=⟨h.s.below hb,h.c.below hb,h.f.below hb,h.fc,h.fm⟩
abbrev loC (p:LoW) (l:LoP):ag:= [ax p.X l.st.aF.length p.cX,ax p.Y l.st.aG.length p.dY,ay az l.st.aI,ay az l.st.aH,ay az l.co.aK,ax p.G l.co.aJ.length p.ng,aA ⟨l.co.at_.toArray⟩,ax p.F l.fs.length p.cF]
abbrev loV (p:LoW) (l:LoP):Value:= .agg #[ax p.X l.st.aF.length p.cX,ax p.Y l.st.aG.length p.dY,ay az l.st.aI,ay az l.st.aH,ay az l.co.aK,ax p.G l.co.aJ.length p.ng,aA ⟨l.co.at_.toArray⟩,ax p.F l.fs.length p.cF]
theorem uE (p:LoW) (l:LoP) (w:World) (hg:GoodL l) (hr:RdLo w p l) :
  Calls zZZ 17 #[loV p l] w fun e w'=>e= .returned (ay az 0)/\Below w.heap.size w w':=by
 have HR:=sqH hr;have HG:=sqH hg;clear hr hg;go_enter func17,ntmps17;obtain⟨X,cX,Y,dY,G,ng,F,cF⟩:=p;obtain⟨s,co,fs⟩:=l;have hbo:Arr (w.alloc (aB #[ax X s.aF.length cX,ax Y s.aG.length dY,ay az s.aI,ay az s.aH,ay az co.aK,ax G co.aJ.length ng,aA ⟨co.at_.toArray⟩,ax F fs.length cF] 40)) w.heap.size 40 (loC ⟨X,cX,Y,dY,G,ng,F,cF⟩ ⟨s,co,fs⟩):=Arr.new w 40 (loC ⟨X,cX,Y,dY,G,ng,F,cF⟩ ⟨s,co,fs⟩);have hba:=wj w (aB #[ax X s.aF.length cX,ax Y s.aG.length dY,ay az s.aI,ay az s.aH,ay az co.aK,ax G co.aJ.length ng,aA ⟨co.at_.toArray⟩,ax F fs.length cF] 40);go_wp2_with fail;generalize w.alloc (aB #[ax X s.aF.length cX,ax Y s.aG.length dY,ay az s.aI,ay az s.aH,ay az co.aK,ax G co.aJ.length ng,aA ⟨co.at_.toArray⟩,ax F fs.length cF] 40)=w1 at *
 have hr1:=HR.o.below hba;obtain⟨HCK,HFK,HR1,HBO,HBA⟩:=sqJ5 (ql X cX Y dY s G ng co w1 HG.o.s hr1.s HG.o.g HG.o.c hr1.c) (fun W (h:Below w1.heap.size w1 W)=>k6 F cF fs W HG.o.f (hr1.f.below h) hr1.fc hr1.fm) hr1 hbo hba;have hsz:w.heap.size<=w1.heap.size:=hba.size;clear hr1 hbo hba;refine wW HCK.o fun w2 hb2=>?_;dsimp only;have x7:=(HBO.o.below hb2).c7;go_wp2_with fail;refine wW (HFK.o w2 hb2) fun w3 hb3=>?_;dsimp only;have hb13:=wh hb2 hb3;clear x7;have x7:=(HBO.o.below hb13).c7;have HB13:=sqH hb13;clear hb2 hb3 hb13 HCK HFK;have hfc:(cF:Int)<=9223372036854775807:=by have h:cF<=maxLen:=HR1.o.fm;unfold maxLen at h;omega
 have hfcl:fs.length<=cF:=HR1.o.fc;have hsl:s.aG.length<=10:=HG.o.s.e.len;have HFE:=sqH (fun W (k:ae) (h:Below w1.heap.size w1 W)=>kD Y dY s.aG k W wm (HR1.o.s.below h).e);go_wp2_with fail;go_loopg [26] fs.length (fun gn u wr=>∃i:Nat,gn=fs.length - i/\u= ay az i/\i<=fs.length/\Below w1.heap.size w1 wr)
 case atStart=>exact⟨0,rfl,rfl,wm,HB13.o⟩
 case round =>
  obtain⟨i,hgk,rfl,hi,hbl⟩:=hrel;have HGK:=sqH hgk;clear hgk;by_cases hlt:i<fs.length
  ·have hcc:decide (i<fs.length)=true:=decide_eq_true hlt;have hci:decide ((i:Int)<(fs.length:Int))=true:=decide_eq_true wm;obtain⟨b,off,B,cb,rfl,hbb,c0,c1,c2, -⟩:=(HR1.o.f.below hbl).at_ i hlt;have hno:=HG.o.no i hlt;have hi0:=wY i
   have hi1:(i:Int)<(fs.length:Int):=wm;generalize fs[i]=fl at *
   obtain⟨k,ld,wt⟩:=fl;dsimp only at c0 c1 c2 hno;have hP:Arr (wr.alloc (aB #[aA ⟨k.toArray⟩,ay az ld,ax B wt.length cb] 93)) wr.heap.size 93 [aA ⟨k.toArray⟩,ay az ld,ax B wt.length cb]:=Arr.new wr 93 [aA ⟨k.toArray⟩,ay az ld,ax B wt.length cb];have hb1:=hbl.alloc hbl.size (aB #[aA ⟨k.toArray⟩,ay az ld,ax B wt.length cb] 93);have z0:=hP.c0;have x1:=(HBO.o.below hb1).c1;have HNO:=sqH hno;have HB1:=sqH hb1;clear hno hb1 hP x7;go_wp2_with fail;clear c0 c1 c2;generalize wr.alloc (aB #[aA ⟨k.toArray⟩,ay az ld,ax B wt.length cb] 93)=w4 at *
   refine wW (HFE.o w4 k HB1.o) fun w5 hb5=>?_;dsimp only;rw [HNO.o];dsimp only [xf];go_wp2_with fail;go_roundg (fs.length - (i+1))
   case measure=>exact wX HGK
   case rel=>exact⟨i+1,rfl,by go_num,wm,wh HB1.o hb5⟩
  ·obtain rfl:i=fs.length:=by omega
   have hcc:decide (fs.length<fs.length)=false:=wu;have hci:decide ((fs.length:Int)<(fs.length:Int))=false:=wu;go_wp2_with fail;go_ret;exact⟨rfl,wh HBA.o hbl⟩
def q9 (bl:List BlobP) (L:List ae):List BlobP:=bl.map fun b=>if b.dig∈L then { b with mark:=true } else b
theorem Xo (bl:List BlobP):q9 bl []=bl:=by simp [q9]
theorem qK (bl:List BlobP) (L:List ae):(q9 bl L).length=bl.length:=by simp [q9]
theorem uf (bl:List BlobP) (L:List ae):EqM bl (q9 bl L):=by
 unfold EqM q9;rw [List.map_map];refine List.map_congr_left fun b _=> ?_;show NoM b=NoM (if b.dig∈L then { b with mark:=true } else b);split<;>rfl
theorem vx (bl:List BlobP) (L:List ae) (i:Nat) (h:i<bl.length) (h':i<(q9 bl L).length):(q9 bl L)[i]=if bl[i].dig∈L then { bl[i] with mark:=true } else bl[i]:=by
 simp [q9]
theorem KG (hr:RisesBy (·.dig) bl) (L:List ae) (d:ae) (hi:i<(q9 bl L).length) (hd:(q9 bl L)[i].dig=d):(q9 bl L).set i { (q9 bl L)[i] with mark:=true }=q9 bl (L++ [d]):=by
 have hi':i<bl.length:=by rw [<-qK bl L];exact hi
 refine List.ext_getElem (by rw [List.length_set,qK,qK]) fun j h1 h2=> ?_;have hj:j<bl.length:=by rw [<-qK bl (L++ [d])];exact h2
 have hdi:∀k (h:k<bl.length) (h':k<(q9 bl L).length),(q9 bl L)[k].dig=bl[k].dig:=fun k h h'=>by
  rw [vx bl L k h h'];split<;>rfl
 rw [List.getElem_set,vx bl (L++ [d]) j hj h2];by_cases hij:i=j
 ·subst hij;rw [if_pos rfl,if_pos (by rw [<-hdi i hi' hi,hd];simp),vx bl L i hi' hi];split<;>rfl
 ·rw [if_neg hij,vx bl L j hj (by rw [qK];exact hj)];have hne:bl[j].dig≠d:=fun e=>by
   rw [<-hd,hdi i hi' hi]at e;have hnd:=hr.map.nodup;have:=(List.getElem_inj (xs:=bl.map (·.dig)) (i:=j) (j:=i) (h₀:=by simpa using hj) (h₁:=by simpa using hi') hnd).1 (by simpa using e);exact hij this.symm
  by_cases hm:bl[j].dig∈L
  ·rw [if_pos hm,if_pos (by simp [hm])]
  ·rw [if_neg hm,if_neg (by simp [hm,hne])]
theorem RwX.set1' {α:Type} {S:Shp α} {j:Nat} {u:Value} {y:α} {l:List α} {N:aj} (h:RwX S e w base (ax (aD ⟨g,0,aC⟩) n cap) l N) (hn:n=l.length) (hi:i<l.length) (hj:j<S.size)
  (hR:∀W cs,S.R W l[i] cs->S.R W y (cs.set j u)) (hlead:∀b,¬leads b [u]) :
  (∃v0,w.cell? ⟨g,i*S.size+j,aC⟩=aD v0)/\w.frozen? ⟨g,i*S.size+j,aC⟩=false /\
   RwX S e (w.setCell ⟨g,i*S.size+j,aC⟩ u) base (ax (aD ⟨g,0,aC⟩) n cap) (l.set i y) N/\w.grownBy (w.setCell ⟨g,i*S.size+j,aC⟩ u) (aD g):=by
 subst hn;exact h.set1 hi hj hR hlead
theorem Jm (A D:af) (c dc:Nat) (bl:List BlobP) (ds:List ae) (w:World) (hl:bl.length<=1000) (hcap:bl.length<=c) (hcm:c<=maxLen) (hri:RisesBy (·.dig) bl) (hdat:∀b∈bl,b.data.length<=1000000) (hdig:∀x∈bl,x.dig.length<=1000) (hrd:Rw BlobS w A bl) (hdn:ds.length<=1000000) (hrd2:Rd w 1 D ds.length (strs ds)) :
  Calls zZZ 168 #[ax A bl.length c,ax D ds.length dc] w fun e w'=>∃g L,e= .returned (ax (aD ⟨g,0,aC⟩) bl.length bl.length)/\StrL L (Rch bl ds)/\RwX BlobS 76 w' w.heap.size (ax (aD ⟨g,0,aC⟩) bl.length bl.length) (q9 bl L) (fun b=>b<w.heap.size)/\Below w.heap.size w w':=by
 obtain⟨HCP,HFR,HRI⟩:=sqJ3 (vk A c bl w wm hdat hrd) (fun W (h:Below w.heap.size w W)=>ZO A D c dc bl ds W hl hcap hcm hdig (hrd.below h) hdn (hrd2.below h)) hri;clear hdat hdig hrd hdn hrd2 hri;go_enter func168,ntmps168;go_wp2_with fail;refine HCP.o.mono ?_;rintro e_ w1 ⟨q1,rfl,hx1,hb1⟩;dsimp only;have HF1:=sqH (HFR.o w1 hb1);clear HCP HFR;go_wp2_with fail;refine HF1.o.mono ?_;rintro e_ w2 ⟨v2,L,rfl,hL,hLl,ho2,hb2⟩;dsimp only;obtain⟨AL,cL,rfl,_,hrL⟩:=Rd.of_own' ho2;have hLb:∀a,AL=aD a->w1.heap.size<=a.block:=fun a e=>by
  obtain⟨A',c',e1,_,h⟩:=Sl.of_own ho2;injection e1 with e1 _ _;exact h a (by rw [<-e1];exact e)
 have hx2:=hx1.below hb2;have hb12:=wh hb1 hb2;obtain⟨HRL,HL,HLB⟩:=sqJ3 hrL hL hLb;have hq1:q1<w1.heap.size:=(hx1.rwo.blk rfl).2;have hL63:(L.length:Int)<=9223372036854775807:=wm;have hb63:(bl.length:Int)<=9223372036854775807:=wm;have hx2':RwX BlobS 76 w2 w.heap.size (ax (aD ⟨q1,0,aC⟩) bl.length bl.length) (q9 bl []) (fun b=>b<w.heap.size):=by rw [Xo];exact hx2
 clear hx1 hb1 hb2 ho2 hL hrL hx2 HF1 hLb;go_wp2_with fail;go_loopg [16] L.length (fun gn i wr=>∃k:Nat,gn=L.length - k/\i= ay az k/\k<=L.length/\RwX BlobS 76 wr w.heap.size (ax (aD ⟨q1,0,aC⟩) bl.length bl.length) (q9 bl (L.take k)) (fun b=>b<w.heap.size)/\Below w.heap.size w wr/\w2.grownBy wr (aD q1))
 case atStart=>exact⟨0,rfl,rfl,wm,hx2',hb12,World.grownBy.refl _ _⟩
 case round =>
  obtain⟨k,hgk,rfl,hk,hx,hbk,hgr⟩:=hrel;have HGK:=sqH hgk;clear hgk hx2' hb12;by_cases hlt:k<L.length
  rotate_left
  ·obtain rfl:k=L.length:=by omega
   have hlb:decide (L.length<L.length)=false:=wu;rw [List.take_length]at hx;have HX:=sqH hx;clear hx;go_wp2_with fail;go_ret;exact⟨_,L,rfl,HL.o,HX.o,hbk⟩
  have hlb:decide (k<L.length)=true:=decide_eq_true hlt;have hk0:=wY k
  have hk1:(k:Int)<(L.length:Int):=wm;have hrLr:Rd wr 1 AL L.length (strs L):=HRL.o.keepb hgr.size (fun b hb ⟨a,e1,e2⟩=>hgr.block b hb (fun e=>by
   injection e with e;have:=HLB.o a e1;omega))
  obtain⟨bb,off,hAb,_,hcell⟩:=hrLr.2 wm;subst hAb;have c0:=hcell k _ (yh L k hlt);have hin:InB bl L[k]:=((HL.o.mem _).1 (List.getElem_mem hlt)).inB;have hin2:InB (q9 bl (L.take k)) L[k]:=(vU (uf bl (L.take k))).2 hin;obtain⟨i,hfi⟩:∃i,(q9 bl (L.take k)).findIdx? (fun b=>b.dig==L[k])=aD i:=by
   rw [jA]at hin2;exact Option.isSome_iff_exists.1 hin2
  have hi:i<(q9 bl (L.take k)).length:=(List.findIdx?_eq_some_iff_getElem.1 hfi).1;have hid:(q9 bl (L.take k))[i].dig=L[k]:=by simpa using (List.findIdx?_eq_some_iff_getElem.1 hfi).2.1
  have hib:i<bl.length:=by rw [<-qK bl (L.take k)];exact hi
  have hi0:=wY i
  have hi1:(i:Int)<(bl.length:Int):=wm;have hsn:=KG HRI.o (L.take k) L[k] hi hid;have htk:L.take k++ [L[k]]=L.take (k+1):=(List.take_succ_eq_append_getElem hlt).symm;rw [htk]at hsn;have hfb:=km (aD ⟨q1,0,aC⟩) bl.length (q9 bl (L.take k)) L[k] wr (by rw [qK];omega) (by
   obtain⟨A9,c9,e1,_,_,hrw⟩:=hx.rwo.rows;injection e1 with e1 _ _;subst e1;exact hrw)
  rw [hfi,qK]at hfb;obtain⟨HFB,HSN,HKL⟩:=sqJ3 hfb hsn hlt;generalize hLk:L[k]=dk at *
  clear hLk hfb hsn htk hfi hin hin2 hcell hid;go_wp2_with fail;clear c0;refine wW HFB.o fun w5 hb5=>?_;dsimp only;rw [xf];have hx5:=hx.below hb5;have hbk5:=wh hbk hb5;have hgr5:=zO hgr hb5;obtain⟨⟨v0,c3⟩,f3,hx6,hg6⟩:=hx5.set1' (i:=i) (j:=3) (y:= { (q9 bl (L.take k))[i] with mark:=true }) (u:= .bool true) (qK bl (L.take k)).symm hi (by show 3<4;omega) (fun W cs h=>vL _ true W cs h) (kI true);rw [HSN.o]at hx6;have hbk6:=hbk5.grown hg6 hbk5.size (fun b e=>by cases e;exact(hx5.rwo.blk rfl).1);obtain⟨HX6,HB6,HG6⟩:=sqJ3 hx6 hbk6 (hgr5.trans hg6);clear hx hx5 hx6 hbk hbk5 hbk6 hgr hgr5 hg6 hb5 hrLr;simp only [show BlobS.size=4 from rfl]at c3 f3 HX6 HB6 HG6;go_wp2_with fail;go_roundg (L.length - (k+1))
  case measure=>have:=HGK.o;have:=HKL.o;omega
  case rel=>exact⟨k+1,rfl,by go_num,by have:=HKL.o;omega,HX6.o,HB6.o,HG6.o⟩
noncomputable def QU (bl:List BlobP) (ds:List ae):List ae:=(bl.filter (fun b=> @decide (Rch bl ds b.dig) (Classical.propDecidable _))).map (·.dig)
theorem QP:x∈QU bl ds↔Rch bl ds x:=by
 unfold QU;rw [List.mem_map];constructor
 ·rintro⟨b,hb,rfl⟩;exact @of_decide_eq_true _ (Classical.propDecidable _) (List.mem_filter.1 hb).2
 ·intro h;obtain⟨b,hb,rfl⟩:=h.inB;exact⟨b,List.mem_filter.2 ⟨hb, @decide_eq_true _ (Classical.propDecidable _) h⟩,rfl⟩
theorem Un (hr:RisesBy (·.dig) bl) (ds:List ae):StrL (QU bl ds) (Rch bl ds):=by
 have h:Rises (QU bl ds):=by
  have:RisesBy (·.dig) (bl.filter (fun b=> @decide (Rch bl ds b.dig) (Classical.propDecidable _))):=List.Pairwise.filter _ hr;exact this.map
 exact⟨h.nodup,XL h,fun x=>QP⟩
noncomputable def zG (s:StoP) (c:ColP) (ds:List ae):StoP×ColP :=
 if c.aK=1 then (s,⟨1,uni (c.aJ++ds),c.at_⟩) else if c.aK=2 then ({ s with aF:=q9 s.aF (QU s.aF ds) },c) else (s,c)
theorem U2 (h:c.aK=0):zG s c ds=(s,c):=by unfold zG;rw [if_neg wm,if_neg wm]
theorem z1n (h:c.aK=1):zG s c ds=(s,⟨1,uni (c.aJ++ds),c.at_⟩):=by unfold zG;rw [if_pos h]
theorem z1o (h:c.aK=2):zG s c ds=({ s with aF:=q9 s.aF (QU s.aF ds) },c):=by unfold zG;rw [if_neg wm,if_pos h]
theorem U3 (s:StoP) (c:ColP) (ds:List ae):EqM s.aF (zG s c ds).1.aF:=by
 unfold zG;split
 ·exact EqM.rfl_ _
 ·split
  ·exact uf _ _
  ·exact EqM.rfl_ _
theorem kz (s:StoP) (c:ColP) (ds:List ae):(zG s c ds).1= { s with aF:=(zG s c ds).1.aF }:=by
 unfold zG;split
 ·rfl
 ·split<;>rfl
theorem ud (c:ColP) (ds:List ae) (hg:GoodS s):GoodS (zG s c ds).1:=by
 rw [kz];exact ju (U3 s c ds) hg
theorem Xp:x∈mkd (q9 bl L)↔x∈mkd bl\/(x∈L/\InB bl x):=by
 rw [qB,qB];unfold q9;constructor
 ·rintro⟨b,hb,hm,rfl⟩;obtain⟨a,ha,rfl⟩:=List.mem_map.1 hb;by_cases h:a.dig∈L
  ·rw [if_pos h];exact .inr ⟨h,a,ha,rfl⟩
  ·rw [if_neg h]at hm ⊢;exact .inl ⟨a,ha,hm,rfl⟩
 ·rintro(⟨b,hb,hm,rfl⟩ | ⟨hx,b,hb,rfl⟩)
  ·refine⟨_,List.mem_map.2 ⟨b,hb,rfl⟩,?_,?_⟩<;>split<;>first | rfl | exact hm
  ·exact⟨_,List.mem_map.2 ⟨b,hb,rfl⟩,by rw [if_pos hx],by rw [if_pos hx]⟩
theorem xI {t:StoP} (hc:GoodC s c) (hr:RisesBy (·.dig) s.aF) (hr':RisesBy (·.dig) t.aF)
  (hh:∀d∈ds,hexC d=0) (hrt:∀x∈rts t,x∈rts s\/x∈ds)
  (hin:∀x,InB t.aF x->InB s.aF x\/x∈ds)
  (hmk:∀x,x∈mkd t.aF↔x∈mkd s.aF)
  (hkd:∀x,InB s.aF x->kids t.aF x=kids s.aF x):GoodC (zG t c ds).1 (zG t c ds).2:=by
 by_cases h1:c.aK=1
 ·rw [z1n h1];refine⟨by show 1<=2;omega,fun d hd=> ?_,yy _,hc.ah,fun h=>absurd rfl h,fun _=>hc.a0 wm,fun _ x hx hb=> ?_,fun _ b hb hm x hx hi=> ?_,fun h=>by cases h⟩
  ·rcases List.mem_append.1 (yd.1 hd) with h | h
   ·exact hc.gh d h
   ·exact hh d h
  ·show x∈mkd t.aF\/x∈uni (c.aJ++ds);rw [yd,List.mem_append];rcases hrt x hx with h | h
   ·rcases hin x hb with h2 | h2
    ·rcases hc.mr h1 x h h2 with h3 | h3
     ·exact .inl ((hmk x).2 h3)
     ·exact .inr (.inl h3)
    ·exact .inr (.inr h2)
   ·exact .inr (.inr h)
  ·show x∈mkd t.aF\/x∈uni (c.aJ++ds);rw [yd,List.mem_append];have hbm:b.dig∈mkd s.aF:=(hmk _).1 (qB.2 ⟨b,hb,hm,rfl⟩);obtain⟨b',hb',hm',e⟩:=qB.1 hbm;have hx':x∈kids s.aF b'.dig:=by
    have h2:=hkd b'.dig ⟨b',hb',rfl⟩;rw [<-h2,e];exact hx
   rcases hin x hi with h2 | h2
   ·rcases hc.mb h1 b' hb' hm' x hx' h2 with h3 | h3
    ·exact .inl ((hmk x).2 h3)
    ·exact .inr (.inl h3)
   ·exact .inr (.inr h2)
 ·by_cases h2:c.aK=2
  ·rw [z1o h2];have hg0:=hc.g0 h1;refine⟨hc.ph,hc.gh,hc.ris,hc.ah,hc.g0,hc.a0,fun h=>absurd h h1,fun h=>absurd h h1,fun _ x hx=> ?_⟩;show x∈mkd (q9 t.aF (QU t.aF ds));have hE:EqM t.aF (q9 t.aF (QU t.aF ds)):=uf _ _;have hx':Rch t.aF (rts t) x:=by
    have:Rch (q9 t.aF (QU t.aF ds)) (rts { t with aF:=q9 t.aF (QU t.aF ds) }) x:=hx;rw [jv hE,YU hE]at this;exact this
   clear hx;rw [Xp];have key:Rch s.aF (rts s) x\/Rch t.aF ds x:=by
    induction hx' with
    | @root x h3 h4 =>
     rcases hrt x h3 with h | h
     ·rcases hin x h4 with h5 | h5
      ·exact .inl (.root h h5)
      ·exact .inr (.root h5 h4)
     ·exact .inr (.root h h4)
    | @step x y h3 h4 h5 ih =>
     rcases ih with ih | ih
     ·rw [hkd x ih.inB]at h4;rcases hin y h5 with h6 | h6
      ·exact .inl (.step ih h4 h6)
      ·exact .inr (.root h6 h5)
     ·exact .inr (.step ih h4 h5)
   rcases key with h | h
   ·exact .inl ((hmk x).2 (hc.sw h2 x h))
   ·exact .inr ⟨QP.2 h,h.inB⟩
  ·have h0:c.aK=0:=by have:=hc.ph;omega
   rw [U2 h0];exact⟨hc.ph,hc.gh,hc.ris,hc.ah,hc.g0,hc.a0,fun h=>absurd h h1,fun h=>absurd h h1,fun h=>absurd h h2⟩
theorem ue (s:StoP) (c:ColP) (ds:List ae):8*unm (zG s c ds).1.aF+(zG s c ds).2.aJ.length<=8*unm s.aF+c.aJ.length+ds.length:=by
 unfold zG;split
 ·have:=Qf (c.aJ++ds);rw [List.length_append]at this;show 8*unm s.aF+(uni (c.aJ++ds)).length<=_;omega
 ·split
  ·have h:unm (q9 s.aF (QU s.aF ds))<=unm s.aF:=by
    unfold unm q9;generalize QU s.aF ds=L;generalize s.aF=bl
    induction bl with
    | nil=>exact Nat.le_refl _
    | cons b bl ih =>
     rw [List.map_cons,List.filter_cons,List.filter_cons];by_cases hb:b.dig∈L
     ·rw [if_pos hb];cases hm:b.mark with
      | true=>simpa [hm] using ih
      | false=>simp only [hm];simp;omega
     ·rw [if_neg hb];cases hm:b.mark with
      | true=>simpa [hm] using ih
      | false=>simpa [hm] using ih
   show 8*unm (q9 s.aF _)+c.aJ.length<=_;omega
  ·show 8*unm s.aF+c.aJ.length<=_;omega
theorem VG (A:af) (c:Nat) (B:af) (d:Nat) (s:StoP) (Ag:af) (ng:Nat) (cp:ColP) (w:World) (hg:GoodS s) (hr:RdSt w A c B d s) (hp:cp.aK=2) (hgl:cp.aJ.length<=1000) (hgc:GoodC s cp) (hc:RdC w Ag ng cp) :
  Calls zZZ 16 #[.agg #[ax A s.aF.length c,ax B s.aG.length d,ay az s.aI,ay az s.aH],coV (ax Ag cp.aJ.length ng) cp] w fun e w' =>
   ∃v1 v2,e= .returned (.tuple #[stV v1 v2 s,coV (ax aC 0 0) (qY s cp).2.1,aA ⟨(qY s cp).2.2.toArray⟩,ay az 0])/\OwSt w' w.heap.size v1 v2 (qY s cp).1 (fun b=>b<w.heap.size)/\Below w.heap.size w w':=by
 have hlb:s.aF.length<=24:=hg.b.len;obtain⟨aK,aJ,at_⟩:=cp;simp only at hp hgl;subst hp;obtain⟨w0,hw0,hS,hC,hR,hD,hb0⟩:=qi w 34 37 [ax A s.aF.length c,ax B s.aG.length d,ay az s.aI,ay az s.aH] [ay az 2,ax Ag aJ.length ng,aA ⟨at_.toArray⟩] [ax aC 0 0,ax aC 0 0,ay az 0,ay az 0] [ay az 0,ax aC 0 0,aA ⟨#[]⟩];have hr0:=hr.below hb0;obtain⟨H,hH⟩:=wV w.heap.size
 have HCK:=sqH (ql A c B d s Ag ng ⟨2,aJ,at_⟩ w0 hg hr0 hgl hgc (hc.below hb0));have HST:=sqH (fun W (h:Below w0.heap.size w0 W)=>VC A c B d s Ag ng ⟨2,aJ,at_⟩ W hg (hr0.below h) rfl hgc);rw [<-hH]at hS hC hR hD hb0 ⊢
 have hHl:H+1+1+1<w0.heap.size:=hD.lt;obtain⟨x0,x1,x2,x3⟩:=sqC4 hS;obtain⟨y0,y1,y2⟩:=sqC3 hC;rw [hw0,hH]at x0 x1 x2 x3 y0 y1 y2;clear hg hr hgc hc hr0;go_enter func16,ntmps16;go_wp2_with fail;rw [<-hw0,<-hH];have HH:=sqH hH;clear hw0 hH x0 x1 x2 x3 y0 y1 y2;refine wW HCK.o fun w1 hb1=>?_;dsimp only;obtain⟨x0,x1,x2⟩:=sqC3 (hC.below hb1);obtain⟨z0,z1,z2,z3⟩:=sqC4 (hS.below hb1);clear HCK;go_wp2_with fail;clear x0 x1 x2 z0 z1 z2 z3;refine((HST.o _ hb1)).mono ?_;rintro e_ w2 ⟨v1,v2,rfl,ho,hb2⟩;dsimp only;have hb12:=wh hb1 hb2;obtain⟨A5,c5,B5,d5,e5,e6, -⟩:=ho.rows;generalize (qY s ⟨2,aJ,at_⟩).1.aF.length=n5 at e5;generalize (qY s ⟨2,aJ,at_⟩).1.aG.length=n6 at e6;subst e5 e6;have hR:=hR.below hb12;have hD:=hD.below hb12;have hB:=hb0.trans (hb12.mono (show H<=w0.heap.size by omega));have h01:=hb1.size;generalize hcq:(qY s ⟨2,aJ,at_⟩).2.1=cq at *
 generalize hdq:(qY s ⟨2,aJ,at_⟩).2.2=dq at *
 obtain⟨hF1,hF2,hF3,hF5⟩:=sqJ4 (qO (g:=H+1+1) (h:=H+1+1+1) (u0:= ax A5 n5 c5) (u1:= ax B5 n6 d5) (u2:= ay az s.aI) (u3:= ay az s.aH) (x0:= ay az cq.aK) (x1:= ax aC 0 0) (x2:= aA ⟨cq.at_.toArray⟩) hR wm) (qP (g:=H+1+1) (h:=H+1+1+1) (u0:= ax A5 n5 c5) (u1:= ax B5 n6 d5) (u2:= ay az s.aI) (u3:= ay az s.aH) (x0:= ay az cq.aK) (x1:= ax aC 0 0) (x2:= aA ⟨cq.at_.toArray⟩) hD wm) (qC (g:=H+1+1) (h:=H+1+1+1) (u0:= ax A5 n5 c5) (u1:= ax B5 n6 d5) (u2:= ay az s.aI) (u3:= ay az s.aH) (x0:= ay az cq.aK) (x1:= ax aC 0 0) (x2:= aA ⟨cq.at_.toArray⟩) ho wm wm (ho.nb hR ws ws).1 (ho.nb hR ws ws).2 (ho.nb hD ws ws).1 (ho.nb hD ws ws).2) (zK (g:=H+1+1) (h:=H+1+1+1) (u0:= ax A5 n5 c5) (u1:= ax B5 n6 d5) (u2:= ay az s.aI) (u3:= ay az s.aH) (x0:= ay az cq.aK) (x1:= ax aC 0 0) (x2:= aA ⟨cq.at_.toArray⟩) hB wm wm);obtain⟨f0,f1,f2,f3⟩:=sqF4 hR;obtain⟨y0,y1,y2,y3⟩:=sqC4 hR;obtain⟨e0,e1,e2⟩:=sqF3 hD;obtain⟨x0,x1,x2⟩:=sqC3 hD;clear hR hD ho hB hb12 hb2 hb0 hS hC HST;simp only [stV,coV];go_wp2_with fail;refine bodyPost_ret (zX rfl _ _ (H+1+1) (H+1+1+1) _ _ _ _ _ _ _ _ ww hF1.o underlying34 rfl wo ww hF2.o underlying37 rfl wo) rfl ?_;rw [hcq,hdq];exact⟨_,_,rfl,(hF3.o.lower wm).mono (fun b hb=>wm),hF5.o⟩
theorem VF (A:af) (c:Nat) (B:af) (d:Nat) (s:StoP) (Ag:af) (ng:Nat) (cp:ColP) (w:World) (hg:GoodS s) (hr:RdSt w A c B d s) (hp:cp.aK=1) (hgl:cp.aJ.length<=1000) (hgc:GoodC s cp) (hc:RdC w Ag ng cp) :
  Calls zZZ 16 #[.agg #[ax A s.aF.length c,ax B s.aG.length d,ay az s.aI,ay az s.aH],coV (ax Ag cp.aJ.length ng) cp] w fun e w' =>
   ∃v1 v2 v3,e= .returned (.tuple #[stV v1 v2 s,coV v3 (zS s cp).2,aA ⟨#[]⟩,ay az 0])/\OwSt w' w.heap.size v1 v2 (zS s cp).1 (fun b=>b<w.heap.size)/\w'.ownsRow w.heap.size 9 1 v3 (zS s cp).2.aJ.length (strs (zS s cp).2.aJ)/\Below w.heap.size w w':=by
 have hlb:s.aF.length<=24:=hg.b.len;obtain⟨aK,aJ,at_⟩:=cp;simp only at hp hgl;subst hp;obtain⟨w0,hw0,hS,hC,hR,hD,hb0⟩:=qi w 34 37 [ax A s.aF.length c,ax B s.aG.length d,ay az s.aI,ay az s.aH] [ay az 1,ax Ag aJ.length ng,aA ⟨at_.toArray⟩] [ax aC 0 0,ax aC 0 0,ay az 0,ay az 0] [ay az 0,ax aC 0 0,aA ⟨#[]⟩];have hr0:=hr.below hb0;obtain⟨H,hH⟩:=wV w.heap.size
 have HCK:=sqH (ql A c B d s Ag ng ⟨1,aJ,at_⟩ w0 hg hr0 hgl hgc (hc.below hb0));have HST:=sqH (fun W (h:Below w0.heap.size w0 W)=>Vx A c B d s Ag ng ⟨1,aJ,at_⟩ W hg (hr0.below h) rfl (hgc.a0 (by show ¬(1=2);omega)) hgl ((hc.below hb0).below h));rw [<-hH]at hS hC hR hD hb0 ⊢
 have hHl:H+1+1+1<w0.heap.size:=hD.lt;obtain⟨x0,x1,x2,x3⟩:=sqC4 hS;obtain⟨y0,y1,y2⟩:=sqC3 hC;rw [hw0,hH]at x0 x1 x2 x3 y0 y1 y2;clear hg hr hgc hc hr0;go_enter func16,ntmps16;go_wp2_with fail;rw [<-hw0,<-hH];have HH:=sqH hH;clear hw0 hH x0 x1 x2 x3 y0 y1 y2;refine wW HCK.o fun w1 hb1=>?_;dsimp only;obtain⟨x0,x1,x2⟩:=sqC3 (hC.below hb1);obtain⟨z0,z1,z2,z3⟩:=sqC4 (hS.below hb1);clear HCK;go_wp2_with fail;clear x0 x1 x2 z0 z1 z2 z3;refine((HST.o _ hb1)).mono ?_;rintro e_ w2 ⟨v1,v2,v3,rfl,ho,hl,hb2⟩;dsimp only;have hb12:=wh hb1 hb2;obtain⟨A5,c5,B5,d5,e5,e6, -⟩:=ho.rows;obtain⟨A6,n6,e7, -, -⟩:=Rd.of_own' hl;generalize hcq:(zS s ⟨1,aJ,at_⟩).2=cq at *
 generalize hsq:(zS s ⟨1,aJ,at_⟩).1=sq at *
 subst e5 e6 e7;have h01:=hb1.size;have h02:=hb12.size;obtain⟨W3,hW3,hX3,hY3,hb3⟩:=zo w2 34 37 [ax A5 sq.aF.length c5,ax B5 sq.aG.length d5,ay az s.aI,ay az s.aH] [ay az cq.aK,ax A6 cq.aJ.length n6,aA ⟨cq.at_.toArray⟩];obtain⟨G,hG⟩:=wV w2.heap.size
 have hb13:=wh hb12 hb3;have ho:=ho.below hb3;have hl:=zc hl hb3;have hR:=hR.below hb13;have hD:=hD.below hb13;have hB:=hb0.trans (hb13.mono (show H<=w0.heap.size by omega));rw [<-hG]at hX3 hY3;have n1:¬(G=H+1+1):=wm;have n2:¬(G+1=H+1+1):=wm;have HG:=sqH hG;clear hb12 hb2 hb0 hS hC HST hb3 hb13 hG;have o1:=zg hl hR ws;have o2:=zg hl hD ws;obtain⟨hF1,hF2,hF3,hF4,hF5,HW⟩:=sqJ6 (qO (g:=H+1+1) (h:=H+1+1+1) (u0:= ax A5 sq.aF.length c5) (u1:= ax B5 sq.aG.length d5) (u2:= ay az s.aI) (u3:= ay az s.aH) (x0:= ay az cq.aK) (x1:= ax A6 cq.aJ.length n6) (x2:= aA ⟨cq.at_.toArray⟩) hR wm) (qP (g:=H+1+1) (h:=H+1+1+1) (u0:= ax A5 sq.aF.length c5) (u1:= ax B5 sq.aG.length d5) (u2:= ay az s.aI) (u3:= ay az s.aH) (x0:= ay az cq.aK) (x1:= ax A6 cq.aJ.length n6) (x2:= aA ⟨cq.at_.toArray⟩) hD wm) (qC (g:=H+1+1) (h:=H+1+1+1) (u0:= ax A5 sq.aF.length c5) (u1:= ax B5 sq.aG.length d5) (u2:= ay az s.aI) (u3:= ay az s.aH) (x0:= ay az cq.aK) (x1:= ax A6 cq.aJ.length n6) (x2:= aA ⟨cq.at_.toArray⟩) ho wm wm (ho.nb hR ws ws).1 (ho.nb hR ws ws).2 (ho.nb hD ws ws).1 (ho.nb hD ws ws).2) (qM (g:=H+1+1) (h:=H+1+1+1) (u0:= ax A5 sq.aF.length c5) (u1:= ax B5 sq.aG.length d5) (u2:= ay az s.aI) (u3:= ay az s.aH) (x0:= ay az cq.aK) (x1:= ax A6 cq.aJ.length n6) (x2:= aA ⟨cq.at_.toArray⟩) hl o1 o2) (zK (g:=H+1+1) (h:=H+1+1+1) (u0:= ax A5 sq.aF.length c5) (u1:= ax B5 sq.aG.length d5) (u2:= ay az s.aI) (u3:= ay az s.aH) (x0:= ay az cq.aK) (x1:= ax A6 cq.aJ.length n6) (x2:= aA ⟨cq.at_.toArray⟩) hB wm wm) hW3;clear hW3 o1 o2;go_wp2_with fail;rw [<-HW.o,<-HG.o];obtain⟨f0,f1,f2,f3⟩:=sqF4 hR;obtain⟨y0,y1,y2,y3⟩:=sqC4 hR;obtain⟨e0,e1,e2⟩:=sqF3 hD;obtain⟨x0,x1,x2⟩:=sqC3 hD;obtain⟨b0,b1,b2,b3⟩:=sqC4 hX3;obtain⟨c0,c1,c2⟩:=sqC3 hY3;clear hR hD ho hB hl hX3 hY3;go_region
 all_goals (try dsimp only [Exit.then])
 go_wp2_with fail;refine bodyPost_ret (zX rfl _ _ (H+1+1) (H+1+1+1) _ _ _ _ _ _ _ _ ww (Arr.drew hF1.o) underlying34 rfl wo ww (Arr.drew hF2.o) underlying37 rfl wo) rfl ?_;rw [hcq,hsq];exact⟨_,_,_,rfl,(hF3.o.drewX.lower wm).mono (fun b hb=>wm),zb hF4.o.drew wm,hF5.o.drew⟩
theorem uZ (s:StoP) (c:ColP):(qY s c).2.1.aJ= []:=by
 rcases yF s c with ⟨_,e⟩ | ⟨_,_,_,_,e⟩ | ⟨_,_,_,_,e⟩<;>rw [e]
theorem Vc (A:af) (c:Nat) (B:af) (d:Nat) (s:StoP) (Ag:af) (ng:Nat) (cp:ColP) (w:World) (hg:GoodS s) (hr:RdSt w A c B d s) (hp:cp.aK=1\/cp.aK=2) (hgl:cp.aJ.length<=1000) (hgc:GoodC s cp) (hc:RdC w Ag ng cp) :
  Calls zZZ 16 #[.agg #[ax A s.aF.length c,ax B s.aG.length d,ay az s.aI,ay az s.aH],coV (ax Ag cp.aJ.length ng) cp] w fun e w' =>
   ∃v1 v2 v3,e= .returned (.tuple #[stV v1 v2 s,coV v3 (qD s cp).2.1,aA ⟨(qD s cp).2.2.toArray⟩,ay az 0])/\OwSt w' w.heap.size v1 v2 (qD s cp).1 (fun b=>b<w.heap.size)/\w'.ownsRow w.heap.size 9 1 v3 (qD s cp).2.1.aJ.length (strs (qD s cp).2.1.aJ)/\Below w.heap.size w w':=by
 rcases hp with hp | hp
 ·have hT:qD s cp=((zS s cp).1,(zS s cp).2, []):=by unfold qD;rw [if_pos hp]
  rw [hT];refine(VF A c B d s Ag ng cp w hg hr hp hgl hgc hc).mono ?_;rintro e w' ⟨v1,v2,v3,he,h1,h2,h3⟩;exact⟨v1,v2,v3,he,h1,h2,h3⟩
 ·have hT:qD s cp=qY s cp:=by unfold qD;rw [if_neg wm]
  rw [hT];refine(VG A c B d s Ag ng cp w hg hr hp hgl hgc hc).mono ?_;rintro e w' ⟨v1,v2,he,h1,h3⟩;refine⟨v1,v2,ax aC 0 0,he,h1,?_,h3⟩;rw [uZ];exact World.ownsRow_nil _ _ _ _
theorem KQ (w:World) (e1 e2:TypeId) (c1 c2 c3:ag):∃W,W=((w.alloc (.cells c1.toArray e1)).alloc (.cells c2.toArray e2)).alloc (.cells c3.toArray e1)/\Arr W w.heap.size e1 c1/\Arr W (w.heap.size+1) e2 c2/\Arr W (w.heap.size+1+1) e1 c3/\Below w.heap.size w W:=by
 obtain⟨W2,h2,a1,a2,b2⟩:=zo w e1 e2 c1 c2;have a3:=Arr.new W2 e1 c3;have hs:W2.heap.size=w.heap.size+1+1:=by rw [h2];simp
 have b3:=wj W2 (.cells c3.toArray e1);rw [hs]at a3;exact⟨_,rfl,by rw [<-h2];exact a1.below b3,by rw [<-h2];exact a2.below b3,by rw [<-h2];exact a3,by rw [<-h2];exact wh b2 b3⟩
theorem ZE (s:StoP) (c:ColP):8*unm (qD s c).1.aF+(qD s c).2.1.aJ.length<=8*unm s.aF+c.aJ.length:=by
 unfold qD;split
 ·rcases Ud s c with h | h
  ·have:=KF (U5 s.aF) h;show 8*unm (zS s c).1.aF+(zS s c).2.aJ.length<=_;omega
  ·rcases kq s c with ⟨_,e⟩ | ⟨_,_,_,_,e⟩ | ⟨_,_,_,_,_,_,_,_,e⟩ | ⟨_,_,_,_,_,_,_,_,e⟩
   ·rw [e];show 8*unm s.aF+0<=_;omega
   all_goals rw [e]at h;cases h
 ·have h1:unm (qY s c).1.aF<=unm s.aF:=by
   rcases yF s c with ⟨_,e⟩ | ⟨_,_,_,_,e⟩ | ⟨_,_,_,_,e⟩
   ·rw [e];exact Nat.le_refl _
   ·rw [e];exact Nat.le_refl _
   ·rw [e];exact((List.eraseIdx_sublist _ _).filter _).length_le
  rw [uZ];show 8*unm (qY s c).1.aF+0<=_;omega
theorem uh {base' size' n':Nat} {v v':Value} {xs':ag} (h:w.ownsRow base e size v n xs) (h':w.ownsRow base' e' size' v' n' xs') (hne:e≠e'):∀b,v.ownBlock=aD b->v'.ownBlock≠aD b:=fun b hb hb'=>by
 rcases h.2 with ⟨rfl,_⟩ | ⟨g,cap,cur,rfl,_,h2,_⟩
 ·cases hb
 ·cases hb
  rcases h'.2 with ⟨rfl,_⟩ | ⟨g',cap',cur',rfl,_,h3,_⟩
  ·cases hb'
  ·cases hb'
   have h4:=Eq.trans (Eq.symm h2) h3
   simp only [Option.some.injEq,Obj.cells.injEq]at h4
   exact hne h4.2.1
structure RunC (w:World) (H K gs gc:Nat) (v1 v2 v3:Value) (Ag:af) (ng:Nat) (t:StoP) (cc:ColP) (g:List ae):Prop where
 bs:Arr w gs 34 [v1,v2,ay az t.aI,ay az t.aH]
 bc:Arr w gc 37 [ay az cc.aK,ax Ag cc.aJ.length ng,aA ⟨cc.at_.toArray⟩]
 st:OwSt w H v1 v2 t (fun b=>b<K\/b=gs\/v3.ownBlock=aD b)
 gr:RdC w Ag ng cc
 gone:w.ownsRow H 9 1 v3 g.length (strs g)
section
variable {w w':World} {H K gs gc:Nat} {v1 v2 v3 v3':Value} {Ag:af} {ng:Nat} {t:StoP} {cc:ColP} {g:List ae}
theorem RunC.below (h:RunC w H K gs gc v1 v2 v3 Ag ng t cc g) (hb:Below w.heap.size w w'):RunC w' H K gs gc v1 v2 v3 Ag ng t cc g:=⟨h.bs.below hb,h.bc.below hb,h.st.below hb,h.gr.below hb,zc h.gone hb⟩
theorem RunC.key (h:RunC w H K gs gc v1 v2 v3 Ag ng t cc g) {B:Nat} (hgr:∃vg,w.ownsRow B 9 1 vg cc.aJ.length (strs cc.aJ)/\vg= ax Ag cc.aJ.length ng) (hB:∀b,v3.ownBlock=aD b->b<B) {g':List ae} (ho:w'.ownsRow H 9 1 v3' g'.length (strs g')) (hg:w.grownBy w' v3.ownBlock) (hv:v3'.ownBlock=v3.ownBlock\/∃b,v3'.ownBlock=aD b/\w.heap.size<=b):RunC w' H K gs gc v1 v2 v3' Ag ng t cc g':=by
 obtain⟨xs,hx⟩:=h.st.b.own_m;obtain⟨ys,hy⟩:=h.st.e.own_m;have n1:=uh h.gone hx ws;have n2:=uh h.gone hy ws;have h1:OwSt w H v1 v2 t (fun b=>b<K\/b=gs\/v3'.ownBlock=aD b\/v3.ownBlock=aD b):=h.st.wider fun b hb=>by
  rcases hb with hb | hb | hb | hb
  ·exact .inl (.inl hb)
  ·exact .inl (.inr (.inl hb))
  ·rcases hv with e | ⟨b',e,hb'⟩
   ·exact .inl (.inr (.inr (by rw [<-e];exact hb)))
   ·rw [e]at hb;cases hb;exact .inr hb'
  ·exact .inl (.inr (.inr hb))
 have h2:OwSt w' H v1 v2 t (fun b=>b<K\/b=gs\/v3'.ownBlock=aD b\/v3.ownBlock=aD b) :=
  ⟨h1.b.other hg (fun b e=>n1 b e) (fun b e=> .inl (.inr (.inr (.inr e)))),h1.e.other hg (fun b e=>n2 b e) (fun b e=> .inl (.inr (.inr (.inr e)))),h1.ne⟩
 obtain⟨vg,hvg,rfl⟩:=hgr;have hvg':w'.ownsRow B 9 1 (ax Ag cc.aJ.length ng) cc.aJ.length (strs cc.aJ):=hvg.kept hg (by
  rcases hvg.2 with ⟨e2,_⟩ | ⟨g2,cap,cur,e2,h4,_⟩
  ·exact .inl (by rw [e2];rfl)
  ·refine .inr fun e=> ?_;rw [e2]at e;have h3:g2<B:=hB g2 e.symm;omega)
 obtain⟨_,_,e1,hgr2⟩:=RdC.of_own (c:=cc) hvg';cases e1
 exact⟨h.bs.grown hg (zg h.gone h.bs ws),h.bc.grown hg (zg h.gone h.bc ws),h2.mono (fun b hb=>hb.imp id fun h=>h.imp id .inl),hgr2,ho⟩
end
end Go.Proofs.YtaboknhfiijipaaGreat
