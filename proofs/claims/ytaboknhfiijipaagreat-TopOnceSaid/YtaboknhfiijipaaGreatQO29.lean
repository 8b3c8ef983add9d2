/- Lemmas, as stated. -/
import Derived.Test.YtaboknhfiijipaaGreatQO28
set_option linter.unusedVariables false
set_option linter.unusedSimpArgs false
set_option maxRecDepth 100000
set_option maxHeartbeats 16000000
open Go.Proofs.Tryz
open Go.Value renaming slice->aA,int->aB,string->aD
open Go.IntKind renaming i64->aC
open Option renaming none->aF,some->aG
open And renaming intro->aH
namespace Go.Proofs.YtaboknhfiijipaaGreat
open Go.RowKit Go.Maps
theorem z3d (g:Nat) (p:LoW) (l:LoP) (kd n:Nat) (dg D:ai) (ps:List PartP) (A:aj) (c:Nat) (A':aj) (c':Nat) (w:World) (hL:GoodL l) (hk:hexC dg=0) (hpz:chk ps=0) (hck:l.st.aK<1099511627776) (hlen:l.st.aJ.length<10) (h1:kd=5) (N:am) (hNg:N g) (hNw:∀b,N b->b<w.heap.size) (hb:DkB w g p l N) (hd:Sl w 1 A D.length c (bys D)) (hq:Sl w 3 A' ps.length c' (pcs ps)) :
  Calls Tryz.prog 67 #[.pointer (aG ⟨g,0,aF⟩),orV kd n dg D ps A c A' c'] w (k8 w g N (entD l ⟨kd,n,dg,D,ps⟩)):=by
 have k1:((kd:Int)==5)=true:=by rw [beq_iff_eq];omega
 have HK:=sqH h1;have HPX:=sqH (aH hk (aH hpz (aH hck hlen)));clear h1 hk hpz hck hlen;obtain⟨X,cX,Y,dY,G,ng,F,cF⟩:=p;obtain⟨s,co,fs⟩:=l;obtain⟨w0,H,HDK,HBC,hws,HBX,HD,HQ,hHw,hHw1,hgH,hHl,hgl,hgw,HP,HR,HL,HNW,x0,x1,x2,x3,x4,HW0,HH⟩:=Kz kd n dg D ps A c A' c' hL hNw hb hd hq;clear hb hd hq hL hNw;go_enter func67,ntmps67
 refine wM 3 ?_;intros;rw [<-HW0.o,<-HH.o];clear x0 x1 x2 x3 x4;have HPB:=sqH (fun W (h:Below w0.heap.size w0 W)=>Vr ⟨X,cX,Y,dY,G,ng,F,cF⟩ ⟨s,co,fs⟩ dg ps A' c' W HL.o (HDK.o W h).rd HPX.o.1 HPX.o.2.1 HPX.o.2.2.1 HPX.o.2.2.2 (HQ.o.below h));generalize hpb:Y1 ⟨s,co,fs⟩ dg ps=r at HPB;obtain⟨m,q⟩:=r;dsimp only at HPB;have HPD:=sqH hpb;clear hpb;obtain⟨HSB,HSG,HKP⟩:=sqJ3 (show ∀W,Below w0.heap.size w0 W->W.cell? ⟨H,2,aF⟩=aG (aD ⟨dg.toArray⟩)/\W.cell? ⟨H,4,aF⟩=aG (aA A' ps.length c') from fun W h=>⟨(HP.o W h).c2,(HP.o W h).c4⟩) (show ∀W W',Below w0.heap.size w0 W->W.grownBy W' (aG g)->W'.cell? ⟨H,2,aF⟩=aG (aD ⟨dg.toArray⟩)/\W'.cell? ⟨H,4,aF⟩=aG (aA A' ps.length c') from fun W W' h h'=>⟨((HP.o W h).grown h' af).c2,((HP.o W h).grown h' af).c4⟩) (fun (W:World) (h:Below w0.heap.size w0 W) (v1 v2 v3 v4:Value) (m:LoP) (q:Nat) (ho:q=0->OwLo W (g+1) v1 v2 v3 v4 m (fun b=>N b\/b=H+1)) (hb:DkB W g ⟨X,cX,Y,dY,G,ng,F,cF⟩ ⟨s,co,fs⟩ (fun b=>N b\/b=H+1))=>jp g ⟨X,cX,Y,dY,G,ng,F,cF⟩ ⟨s,co,fs⟩ v1 v2 v3 v4 m q W (fun b=>N b\/b=H+1) (.inl hNg) hb ho)
 iterate 1 (first | go_values | go_skip | go_guarded | go_step | go_upon | go_back)
 apply zD;intro REST;refine ze [13] (S:=(fun w'=>w'.cell? ⟨H,2,aF⟩=aG (aD ⟨dg.toArray⟩)/\w'.cell? ⟨H,4,aF⟩=aG (aA A' ps.length c'))) ww ?_ (fun hHeld=> ?_)
 ·exact HSB.o _ (Below.refl w0.heap.size w0).drew
 have hB:=(Below.refl w0.heap.size w0).drew;generalize w0.drew=wn0 at *
 refine wT 0 ?_;refine wT 1 ?_;refine wT 2 ?_;refine wT 3 ?_;refine wT 5 ?_;refine wS 6 ?_;refine wT 7 ?_;refine wS 8 ?_;refine za (rs:= [4]) ww ab ?_;refine z8.cons (o:=_) rfl (fun K hK=> ?_) ?_
 ·
  obtain⟨y0,y1,y2,y3,y4,y5,y6,y7⟩:=HBC.o _ hB;go_simp;clear y0 y1 y2 y3 y4 y5 y6 y7;refine wC hK (HSB.o _ hB) (fun W=>Below w0.heap.size w0 W) hB fun wn1 hF=> ?_;obtain⟨hHeld2,hF⟩:=hF;clear hB hHeld;have hHeld:=hHeld2;clear hHeld2;have hB:=hF;clear hK K
  try simp only [sqP]
  refine wX 9 fun K hK=>?_;go_simp;refine(HPB.o wn1 hB).mono ?_;rintro e5 w5 ⟨v1,v2,v3,v4,rfl,ho5,hb5⟩;obtain⟨⟨A1,c1,B1,d1,G1,n1,F1,f1⟩,rfl,rfl,rfl,rfl, -⟩:=ho5.rd;dsimp only;refine wC hK (HSB.o _ (wm hB hb5)) (fun W=>Below w0.heap.size w0 W/\OwLo W (g+1) (aA A1 m.st.aI.length c1) (aA B1 m.st.aJ.length d1) (aA G1 m.co.aM.length n1) (aA F1 m.fs.length f1) m (fun b=>N b\/b=H+1)) (by exact⟨wm hB hb5,ho5.at_ (by have:=hB.size;omega) (fun b hb=>by have:=hB.size;rcases hb with hb | hb;(have:=HNW.o b hb;omega);omega)⟩) fun wn2 hF=> ?_;clear hB hHeld hb5 ho5 hK K;obtain⟨hHeld,hB,ho⟩:=hF
  refine wT 10 ?_;refine wT 11 ?_;refine wX 12 fun K hK=>?_;go_simp;refine(HKP.o wn2 hB _ _ _ _ m q (fun _=>ho) ((HDK.o _ hB).mono (fun b hb=>hb.imp id (fun h=>wu)))).mono ?_;rintro e5 w5 ⟨rfl,hg5,hd5⟩;dsimp only;refine wC hK (HSG.o _ _ hB hg5) (fun W=>w.grownBy W (aG g)/\(∃p2,DkB W g p2 (xb ⟨s,co,fs⟩ m q) (fun b=>N b\/b=H+1))/\Arr W (H+1) 47 [aB aC 0,aD ⟨#[]⟩,aA aF 0 0,aA aF 0 0,aB aC 0,aA aF 0 0]) ⟨zP (HBX.o.trans (hB.mono wu)) hg5,hd5,(HR.o _ hB).grown hg5 af⟩ fun wn3 hF=> ?_;clear ho hB hHeld hg5 hd5 hK K;obtain⟨hHeld,hKg,hD,hR⟩:=hF
  try simp only [sqP]
  refine wW 13 fun K hK=>?_;obtain⟨z0,f0,z1,f1,z2,f2,z3,f3,z4,f4,z5,f5⟩:=wj hR;go_simp;clear z0 f0 z1 f1 z2 f2 z3 f3 z4 f4 z5 f5;refine wD hK (fun W=>w.grownBy W (aG g)/\(∃p2,DkB W g p2 (xb ⟨s,co,fs⟩ m q) (fun b=>N b\/b=H+1))/\Arr W (H+1) 47 [aB aC q,aD ⟨#[]⟩,aA aF 0 0,aA aF 0 0,aB aC 0,aA aF 0 0]) ⟨zl hKg wu _ _ _ _ _ _,hD.imp fun _ h=>h.set6 hR (.inr rfl) wu _ _ _ _ _ _,hR.all6 _ _ _ _ _ _⟩ fun wn4 hF=> ?_;clear hR hD hKg hHeld;obtain⟨hKg,hD,hR⟩:=hF;clear hK K
  try simp only [sqP]
  refine zo ww ?_ _
  try dsimp only [Exit.then]
  have hall:=aH hKg (aH hD hR);clear hR hD hKg;generalize wn4=wz at hall ⊢
  revert hall;revert wz;revert f1;revert F1;revert n1;revert G1;revert d1;revert B1;revert c1;revert A1;exact REST.o
 exact z8.nil;intro A1 c1 B1 d1 G1 n1 F1 f1 w3 hall;obtain⟨hKg,hD,hR⟩:=hall;have HX:=sqH (aH hD hKg);have HF:=sqH hR;clear hD hKg hR
 refine wL ?_;intros;refine bodyPost_ret (results_cell_row rfl _ _ (H+1) _ _ _ _ ac HF.o underlying47 rfl ww) rfl ?_;have e1:entD ⟨s,co,fs⟩ ⟨kd,n,dg,D,ps⟩=(xb ⟨s,co,fs⟩ m q,KL q):=by
  unfold entD;rw [if_pos (show kd=5 from HK.o)];dsimp only;rw [HPD.o]
 rw [e1];obtain⟨⟨p2,hD⟩,hK⟩:=HX.o;exact⟨_,_,_,rfl,hK,⟨p2,hD.mono fun b h=> .inl h⟩,.e_ q⟩
theorem z3e (g:Nat) (p:LoW) (l:LoP) (kd n:Nat) (dg D:ai) (ps:List PartP) (A:aj) (c:Nat) (A':aj) (c':Nat) (w:World) (hL:GoodL l) (hck:l.st.aK<1099511627776) (h1:kd=6) (N:am) (hNg:N g) (hNw:∀b,N b->b<w.heap.size) (hb:DkB w g p l N) (hd:Sl w 1 A D.length c (bys D)) (hq:Sl w 3 A' ps.length c' (pcs ps)) :
  Calls Tryz.prog 67 #[.pointer (aG ⟨g,0,aF⟩),orV kd n dg D ps A c A' c'] w (k8 w g N (entD l ⟨kd,n,dg,D,ps⟩)):=by
 have k1:((kd:Int)==5)=false:=by rw [beq_eq_false_iff_ne];omega
 have k2:((kd:Int)==6)=true:=by rw [beq_iff_eq];omega
 have HK:=sqH h1;have HPX:=sqH hck;clear h1 hck;obtain⟨X,cX,Y,dY,G,ng,F,cF⟩:=p;obtain⟨s,co,fs⟩:=l;obtain⟨w0,H,HDK,HBC,hws,HBX,HD,HQ,hHw,hHw1,hgH,hHl,hgl,hgw,HP,HR,HL,HNW,x0,x1,x2,x3,x4,HW0,HH⟩:=Kz kd n dg D ps A c A' c' hL hNw hb hd hq;clear hb hd hq hL hNw;go_enter func67,ntmps67
 refine wM 5 ?_;intros;rw [<-HW0.o,<-HH.o];clear x0 x1 x2 x3 x4;have HPB:=sqH (fun W (h:Below w0.heap.size w0 W)=>z49 X cX Y dY s W dg HL.o.s (HDK.o W h).rd.s HPX.o);generalize hpb:gtP s dg=r at HPB;obtain⟨t,p2,q⟩:=r;dsimp only at HPB;have HPD:=sqH hpb;clear hpb;have HSB:=sqH (show ∀W,Below w0.heap.size w0 W->(wI W g (aA X s.aI.length cX) (aA Y s.aJ.length dY) (aB aC s.aL) (aB aC s.aK))/\W.cell? ⟨H,2,aF⟩=aG (aD ⟨dg.toArray⟩) from fun W h=>by
  obtain⟨y0,y1,y2,y3,_⟩:=HBC.o W h;exact⟨⟨y0,y1,y2,y3⟩,(HP.o W h).c2⟩)
 iterate 1 (first | go_values | go_skip | go_guarded | go_step | go_upon | go_back)
 apply zD;intro REST;apply zD;intro Rb1;refine ze [13] (S:=(fun w'=>(wI w' g (aA X s.aI.length cX) (aA Y s.aJ.length dY) (aB aC s.aL) (aB aC s.aK))/\w'.cell? ⟨H,2,aF⟩=aG (aD ⟨dg.toArray⟩))) ww ?_ (fun hHeld=> ?_)
 ·exact HSB.o _ (((wo w0)).drew)
 have hB:=((wo w0)).drew;generalize w0.drew=wn0 at *
 refine wT 0 ?_;refine wT 1 ?_;refine wT 2 ?_;refine wT 3 ?_;refine wS 4 ?_;refine wT 5 ?_;refine wS 6 ?_;refine za (rs:= [7,12]) ww ab ?_;refine z8.cons (o:=_) rfl (fun K hK=> ?_) ?_
 ·
  go_simp;refine(HPB.o wn0 hB).mono ?_;rintro e5 w5 ⟨v1,v2,vp,rfl,ho5,hp5,hb5⟩;obtain⟨A1,c1,B1,d1,rfl,rfl, -⟩:=ho5.rows;obtain⟨P1,k1_,rfl, -, -⟩:=Rd.of_own' hp5;dsimp only;refine wC hK (HSB.o _ ((wm hB hb5))) (fun W=>Below w0.heap.size w0 W/\OwSt W w.heap.size (aA A1 t.aI.length c1) (aA B1 t.aJ.length d1) t (fun b=>(N b\/b=H+1))/\W.ownsRow w.heap.size 85 3 (aA P1 p2.length k1_) p2.length (pcs p2)) (by exact⟨wm hB hb5,(ho5.lower (base':=w.heap.size) (by have:=hB.size;omega)).mono (N':=(fun b=>(N b\/b=H+1))) (fun b hb=>by have:=hB.size;rcases hb with hb | hb;(have:=HNW.o b hb;omega);omega),zb hp5 (by have:=hB.size;omega)⟩) fun wn1 hF=> ?_;clear hB hHeld hb5 ho5 hp5 hK K;obtain⟨hHeld,hB,ho,hl⟩:=hF
  refine wT 8 ?_;refine wT 9 ?_;refine wT 10 ?_;refine wT 11 ?_;refine wX 12 fun K hK=>?_;obtain⟨g5,hge,hba,hn,hnl,hN⟩:=wG wn1 34 [aA aF 0 0,aA aF 0 0,aB aC 0,aB aC 0] hB.size;go_simp;rw [<-hge];clear hge;refine wC hK (HSB.o _ ((wm hB hba))) (fun W=>Below w0.heap.size w0 W/\Arr W g5 34 [aA aF 0 0,aA aF 0 0,aB aC 0,aB aC 0]/\w0.heap.size<=g5/\OwSt W w.heap.size (aA A1 t.aI.length c1) (aA B1 t.aJ.length d1) t (fun b=>(N b\/b=H+1)\/b=g5)/\W.ownsRow w.heap.size 85 3 (aA P1 p2.length k1_) p2.length (pcs p2)) ⟨wm hB hba,hn,hnl,(ho.wider (N':=(fun b=>(N b\/b=H+1)\/b=g5)) (fun b hb=>hb.elim (fun hb=> .inl hb) (fun hb=> .inr (hN _ hb)))).below hba,zc hl hba⟩ fun wn2 hF=> ?_;clear hl ho hB hHeld hba hn hnl hN hK K;obtain⟨hHeld,hB,h5,h5l,ho,hl⟩:=hF
  try simp only [sqP]
  have hall:=aH hB (aH h5 (aH h5l (aH ho (aH hl hHeld))));clear hHeld hl ho h5l h5 hB;generalize wn2=wz at hall ⊢
  revert hall;revert wz;revert g5;revert k1_;revert P1;revert d1;revert B1;revert c1;revert A1;exact Rb1.o
 refine z8.cons (o:=_) rfl (fun K hK=> ?_) ?_
 ·
  obtain⟨g5,hge,hba,hn,hnl,hN⟩:=wG wn0 34 [aA aF 0 0,aA aF 0 0,aB aC 0,aB aC 0] hB.size;go_simp;rw [<-hge];clear hge;refine wC hK (HSB.o _ ((wm hB hba))) (fun W=>Below w0.heap.size w0 W/\Arr W g5 34 [aA aF 0 0,aA aF 0 0,aB aC 0,aB aC 0]/\w0.heap.size<=g5) ⟨wm hB hba,hn,hnl⟩ fun wn3 hF=> ?_;clear hB hHeld hba hn hnl hN hK K;obtain⟨hHeld,hB,h5,h5l⟩:=hF
  try simp only [sqP]
  refine wX 7 fun K hK=>?_;go_simp;refine(HPB.o wn3 hB).mono ?_;rintro e5 w5 ⟨v1,v2,vp,rfl,ho5,hp5,hb5⟩;obtain⟨A1,c1,B1,d1,rfl,rfl, -⟩:=ho5.rows;obtain⟨P1,k1_,rfl, -, -⟩:=Rd.of_own' hp5;dsimp only;refine wC hK (HSB.o _ ((wm hB hb5))) (fun W=>Below w0.heap.size w0 W/\Arr W g5 34 [aA aF 0 0,aA aF 0 0,aB aC 0,aB aC 0]/\w0.heap.size<=g5/\OwSt W w.heap.size (aA A1 t.aI.length c1) (aA B1 t.aJ.length d1) t (fun b=>(N b\/b=H+1)\/b=g5)/\W.ownsRow w.heap.size 85 3 (aA P1 p2.length k1_) p2.length (pcs p2)) (by exact⟨wm hB hb5,h5.below hb5,h5l,(ho5.lower (base':=w.heap.size) (by have:=hB.size;omega)).mono (N':=(fun b=>(N b\/b=H+1)\/b=g5)) (fun b hb=>hb.elim (fun hb=>by have:=hB.size;rcases hb with hb | hb;(have:=HNW.o b hb;omega);omega) (fun hb=>(by rw [hb];exact h5.lt))),zb hp5 (by have:=hB.size;omega)⟩) fun wn4 hF=> ?_;clear h5l h5 hB hHeld hb5 ho5 hp5 hK K;obtain⟨hHeld,hB,h5,h5l,ho,hl⟩:=hF
  refine wT 8 ?_;refine wT 9 ?_;refine wT 10 ?_;refine wT 11 ?_;exact Rb1.o A1 c1 B1 d1 P1 k1_ g5 wn4 ⟨hB,h5,h5l,ho,hl,hHeld⟩
 exact z8.nil;intro A1 c1 B1 d1 P1 k1_ g5 wRb1 hall;obtain⟨hB,h5,h5l,ho,hl,hHeld⟩:=hall;refine za (rs:= [13]) ww ab ?_;refine z8.store (o:=_) rfl ac (fun K hK=> ?_) ?_
 ·
  have hqho:=ho.nb h5 aa aa;have hqhl:=zf hl h5 aa;obtain⟨z0,f0,z1,f1,z2,f2,z3,f3⟩:=wg h5;go_simp;clear z0 f0 z1 f1 z2 f2 z3 f3;refine wD hK (fun W=>Below w0.heap.size w0 W/\Arr W g5 34 [(aA A1 t.aI.length c1),(aA B1 t.aJ.length d1),aB aC t.aL,aB aC t.aK]/\w0.heap.size<=g5/\OwSt W w.heap.size (aA A1 t.aI.length c1) (aA B1 t.aJ.length d1) t (fun b=>(N b\/b=H+1)\/b=g5)/\W.ownsRow w.heap.size 85 3 (aA P1 p2.length k1_) p2.length (pcs p2)) ⟨((((hB).setCell (p:=⟨g5,0,aF⟩) h5l _).setCell (p:=⟨g5,1,aF⟩) h5l _).setCell (p:=⟨g5,2,aF⟩) h5l _).setCell (p:=⟨g5,3,aF⟩) h5l _,h5.all4 _ _ _ _,h5l,ho.set4N (.inr rfl) hqho.1 hqho.2 _ _ _ _,qA hl hqhl _ _ _ _⟩ fun wn5 hF=> ?_;clear hl ho h5l h5 hB hHeld;obtain⟨hB,h5,h5l,ho,hl⟩:=hF;clear hqho hqhl;clear hK K
  refine wT 14 ?_;refine wT 15 ?_;refine zo ww ?_ _
  try dsimp only [Exit.then]
  have hall:=aH hB (aH h5 (aH h5l (aH ho hl)));clear hl ho h5l h5 hB;generalize wn5=wz at hall ⊢
  revert hall;revert wz;revert g5;revert k1_;revert P1;revert d1;revert B1;revert c1;revert A1;exact REST.o
 exact z8.nil;intro A1 c1 B1 d1 P1 k1_ g5 w3 hall;obtain⟨hB,h5,h5l,ho,hl⟩:=hall;have HSB:=sqH (show ∀W,Below w3.heap.size w3 W->wI W g5 (aA A1 t.aI.length c1) (aA B1 t.aJ.length d1) (aB aC t.aL) (aB aC t.aK) from fun W h=>sqC4 (h5.below h));have HSG:=sqH (show ∀W W',Below w3.heap.size w3 W->W.grownBy W' (aG g)->wI W' g5 (aA A1 t.aI.length c1) (aA B1 t.aJ.length d1) (aB aC t.aL) (aB aC t.aK) from fun W W' h h'=>by
  have h6:=(h5.below h).grown h' af;exact sqC4 h6)
 have HSK:=sqH (show ∀W W':World,(wI W g5 (aA A1 t.aI.length c1) (aA B1 t.aJ.length d1) (aB aC t.aL) (aB aC t.aK))->Below W.heap.size W W'->wI W' g5 (aA A1 t.aI.length c1) (aA B1 t.aJ.length d1) (aB aC t.aL) (aB aC t.aK) from fun W W' h h'=>by have h2:=zR h' aF;exact⟨h2.cell h.1 ab,h2.cell h.2.1 ab,h2.cell h.2.2.1 ab,h2.cell h.2.2.2 ab⟩);have hot:=(ho.wider (N':=(fun b=>N b\/b=H+1\/w3.heap.size<=b)) (fun b hb=>hb.elim (fun h=> .inl (.inl (.inl h))) (fun h=>h.elim (fun h=> .inl (.inl (.inr h))) (fun h=> .inr h)))).lower (base':=g+1) wu;have HKP:=sqH (fun (W:World) (h:Below w3.heap.size w3 W)=>Ka g ⟨X,cX,Y,dY,G,ng,F,cF⟩ ⟨s,co,fs⟩ _ _ (aA G co.aM.length ng) t co q W (fun b=>N b\/b=H+1\/w3.heap.size<=b) (.inl hNg) ((HDK.o _ (wm hB h)).mono fun b hb=>hb.imp id fun h=>by(have:=hB.size;rcases h with h | h<;>omega)) (fun _=>⟨hot.below h,zc (HDK.o _ hB).own.c h⟩));have HBX3:=sqH (HBX.o.trans (hB.mono hws));have hws3:w.heap.size<=w3.heap.size:=Nat.le_trans hws hB.size;have hHl3:H+1<w3.heap.size:=Nat.lt_of_lt_of_le hHl hB.size;have hgl3:g<w3.heap.size:=wu;have hg5l:g5<w3.heap.size:=h5.lt;replace HR:=z1b HR hB;replace HBC:=z1b HBC hB;clear hot h5 ho hB;have hl0:=hl;clear hl h5l HPB
 refine wM 6 ?_;intros;iterate 1 (first | go_values | go_skip | go_guarded | go_step | go_upon | go_back)
 apply zD;intro REST2;apply zD;intro Rc1;apply zD;intro Rc2;refine ze [10] (S:=(fun w'=>wI w' g5 (aA A1 t.aI.length c1) (aA B1 t.aJ.length d1) (aB aC t.aL) (aB aC t.aK))) ww ?_ (fun hHeld=> ?_)
 ·exact HSB.o _ (Below.refl w3.heap.size w3).drew
 have hB:=(Below.refl w3.heap.size w3).drew;have hl:=zc hl0 (Below.refl w3.heap.size w3).drew;generalize w3.drew=wn0 at *
 refine wT 0 ?_;refine wS 1 ?_;refine wT 2 ?_;refine wT 3 ?_;refine wT 4 ?_;refine wT 5 ?_;refine wT 7 ?_;refine za (rs:= [6,9]) ww ab ?_;refine z8.cons (o:=_) rfl (fun K hK=> ?_) ?_
 ·
  obtain⟨y0,y1,y2,y3,y4,y5,y6,y7⟩:=HBC.o _ hB;go_simp;clear y0 y1 y2 y3 y4 y5 y6 y7;refine wC hK (HSB.o _ hB) (fun W=>Below w3.heap.size w3 W/\W.ownsRow w.heap.size 85 3 (aA P1 p2.length k1_) p2.length (pcs p2)) ⟨hB,hl⟩ fun wn1 hF=> ?_;clear hl hB hHeld hK K;obtain⟨hHeld,hB,hl⟩:=hF
  try simp only [sqP]
  refine za (rs:= [8,9]) ww ab ?_;refine z8.cons (o:=_) rfl (fun K hK=> ?_) ?_
  ·
   go_simp;refine(HKP.o wn1 hB).mono ?_;rintro e5 w5 ⟨rfl,hg5,hd5⟩;dsimp only;refine wC hK (HSG.o _ _ hB hg5) (fun W=>w.grownBy W (aG g)/\(∃p2,DkB W g p2 (zJ ⟨s,co,fs⟩ t co q) (fun b=>N b\/b=H+1\/w3.heap.size<=b))/\Arr W (H+1) 47 [aB aC 0,aD ⟨#[]⟩,aA aF 0 0,aA aF 0 0,aB aC 0,aA aF 0 0]/\w3.heap.size<=W.heap.size/\W.ownsRow w.heap.size 85 3 (aA P1 p2.length k1_) p2.length (pcs p2)) ⟨zP (HBX3.o.trans (hB.mono wu)) hg5,hd5,(HR.o _ hB).grown hg5 af,Nat.le_trans hB.size hg5.size,kg hl hg5 hgw⟩ fun wn2 hF=> ?_;clear hl hB hHeld hg5 hd5 hK K;obtain⟨hHeld,hKg,hD,hR,hKl,hl⟩:=hF
   try simp only [sqP]
   refine wX 9 fun K hK=>?_;have hba:=ws wn2 (.cells #[aB aC 0,aD ⟨#[]⟩,aA aF 0 0,aA aF 0 0,aB aC 0,aA aF 0 0] 47);have hn:=Arr.new wn2 47 [aB aC 0,aD ⟨#[]⟩,aA aF 0 0,aA aF 0 0,aB aC 0,aA aF 0 0];have hnl:w3.heap.size<=wn2.heap.size:=hKl;obtain⟨ga,hge⟩:=wY wn2.heap.size
   rw [<-hge]at hn hnl;go_simp;rw [<-hge];clear hge;refine wC hK (HSK.o _ _ hHeld hba) (fun W=>w.grownBy W (aG g)/\(∃p2,DkB W g p2 (zJ ⟨s,co,fs⟩ t co q) (fun b=>N b\/b=H+1\/w3.heap.size<=b))/\Arr W (H+1) 47 [aB aC 0,aD ⟨#[]⟩,aA aF 0 0,aA aF 0 0,aB aC 0,aA aF 0 0]/\Arr W ga 47 [aB aC 0,aD ⟨#[]⟩,aA aF 0 0,aA aF 0 0,aB aC 0,aA aF 0 0]/\w3.heap.size<=ga/\W.ownsRow w.heap.size 85 3 (aA P1 p2.length k1_) p2.length (pcs p2)) ⟨zO hKg hba,hD.imp fun _ h=>h.below hba,hR.below hba,hn,hnl,zc hl hba⟩ fun wn3 hF=> ?_;clear hl hKl hR hD hKg hHeld hba hn hnl hK K;obtain⟨hHeld,hKg,hD,hR,hA,hAl,hl⟩:=hF
   try simp only [sqP]
   have hall:=aH hKg (aH hD (aH hR (aH hA (aH hAl (aH hl hHeld)))));clear hHeld hl hAl hA hR hD hKg;generalize wn3=wz at hall ⊢
   revert hall;revert wz;revert ga;exact Rc1.o
  refine z8.cons (o:=_) rfl (fun K hK=> ?_) ?_
  ·
   have hba:=ws wn1 (.cells #[aB aC 0,aD ⟨#[]⟩,aA aF 0 0,aA aF 0 0,aB aC 0,aA aF 0 0] 47);have hn:=Arr.new wn1 47 [aB aC 0,aD ⟨#[]⟩,aA aF 0 0,aA aF 0 0,aB aC 0,aA aF 0 0];have hnl:w3.heap.size<=wn1.heap.size:=hB.size;obtain⟨ga,hge⟩:=wY wn1.heap.size
   rw [<-hge]at hn hnl;go_simp;rw [<-hge];clear hge;refine wC hK (HSB.o _ (wm hB hba)) (fun W=>Below w3.heap.size w3 W/\Arr W ga 47 [aB aC 0,aD ⟨#[]⟩,aA aF 0 0,aA aF 0 0,aB aC 0,aA aF 0 0]/\w3.heap.size<=ga/\W.ownsRow w.heap.size 85 3 (aA P1 p2.length k1_) p2.length (pcs p2)) ⟨wm hB hba,hn,hnl,zc hl hba⟩ fun wn4 hF=> ?_;clear hl hB hHeld hba hn hnl hK K;obtain⟨hHeld,hB,hA,hAl,hl⟩:=hF
   try simp only [sqP]
   have hall:=aH hB (aH hA (aH hAl (aH hl hHeld)));clear hHeld hl hAl hA hB;generalize wn4=wz at hall ⊢
   revert hall;revert wz;revert ga;exact Rc2.o
  exact z8.nil
 refine z8.cons (o:=_) rfl (fun K hK=> ?_) ?_
 ·
  have hba:=ws wn0 (.cells #[aB aC 0,aD ⟨#[]⟩,aA aF 0 0,aA aF 0 0,aB aC 0,aA aF 0 0] 47);have hn:=Arr.new wn0 47 [aB aC 0,aD ⟨#[]⟩,aA aF 0 0,aA aF 0 0,aB aC 0,aA aF 0 0];have hnl:w3.heap.size<=wn0.heap.size:=hB.size;obtain⟨ga,hge⟩:=wY wn0.heap.size
  rw [<-hge]at hn hnl;go_simp;rw [<-hge];clear hge;refine wC hK (HSB.o _ (wm hB hba)) (fun W=>Below w3.heap.size w3 W/\Arr W ga 47 [aB aC 0,aD ⟨#[]⟩,aA aF 0 0,aA aF 0 0,aB aC 0,aA aF 0 0]/\w3.heap.size<=ga/\W.ownsRow w.heap.size 85 3 (aA P1 p2.length k1_) p2.length (pcs p2)) ⟨wm hB hba,hn,hnl,zc hl hba⟩ fun wn5 hF=> ?_;clear hl hB hHeld hba hn hnl hK K;obtain⟨hHeld,hB,hA,hAl,hl⟩:=hF
  try simp only [sqP]
  refine wX 6 fun K hK=>?_;obtain⟨y0,y1,y2,y3,y4,y5,y6,y7⟩:=HBC.o _ hB;go_simp;clear y0 y1 y2 y3 y4 y5 y6 y7;refine wC hK (HSB.o _ hB) (fun W=>Below w3.heap.size w3 W/\Arr W ga 47 [aB aC 0,aD ⟨#[]⟩,aA aF 0 0,aA aF 0 0,aB aC 0,aA aF 0 0]/\w3.heap.size<=ga/\W.ownsRow w.heap.size 85 3 (aA P1 p2.length k1_) p2.length (pcs p2)) ⟨hB,hA,hAl,hl⟩ fun wn6 hF=> ?_;clear hl hAl hA hB hHeld hK K;obtain⟨hHeld,hB,hA,hAl,hl⟩:=hF
  try simp only [sqP]
  exact Rc2.o ga wn6 ⟨hB,hA,hAl,hl,hHeld⟩
 exact z8.nil;intro ga wRc2 hall;obtain⟨hB,hA,hAl,hl,hHeld⟩:=hall;refine za (rs:= [8]) ww ab ?_;refine z8.cons (o:=_) rfl (fun K hK=> ?_) ?_
 ·
  go_simp;refine(HKP.o wRc2 hB).mono ?_;rintro e5 w5 ⟨rfl,hg5,hd5⟩;dsimp only;refine wC hK (HSG.o _ _ hB hg5) (fun W=>w.grownBy W (aG g)/\(∃p2,DkB W g p2 (zJ ⟨s,co,fs⟩ t co q) (fun b=>N b\/b=H+1\/w3.heap.size<=b))/\Arr W (H+1) 47 [aB aC 0,aD ⟨#[]⟩,aA aF 0 0,aA aF 0 0,aB aC 0,aA aF 0 0]/\Arr W ga 47 [aB aC 0,aD ⟨#[]⟩,aA aF 0 0,aA aF 0 0,aB aC 0,aA aF 0 0]/\w3.heap.size<=ga/\W.ownsRow w.heap.size 85 3 (aA P1 p2.length k1_) p2.length (pcs p2)) ⟨zP (HBX3.o.trans (hB.mono wu)) hg5,hd5,(HR.o _ hB).grown hg5 af,hA.grown hg5 af,hAl,kg hl hg5 hgw⟩ fun wn7 hF=> ?_;clear hl hAl hA hB hHeld hg5 hd5 hK K;obtain⟨hHeld,hKg,hD,hR,hA,hAl,hl⟩:=hF
  try simp only [sqP]
  exact Rc1.o ga wn7 ⟨hKg,hD,hR,hA,hAl,hl,hHeld⟩
 exact z8.nil;intro ga wRc1 hall;obtain⟨hKg,hD,hR,hA,hAl,hl,hHeld⟩:=hall;refine za (rs:= [10]) ww ab ?_;refine z8.store (o:=_) rfl ac (fun K hK=> ?_) ?_
 ·
  obtain⟨z0,f0,z1,f1,z2,f2,z3,f3,z4,f4,z5,f5⟩:=wj hA;go_simp;clear z0 f0 z1 f1 z2 f2 z3 f3 z4 f4 z5 f5;refine wD hK (fun W=>w.grownBy W (aG g)/\(∃p2,DkB W g p2 (zJ ⟨s,co,fs⟩ t co q) (fun b=>N b\/b=H+1\/w3.heap.size<=b))/\Arr W (H+1) 47 [aB aC 0,aD ⟨#[]⟩,aA aF 0 0,aA aF 0 0,aB aC 0,aA aF 0 0]/\Arr W ga 47 [aB aC q,aD ⟨#[]⟩,aA aF 0 0,aA aF 0 0,aB aC 0,aA aF 0 0]/\w3.heap.size<=ga/\W.ownsRow w.heap.size 85 3 (aA P1 p2.length k1_) p2.length (pcs p2)) ⟨zl hKg wu _ _ _ _ _ _,hD.imp fun _ h=>h.set6 hA (.inr (.inr hAl)) wu _ _ _ _ _ _,((((((hR.other wu _).other wu _).other wu _).other wu _).other wu _).other wu _),hA.all6 _ _ _ _ _ _,hAl,qB hl (zf hl hA aa) _ _ _ _ _ _⟩ fun wn8 hF=> ?_;clear hl hAl hA hR hD hKg hHeld;obtain⟨hKg,hD,hR,hA,hAl,hl⟩:=hF;clear hK K
  try simp only [sqP]
  refine zo ww ?_ _
  try dsimp only [Exit.then]
  have hall:=aH hKg (aH hD (aH hR (aH hA (aH hAl hl))));clear hl hAl hA hR hD hKg;generalize wn8=wz at hall ⊢
  revert hall;revert wz;revert ga;exact REST2.o
 exact z8.nil;intro ga w4 hall;obtain⟨hKg,hD,hR,hA,hAl,hl⟩:=hall;have hA3:=hA.set (k:=3) ab (aA P1 p2.length k1_);have hR5:=hR.other (k:=3) (g':=ga) (show H+1≠ga by omega) (aA P1 p2.length k1_);have hl5:=zd (k:=3) (u:= aA P1 p2.length k1_) hl (zf hl hA aa);obtain⟨HL5,HX,HA3⟩:=sqJ3 hl5 (aH (hD.imp fun _ h=>h.set hA (.inr (.inr hAl)) (show g≠ga by omega) (aA P1 p2.length k1_) (k:=3)) (aH (zq (k:=3) (u:= aA P1 p2.length k1_) hKg (show w.heap.size<=ga by omega)) hR5)) hA3;have c3:=hA.c3;have q3:=hA.frozen 3;clear hA3 hR5 hl5 hl hl0 hA hR hD hKg hAl
 refine wN 8 ?_;intros;generalize w4.setCell ⟨ga,3,aF⟩ (aA P1 p2.length k1_)=w5 at *
 have hr3:=HX.o.2.2;have hz5:Arr w5 ga 47 [aB aC q,aD ⟨#[]⟩,aA aF 0 0,aA P1 p2.length k1_,aB aC 0,aA aF 0 0]:=HA3.o;clear c3 q3;obtain⟨z0,z1,z2,z3,z4,z5⟩:=sqC6 hz5;clear hz5;obtain⟨f0,f1,f2,f3,f4,f5⟩:=sqF6 hr3;obtain⟨y0,y1,y2,y3,y4,y5⟩:=sqC6 hr3;have HR3:=sqH hr3;have HF:=sqH (hr3.all6 (aB aC q) (aD ⟨#[]⟩) (aA aF 0 0) (aA P1 p2.length k1_) (aB aC 0) (aA aF 0 0));clear hr3
 refine wL ?_;intros;refine bodyPost_ret (results_cell_row rfl _ _ (H+1) _ _ _ _ ac HF.o underlying47 rfl ww) rfl ?_;have e1:entD ⟨s,co,fs⟩ ⟨kd,n,dg,D,ps⟩=(zJ ⟨s,co,fs⟩ t co q,⟨q, [], [],p2,0, []⟩):=by
  unfold entD;rw [if_neg (show ¬(kd=5) by have:=HK.o;omega),if_pos (show kd=6 from HK.o)];dsimp only;rw [HPD.o]
 rw [e1];obtain⟨⟨p',hd4⟩,hg5,hr5⟩:=HX.o;exact⟨_,_,_,rfl,zl hg5 hHw1 _ _ _ _ _ _,⟨p',(hd4.set6 hr5 (.inr (.inl rfl)) hgH _ _ _ _ _ _).mono fun b h=> .inl h⟩,⟨World.ownsRow_nil _ _ _ _,qB HL5.o (zf HL5.o hr5 aa) _ _ _ _ _ _,World.ownsRow_nil _ _ _ _⟩⟩
theorem z3f (g:Nat) (p:LoW) (l:LoP) (kd n:Nat) (dg D:ai) (ps:List PartP) (A:aj) (c:Nat) (A':aj) (c':Nat) (w:World) (hL:GoodL l) (h1:kd=7\/kd=8) (N:am) (hNg:N g) (hNw:∀b,N b->b<w.heap.size) (hb:DkB w g p l N) (hd:Sl w 1 A D.length c (bys D)) (hq:Sl w 3 A' ps.length c' (pcs ps)) :
  Calls Tryz.prog 67 #[.pointer (aG ⟨g,0,aF⟩),orV kd n dg D ps A c A' c'] w (k8 w g N (entD l ⟨kd,n,dg,D,ps⟩)):=by
 have k1:((kd:Int)==5)=false:=by rw [beq_eq_false_iff_ne];omega
 have k2:((kd:Int)==6)=false:=by rw [beq_eq_false_iff_ne];omega
 have k3:((kd:Int)==7)=decide (kd=7):=by rw [Bool.eq_iff_iff,beq_iff_eq,decide_eq_true_iff];omega
 have HK:=sqH h1;have HK3:=sqH k3;clear h1 k3;obtain⟨X,cX,Y,dY,G,ng,F,cF⟩:=p;obtain⟨s,co,fs⟩:=l;obtain⟨w0,H,HDK,HBC,hws,HBX,HD,HQ,hHw,hHw1,hgH,hHl,hgl,hgw,HP,HR,HL,HNW,x0,x1,x2,x3,x4,HW0,HH⟩:=Kz kd n dg D ps A c A' c' hL hNw hb hd hq;clear hb hd hq hL hNw;go_enter func67,ntmps67
 refine wM 9 ?_;intros;rw [<-HW0.o,<-HH.o];clear x0 x1 x2 x3 x4;have HPB:=sqH (fun W (h:Below w0.heap.size w0 W)=>z3g X cX Y dY s W dg (decide (kd=7)) HL.o.s (HDK.o W h).rd.s);rw [<-HK3.o]at HPB;generalize hpb:heP s dg ((kd:Int)==7)=r at HPB;obtain⟨t,q⟩:=r;dsimp only at HPB;have HPD:=sqH hpb;clear hpb;have HSB:=sqH (show ∀W,Below w0.heap.size w0 W->(wI W g (aA X s.aI.length cX) (aA Y s.aJ.length dY) (aB aC s.aL) (aB aC s.aK))/\W.cell? ⟨H,2,aF⟩=aG (aD ⟨dg.toArray⟩)/\W.cell? ⟨H,0,aF⟩=aG (aB aC kd) from fun W h=>by
  obtain⟨y0,y1,y2,y3,_⟩:=HBC.o W h;exact⟨⟨y0,y1,y2,y3⟩,(HP.o W h).c2,(HP.o W h).c0⟩)
 iterate 1 (first | go_values | go_skip | go_guarded | go_step | go_upon | go_back)
 apply zD;intro REST;apply zD;intro Rb1;refine ze [15] (S:=(fun w'=>(wI w' g (aA X s.aI.length cX) (aA Y s.aJ.length dY) (aB aC s.aL) (aB aC s.aK))/\w'.cell? ⟨H,2,aF⟩=aG (aD ⟨dg.toArray⟩)/\w'.cell? ⟨H,0,aF⟩=aG (aB aC kd))) ww ?_ (fun hHeld=> ?_)
 ·exact HSB.o _ (((wo w0)).drew)
 have hB:=((wo w0)).drew;generalize w0.drew=wn0 at *
 refine wT 0 ?_;refine wT 1 ?_;refine wT 2 ?_;refine wT 3 ?_;refine wS 4 ?_;refine wT 5 ?_;refine wS 6 ?_;refine wT 7 ?_;refine wS 8 ?_;refine wT 9 ?_;refine za (rs:= [10,14]) ww ab ?_;refine z8.cons (o:=_) rfl (fun K hK=> ?_) ?_
 ·
  go_simp;refine(HPB.o wn0 hB).mono ?_;rintro e5 w5 ⟨v1,v2,rfl,ho5,hb5⟩;obtain⟨A1,c1,B1,d1,rfl,rfl, -⟩:=ho5.rows;dsimp only;refine wC hK (HSB.o _ ((wm hB hb5))) (fun W=>Below w0.heap.size w0 W/\OwSt W w.heap.size (aA A1 t.aI.length c1) (aA B1 t.aJ.length d1) t (fun b=>(N b\/b=H+1))) (by exact⟨wm hB hb5,(ho5.lower (base':=w.heap.size) (by have:=hB.size;omega)).mono (N':=(fun b=>(N b\/b=H+1))) (fun b hb=>by have:=hB.size;rcases hb with hb | hb;(have:=HNW.o b hb;omega);omega)⟩) fun wn1 hF=> ?_;clear hB hHeld hb5 ho5 hK K;obtain⟨hHeld,hB,ho⟩:=hF
  refine wT 11 ?_;refine wT 12 ?_;refine wT 13 ?_;refine wX 14 fun K hK=>?_;obtain⟨g5,hge,hba,hn,hnl,hN⟩:=wG wn1 34 [aA aF 0 0,aA aF 0 0,aB aC 0,aB aC 0] hB.size;go_simp;rw [<-hge];clear hge;refine wC hK (HSB.o _ ((wm hB hba))) (fun W=>Below w0.heap.size w0 W/\Arr W g5 34 [aA aF 0 0,aA aF 0 0,aB aC 0,aB aC 0]/\w0.heap.size<=g5/\OwSt W w.heap.size (aA A1 t.aI.length c1) (aA B1 t.aJ.length d1) t (fun b=>(N b\/b=H+1)\/b=g5)) ⟨wm hB hba,hn,hnl,(ho.wider (N':=(fun b=>(N b\/b=H+1)\/b=g5)) (fun b hb=>hb.elim (fun hb=> .inl hb) (fun hb=> .inr (hN _ hb)))).below hba⟩ fun wn2 hF=> ?_;clear ho hB hHeld hba hn hnl hN hK K;obtain⟨hHeld,hB,h5,h5l,ho⟩:=hF
  try simp only [sqP]
  have hall:=aH hB (aH h5 (aH h5l (aH ho hHeld)));clear hHeld ho h5l h5 hB;generalize wn2=wz at hall ⊢
  revert hall;revert wz;revert g5;revert d1;revert B1;revert c1;revert A1;exact Rb1.o
 refine z8.cons (o:=_) rfl (fun K hK=> ?_) ?_
 ·
  obtain⟨g5,hge,hba,hn,hnl,hN⟩:=wG wn0 34 [aA aF 0 0,aA aF 0 0,aB aC 0,aB aC 0] hB.size;go_simp;rw [<-hge];clear hge;refine wC hK (HSB.o _ ((wm hB hba))) (fun W=>Below w0.heap.size w0 W/\Arr W g5 34 [aA aF 0 0,aA aF 0 0,aB aC 0,aB aC 0]/\w0.heap.size<=g5) ⟨wm hB hba,hn,hnl⟩ fun wn3 hF=> ?_;clear hB hHeld hba hn hnl hN hK K;obtain⟨hHeld,hB,h5,h5l⟩:=hF
  try simp only [sqP]
  refine wX 10 fun K hK=>?_;go_simp;refine(HPB.o wn3 hB).mono ?_;rintro e5 w5 ⟨v1,v2,rfl,ho5,hb5⟩;obtain⟨A1,c1,B1,d1,rfl,rfl, -⟩:=ho5.rows;dsimp only;refine wC hK (HSB.o _ ((wm hB hb5))) (fun W=>Below w0.heap.size w0 W/\Arr W g5 34 [aA aF 0 0,aA aF 0 0,aB aC 0,aB aC 0]/\w0.heap.size<=g5/\OwSt W w.heap.size (aA A1 t.aI.length c1) (aA B1 t.aJ.length d1) t (fun b=>(N b\/b=H+1)\/b=g5)) (by exact⟨wm hB hb5,h5.below hb5,h5l,(ho5.lower (base':=w.heap.size) (by have:=hB.size;omega)).mono (N':=(fun b=>(N b\/b=H+1)\/b=g5)) (fun b hb=>hb.elim (fun hb=>by have:=hB.size;rcases hb with hb | hb;(have:=HNW.o b hb;omega);omega) (fun hb=>(by rw [hb];exact h5.lt)))⟩) fun wn4 hF=> ?_;clear h5l h5 hB hHeld hb5 ho5 hK K;obtain⟨hHeld,hB,h5,h5l,ho⟩:=hF
  refine wT 11 ?_;refine wT 12 ?_;refine wT 13 ?_;exact Rb1.o A1 c1 B1 d1 g5 wn4 ⟨hB,h5,h5l,ho,hHeld⟩
 exact z8.nil;intro A1 c1 B1 d1 g5 wRb1 hall;obtain⟨hB,h5,h5l,ho,hHeld⟩:=hall;refine za (rs:= [15]) ww ab ?_;refine z8.store (o:=_) rfl ac (fun K hK=> ?_) ?_
 ·
  have hqho:=ho.nb h5 aa aa;obtain⟨z0,f0,z1,f1,z2,f2,z3,f3⟩:=wg h5;go_simp;clear z0 f0 z1 f1 z2 f2 z3 f3;refine wD hK (fun W=>Below w0.heap.size w0 W/\Arr W g5 34 [(aA A1 t.aI.length c1),(aA B1 t.aJ.length d1),aB aC t.aL,aB aC t.aK]/\w0.heap.size<=g5/\OwSt W w.heap.size (aA A1 t.aI.length c1) (aA B1 t.aJ.length d1) t (fun b=>(N b\/b=H+1)\/b=g5)) ⟨((((hB).setCell (p:=⟨g5,0,aF⟩) h5l _).setCell (p:=⟨g5,1,aF⟩) h5l _).setCell (p:=⟨g5,2,aF⟩) h5l _).setCell (p:=⟨g5,3,aF⟩) h5l _,h5.all4 _ _ _ _,h5l,ho.set4N (.inr rfl) hqho.1 hqho.2 _ _ _ _⟩ fun wn5 hF=> ?_;clear ho h5l h5 hB hHeld;obtain⟨hB,h5,h5l,ho⟩:=hF;clear hqho;clear hK K
  refine wT 16 ?_;refine zo ww ?_ _
  try dsimp only [Exit.then]
  have hall:=aH hB (aH h5 (aH h5l ho));clear ho h5l h5 hB;generalize wn5=wz at hall ⊢
  revert hall;revert wz;revert g5;revert d1;revert B1;revert c1;revert A1;exact REST.o
 exact z8.nil;intro A1 c1 B1 d1 g5 w3 hall;obtain⟨hB,h5,h5l,ho⟩:=hall;have HSB:=sqH (show ∀W,Below w3.heap.size w3 W->wI W g5 (aA A1 t.aI.length c1) (aA B1 t.aJ.length d1) (aB aC t.aL) (aB aC t.aK) from fun W h=>sqC4 (h5.below h));have HSG:=sqH (show ∀W W',Below w3.heap.size w3 W->W.grownBy W' (aG g)->wI W' g5 (aA A1 t.aI.length c1) (aA B1 t.aJ.length d1) (aB aC t.aL) (aB aC t.aK) from fun W W' h h'=>by
  have h6:=(h5.below h).grown h' af;exact sqC4 h6)
 have HSK:=sqH (show ∀W W':World,(wI W g5 (aA A1 t.aI.length c1) (aA B1 t.aJ.length d1) (aB aC t.aL) (aB aC t.aK))->Below W.heap.size W W'->wI W' g5 (aA A1 t.aI.length c1) (aA B1 t.aJ.length d1) (aB aC t.aL) (aB aC t.aK) from fun W W' h h'=>by have h2:=zR h' aF;exact⟨h2.cell h.1 ab,h2.cell h.2.1 ab,h2.cell h.2.2.1 ab,h2.cell h.2.2.2 ab⟩);have hot:=(ho.wider (N':=(fun b=>N b\/b=H+1)) (fun b hb=> .inl (.inl hb))).lower (base':=g+1) wu;have HKP:=sqH (fun (W:World) (h:Below w3.heap.size w3 W)=>Ka g ⟨X,cX,Y,dY,G,ng,F,cF⟩ ⟨s,co,fs⟩ _ _ (aA G co.aM.length ng) t co q W (fun b=>N b\/b=H+1) (.inl hNg) ((HDK.o _ (wm hB h)).mono fun b hb=>hb.imp id fun h=>wu) (fun _=>⟨hot.below h,zc (HDK.o _ hB).own.c h⟩));have HBX3:=sqH (HBX.o.trans (hB.mono hws));have hws3:w.heap.size<=w3.heap.size:=Nat.le_trans hws hB.size;have hHl3:H+1<w3.heap.size:=Nat.lt_of_lt_of_le hHl hB.size;have hgl3:g<w3.heap.size:=wu;have hg5l:g5<w3.heap.size:=h5.lt;replace HR:=z1b HR hB;replace HBC:=z1b HBC hB;clear hot h5 ho hB;clear h5l HPB
 refine wM 10 ?_;intros;iterate 1 (first | go_values | go_skip | go_guarded | go_step | go_upon | go_back)
 apply zD;intro REST2;refine ze [9] (S:=(fun w'=>wI w' g5 (aA A1 t.aI.length c1) (aA B1 t.aJ.length d1) (aB aC t.aL) (aB aC t.aK))) ww ?_ (fun hHeld=> ?_)
 ·exact HSB.o _ (Below.refl w3.heap.size w3).drew
 have hB:=(Below.refl w3.heap.size w3).drew;generalize w3.drew=wn0 at *
 refine wT 0 ?_;refine wS 1 ?_;refine wT 2 ?_;refine wT 3 ?_;refine wT 4 ?_;refine wT 5 ?_;refine wT 7 ?_;refine za (rs:= [6]) ww ab ?_;refine z8.cons (o:=_) rfl (fun K hK=> ?_) ?_
 ·
  obtain⟨y0,y1,y2,y3,y4,y5,y6,y7⟩:=HBC.o _ hB;go_simp;clear y0 y1 y2 y3 y4 y5 y6 y7;refine wC hK (HSB.o _ hB) (fun W=>Below w3.heap.size w3 W) hB fun wn1 hF=> ?_;obtain⟨hHeld2,hF⟩:=hF;clear hB hHeld;have hHeld:=hHeld2;clear hHeld2;have hB:=hF;clear hK K
  try simp only [sqP]
  refine wX 8 fun K hK=>?_;go_simp;refine(HKP.o wn1 hB).mono ?_;rintro e5 w5 ⟨rfl,hg5,hd5⟩;dsimp only;refine wC hK (HSG.o _ _ hB hg5) (fun W=>w.grownBy W (aG g)/\(∃p2,DkB W g p2 (zJ ⟨s,co,fs⟩ t co q) (fun b=>N b\/b=H+1))/\Arr W (H+1) 47 [aB aC 0,aD ⟨#[]⟩,aA aF 0 0,aA aF 0 0,aB aC 0,aA aF 0 0]) ⟨zP (HBX3.o.trans (hB.mono wu)) hg5,hd5,(HR.o _ hB).grown hg5 af⟩ fun wn2 hF=> ?_;clear hB hHeld hg5 hd5 hK K;obtain⟨hHeld,hKg,hD,hR⟩:=hF
  try simp only [sqP]
  refine wW 9 fun K hK=>?_;obtain⟨z0,f0,z1,f1,z2,f2,z3,f3,z4,f4,z5,f5⟩:=wj hR;go_simp;clear z0 f0 z1 f1 z2 f2 z3 f3 z4 f4 z5 f5;refine wD hK (fun W=>w.grownBy W (aG g)/\(∃p2,DkB W g p2 (zJ ⟨s,co,fs⟩ t co q) (fun b=>N b\/b=H+1))/\Arr W (H+1) 47 [aB aC q,aD ⟨#[]⟩,aA aF 0 0,aA aF 0 0,aB aC 0,aA aF 0 0]) ⟨zl hKg wu _ _ _ _ _ _,hD.imp fun _ h=>h.set6 hR (.inr rfl) wu _ _ _ _ _ _,hR.all6 _ _ _ _ _ _⟩ fun wn3 hF=> ?_;clear hR hD hKg hHeld;obtain⟨hKg,hD,hR⟩:=hF;clear hK K
  try simp only [sqP]
  refine zo ww ?_ _
  try dsimp only [Exit.then]
  have hall:=aH hKg (aH hD hR);clear hR hD hKg;generalize wn3=wz at hall ⊢
  revert hall;revert wz;exact REST2.o
 exact z8.nil;intro w4 hall;obtain⟨hKg,hD,hR⟩:=hall;have HX:=sqH (aH hD hKg);have HF:=sqH hR;clear hD hKg hR
 refine wL ?_;intros;refine bodyPost_ret (results_cell_row rfl _ _ (H+1) _ _ _ _ ac HF.o underlying47 rfl ww) rfl ?_;have e1:entD ⟨s,co,fs⟩ ⟨kd,n,dg,D,ps⟩=(zJ ⟨s,co,fs⟩ t co q,KL q):=by
  unfold entD;rw [if_neg (show ¬(kd=5) by have:=HK.o;omega),if_neg (show ¬(kd=6) by have:=HK.o;omega)];dsimp only;rw [<-HK3.o,HPD.o]
 rw [e1];obtain⟨⟨p2,hD⟩,hK⟩:=HX.o;exact⟨_,_,_,rfl,hK,⟨p2,hD.mono fun b h=> .inl h⟩,.e_ q⟩
end Go.Proofs.YtaboknhfiijipaaGreat
