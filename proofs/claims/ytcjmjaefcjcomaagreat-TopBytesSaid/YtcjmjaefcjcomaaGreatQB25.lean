/- Lemmas, as stated. -/
import Derived.Test.YtcjmjaefcjcomaaGreatQB23
import Derived.Test.YtcjmjaefcjcomaaGreatQB24
set_option linter.unusedVariables false
set_option linter.unusedSimpArgs false
set_option maxRecDepth 100000
set_option maxHeartbeats 16000000
open Go.Proofs.Tryz
open Go.Value renaming slice->aA,int->aB,string->aD
open Go.IntKind renaming i64->aC
open Option renaming none->aF,some->aG
open And renaming intro->aH
open Go.Proofs.Tryz renaming prog->zZZ
open Go.Obj renaming cells->aE
namespace Go.Proofs.YtcjmjaefcjcomaaGreat
open Go.RowKit Go.Maps
variable {l:LoP} {b' base g gR n:Nat} {v vo:Value} {w w':World} {xs:ak} {N:am}
theorem z4m (g:Nat) (p:LoW) (l:LoP) (kd n:Nat) (dg D:ai) (ps:List PartP) (A:aj) (c:Nat) (A':aj) (c':Nat) (w:World) (hL:GoodL l) (hk:hexC dg=0) (hpz:chk ps=0) (hck:l.st.aK<1099511627776) (hlen:l.st.aJ.length<10) (h1:kd=5) (N:am) (hNg:N g) (hNw:∀b,N b->b<w.heap.size) (hb:DkB w g p l N) (hd:Sl w 1 A D.length c (bys D)) (hq:Sl w 3 A' ps.length c' (pcs ps)) :
  Calls Tryz.prog 50 #[.pointer (aG ⟨g,0,aF⟩),orV kd n dg D ps A c A' c'] w (ka w g N (entD l ⟨kd,n,dg,D,ps⟩)):=by
 have k1:((kd:Int)==5)=true:=by rw [beq_iff_eq];omega
 have HK:=sqH h1;have HPX:=sqH (aH hk (aH hpz (aH hck hlen)));clear h1 hk hpz hck hlen;obtain⟨X,cX,Y,dY,G,ng,F,cF⟩:=p;obtain⟨s,co,fs⟩:=l;obtain⟨w0,H,HDK,HBC,hws,HBX,HD,HQ,hHw,hHw1,hgH,hHl,hgl,hgw,HP,HR,HL,HNW,x0,x1,x2,x3,x4,HW0,HH⟩:=Yf kd n dg D ps A c A' c' hL hNw hb hd hq;clear hb hd hq hL hNw;go_enter func50,ntmps50
 refine wM 3 ?_;intros;rw [<-HW0.o,<-HH.o];clear x0 x1 x2 x3 x4;have HPB:=sqH (fun W (h:Below w0.heap.size w0 W)=>Ua ⟨X,cX,Y,dY,G,ng,F,cF⟩ ⟨s,co,fs⟩ dg ps A' c' W HL.o (HDK.o W h).rd HPX.o.1 HPX.o.2.1 HPX.o.2.2.1 HPX.o.2.2.2 (HQ.o.below h));generalize hpb:Vl ⟨s,co,fs⟩ dg ps=r at HPB;obtain⟨m,q⟩:=r;dsimp only at HPB;have HPD:=sqH hpb;clear hpb;obtain⟨HSB,HSG,HKP⟩:=sqJ3 (show ∀W,Below w0.heap.size w0 W->W.cell? ⟨H,2,aF⟩=aG (aD ⟨dg.toArray⟩)/\W.cell? ⟨H,4,aF⟩=aG (aA A' ps.length c') from fun W h=>⟨(HP.o W h).c2,(HP.o W h).c4⟩) (show ∀W W',Below w0.heap.size w0 W->W.grownBy W' (aG g)->W'.cell? ⟨H,2,aF⟩=aG (aD ⟨dg.toArray⟩)/\W'.cell? ⟨H,4,aF⟩=aG (aA A' ps.length c') from fun W W' h h'=>⟨((HP.o W h).grown h' af).c2,((HP.o W h).grown h' af).c4⟩) (fun (W:World) (h:Below w0.heap.size w0 W) (v1 v2 v3 v4:Value) (m:LoP) (q:Nat) (ho:q=0->OwLo W (g+1) v1 v2 v3 v4 m (fun b=>N b\/b=H+1)) (hb:DkB W g ⟨X,cX,Y,dY,G,ng,F,cF⟩ ⟨s,co,fs⟩ (fun b=>N b\/b=H+1))=>jy g ⟨X,cX,Y,dY,G,ng,F,cF⟩ ⟨s,co,fs⟩ v1 v2 v3 v4 m q W (fun b=>N b\/b=H+1) (.inl hNg) hb ho)
 iterate 1 (first | go_values | go_skip | go_guarded | go_step | go_upon | go_back)
 apply zC;intro REST;refine ze [13] (S:=(fun w'=>w'.cell? ⟨H,2,aF⟩=aG (aD ⟨dg.toArray⟩)/\w'.cell? ⟨H,4,aF⟩=aG (aA A' ps.length c'))) ww ?_ (fun hHeld=> ?_)
 ·exact HSB.o _ (Below.refl w0.heap.size w0).drew
 have hB:=(Below.refl w0.heap.size w0).drew;generalize w0.drew=wn0 at *
 refine wT 0 ?_;refine wT 1 ?_;refine wT 2 ?_;refine wT 3 ?_;refine wT 5 ?_;refine wS 6 ?_;refine wT 7 ?_;refine wS 8 ?_;refine za (rs:= [4]) ww ab ?_;refine z8.cons (o:=_) rfl (fun K hK=> ?_) ?_
 ·
  obtain⟨y0,y1,y2,y3,y4,y5,y6,y7⟩:=HBC.o _ hB;go_simp;clear y0 y1 y2 y3 y4 y5 y6 y7;refine wC hK (HSB.o _ hB) (fun W=>Below w0.heap.size w0 W) hB fun wn1 hF=> ?_;obtain⟨hHeld2,hF⟩:=hF;clear hB hHeld;have hHeld:=hHeld2;clear hHeld2;have hB:=hF;clear hK K
  try simp only [sqP]
  refine wX 9 fun K hK=>?_;go_simp;refine(HPB.o wn1 hB).mono ?_;rintro e5 w5 ⟨v1,v2,v3,v4,rfl,ho5,hb5⟩;obtain⟨⟨A1,c1,B1,d1,G1,n1,F1,f1⟩,rfl,rfl,rfl,rfl, -⟩:=ho5.rd;dsimp only;refine wC hK (HSB.o _ (wm hB hb5)) (fun W=>Below w0.heap.size w0 W/\OwLo W (g+1) (aA A1 m.st.aI.length c1) (aA B1 m.st.aJ.length d1) (aA G1 m.co.aM.length n1) (aA F1 m.fs.length f1) m (fun b=>N b\/b=H+1)) (by exact⟨wm hB hb5,ho5.at_ (by have:=hB.size;omega) (fun b hb=>by have:=hB.size;rcases hb with hb | hb;(have:=HNW.o b hb;omega);omega)⟩) fun wn2 hF=> ?_;clear hB hHeld hb5 ho5 hK K;obtain⟨hHeld,hB,ho⟩:=hF
  refine wT 10 ?_;refine wT 11 ?_;refine wX 12 fun K hK=>?_;go_simp;refine(HKP.o wn2 hB _ _ _ _ m q (fun _=>ho) ((HDK.o _ hB).mono (fun b hb=>hb.imp id (fun h=>wu)))).mono ?_;rintro e5 w5 ⟨rfl,hg5,hd5⟩;dsimp only;refine wC hK (HSG.o _ _ hB hg5) (fun W=>w.grownBy W (aG g)/\(∃p2,DkB W g p2 (vx ⟨s,co,fs⟩ m q) (fun b=>N b\/b=H+1))/\Arr W (H+1) 82 [aB aC 0,aD ⟨#[]⟩,aA aF 0 0,aA aF 0 0,aB aC 0,aA aF 0 0]) ⟨zR (HBX.o.trans (hB.mono wu)) hg5,hd5,(HR.o _ hB).grown hg5 af⟩ fun wn3 hF=> ?_;clear ho hB hHeld hg5 hd5 hK K;obtain⟨hHeld,hKg,hD,hR⟩:=hF
  try simp only [sqP]
  refine wW 13 fun K hK=>?_;obtain⟨z0,f0,z1,f1,z2,f2,z3,f3,z4,f4,z5,f5⟩:=wj hR;go_simp;clear z0 f0 z1 f1 z2 f2 z3 f3 z4 f4 z5 f5;refine wD hK (fun W=>w.grownBy W (aG g)/\(∃p2,DkB W g p2 (vx ⟨s,co,fs⟩ m q) (fun b=>N b\/b=H+1))/\Arr W (H+1) 82 [aB aC q,aD ⟨#[]⟩,aA aF 0 0,aA aF 0 0,aB aC 0,aA aF 0 0]) ⟨zl hKg wu _ _ _ _ _ _,hD.imp fun _ h=>h.set6 hR (.inr rfl) wu _ _ _ _ _ _,hR.all6 _ _ _ _ _ _⟩ fun wn4 hF=> ?_;clear hR hD hKg hHeld;obtain⟨hKg,hD,hR⟩:=hF;clear hK K
  try simp only [sqP]
  refine zo ww ?_ _
  try dsimp only [Exit.then]
  have hall:=aH hKg (aH hD hR);clear hR hD hKg;generalize wn4=wz at hall ⊢
  revert hall;revert wz;revert f1;revert F1;revert n1;revert G1;revert d1;revert B1;revert c1;revert A1;exact REST.o
 exact z8.nil;intro A1 c1 B1 d1 G1 n1 F1 f1 w3 hall;obtain⟨hKg,hD,hR⟩:=hall;have HX:=sqH (aH hD hKg);have HF:=sqH hR;clear hD hKg hR
 refine wL ?_;intros;refine bodyPost_ret (results_cell_row rfl _ _ (H+1) _ _ _ _ ac HF.o underlying82 rfl ww) rfl ?_;have e1:entD ⟨s,co,fs⟩ ⟨kd,n,dg,D,ps⟩=(vx ⟨s,co,fs⟩ m q,Yq q):=by
  unfold entD;rw [if_pos (show kd=5 from HK.o)];dsimp only;rw [HPD.o]
 rw [e1];obtain⟨⟨p2,hD⟩,hK⟩:=HX.o;exact⟨_,_,_,rfl,hK,⟨p2,hD.mono fun b h=> .inl h⟩,.e_ q⟩
theorem z4n (g:Nat) (p:LoW) (l:LoP) (kd n:Nat) (dg D:ai) (ps:List PartP) (A:aj) (c:Nat) (A':aj) (c':Nat) (w:World) (hL:GoodL l) (hck:l.st.aK<1099511627776) (h1:kd=6) (N:am) (hNg:N g) (hNw:∀b,N b->b<w.heap.size) (hb:DkB w g p l N) (hd:Sl w 1 A D.length c (bys D)) (hq:Sl w 3 A' ps.length c' (pcs ps)) :
  Calls Tryz.prog 50 #[.pointer (aG ⟨g,0,aF⟩),orV kd n dg D ps A c A' c'] w (ka w g N (entD l ⟨kd,n,dg,D,ps⟩)):=by
 have k1:((kd:Int)==5)=false:=by rw [beq_eq_false_iff_ne];omega
 have k2:((kd:Int)==6)=true:=by rw [beq_iff_eq];omega
 have HK:=sqH h1;have HPX:=sqH hck;clear h1 hck;obtain⟨X,cX,Y,dY,G,ng,F,cF⟩:=p;obtain⟨s,co,fs⟩:=l;obtain⟨w0,H,HDK,HBC,hws,HBX,HD,HQ,hHw,hHw1,hgH,hHl,hgl,hgw,HP,HR,HL,HNW,x0,x1,x2,x3,x4,HW0,HH⟩:=Yf kd n dg D ps A c A' c' hL hNw hb hd hq;clear hb hd hq hL hNw;go_enter func50,ntmps50
 refine wM 5 ?_;intros;rw [<-HW0.o,<-HH.o];clear x0 x1 x2 x3 x4;have HPB:=sqH (fun W (h:Below w0.heap.size w0 W)=>z5n X cX Y dY s W dg HL.o.s (HDK.o W h).rd.s HPX.o);generalize hpb:gtP s dg=r at HPB;obtain⟨t,p2,q⟩:=r;dsimp only at HPB;have HPD:=sqH hpb;clear hpb;have HSB:=sqH (show ∀W,Below w0.heap.size w0 W->(wI W g (aA X s.aI.length cX) (aA Y s.aJ.length dY) (aB aC s.aL) (aB aC s.aK))/\W.cell? ⟨H,2,aF⟩=aG (aD ⟨dg.toArray⟩) from fun W h=>by
  obtain⟨y0,y1,y2,y3,_⟩:=HBC.o W h;exact⟨⟨y0,y1,y2,y3⟩,(HP.o W h).c2⟩)
 iterate 1 (first | go_values | go_skip | go_guarded | go_step | go_upon | go_back)
 apply zC;intro REST;apply zC;intro Rb1;refine ze [13] (S:=(fun w'=>(wI w' g (aA X s.aI.length cX) (aA Y s.aJ.length dY) (aB aC s.aL) (aB aC s.aK))/\w'.cell? ⟨H,2,aF⟩=aG (aD ⟨dg.toArray⟩))) ww ?_ (fun hHeld=> ?_)
 ·exact HSB.o _ (((wo w0)).drew)
 have hB:=((wo w0)).drew;generalize w0.drew=wn0 at *
 refine wT 0 ?_;refine wT 1 ?_;refine wT 2 ?_;refine wT 3 ?_;refine wS 4 ?_;refine wT 5 ?_;refine wS 6 ?_;refine za (rs:= [7,12]) ww ab ?_;refine z8.cons (o:=_) rfl (fun K hK=> ?_) ?_
 ·
  go_simp;refine(HPB.o wn0 hB).mono ?_;rintro e5 w5 ⟨v1,v2,vp,rfl,ho5,hp5,hb5⟩;obtain⟨A1,c1,B1,d1,rfl,rfl, -⟩:=ho5.rows;obtain⟨P1,k1_,rfl, -, -⟩:=Rd.of_own' hp5;dsimp only;refine wC hK (HSB.o _ ((wm hB hb5))) (fun W=>Below w0.heap.size w0 W/\OwSt W w.heap.size (aA A1 t.aI.length c1) (aA B1 t.aJ.length d1) t (fun b=>(N b\/b=H+1))/\W.ownsRow w.heap.size 85 3 (aA P1 p2.length k1_) p2.length (pcs p2)) (by exact⟨wm hB hb5,(ho5.lower (base':=w.heap.size) (by have:=hB.size;omega)).mono (N':=(fun b=>(N b\/b=H+1))) (fun b hb=>by have:=hB.size;rcases hb with hb | hb;(have:=HNW.o b hb;omega);omega),zb hp5 (by have:=hB.size;omega)⟩) fun wn1 hF=> ?_;clear hB hHeld hb5 ho5 hp5 hK K;obtain⟨hHeld,hB,ho,hl⟩:=hF
  refine wT 8 ?_;refine wT 9 ?_;refine wT 10 ?_;refine wT 11 ?_;refine wX 12 fun K hK=>?_;obtain⟨g5,hge,hba,hn,hnl,hN⟩:=wG wn1 38 [aA aF 0 0,aA aF 0 0,aB aC 0,aB aC 0] hB.size;go_simp;rw [<-hge];clear hge;refine wC hK (HSB.o _ ((wm hB hba))) (fun W=>Below w0.heap.size w0 W/\Arr W g5 38 [aA aF 0 0,aA aF 0 0,aB aC 0,aB aC 0]/\w0.heap.size<=g5/\OwSt W w.heap.size (aA A1 t.aI.length c1) (aA B1 t.aJ.length d1) t (fun b=>(N b\/b=H+1)\/b=g5)/\W.ownsRow w.heap.size 85 3 (aA P1 p2.length k1_) p2.length (pcs p2)) ⟨wm hB hba,hn,hnl,(ho.wider (N':=(fun b=>(N b\/b=H+1)\/b=g5)) (fun b hb=>hb.elim (fun hb=> .inl hb) (fun hb=> .inr (hN _ hb)))).below hba,zc hl hba⟩ fun wn2 hF=> ?_;clear hl ho hB hHeld hba hn hnl hN hK K;obtain⟨hHeld,hB,h5,h5l,ho,hl⟩:=hF
  try simp only [sqP]
  have hall:=aH hB (aH h5 (aH h5l (aH ho (aH hl hHeld))));clear hHeld hl ho h5l h5 hB;generalize wn2=wz at hall ⊢
  revert hall;revert wz;revert g5;revert k1_;revert P1;revert d1;revert B1;revert c1;revert A1;exact Rb1.o
 refine z8.cons (o:=_) rfl (fun K hK=> ?_) ?_
 ·
  obtain⟨g5,hge,hba,hn,hnl,hN⟩:=wG wn0 38 [aA aF 0 0,aA aF 0 0,aB aC 0,aB aC 0] hB.size;go_simp;rw [<-hge];clear hge;refine wC hK (HSB.o _ ((wm hB hba))) (fun W=>Below w0.heap.size w0 W/\Arr W g5 38 [aA aF 0 0,aA aF 0 0,aB aC 0,aB aC 0]/\w0.heap.size<=g5) ⟨wm hB hba,hn,hnl⟩ fun wn3 hF=> ?_;clear hB hHeld hba hn hnl hN hK K;obtain⟨hHeld,hB,h5,h5l⟩:=hF
  try simp only [sqP]
  refine wX 7 fun K hK=>?_;go_simp;refine(HPB.o wn3 hB).mono ?_;rintro e5 w5 ⟨v1,v2,vp,rfl,ho5,hp5,hb5⟩;obtain⟨A1,c1,B1,d1,rfl,rfl, -⟩:=ho5.rows;obtain⟨P1,k1_,rfl, -, -⟩:=Rd.of_own' hp5;dsimp only;refine wC hK (HSB.o _ ((wm hB hb5))) (fun W=>Below w0.heap.size w0 W/\Arr W g5 38 [aA aF 0 0,aA aF 0 0,aB aC 0,aB aC 0]/\w0.heap.size<=g5/\OwSt W w.heap.size (aA A1 t.aI.length c1) (aA B1 t.aJ.length d1) t (fun b=>(N b\/b=H+1)\/b=g5)/\W.ownsRow w.heap.size 85 3 (aA P1 p2.length k1_) p2.length (pcs p2)) (by exact⟨wm hB hb5,h5.below hb5,h5l,(ho5.lower (base':=w.heap.size) (by have:=hB.size;omega)).mono (N':=(fun b=>(N b\/b=H+1)\/b=g5)) (fun b hb=>hb.elim (fun hb=>by have:=hB.size;rcases hb with hb | hb;(have:=HNW.o b hb;omega);omega) (fun hb=>(by rw [hb];exact h5.lt))),zb hp5 (by have:=hB.size;omega)⟩) fun wn4 hF=> ?_;clear h5l h5 hB hHeld hb5 ho5 hp5 hK K;obtain⟨hHeld,hB,h5,h5l,ho,hl⟩:=hF
  refine wT 8 ?_;refine wT 9 ?_;refine wT 10 ?_;refine wT 11 ?_;exact Rb1.o A1 c1 B1 d1 P1 k1_ g5 wn4 ⟨hB,h5,h5l,ho,hl,hHeld⟩
 exact z8.nil;intro A1 c1 B1 d1 P1 k1_ g5 wRb1 hall;obtain⟨hB,h5,h5l,ho,hl,hHeld⟩:=hall;refine za (rs:= [13]) ww ab ?_;refine z8.store (o:=_) rfl ac (fun K hK=> ?_) ?_
 ·
  have hqho:=ho.nb h5 aa aa;have hqhl:=zf hl h5 aa;obtain⟨z0,f0,z1,f1,z2,f2,z3,f3⟩:=wg h5;go_simp;clear z0 f0 z1 f1 z2 f2 z3 f3;refine wD hK (fun W=>Below w0.heap.size w0 W/\Arr W g5 38 [(aA A1 t.aI.length c1),(aA B1 t.aJ.length d1),aB aC t.aL,aB aC t.aK]/\w0.heap.size<=g5/\OwSt W w.heap.size (aA A1 t.aI.length c1) (aA B1 t.aJ.length d1) t (fun b=>(N b\/b=H+1)\/b=g5)/\W.ownsRow w.heap.size 85 3 (aA P1 p2.length k1_) p2.length (pcs p2)) ⟨((((hB).setCell (p:=⟨g5,0,aF⟩) h5l _).setCell (p:=⟨g5,1,aF⟩) h5l _).setCell (p:=⟨g5,2,aF⟩) h5l _).setCell (p:=⟨g5,3,aF⟩) h5l _,h5.all4 _ _ _ _,h5l,ho.set4N (.inr rfl) hqho.1 hqho.2 _ _ _ _,qA hl hqhl _ _ _ _⟩ fun wn5 hF=> ?_;clear hl ho h5l h5 hB hHeld;obtain⟨hB,h5,h5l,ho,hl⟩:=hF;clear hqho hqhl;clear hK K
  refine wT 14 ?_;refine wT 15 ?_;refine zo ww ?_ _
  try dsimp only [Exit.then]
  have hall:=aH hB (aH h5 (aH h5l (aH ho hl)));clear hl ho h5l h5 hB;generalize wn5=wz at hall ⊢
  revert hall;revert wz;revert g5;revert k1_;revert P1;revert d1;revert B1;revert c1;revert A1;exact REST.o
 exact z8.nil;intro A1 c1 B1 d1 P1 k1_ g5 w3 hall;obtain⟨hB,h5,h5l,ho,hl⟩:=hall;have HSB:=sqH (show ∀W,Below w3.heap.size w3 W->wI W g5 (aA A1 t.aI.length c1) (aA B1 t.aJ.length d1) (aB aC t.aL) (aB aC t.aK) from fun W h=>sqC4 (h5.below h));have HSG:=sqH (show ∀W W',Below w3.heap.size w3 W->W.grownBy W' (aG g)->wI W' g5 (aA A1 t.aI.length c1) (aA B1 t.aJ.length d1) (aB aC t.aL) (aB aC t.aK) from fun W W' h h'=>by
  have h6:=(h5.below h).grown h' af;exact sqC4 h6)
 have HSK:=sqH (show ∀W W':World,(wI W g5 (aA A1 t.aI.length c1) (aA B1 t.aJ.length d1) (aB aC t.aL) (aB aC t.aK))->Below W.heap.size W W'->wI W' g5 (aA A1 t.aI.length c1) (aA B1 t.aJ.length d1) (aB aC t.aL) (aB aC t.aK) from fun W W' h h'=>by have h2:=zZ h' aF;exact⟨h2.cell h.1 ab,h2.cell h.2.1 ab,h2.cell h.2.2.1 ab,h2.cell h.2.2.2 ab⟩);have hot:=(ho.wider (N':=(fun b=>N b\/b=H+1\/w3.heap.size<=b)) (fun b hb=>hb.elim (fun h=> .inl (.inl (.inl h))) (fun h=>h.elim (fun h=> .inl (.inl (.inr h))) (fun h=> .inr h)))).lower (base':=g+1) wu;have HKP:=sqH (fun (W:World) (h:Below w3.heap.size w3 W)=>KK g ⟨X,cX,Y,dY,G,ng,F,cF⟩ ⟨s,co,fs⟩ _ _ (aA G co.aM.length ng) t co q W (fun b=>N b\/b=H+1\/w3.heap.size<=b) (.inl hNg) ((HDK.o _ (wm hB h)).mono fun b hb=>hb.imp id fun h=>by(have:=hB.size;rcases h with h | h<;>omega)) (fun _=>⟨hot.below h,zc (HDK.o _ hB).own.c h⟩));have HBX3:=sqH (HBX.o.trans (hB.mono hws));have hws3:w.heap.size<=w3.heap.size:=Nat.le_trans hws hB.size;have hHl3:H+1<w3.heap.size:=Nat.lt_of_lt_of_le hHl hB.size;have hgl3:g<w3.heap.size:=wu;have hg5l:g5<w3.heap.size:=h5.lt;replace HR:=z2o HR hB;replace HBC:=z2o HBC hB;clear hot h5 ho hB;have hl0:=hl;clear hl h5l HPB
 refine wM 6 ?_;intros;iterate 1 (first | go_values | go_skip | go_guarded | go_step | go_upon | go_back)
 apply zC;intro REST2;apply zC;intro Rc1;apply zC;intro Rc2;refine ze [10] (S:=(fun w'=>wI w' g5 (aA A1 t.aI.length c1) (aA B1 t.aJ.length d1) (aB aC t.aL) (aB aC t.aK))) ww ?_ (fun hHeld=> ?_)
 ·exact HSB.o _ (Below.refl w3.heap.size w3).drew
 have hB:=(Below.refl w3.heap.size w3).drew;have hl:=zc hl0 (Below.refl w3.heap.size w3).drew;generalize w3.drew=wn0 at *
 refine wT 0 ?_;refine wS 1 ?_;refine wT 2 ?_;refine wT 3 ?_;refine wT 4 ?_;refine wT 5 ?_;refine wT 7 ?_;refine za (rs:= [6,9]) ww ab ?_;refine z8.cons (o:=_) rfl (fun K hK=> ?_) ?_
 ·
  obtain⟨y0,y1,y2,y3,y4,y5,y6,y7⟩:=HBC.o _ hB;go_simp;clear y0 y1 y2 y3 y4 y5 y6 y7;refine wC hK (HSB.o _ hB) (fun W=>Below w3.heap.size w3 W/\W.ownsRow w.heap.size 85 3 (aA P1 p2.length k1_) p2.length (pcs p2)) ⟨hB,hl⟩ fun wn1 hF=> ?_;clear hl hB hHeld hK K;obtain⟨hHeld,hB,hl⟩:=hF
  try simp only [sqP]
  refine za (rs:= [8,9]) ww ab ?_;refine z8.cons (o:=_) rfl (fun K hK=> ?_) ?_
  ·
   go_simp;refine(HKP.o wn1 hB).mono ?_;rintro e5 w5 ⟨rfl,hg5,hd5⟩;dsimp only;refine wC hK (HSG.o _ _ hB hg5) (fun W=>w.grownBy W (aG g)/\(∃p2,DkB W g p2 (zM ⟨s,co,fs⟩ t co q) (fun b=>N b\/b=H+1\/w3.heap.size<=b))/\Arr W (H+1) 82 [aB aC 0,aD ⟨#[]⟩,aA aF 0 0,aA aF 0 0,aB aC 0,aA aF 0 0]/\w3.heap.size<=W.heap.size/\W.ownsRow w.heap.size 85 3 (aA P1 p2.length k1_) p2.length (pcs p2)) ⟨zR (HBX3.o.trans (hB.mono wu)) hg5,hd5,(HR.o _ hB).grown hg5 af,Nat.le_trans hB.size hg5.size,kh hl hg5 hgw⟩ fun wn2 hF=> ?_;clear hl hB hHeld hg5 hd5 hK K;obtain⟨hHeld,hKg,hD,hR,hKl,hl⟩:=hF
   try simp only [sqP]
   refine wX 9 fun K hK=>?_;have hba:=ws wn2 (.cells #[aB aC 0,aD ⟨#[]⟩,aA aF 0 0,aA aF 0 0,aB aC 0,aA aF 0 0] 82);have hn:=Arr.new wn2 82 [aB aC 0,aD ⟨#[]⟩,aA aF 0 0,aA aF 0 0,aB aC 0,aA aF 0 0];have hnl:w3.heap.size<=wn2.heap.size:=hKl;obtain⟨ga,hge⟩:=wY wn2.heap.size
   rw [<-hge]at hn hnl;go_simp;rw [<-hge];clear hge;refine wC hK (HSK.o _ _ hHeld hba) (fun W=>w.grownBy W (aG g)/\(∃p2,DkB W g p2 (zM ⟨s,co,fs⟩ t co q) (fun b=>N b\/b=H+1\/w3.heap.size<=b))/\Arr W (H+1) 82 [aB aC 0,aD ⟨#[]⟩,aA aF 0 0,aA aF 0 0,aB aC 0,aA aF 0 0]/\Arr W ga 82 [aB aC 0,aD ⟨#[]⟩,aA aF 0 0,aA aF 0 0,aB aC 0,aA aF 0 0]/\w3.heap.size<=ga/\W.ownsRow w.heap.size 85 3 (aA P1 p2.length k1_) p2.length (pcs p2)) ⟨zQ hKg hba,hD.imp fun _ h=>h.below hba,hR.below hba,hn,hnl,zc hl hba⟩ fun wn3 hF=> ?_;clear hl hKl hR hD hKg hHeld hba hn hnl hK K;obtain⟨hHeld,hKg,hD,hR,hA,hAl,hl⟩:=hF
   try simp only [sqP]
   have hall:=aH hKg (aH hD (aH hR (aH hA (aH hAl (aH hl hHeld)))));clear hHeld hl hAl hA hR hD hKg;generalize wn3=wz at hall ⊢
   revert hall;revert wz;revert ga;exact Rc1.o
  refine z8.cons (o:=_) rfl (fun K hK=> ?_) ?_
  ·
   have hba:=ws wn1 (.cells #[aB aC 0,aD ⟨#[]⟩,aA aF 0 0,aA aF 0 0,aB aC 0,aA aF 0 0] 82);have hn:=Arr.new wn1 82 [aB aC 0,aD ⟨#[]⟩,aA aF 0 0,aA aF 0 0,aB aC 0,aA aF 0 0];have hnl:w3.heap.size<=wn1.heap.size:=hB.size;obtain⟨ga,hge⟩:=wY wn1.heap.size
   rw [<-hge]at hn hnl;go_simp;rw [<-hge];clear hge;refine wC hK (HSB.o _ (wm hB hba)) (fun W=>Below w3.heap.size w3 W/\Arr W ga 82 [aB aC 0,aD ⟨#[]⟩,aA aF 0 0,aA aF 0 0,aB aC 0,aA aF 0 0]/\w3.heap.size<=ga/\W.ownsRow w.heap.size 85 3 (aA P1 p2.length k1_) p2.length (pcs p2)) ⟨wm hB hba,hn,hnl,zc hl hba⟩ fun wn4 hF=> ?_;clear hl hB hHeld hba hn hnl hK K;obtain⟨hHeld,hB,hA,hAl,hl⟩:=hF
   try simp only [sqP]
   have hall:=aH hB (aH hA (aH hAl (aH hl hHeld)));clear hHeld hl hAl hA hB;generalize wn4=wz at hall ⊢
   revert hall;revert wz;revert ga;exact Rc2.o
  exact z8.nil
 refine z8.cons (o:=_) rfl (fun K hK=> ?_) ?_
 ·
  have hba:=ws wn0 (.cells #[aB aC 0,aD ⟨#[]⟩,aA aF 0 0,aA aF 0 0,aB aC 0,aA aF 0 0] 82);have hn:=Arr.new wn0 82 [aB aC 0,aD ⟨#[]⟩,aA aF 0 0,aA aF 0 0,aB aC 0,aA aF 0 0];have hnl:w3.heap.size<=wn0.heap.size:=hB.size;obtain⟨ga,hge⟩:=wY wn0.heap.size
  rw [<-hge]at hn hnl;go_simp;rw [<-hge];clear hge;refine wC hK (HSB.o _ (wm hB hba)) (fun W=>Below w3.heap.size w3 W/\Arr W ga 82 [aB aC 0,aD ⟨#[]⟩,aA aF 0 0,aA aF 0 0,aB aC 0,aA aF 0 0]/\w3.heap.size<=ga/\W.ownsRow w.heap.size 85 3 (aA P1 p2.length k1_) p2.length (pcs p2)) ⟨wm hB hba,hn,hnl,zc hl hba⟩ fun wn5 hF=> ?_;clear hl hB hHeld hba hn hnl hK K;obtain⟨hHeld,hB,hA,hAl,hl⟩:=hF
  try simp only [sqP]
  refine wX 6 fun K hK=>?_;obtain⟨y0,y1,y2,y3,y4,y5,y6,y7⟩:=HBC.o _ hB;go_simp;clear y0 y1 y2 y3 y4 y5 y6 y7;refine wC hK (HSB.o _ hB) (fun W=>Below w3.heap.size w3 W/\Arr W ga 82 [aB aC 0,aD ⟨#[]⟩,aA aF 0 0,aA aF 0 0,aB aC 0,aA aF 0 0]/\w3.heap.size<=ga/\W.ownsRow w.heap.size 85 3 (aA P1 p2.length k1_) p2.length (pcs p2)) ⟨hB,hA,hAl,hl⟩ fun wn6 hF=> ?_;clear hl hAl hA hB hHeld hK K;obtain⟨hHeld,hB,hA,hAl,hl⟩:=hF
  try simp only [sqP]
  exact Rc2.o ga wn6 ⟨hB,hA,hAl,hl,hHeld⟩
 exact z8.nil;intro ga wRc2 hall;obtain⟨hB,hA,hAl,hl,hHeld⟩:=hall;refine za (rs:= [8]) ww ab ?_;refine z8.cons (o:=_) rfl (fun K hK=> ?_) ?_
 ·
  go_simp;refine(HKP.o wRc2 hB).mono ?_;rintro e5 w5 ⟨rfl,hg5,hd5⟩;dsimp only;refine wC hK (HSG.o _ _ hB hg5) (fun W=>w.grownBy W (aG g)/\(∃p2,DkB W g p2 (zM ⟨s,co,fs⟩ t co q) (fun b=>N b\/b=H+1\/w3.heap.size<=b))/\Arr W (H+1) 82 [aB aC 0,aD ⟨#[]⟩,aA aF 0 0,aA aF 0 0,aB aC 0,aA aF 0 0]/\Arr W ga 82 [aB aC 0,aD ⟨#[]⟩,aA aF 0 0,aA aF 0 0,aB aC 0,aA aF 0 0]/\w3.heap.size<=ga/\W.ownsRow w.heap.size 85 3 (aA P1 p2.length k1_) p2.length (pcs p2)) ⟨zR (HBX3.o.trans (hB.mono wu)) hg5,hd5,(HR.o _ hB).grown hg5 af,hA.grown hg5 af,hAl,kh hl hg5 hgw⟩ fun wn7 hF=> ?_;clear hl hAl hA hB hHeld hg5 hd5 hK K;obtain⟨hHeld,hKg,hD,hR,hA,hAl,hl⟩:=hF
  try simp only [sqP]
  exact Rc1.o ga wn7 ⟨hKg,hD,hR,hA,hAl,hl,hHeld⟩
 exact z8.nil;intro ga wRc1 hall;obtain⟨hKg,hD,hR,hA,hAl,hl,hHeld⟩:=hall;refine za (rs:= [10]) ww ab ?_;refine z8.store (o:=_) rfl ac (fun K hK=> ?_) ?_
 ·
  obtain⟨z0,f0,z1,f1,z2,f2,z3,f3,z4,f4,z5,f5⟩:=wj hA;go_simp;clear z0 f0 z1 f1 z2 f2 z3 f3 z4 f4 z5 f5;refine wD hK (fun W=>w.grownBy W (aG g)/\(∃p2,DkB W g p2 (zM ⟨s,co,fs⟩ t co q) (fun b=>N b\/b=H+1\/w3.heap.size<=b))/\Arr W (H+1) 82 [aB aC 0,aD ⟨#[]⟩,aA aF 0 0,aA aF 0 0,aB aC 0,aA aF 0 0]/\Arr W ga 82 [aB aC q,aD ⟨#[]⟩,aA aF 0 0,aA aF 0 0,aB aC 0,aA aF 0 0]/\w3.heap.size<=ga/\W.ownsRow w.heap.size 85 3 (aA P1 p2.length k1_) p2.length (pcs p2)) ⟨zl hKg wu _ _ _ _ _ _,hD.imp fun _ h=>h.set6 hA (.inr (.inr hAl)) wu _ _ _ _ _ _,((((((hR.other wu _).other wu _).other wu _).other wu _).other wu _).other wu _),hA.all6 _ _ _ _ _ _,hAl,qB hl (zf hl hA aa) _ _ _ _ _ _⟩ fun wn8 hF=> ?_;clear hl hAl hA hR hD hKg hHeld;obtain⟨hKg,hD,hR,hA,hAl,hl⟩:=hF;clear hK K
  try simp only [sqP]
  refine zo ww ?_ _
  try dsimp only [Exit.then]
  have hall:=aH hKg (aH hD (aH hR (aH hA (aH hAl hl))));clear hl hAl hA hR hD hKg;generalize wn8=wz at hall ⊢
  revert hall;revert wz;revert ga;exact REST2.o
 exact z8.nil;intro ga w4 hall;obtain⟨hKg,hD,hR,hA,hAl,hl⟩:=hall;have hA3:=hA.set (k:=3) ab (aA P1 p2.length k1_);have hR5:=hR.other (k:=3) (g':=ga) (show H+1≠ga by omega) (aA P1 p2.length k1_);have hl5:=zd (k:=3) (u:= aA P1 p2.length k1_) hl (zf hl hA aa);obtain⟨HL5,HX,HA3⟩:=sqJ3 hl5 (aH (hD.imp fun _ h=>h.set hA (.inr (.inr hAl)) (show g≠ga by omega) (aA P1 p2.length k1_) (k:=3)) (aH (zr (k:=3) (u:= aA P1 p2.length k1_) hKg (show w.heap.size<=ga by omega)) hR5)) hA3;have c3:=hA.c3;have q3:=hA.frozen 3;clear hA3 hR5 hl5 hl hl0 hA hR hD hKg hAl
 refine wN 8 ?_;intros;generalize w4.setCell ⟨ga,3,aF⟩ (aA P1 p2.length k1_)=w5 at *
 have hr3:=HX.o.2.2;have hz5:Arr w5 ga 82 [aB aC q,aD ⟨#[]⟩,aA aF 0 0,aA P1 p2.length k1_,aB aC 0,aA aF 0 0]:=HA3.o;clear c3 q3;obtain⟨z0,z1,z2,z3,z4,z5⟩:=sqC6 hz5;clear hz5;obtain⟨f0,f1,f2,f3,f4,f5⟩:=sqF6 hr3;obtain⟨y0,y1,y2,y3,y4,y5⟩:=sqC6 hr3;have HR3:=sqH hr3;have HF:=sqH (hr3.all6 (aB aC q) (aD ⟨#[]⟩) (aA aF 0 0) (aA P1 p2.length k1_) (aB aC 0) (aA aF 0 0));clear hr3
 refine wL ?_;intros;refine bodyPost_ret (results_cell_row rfl _ _ (H+1) _ _ _ _ ac HF.o underlying82 rfl ww) rfl ?_;have e1:entD ⟨s,co,fs⟩ ⟨kd,n,dg,D,ps⟩=(zM ⟨s,co,fs⟩ t co q,⟨q, [], [],p2,0, []⟩):=by
  unfold entD;rw [if_neg (show ¬(kd=5) by have:=HK.o;omega),if_pos (show kd=6 from HK.o)];dsimp only;rw [HPD.o]
 rw [e1];obtain⟨⟨p',hd4⟩,hg5,hr5⟩:=HX.o;exact⟨_,_,_,rfl,zl hg5 hHw1 _ _ _ _ _ _,⟨p',(hd4.set6 hr5 (.inr (.inl rfl)) hgH _ _ _ _ _ _).mono fun b h=> .inl h⟩,⟨World.ownsRow_nil _ _ _ _,qB HL5.o (zf HL5.o hr5 aa) _ _ _ _ _ _,World.ownsRow_nil _ _ _ _⟩⟩
theorem z4o (g:Nat) (p:LoW) (l:LoP) (kd n:Nat) (dg D:ai) (ps:List PartP) (A:aj) (c:Nat) (A':aj) (c':Nat) (w:World) (hL:GoodL l) (h1:kd=7\/kd=8) (N:am) (hNg:N g) (hNw:∀b,N b->b<w.heap.size) (hb:DkB w g p l N) (hd:Sl w 1 A D.length c (bys D)) (hq:Sl w 3 A' ps.length c' (pcs ps)) :
  Calls Tryz.prog 50 #[.pointer (aG ⟨g,0,aF⟩),orV kd n dg D ps A c A' c'] w (ka w g N (entD l ⟨kd,n,dg,D,ps⟩)):=by
 have k1:((kd:Int)==5)=false:=by rw [beq_eq_false_iff_ne];omega
 have k2:((kd:Int)==6)=false:=by rw [beq_eq_false_iff_ne];omega
 have k3:((kd:Int)==7)=decide (kd=7):=by rw [Bool.eq_iff_iff,beq_iff_eq,decide_eq_true_iff];omega
 have HK:=sqH h1;have HK3:=sqH k3;clear h1 k3;obtain⟨X,cX,Y,dY,G,ng,F,cF⟩:=p;obtain⟨s,co,fs⟩:=l;obtain⟨w0,H,HDK,HBC,hws,HBX,HD,HQ,hHw,hHw1,hgH,hHl,hgl,hgw,HP,HR,HL,HNW,x0,x1,x2,x3,x4,HW0,HH⟩:=Yf kd n dg D ps A c A' c' hL hNw hb hd hq;clear hb hd hq hL hNw;go_enter func50,ntmps50
 refine wM 9 ?_;intros;rw [<-HW0.o,<-HH.o];clear x0 x1 x2 x3 x4;have HPB:=sqH (fun W (h:Below w0.heap.size w0 W)=>z4p X cX Y dY s W dg (decide (kd=7)) HL.o.s (HDK.o W h).rd.s);rw [<-HK3.o]at HPB;generalize hpb:heP s dg ((kd:Int)==7)=r at HPB;obtain⟨t,q⟩:=r;dsimp only at HPB;have HPD:=sqH hpb;clear hpb;have HSB:=sqH (show ∀W,Below w0.heap.size w0 W->(wI W g (aA X s.aI.length cX) (aA Y s.aJ.length dY) (aB aC s.aL) (aB aC s.aK))/\W.cell? ⟨H,2,aF⟩=aG (aD ⟨dg.toArray⟩)/\W.cell? ⟨H,0,aF⟩=aG (aB aC kd) from fun W h=>by
  obtain⟨y0,y1,y2,y3,_⟩:=HBC.o W h;exact⟨⟨y0,y1,y2,y3⟩,(HP.o W h).c2,(HP.o W h).c0⟩)
 iterate 1 (first | go_values | go_skip | go_guarded | go_step | go_upon | go_back)
 apply zC;intro REST;apply zC;intro Rb1;refine ze [15] (S:=(fun w'=>(wI w' g (aA X s.aI.length cX) (aA Y s.aJ.length dY) (aB aC s.aL) (aB aC s.aK))/\w'.cell? ⟨H,2,aF⟩=aG (aD ⟨dg.toArray⟩)/\w'.cell? ⟨H,0,aF⟩=aG (aB aC kd))) ww ?_ (fun hHeld=> ?_)
 ·exact HSB.o _ (((wo w0)).drew)
 have hB:=((wo w0)).drew;generalize w0.drew=wn0 at *
 refine wT 0 ?_;refine wT 1 ?_;refine wT 2 ?_;refine wT 3 ?_;refine wS 4 ?_;refine wT 5 ?_;refine wS 6 ?_;refine wT 7 ?_;refine wS 8 ?_;refine wT 9 ?_;refine za (rs:= [10,14]) ww ab ?_;refine z8.cons (o:=_) rfl (fun K hK=> ?_) ?_
 ·
  go_simp;refine(HPB.o wn0 hB).mono ?_;rintro e5 w5 ⟨v1,v2,rfl,ho5,hb5⟩;obtain⟨A1,c1,B1,d1,rfl,rfl, -⟩:=ho5.rows;dsimp only;refine wC hK (HSB.o _ ((wm hB hb5))) (fun W=>Below w0.heap.size w0 W/\OwSt W w.heap.size (aA A1 t.aI.length c1) (aA B1 t.aJ.length d1) t (fun b=>(N b\/b=H+1))) (by exact⟨wm hB hb5,(ho5.lower (base':=w.heap.size) (by have:=hB.size;omega)).mono (N':=(fun b=>(N b\/b=H+1))) (fun b hb=>by have:=hB.size;rcases hb with hb | hb;(have:=HNW.o b hb;omega);omega)⟩) fun wn1 hF=> ?_;clear hB hHeld hb5 ho5 hK K;obtain⟨hHeld,hB,ho⟩:=hF
  refine wT 11 ?_;refine wT 12 ?_;refine wT 13 ?_;refine wX 14 fun K hK=>?_;obtain⟨g5,hge,hba,hn,hnl,hN⟩:=wG wn1 38 [aA aF 0 0,aA aF 0 0,aB aC 0,aB aC 0] hB.size;go_simp;rw [<-hge];clear hge;refine wC hK (HSB.o _ ((wm hB hba))) (fun W=>Below w0.heap.size w0 W/\Arr W g5 38 [aA aF 0 0,aA aF 0 0,aB aC 0,aB aC 0]/\w0.heap.size<=g5/\OwSt W w.heap.size (aA A1 t.aI.length c1) (aA B1 t.aJ.length d1) t (fun b=>(N b\/b=H+1)\/b=g5)) ⟨wm hB hba,hn,hnl,(ho.wider (N':=(fun b=>(N b\/b=H+1)\/b=g5)) (fun b hb=>hb.elim (fun hb=> .inl hb) (fun hb=> .inr (hN _ hb)))).below hba⟩ fun wn2 hF=> ?_;clear ho hB hHeld hba hn hnl hN hK K;obtain⟨hHeld,hB,h5,h5l,ho⟩:=hF
  try simp only [sqP]
  have hall:=aH hB (aH h5 (aH h5l (aH ho hHeld)));clear hHeld ho h5l h5 hB;generalize wn2=wz at hall ⊢
  revert hall;revert wz;revert g5;revert d1;revert B1;revert c1;revert A1;exact Rb1.o
 refine z8.cons (o:=_) rfl (fun K hK=> ?_) ?_
 ·
  obtain⟨g5,hge,hba,hn,hnl,hN⟩:=wG wn0 38 [aA aF 0 0,aA aF 0 0,aB aC 0,aB aC 0] hB.size;go_simp;rw [<-hge];clear hge;refine wC hK (HSB.o _ ((wm hB hba))) (fun W=>Below w0.heap.size w0 W/\Arr W g5 38 [aA aF 0 0,aA aF 0 0,aB aC 0,aB aC 0]/\w0.heap.size<=g5) ⟨wm hB hba,hn,hnl⟩ fun wn3 hF=> ?_;clear hB hHeld hba hn hnl hN hK K;obtain⟨hHeld,hB,h5,h5l⟩:=hF
  try simp only [sqP]
  refine wX 10 fun K hK=>?_;go_simp;refine(HPB.o wn3 hB).mono ?_;rintro e5 w5 ⟨v1,v2,rfl,ho5,hb5⟩;obtain⟨A1,c1,B1,d1,rfl,rfl, -⟩:=ho5.rows;dsimp only;refine wC hK (HSB.o _ ((wm hB hb5))) (fun W=>Below w0.heap.size w0 W/\Arr W g5 38 [aA aF 0 0,aA aF 0 0,aB aC 0,aB aC 0]/\w0.heap.size<=g5/\OwSt W w.heap.size (aA A1 t.aI.length c1) (aA B1 t.aJ.length d1) t (fun b=>(N b\/b=H+1)\/b=g5)) (by exact⟨wm hB hb5,h5.below hb5,h5l,(ho5.lower (base':=w.heap.size) (by have:=hB.size;omega)).mono (N':=(fun b=>(N b\/b=H+1)\/b=g5)) (fun b hb=>hb.elim (fun hb=>by have:=hB.size;rcases hb with hb | hb;(have:=HNW.o b hb;omega);omega) (fun hb=>(by rw [hb];exact h5.lt)))⟩) fun wn4 hF=> ?_;clear h5l h5 hB hHeld hb5 ho5 hK K;obtain⟨hHeld,hB,h5,h5l,ho⟩:=hF
  refine wT 11 ?_;refine wT 12 ?_;refine wT 13 ?_;exact Rb1.o A1 c1 B1 d1 g5 wn4 ⟨hB,h5,h5l,ho,hHeld⟩
 exact z8.nil;intro A1 c1 B1 d1 g5 wRb1 hall;obtain⟨hB,h5,h5l,ho,hHeld⟩:=hall;refine za (rs:= [15]) ww ab ?_;refine z8.store (o:=_) rfl ac (fun K hK=> ?_) ?_
 ·
  have hqho:=ho.nb h5 aa aa;obtain⟨z0,f0,z1,f1,z2,f2,z3,f3⟩:=wg h5;go_simp;clear z0 f0 z1 f1 z2 f2 z3 f3;refine wD hK (fun W=>Below w0.heap.size w0 W/\Arr W g5 38 [(aA A1 t.aI.length c1),(aA B1 t.aJ.length d1),aB aC t.aL,aB aC t.aK]/\w0.heap.size<=g5/\OwSt W w.heap.size (aA A1 t.aI.length c1) (aA B1 t.aJ.length d1) t (fun b=>(N b\/b=H+1)\/b=g5)) ⟨((((hB).setCell (p:=⟨g5,0,aF⟩) h5l _).setCell (p:=⟨g5,1,aF⟩) h5l _).setCell (p:=⟨g5,2,aF⟩) h5l _).setCell (p:=⟨g5,3,aF⟩) h5l _,h5.all4 _ _ _ _,h5l,ho.set4N (.inr rfl) hqho.1 hqho.2 _ _ _ _⟩ fun wn5 hF=> ?_;clear ho h5l h5 hB hHeld;obtain⟨hB,h5,h5l,ho⟩:=hF;clear hqho;clear hK K
  refine wT 16 ?_;refine zo ww ?_ _
  try dsimp only [Exit.then]
  have hall:=aH hB (aH h5 (aH h5l ho));clear ho h5l h5 hB;generalize wn5=wz at hall ⊢
  revert hall;revert wz;revert g5;revert d1;revert B1;revert c1;revert A1;exact REST.o
 exact z8.nil;intro A1 c1 B1 d1 g5 w3 hall;obtain⟨hB,h5,h5l,ho⟩:=hall;have HSB:=sqH (show ∀W,Below w3.heap.size w3 W->wI W g5 (aA A1 t.aI.length c1) (aA B1 t.aJ.length d1) (aB aC t.aL) (aB aC t.aK) from fun W h=>sqC4 (h5.below h));have HSG:=sqH (show ∀W W',Below w3.heap.size w3 W->W.grownBy W' (aG g)->wI W' g5 (aA A1 t.aI.length c1) (aA B1 t.aJ.length d1) (aB aC t.aL) (aB aC t.aK) from fun W W' h h'=>by
  have h6:=(h5.below h).grown h' af;exact sqC4 h6)
 have HSK:=sqH (show ∀W W':World,(wI W g5 (aA A1 t.aI.length c1) (aA B1 t.aJ.length d1) (aB aC t.aL) (aB aC t.aK))->Below W.heap.size W W'->wI W' g5 (aA A1 t.aI.length c1) (aA B1 t.aJ.length d1) (aB aC t.aL) (aB aC t.aK) from fun W W' h h'=>by have h2:=zZ h' aF;exact⟨h2.cell h.1 ab,h2.cell h.2.1 ab,h2.cell h.2.2.1 ab,h2.cell h.2.2.2 ab⟩);have hot:=(ho.wider (N':=(fun b=>N b\/b=H+1)) (fun b hb=> .inl (.inl hb))).lower (base':=g+1) wu;have HKP:=sqH (fun (W:World) (h:Below w3.heap.size w3 W)=>KK g ⟨X,cX,Y,dY,G,ng,F,cF⟩ ⟨s,co,fs⟩ _ _ (aA G co.aM.length ng) t co q W (fun b=>N b\/b=H+1) (.inl hNg) ((HDK.o _ (wm hB h)).mono fun b hb=>hb.imp id fun h=>wu) (fun _=>⟨hot.below h,zc (HDK.o _ hB).own.c h⟩));have HBX3:=sqH (HBX.o.trans (hB.mono hws));have hws3:w.heap.size<=w3.heap.size:=Nat.le_trans hws hB.size;have hHl3:H+1<w3.heap.size:=Nat.lt_of_lt_of_le hHl hB.size;have hgl3:g<w3.heap.size:=wu;have hg5l:g5<w3.heap.size:=h5.lt;replace HR:=z2o HR hB;replace HBC:=z2o HBC hB;clear hot h5 ho hB;clear h5l HPB
 refine wM 10 ?_;intros;iterate 1 (first | go_values | go_skip | go_guarded | go_step | go_upon | go_back)
 apply zC;intro REST2;refine ze [9] (S:=(fun w'=>wI w' g5 (aA A1 t.aI.length c1) (aA B1 t.aJ.length d1) (aB aC t.aL) (aB aC t.aK))) ww ?_ (fun hHeld=> ?_)
 ·exact HSB.o _ (Below.refl w3.heap.size w3).drew
 have hB:=(Below.refl w3.heap.size w3).drew;generalize w3.drew=wn0 at *
 refine wT 0 ?_;refine wS 1 ?_;refine wT 2 ?_;refine wT 3 ?_;refine wT 4 ?_;refine wT 5 ?_;refine wT 7 ?_;refine za (rs:= [6]) ww ab ?_;refine z8.cons (o:=_) rfl (fun K hK=> ?_) ?_
 ·
  obtain⟨y0,y1,y2,y3,y4,y5,y6,y7⟩:=HBC.o _ hB;go_simp;clear y0 y1 y2 y3 y4 y5 y6 y7;refine wC hK (HSB.o _ hB) (fun W=>Below w3.heap.size w3 W) hB fun wn1 hF=> ?_;obtain⟨hHeld2,hF⟩:=hF;clear hB hHeld;have hHeld:=hHeld2;clear hHeld2;have hB:=hF;clear hK K
  try simp only [sqP]
  refine wX 8 fun K hK=>?_;go_simp;refine(HKP.o wn1 hB).mono ?_;rintro e5 w5 ⟨rfl,hg5,hd5⟩;dsimp only;refine wC hK (HSG.o _ _ hB hg5) (fun W=>w.grownBy W (aG g)/\(∃p2,DkB W g p2 (zM ⟨s,co,fs⟩ t co q) (fun b=>N b\/b=H+1))/\Arr W (H+1) 82 [aB aC 0,aD ⟨#[]⟩,aA aF 0 0,aA aF 0 0,aB aC 0,aA aF 0 0]) ⟨zR (HBX3.o.trans (hB.mono wu)) hg5,hd5,(HR.o _ hB).grown hg5 af⟩ fun wn2 hF=> ?_;clear hB hHeld hg5 hd5 hK K;obtain⟨hHeld,hKg,hD,hR⟩:=hF
  try simp only [sqP]
  refine wW 9 fun K hK=>?_;obtain⟨z0,f0,z1,f1,z2,f2,z3,f3,z4,f4,z5,f5⟩:=wj hR;go_simp;clear z0 f0 z1 f1 z2 f2 z3 f3 z4 f4 z5 f5;refine wD hK (fun W=>w.grownBy W (aG g)/\(∃p2,DkB W g p2 (zM ⟨s,co,fs⟩ t co q) (fun b=>N b\/b=H+1))/\Arr W (H+1) 82 [aB aC q,aD ⟨#[]⟩,aA aF 0 0,aA aF 0 0,aB aC 0,aA aF 0 0]) ⟨zl hKg wu _ _ _ _ _ _,hD.imp fun _ h=>h.set6 hR (.inr rfl) wu _ _ _ _ _ _,hR.all6 _ _ _ _ _ _⟩ fun wn3 hF=> ?_;clear hR hD hKg hHeld;obtain⟨hKg,hD,hR⟩:=hF;clear hK K
  try simp only [sqP]
  refine zo ww ?_ _
  try dsimp only [Exit.then]
  have hall:=aH hKg (aH hD hR);clear hR hD hKg;generalize wn3=wz at hall ⊢
  revert hall;revert wz;exact REST2.o
 exact z8.nil;intro w4 hall;obtain⟨hKg,hD,hR⟩:=hall;have HX:=sqH (aH hD hKg);have HF:=sqH hR;clear hD hKg hR
 refine wL ?_;intros;refine bodyPost_ret (results_cell_row rfl _ _ (H+1) _ _ _ _ ac HF.o underlying82 rfl ww) rfl ?_;have e1:entD ⟨s,co,fs⟩ ⟨kd,n,dg,D,ps⟩=(zM ⟨s,co,fs⟩ t co q,Yq q):=by
  unfold entD;rw [if_neg (show ¬(kd=5) by have:=HK.o;omega),if_neg (show ¬(kd=6) by have:=HK.o;omega)];dsimp only;rw [<-HK3.o,HPD.o]
 rw [e1];obtain⟨⟨p2,hD⟩,hK⟩:=HX.o;exact⟨_,_,_,rfl,hK,⟨p2,hD.mono fun b h=> .inl h⟩,.e_ q⟩
theorem JJ {d:ai} (h:hexC d=0):d.length=64:=by
 unfold hexC at h;split at h
 ·cases h
 ·omega
theorem z4l (g:Nat) (p:LoW) (l:LoP) (kd n:Nat) (dg D:ai) (ps:List PartP) (A:aj) (c:Nat) (A':aj) (c':Nat) (w:World) (hL:GoodL l) (h3:D.length<=300) (hk:1<=kd/\kd<=4) (N:am) (hNg:N g) (hNw:∀b,N b->b<w.heap.size) (hb:DkB w g p l N) (hd:Sl w 1 A D.length c (bys D)) (hq:Sl w 3 A' ps.length c' (pcs ps)) :
  Calls zZZ 49 #[.pointer (aG ⟨g,0,aF⟩),orV kd n dg D ps A c A' c'] w (ka w g N (blobD l ⟨kd,n,dg,D,ps⟩)):=by
 have hc:kd=1\/kd=2\/(kd=3\/kd=4):=wu;rcases hc with h | h | h
 ·exact z2r g p l kd n dg D ps A c A' c' w hL h3 h N hNg hNw hb hd hq
 ·exact z2s g p l kd n dg D ps A c A' c' w hL h N hNg hNw hb hd hq
 ·exact z2t g p l kd n dg D ps A c A' c' w hL h N hNg hNw hb hd hq
theorem z5l (g:Nat) (p:LoW) (l:LoP) (kd n:Nat) (dg D:ai) (ps:List PartP) (A:aj) (c:Nat) (A':aj) (c':Nat) (w:World) (hL:GoodL l) (hx:hexC dg=0) (hpz:chk ps=0) (hck:l.st.aK<1099511627776) (hlen:l.st.aJ.length<10) (hk:5<=kd/\kd<=8) (N:am) (hNg:N g) (hNw:∀b,N b->b<w.heap.size) (hb:DkB w g p l N) (hd:Sl w 1 A D.length c (bys D)) (hq:Sl w 3 A' ps.length c' (pcs ps)) :
  Calls zZZ 50 #[.pointer (aG ⟨g,0,aF⟩),orV kd n dg D ps A c A' c'] w (ka w g N (entD l ⟨kd,n,dg,D,ps⟩)):=by
 have hc:kd=5\/kd=6\/(kd=7\/kd=8):=wu;rcases hc with h | h | h
 ·exact z4m g p l kd n dg D ps A c A' c' w hL hx hpz hck hlen h N hNg hNw hb hd hq
 ·exact z4n g p l kd n dg D ps A c A' c' w hL hck h N hNg hNw hb hd hq
 ·exact z4o g p l kd n dg D ps A c A' c' w hL h N hNg hNw hb hd hq
theorem z4q (g:Nat) (p:LoW) (l:LoP) (kd n:Nat) (dg D:ai) (ps:List PartP) (A:aj) (c:Nat) (A':aj) (c':Nat) (w:World) (hL:GoodL l) (h8:8*unm l.st.aI+l.co.aM.length<=1000) (hn:n<=4000) (hk:9<=kd/\kd<=11) (N:am) (hNg:N g) (hNw:∀b,N b->b<w.heap.size) (hb:DkB w g p l N) (hd:Sl w 1 A D.length c (bys D)) (hq:Sl w 3 A' ps.length c' (pcs ps)) :
  Calls zZZ 51 #[.pointer (aG ⟨g,0,aF⟩),orV kd n dg D ps A c A' c'] w (ka w g N (roomD l ⟨kd,n,dg,D,ps⟩)):=by
 have hc:kd=9\/kd=10\/kd=11:=wu;rcases hc with h | h | h
 ·exact z2z g p l kd n dg D ps A c A' c' w hL hn h N hNg hNw hb hd hq
 ·exact z06 g p l kd n dg D ps A c A' c' w hL h N hNg hNw hb hd hq
 ·exact z07 g p l kd n dg D ps A c A' c' w hL h8 hn h N hNg hNw hb hd hq
theorem z5m (g:Nat) (p:LoW) (l:LoP) (kd n:Nat) (dg D:ai) (ps:List PartP) (A:aj) (c:Nat) (A':aj) (c':Nat) (w:World) (hL:GoodL l) (hx:hexC dg=0) (hpz:chk ps=0) (hck:l.st.aK<1099511627776) (hlen:l.st.aJ.length<10) (hn1:kd=12->1<=n/\n<=1000) (hk:12<=kd/\kd<=14) (N:am) (hNg:N g) (hNw:∀b,N b->b<w.heap.size) (hb:DkB w g p l N) (hd:Sl w 1 A D.length c (bys D)) (hq:Sl w 3 A' ps.length c' (pcs ps)) :
  Calls zZZ 52 #[.pointer (aG ⟨g,0,aF⟩),orV kd n dg D ps A c A' c'] w (ka w g N (fliD l ⟨kd,n,dg,D,ps⟩)):=by
 have hc:kd=12\/kd=13\/kd=14:=wu;rcases hc with h | h | h
 ·exact z2v g p l kd n dg D ps A c A' c' w hL hx (by have:=JJ hx;omega) (hn1 h).1 (hn1 h).2 hck h N hNg hNw hb hd hq
 ·exact z2w g p l kd n dg D ps A c A' c' w hL hx hpz hck hlen h N hNg hNw hb hd hq
 ·exact z2x g p l kd n dg D ps A c A' c' w hL h N hNg hNw hb hd hq
theorem JL {o:OrdP} (h:GoodO o):o.dig= []\/hexC o.dig=0:=by
 cases hf:(fOf o.kind).1.dig with
 | false=>exact .inl (h.d0 hf)
 | true=>exact .inr (h.d1 hf)
theorem Q7 (kd n:Nat) (dg D:ai) (ps:List PartP) (A:aj) (c:Nat) (A':aj) (c':Nat) (w:World) (ho:GoodO ⟨kd,n,dg,D,ps⟩) (hqc:ps.length<=c') (hqr:Rd w 3 A' ps.length (pcs ps)) :
  Calls zZZ 16 #[orV kd n dg D ps A c A' c'] w fun e w'=>e= .returned (aB aC 0)/\Below w.heap.size w w':=by
 have hdl:dg.length<=140737488351232:=by
  rcases JL ho with h | h
  ·have h:dg= []:=h;rw [h];simp
  ·have:=JJ h;have:dg.length=64:=this;omega
 have hp8:=(zi ho.p1).1;have hpm:ps.length<=9223372036854775807:=by have:ps.length<=8:=hp8;omega
 have hok:=vL ho.p1;have hcz:chk ps=0:=ho.p1;have hn4:n<=4000:=ho.n1;have ht3:D.length<=300:=ho.t1;obtain⟨⟨fn,fd,ft,fp⟩,hff⟩:∃f,fOf kd=(f,true):=⟨(fOf kd).1,by
  have:=ho.kind;show fOf kd=_;rw [<-show(fOf kd).2=true from this]⟩
 have h1:fn=false->n=0:=fun h=>ho.n0 (by show(fOf kd).1.n=false;rw [hff];exact h);have h2:fd=false->dg= []:=fun h=>ho.d0 (by show(fOf kd).1.dig=false;rw [hff];exact h);have h3:ft=false->D.length=0:=fun h=>by rw [show D= [] from ho.t0 (by show(fOf kd).1.data=false;rw [hff];exact h)];rfl
 have h4:fp=false->ps.length=0:=fun h=>by rw [show ps= [] from ho.p0 (by show(fOf kd).1.aP=false;rw [hff];exact h)];rfl
 have h5:fd=true->hexC dg=0:=fun h=>ho.d1 (by show(fOf kd).1.dig=true;rw [hff];exact h);have hsh:(fn=false/\fd=false/\ft=true/\fp=false)\/(fn=false/\fd=true/\ft=false/\fp=false)\/(fn=false/\fd=true/\ft=false/\fp=true)\/(fn=true/\fd=false/\ft=false/\fp=false)\/(fn=false/\fd=false/\ft=false/\fp=false)\/(fn=true/\fd=true/\ft=false/\fp=false):=by
  have hz:=hff;unfold fOf at hz
  repeat' split at hz
  all_goals first | (cases hz;simp;done) | cases hz
 unfold orV;obtain⟨S,hS⟩:=wY (⟨dg.toArray⟩:ByteArray)
 have HX:=sqH (fun (h:fd=true) w'=>kF 0 (r:=0) ac (show hexC S.data.toList=0 by rw [hS];exact h5 h) w' (by rw [hS];simpa [ByteArray.size] using hdl));have e2':fd=false->S.toList.isEmpty=true:=fun h=>by rw [hS,h2 h,ByteArray.toList,ByteArray.toList.loop];simp [ByteArray.size]
 rw [<-hS];generalize hdl':D.length=dl at *
 obtain⟨w1,hw1⟩:=wY (w.alloc (aE #[aB aC kd,aB aC n,aD S,aA A dl c,aA A' ps.length c'] 28))
 have hof:=z0m kd w1;unfold z0l at hof;rw [hff]at hof;simp only [fcs]at hof;have hb1:Below w.heap.size w w1:=by rw [hw1];exact(Below.refl _ _).alloc ag _
 have hr1:Rd w1 3 A' ps.length (pcs ps):=hqr.below hb1;have hA1:Arr w1 w.heap.size 28 [aB aC kd,aB aC n,aD S,aA A dl c,aA A' ps.length c']:=by rw [hw1];exact Arr.new w 28 _
 obtain⟨g,hg⟩:=wY w.heap.size
 rw [<-hg]at hA1;have HAF:=sqH (show ∀w2,Below w1.heap.size w1 w2->∃w3,w3=w2.alloc (aE #[.bool fn,.bool fd,.bool ft,.bool fp] 62)/\Below w.heap.size w w3/\Arr w3 g 28 [aB aC kd,aB aC n,aD S,aA A dl c,aA A' ps.length c']/\Rd w3 3 A' ps.length (pcs ps) from fun w2 h =>
  have hb:=wm hb1 h
  ⟨_,rfl,hb.alloc hb.size _,(hA1.below h).alloc _,(hr1.below h).alloc _⟩)
 have HCK:=sqH (fun w' (hw:Rd w' 3 A' ps.length (pcs ps))=>yK A' ps.length c' ps w' rfl hqc hpm hok hw);rw [hcz]at HCK;have f0:=hA1.c0;rw [hw1]at f0;obtain⟨HOF,HW1,HG⟩:=sqJ3 hof hw1 hg;have e5:decide ((n:Int)<0)=false:=decide_eq_false wu;have e6:decide ((4000:Int)<(n:Int))=false:=decide_eq_false wu;have e8:decide ((300:Int)<(dl:Int))=false:=decide_eq_false wu;have e9:decide (300<dl)=false:=decide_eq_false wu;clear hof hff hS hok hcz hw1 hb1 hr1 hg hp8 hpm hdl hn4 hdl' h2 h5 ho hqr;rcases hsh with ⟨rfl,rfl,rfl,rfl⟩ | ⟨rfl,rfl,rfl,rfl⟩ | ⟨rfl,rfl,rfl,rfl⟩ | ⟨rfl,rfl,rfl,rfl⟩ | ⟨rfl,rfl,rfl,rfl⟩ | ⟨rfl,rfl,rfl,rfl⟩
 all_goals (
  first | (have e1:((n:Int) != 0)=false:=by rw [h1 rfl];rfl) | skip
  first | (have e2:=e2' rfl) | skip
  first | (have e3:decide ((0:Int)<(dl:Int))=false:=decide_eq_false (by have:=h3 rfl;omega)) | skip
  first | (have e3':decide (0<dl)=false:=decide_eq_false (by have:=h3 rfl;omega)) | skip
  first | (have e4:decide ((0:Int)<(ps.length:Int))=false:=decide_eq_false (by have:=h4 rfl;omega)) | skip
  first | (have e4':decide (0<ps.length)=false:=decide_eq_false (by have:=h4 rfl;omega)) | skip
  clear h1 h3 h4 e2';go_enter func16,ntmps16
  refine wL ?_;intros;rw [<-HW1.o];simp only [<-HG.o];clear f0 hA1;refine wZ HOF.o fun w2 hb2=>?_;dsimp only;obtain⟨w3,hw3,hB3,hA3,hr3⟩:=HAF.o w2 hb2;have f1:=hA3.c1;have f2:=hA3.c2;have f3:=hA3.c3;have f4:=hA3.c4;rw [hw3]at f1 f2 f3 f4;have HW3:=sqH hw3;have HB3:=sqH hB3;clear hb2 hw3 hB3
  refine wL ?_;intros;rw [<-HW3.o]at f1 f2 f3 f4 ⊢
  first
  | (
    refine wZ (HCK.o w3 hr3) fun w5 hb5=>?_;dsimp only;clear f1 f2 f3 f4 hA3 hr3
    refine wL ?_;intros;go_ret;exact⟨rfl,wm HB3.o hb5⟩)
  | (
    refine wZ (HX.o rfl w3) fun w4 hb4=>?_;dsimp only;clear f1 f2 f3 f4;have hA4:=hA3.below hb4;have hr4:=hr3.below hb4;have f3:=hA4.c3;have f4:=hA4.c4;have HB4:=sqH (wm HB3.o hb4);clear hA3 hr3 hA4 hb4
    refine wL ?_;intros;refine wZ (HCK.o w4 hr4) fun w5 hb5=>?_;dsimp only;clear f3 f4 hr4
    refine wL ?_;intros;go_ret;exact⟨rfl,wm HB4.o hb5⟩))
theorem z2y (g:Nat) (p:LoW) (l:LoP) (kd n:Nat) (dg D:ai) (ps:List PartP) (A:aj) (c:Nat) (A':aj) (c':Nat) (w:World) (m:Nat) (hi:LInv m l) (hm:m<=78) (ho:GoodD ⟨kd,n,dg,D,ps⟩) (N:am) (hNg:N g) (hNw:∀b,N b->b<w.heap.size) (hb:DkB w g p l N) (hd:Sl w 1 A D.length c (bys D)) (hq:Sl w 3 A' ps.length c' (pcs ps)) :
  Calls zZZ 29 #[.pointer (aG ⟨g,0,aF⟩),orV kd n dg D ps A c A' c'] w (ka w g N (xp l ⟨kd,n,dg,D,ps⟩)):=by
 have hL:=hi.good hm;have hck:l.st.aK<1099511627776:=by have:=hi.b.ck;omega
 have hlen:l.st.aJ.length<10:=by have:=hi.b.e7;omega
 have h8:8*unm l.st.aI+l.co.aM.length<=1000:=by have:=hi.b.gr;omega
 have hk14:1<=kd/\kd<=14:=Kh ho.g.kind;have hx:(5<=kd/\kd<=8)\/12<=kd->hexC dg=0:=fun h=>by
  obtain⟨j,_,e⟩:=ho.k7 h;rw [show dg=keyS j from e];exact zE _
 have HC:=sqH (aH hck (aH hlen (aH h8 (aH hk14 (aH hx ho)))));clear hi hck hlen h8 hk14 hx;have HGO:=sqH ho;clear ho;obtain⟨X,cX,Y,dY,G,ng,F,cF⟩:=p;obtain⟨s,co,fs⟩:=l;obtain⟨w0,H,HDK,HBC,hws,HBX,HD,HQ,hHw,hHw1,hgH,hHl,hgl,hgw,HP,HR,HL,HNW,x0,x1,x2,x3,x4,HW0,HH⟩:=Yf kd n dg D ps A c A' c' hL hNw hb hd hq;clear hb hd hq hL hNw;go_enter func29,ntmps29
 refine wL ?_;intros;rw [<-HW0.o,<-HH.o];clear x0 x1 x2 x3 x4;refine wZ ((Q7 kd n dg D ps A c A' c' w0 HGO.o.g HQ.o.cap HQ.o.rd)) fun w1 hb1=>?_;dsimp only;have HNW1:=sqH (show ∀b,(N b\/b=H+1)->b<w1.heap.size from fun b hb=>by have:=hb1.size;rcases hb with hb | hb;(have:=HNW.o b hb;omega);omega);have hb0:=(HDK.o _ hb1).mono (N':=fun b=>N b\/b=H+1) (fun b hb=>hb.imp id fun h=>wu);by_cases h4:kd<=4
 ·have c4:decide ((kd:Int)<=4)=true:=decide_eq_true wu;have c4':decide (kd<=4)=true:=decide_eq_true h4;have HK:=sqH h4;clear h4;have HM:=sqH (z4l g _ ⟨s,co,fs⟩ kd n dg D ps A c A' c' w1 HL.o HGO.o.g.t1 (by have:=HC.o.2.2.2.1;have:=HK.o;omega) (fun b=>N b\/b=H+1) (.inl hNg) HNW1.o hb0 (HD.o.below hb1) (HQ.o.below hb1));obtain⟨o0,o1,o2,o3,o4⟩:=sqC5 (HP.o w1 hb1);have HB:=sqH hb1;clear hb1
  refine wL ?_;intros;refine(HM.o).mono ?_;rintro e_ w2 ⟨dv,pv,wv,rfl,hg2,hd2,hra⟩;dsimp only;obtain⟨P1,q1,rfl, -, -⟩:=Rd.of_own' hra.d;obtain⟨P2,q2,rfl, -, -⟩:=Rd.of_own' hra.p;obtain⟨P3,q3,rfl, -, -⟩:=Rd.of_own' hra.w;have hr3:=(HR.o _ HB.o).grown hg2 af;have HX:=sqH (aH hd2 (aH (zR (HBX.o.trans (HB.o.mono hws)) hg2) (aH hr3 hra)));clear o0 o1 o2 o3 o4 hg2 hd2 hra HM;have e1:xp ⟨s,co,fs⟩ ⟨kd,n,dg,D,ps⟩=blobD ⟨s,co,fs⟩ ⟨kd,n,dg,D,ps⟩:=(by unfold xp;rw [if_pos HK.o])
  have HE1:=sqH e1;clear e1;generalize hrr:blobD ⟨s,co,fs⟩ ⟨kd,n,dg,D,ps⟩=r at *
  obtain⟨l2,r⟩:=r;dsimp only at HX hr3 ⊢
  clear hrr;obtain⟨f0,f1,f2,f3,f4,f5⟩:=sqF6 hr3;obtain⟨y0,y1,y2,y3,y4,y5⟩:=sqC6 hr3;have HR3:=sqH hr3;have HF:=sqH (hr3.all6 (aB aC r.err) (aD ⟨r.dig.toArray⟩) (aA P1 r.data.length q1) (aA P2 r.aP.length q2) (aB aC r.n) (aA P3 r.who.length q3));clear hr3
  refine wL ?_;intros;refine bodyPost_ret (results_cell_row rfl _ _ (H+1) _ _ _ _ ac HF.o underlying82 rfl ww) rfl ?_;rw [HE1.o];obtain⟨⟨p',hd4⟩,hg5,hr5,hra⟩:=HX.o;have hs1:w.heap.size<=w1.heap.size:=Nat.le_trans hws HB.o.size;have hra2:RepAt w2 w.heap.size r (aA P1 r.data.length q1) (aA P2 r.aP.length q2) (aA P3 r.who.length q3):=⟨zb hra.d hs1,zb hra.p hs1,zb hra.w hs1⟩
  exact⟨_,_,_,rfl,zl hg5 hHw1 _ _ _ _ _ _,⟨p',(hd4.set6 hr5 (.inr rfl) hgH _ _ _ _ _ _).mono fun b h=> .inl h⟩,hra2.set6 hr5 _ _ _ _ _ _⟩
 ·have c4:decide ((kd:Int)<=4)=false:=decide_eq_false wu;have c4':decide (kd<=4)=false:=decide_eq_false h4;by_cases h5:kd<=8
  ·have c8:decide ((kd:Int)<=8)=true:=decide_eq_true wu;have HK:=sqH (aH h4 h5);clear h4 h5;have HM:=sqH (z5l g _ ⟨s,co,fs⟩ kd n dg D ps A c A' c' w1 HL.o (HC.o.2.2.2.2.1 (wc HK)) HGO.o.g.p1 HC.o.1 HC.o.2.1 (wc HK) (fun b=>N b\/b=H+1) (.inl hNg) HNW1.o hb0 (HD.o.below hb1) (HQ.o.below hb1));obtain⟨o0,o1,o2,o3,o4⟩:=sqC5 (HP.o w1 hb1);have HB:=sqH hb1;clear hb1
   refine wL ?_;intros;refine(HM.o).mono ?_;rintro e_ w2 ⟨dv,pv,wv,rfl,hg2,hd2,hra⟩;dsimp only;obtain⟨P1,q1,rfl, -, -⟩:=Rd.of_own' hra.d;obtain⟨P2,q2,rfl, -, -⟩:=Rd.of_own' hra.p;obtain⟨P3,q3,rfl, -, -⟩:=Rd.of_own' hra.w;have hr3:=(HR.o _ HB.o).grown hg2 af;have HX:=sqH (aH hd2 (aH (zR (HBX.o.trans (HB.o.mono hws)) hg2) (aH hr3 hra)));clear o0 o1 o2 o3 o4 hg2 hd2 hra HM;have e1:xp ⟨s,co,fs⟩ ⟨kd,n,dg,D,ps⟩=entD ⟨s,co,fs⟩ ⟨kd,n,dg,D,ps⟩:=(by unfold xp;rw [if_neg HK.o.1,if_pos HK.o.2])
   have HE1:=sqH e1;clear e1;generalize hrr:entD ⟨s,co,fs⟩ ⟨kd,n,dg,D,ps⟩=r at *
   obtain⟨l2,r⟩:=r;dsimp only at HX hr3 ⊢
   clear hrr;obtain⟨f0,f1,f2,f3,f4,f5⟩:=sqF6 hr3;obtain⟨y0,y1,y2,y3,y4,y5⟩:=sqC6 hr3;have HR3:=sqH hr3;have HF:=sqH (hr3.all6 (aB aC r.err) (aD ⟨r.dig.toArray⟩) (aA P1 r.data.length q1) (aA P2 r.aP.length q2) (aB aC r.n) (aA P3 r.who.length q3));clear hr3
   refine wL ?_;intros;refine bodyPost_ret (results_cell_row rfl _ _ (H+1) _ _ _ _ ac HF.o underlying82 rfl ww) rfl ?_;rw [HE1.o];obtain⟨⟨p',hd4⟩,hg5,hr5,hra⟩:=HX.o;have hs1:w.heap.size<=w1.heap.size:=Nat.le_trans hws HB.o.size;have hra2:RepAt w2 w.heap.size r (aA P1 r.data.length q1) (aA P2 r.aP.length q2) (aA P3 r.who.length q3):=⟨zb hra.d hs1,zb hra.p hs1,zb hra.w hs1⟩
   exact⟨_,_,_,rfl,zl hg5 hHw1 _ _ _ _ _ _,⟨p',(hd4.set6 hr5 (.inr rfl) hgH _ _ _ _ _ _).mono fun b h=> .inl h⟩,hra2.set6 hr5 _ _ _ _ _ _⟩
  ·have c8:decide ((kd:Int)<=8)=false:=decide_eq_false wu;by_cases h11:kd<=11
   ·have c11:decide ((kd:Int)<=11)=true:=decide_eq_true wu;have HK:=sqH (aH h4 (aH h5 h11));clear h4 h5 h11;have HM:=sqH (z4q g _ ⟨s,co,fs⟩ kd n dg D ps A c A' c' w1 HL.o HC.o.2.2.1 HGO.o.g.n1 (wc HK) (fun b=>N b\/b=H+1) (.inl hNg) HNW1.o hb0 (HD.o.below hb1) (HQ.o.below hb1));obtain⟨o0,o1,o2,o3,o4⟩:=sqC5 (HP.o w1 hb1);have HB:=sqH hb1;clear hb1
    refine wL ?_;intros;refine(HM.o).mono ?_;rintro e_ w2 ⟨dv,pv,wv,rfl,hg2,hd2,hra⟩;dsimp only;obtain⟨P1,q1,rfl, -, -⟩:=Rd.of_own' hra.d;obtain⟨P2,q2,rfl, -, -⟩:=Rd.of_own' hra.p;obtain⟨P3,q3,rfl, -, -⟩:=Rd.of_own' hra.w;have hr3:=(HR.o _ HB.o).grown hg2 af;have HX:=sqH (aH hd2 (aH (zR (HBX.o.trans (HB.o.mono hws)) hg2) (aH hr3 hra)));clear o0 o1 o2 o3 o4 hg2 hd2 hra HM;have e1:xp ⟨s,co,fs⟩ ⟨kd,n,dg,D,ps⟩=roomD ⟨s,co,fs⟩ ⟨kd,n,dg,D,ps⟩:=(by unfold xp;rw [if_neg HK.o.1,if_neg HK.o.2.1,if_pos HK.o.2.2])
    have HE1:=sqH e1;clear e1;generalize hrr:roomD ⟨s,co,fs⟩ ⟨kd,n,dg,D,ps⟩=r at *
    obtain⟨l2,r⟩:=r;dsimp only at HX hr3 ⊢
    clear hrr;obtain⟨f0,f1,f2,f3,f4,f5⟩:=sqF6 hr3;obtain⟨y0,y1,y2,y3,y4,y5⟩:=sqC6 hr3;have HR3:=sqH hr3;have HF:=sqH (hr3.all6 (aB aC r.err) (aD ⟨r.dig.toArray⟩) (aA P1 r.data.length q1) (aA P2 r.aP.length q2) (aB aC r.n) (aA P3 r.who.length q3));clear hr3
    refine wL ?_;intros;refine bodyPost_ret (results_cell_row rfl _ _ (H+1) _ _ _ _ ac HF.o underlying82 rfl ww) rfl ?_;rw [HE1.o];obtain⟨⟨p',hd4⟩,hg5,hr5,hra⟩:=HX.o;have hs1:w.heap.size<=w1.heap.size:=Nat.le_trans hws HB.o.size;have hra2:RepAt w2 w.heap.size r (aA P1 r.data.length q1) (aA P2 r.aP.length q2) (aA P3 r.who.length q3):=⟨zb hra.d hs1,zb hra.p hs1,zb hra.w hs1⟩
    exact⟨_,_,_,rfl,zl hg5 hHw1 _ _ _ _ _ _,⟨p',(hd4.set6 hr5 (.inr rfl) hgH _ _ _ _ _ _).mono fun b h=> .inl h⟩,hra2.set6 hr5 _ _ _ _ _ _⟩
   ·have c11:decide ((kd:Int)<=11)=false:=decide_eq_false wu;have HK:=sqH (aH h4 (aH h5 h11));clear h4 h5 h11;have HM:=sqH (z5m g _ ⟨s,co,fs⟩ kd n dg D ps A c A' c' w1 HL.o (HC.o.2.2.2.2.1 (wc HK)) HGO.o.g.p1 HC.o.1 HC.o.2.1 HGO.o.ask (by have:=HK.o;have:=HC.o.2.2.2.1;omega) (fun b=>N b\/b=H+1) (.inl hNg) HNW1.o hb0 (HD.o.below hb1) (HQ.o.below hb1));obtain⟨o0,o1,o2,o3,o4⟩:=sqC5 (HP.o w1 hb1);have HB:=sqH hb1;clear hb1
    refine wL ?_;intros;refine(HM.o).mono ?_;rintro e_ w2 ⟨dv,pv,wv,rfl,hg2,hd2,hra⟩;dsimp only;obtain⟨P1,q1,rfl, -, -⟩:=Rd.of_own' hra.d;obtain⟨P2,q2,rfl, -, -⟩:=Rd.of_own' hra.p;obtain⟨P3,q3,rfl, -, -⟩:=Rd.of_own' hra.w;have hr3:=(HR.o _ HB.o).grown hg2 af;have HX:=sqH (aH hd2 (aH (zR (HBX.o.trans (HB.o.mono hws)) hg2) (aH hr3 hra)));clear o0 o1 o2 o3 o4 hg2 hd2 hra HM;have e1:xp ⟨s,co,fs⟩ ⟨kd,n,dg,D,ps⟩=fliD ⟨s,co,fs⟩ ⟨kd,n,dg,D,ps⟩:=(by unfold xp;rw [if_neg HK.o.1,if_neg HK.o.2.1,if_neg HK.o.2.2])
    have HE1:=sqH e1;clear e1;generalize hrr:fliD ⟨s,co,fs⟩ ⟨kd,n,dg,D,ps⟩=r at *
    obtain⟨l2,r⟩:=r;dsimp only at HX hr3 ⊢
    clear hrr;obtain⟨f0,f1,f2,f3,f4,f5⟩:=sqF6 hr3;obtain⟨y0,y1,y2,y3,y4,y5⟩:=sqC6 hr3;have HR3:=sqH hr3;have HF:=sqH (hr3.all6 (aB aC r.err) (aD ⟨r.dig.toArray⟩) (aA P1 r.data.length q1) (aA P2 r.aP.length q2) (aB aC r.n) (aA P3 r.who.length q3));clear hr3
    refine wL ?_;intros;refine bodyPost_ret (results_cell_row rfl _ _ (H+1) _ _ _ _ ac HF.o underlying82 rfl ww) rfl ?_;rw [HE1.o];obtain⟨⟨p',hd4⟩,hg5,hr5,hra⟩:=HX.o;have hs1:w.heap.size<=w1.heap.size:=Nat.le_trans hws HB.o.size;have hra2:RepAt w2 w.heap.size r (aA P1 r.data.length q1) (aA P2 r.aP.length q2) (aA P3 r.who.length q3):=⟨zb hra.d hs1,zb hra.p hs1,zb hra.w hs1⟩
    exact⟨_,_,_,rfl,zl hg5 hHw1 _ _ _ _ _ _,⟨p',(hd4.set6 hr5 (.inr rfl) hgH _ _ _ _ _ _).mono fun b h=> .inl h⟩,hra2.set6 hr5 _ _ _ _ _ _⟩
theorem RwX.set1R {k:Nat} {rs:List RepP} {u:Value} (h:RwX z0p 82 w base v rs (fun b=>b<=g)) (hg:gR<=g) (hA:Arr w gR 44 xs):RwX z0p 82 (w.setCell ⟨gR,k,aF⟩ u) base v rs (fun b=>b<=g):=by
 obtain⟨ys,hy⟩:=h.own_m;exact h.other (zF w gR k u) (fun b e=>by cases e;exact zf hy hA aa) (fun b e=>by cases e;exact hg)
theorem RwX.set8R {rs:List RepP} {x0 x1 x2 x3 x4 x5 x6 x7:Value} (h:RwX z0p 82 w base v rs (fun b=>b<=g)) (hg:gR<=g) (hA:Arr w gR 44 [x0,x1,x2,x3,x4,x5,x6,x7]) (u0 u1 u2 u3 u4 u5 u6 u7:Value):RwX z0p 82 (JW w gR u0 u1 u2 u3 u4 u5 u6 u7) base v rs (fun b=>b<=g):=by
 have a0:=hA.set (k:=0) ab u0;have a1:=a0.set (k:=1) ab u1;have a2:=a1.set (k:=2) ab u2;have a3:=a2.set (k:=3) ab u3;have a4:=a3.set (k:=4) ab u4;have a5:=a4.set (k:=5) ab u5;have a6:=a5.set (k:=6) ab u6;exact(((((((h.set1R hg hA).set1R hg a0).set1R hg a1).set1R hg a2).set1R hg a3).set1R hg a4).set1R hg a5).set1R hg a6
theorem vB {P:Program} {fn:Func} {p u z:Tmp} {ty:TypeId} (h:fn.results=#[.tmp u,.cell p ty,.tmp z]) (tmps:Array Value) (w:World) (g:Nat) (t:TypeId) (cs:Array Value) (fr:Nat×Nat) (d:TypeDesc)
  (hp:tmps.getD p undef= .pointer (aG ⟨g,0,aF⟩)) (hg:w.heap[g]?=aG (.cells cs t fr))
  (hu:P.underlying ty=aG d) (hd:(match d with | .struct _ | .array _ _=>true | _=>false)=true) (hi:(P.info? ty).map (·.size)=aG cs.size) :
  (results fn tmps).run P w= .ok (.tuple #[tmps.getD u undef,.agg cs,tmps.getD z undef]) w:=by
 have hp':tmps[p]?.getD undef= .pointer (aG ⟨g,0,aF⟩):=by simpa using hp
 simp [results,h,hp',asAddr,run_loadVar_row w g t ty cs fr d hg hu hd hi]
theorem OwLo.grownR {v1 v2 v3 v4:Value} (h:OwLo w base v1 v2 v3 v4 l N) (hx:w.ownsRow b' 82 6 vo n xs) (hg:w.grownBy w' vo.ownBlock) (hN:∀b,vo.ownBlock=aG b->N b):OwLo w' base v1 v2 v3 v4 l N:=by
 obtain⟨xs1,hx1⟩:=h.s.b.own_m;obtain⟨xs2,hx2⟩:=h.s.e.own_m;have kp:∀ {e:TypeId} {size m:Nat} {v:Value} {ys:ak},w.ownsRow base e size v m ys->e≠82->w'.ownsRow base e size v m ys:=fun ho hne=>ho.kept hg (by
  rename_i v ys;cases hb:v.ownBlock with
  | none=>exact .inl rfl
  | some b=>exact .inr (fun e=>uv ho hx hne b hb e.symm))
 refine⟨⟨h.s.b.other hg (fun b e1 e2=>uv hx1 hx aa b e2 e1) (fun b e=> .inl (hN b e)),h.s.e.other hg (fun b e1 e2=>uv hx2 hx aa b e2 e1) (fun b e=> .inl (hN b e)),h.s.ne⟩,kp h.c aa,?_⟩;obtain⟨As,h1,h2,h3,h4⟩:=h.f;exact⟨As,h1,kp h2 aa,fun k p a hp ha=>⟨kp (h3 k p a hp ha).1 aa,(h3 k p a hp ha).2⟩,h4⟩
theorem DkB.grownR {p:LoW} (h:DkB w g p l N) (hx:w.ownsRow b' 82 6 vo n xs) (hg:w.grownBy w' vo.ownBlock) (hN:∀b,vo.ownBlock=aG b->N b):DkB w' g p l N :=
 ⟨h.box.grown hg (zf hx h.box aa),h.own.grownR hx hg hN⟩
theorem z5e (aL:Nat) (A:aj) (n c:Nat) (os:List OrdP) (w:World) (hroom:aL<=4000) (hl:os.length=n) (hn:n<=79) (hc:n<=c) (hm:c<=maxLen) (hgo:∀o∈os,GoodD o) (hr:Rw OrdS w A os) :
  Calls zZZ 7 #[aB aC aL,aA A n c] w fun e w'=>∃vr v1 v2 v3 v4,e= .returned (.tuple #[vr,Yk v1 v2 v3 v4 (yW (lo0 aL) os).1,aB aC 0])/\RwX z0p 82 w' w.heap.size vr (yW (lo0 aL) os).2 (fun b=>b<w.heap.size)/\OwLo w' w.heap.size v1 v2 v3 v4 (yW (lo0 aL) os).1 (fun b=>b<w.heap.size)/\Below w.heap.size w w':=by
 obtain⟨w1,hw1,hR,hB,hbx⟩:=zI w 44 79 [aA aF 0 0,aA aF 0 0,aB aC 0,aB aC 0,aB aC 0,aA aF 0 0,aD ⟨#[]⟩,aA aF 0 0] [aA aF 0 0,aA aF 0 0,aB aC aL,aB aC 0,aB aC 0,aA aF 0 0,aD ⟨#[]⟩,aA aF 0 0];have hr0:decide ((aL:Int)<0)=false:=decide_eq_false wu;have hr1:decide ((aL:Int)>4000)=false:=decide_eq_false wu;have hr2:decide ((4000:Int)<(aL:Int))=false:=decide_eq_false wu;have hr3:decide (4000<aL)=false:=decide_eq_false wu;have hn0:decide ((n:Int)>80)=false:=decide_eq_false wu;have hn1:decide ((80:Int)<(n:Int))=false:=decide_eq_false wu;have hn2:decide (80<n)=false:=decide_eq_false wu;obtain⟨gR,hgR⟩:=wY w.heap.size
 obtain⟨g,hg⟩:=wY (w.heap.size+1)
 rw [<-hg]at hB;rw [<-hgR]at hR;have hgg:g=gR+1:=wu;have hgl:g<w1.heap.size:=hB.lt;have hDB0:DkB w1 g ⟨aF,0,aF,0,aF,0,aF,0⟩ (lo0 aL) (fun b=>b<=g\/(aA aF 0 0).ownBlock=aG b):=⟨hB,⟨⟨RwX.nil_ (World.ownsRow_nil _ _ _ _),RwX.nil_ (World.ownsRow_nil _ _ _ _),fun g h=>by cases h⟩,World.ownsRow_nil _ _ _ _,FlsO.nil_ _ _ _ (World.ownsRow_nil _ _ _ _)⟩⟩
 obtain⟨HDB0,HL,HGO,HRD,HW1,HBX,HGR,HGG⟩:=sqJ8 hDB0 hl hgo hr hw1 hbx hgR hg;have HR:=sqH hR;have hn63:n<=79:=hn;clear hl hgo hr hw1 hbx hgR hg hR hB hDB0 hm;go_enter func7,ntmps7
 refine wL ?_;intros;rw [<-HW1.o];simp only [<-HGR.o];rw [<-hgg];have hgR1:gR<g:=wu;have hgR2:∀b,b<w.heap.size->b<=g:=fun b h=>by have:=HGR.o;omega
 clear hgg;clear hr0 hr1 hr2 hr3 hn0 hn1 hn2;go_loopg [8,32] n (fun gn vo vi wr=>∃(i:Nat) (p:LoW),gn=n - i/\vi= aB aC i/\i<=n/\Below w.heap.size w wr/\DkB wr g p (yW (lo0 aL) (os.take i)).1 (fun b=>b<=g\/vo.ownBlock=aG b)/\RwX z0p 82 wr w.heap.size vo (yW (lo0 aL) (os.take i)).2 (fun b=>b<=g)/\Arr wr gR 44 [aA aF 0 0,aA aF 0 0,aB aC 0,aB aC 0,aB aC 0,aA aF 0 0,aD ⟨#[]⟩,aA aF 0 0])
 case atStart=>exact⟨0,_,rfl,rfl,Nat.zero_le _,HBX.o,HDB0.o,RwX.nil_ (World.ownsRow_nil _ _ _ _),HR.o⟩
 case round =>
  obtain⟨i,p,hgk,rfl,hi,hbel,hdb,hrx,hra⟩:=hrel;obtain⟨HGK,HBE,HDB,HRX,HRA⟩:=sqJ5 hgk hbel hdb hrx hra;have hwr:w.heap.size<=wr.heap.size:=hbel.size;have hgr:g<wr.heap.size:=hdb.lt;have HINV:=sqH (show LInv i (yW (lo0 aL) (os.take i)).1 from by
   have h:=(LInv.zero hroom).run (os:=os.take i) (by rw [List.length_take];omega) (fun o ho=>HGO.o o (List.mem_of_mem_take ho));rw [List.length_take,HL.o,Nat.min_eq_left hi,Nat.zero_add]at h;exact h)
  clear hgk hdb hrx hra;by_cases hlt:i<n
  rotate_left
  ·obtain rfl:i=n:=by omega
   have hcc:decide (i<i)=false:=ab;have hci:decide ((i:Int)<(i:Int))=false:=ab;have hot:os.take i=os:=List.take_of_length_le (by rw [HL.o];exact Nat.le_refl _);have hdb:=HDB.o;have hrx:=HRX.o;rw [hot]at hdb hrx;clear HINV hot HDB HRX;obtain⟨lr,hlr⟩:=wY (yW (lo0 aL) os)
   rw [<-hlr]at hdb hrx;have HLR:=sqH hlr;clear hlr;obtain⟨l,rs⟩:=lr;dsimp only at hdb hrx;obtain⟨X,cX,Y,dY,G,ng,F,cF⟩:=p;have hra:=HRA.o;have hbb:Arr wr g 79 [aA X l.st.aI.length cX,aA Y l.st.aJ.length dY,aB aC l.st.aL,aB aC l.st.aK,aB aC l.co.aN,aA G l.co.aM.length ng,aD ⟨l.co.at_.toArray⟩,aA F l.fs.length cF]:=hdb.box;obtain⟨HF,HO8,HB8,HR8⟩:=sqJ4 (hra.all8 (aA X l.st.aI.length cX) (aA Y l.st.aJ.length dY) (aB aC l.st.aL) (aB aC l.st.aK) (aB aC l.co.aN) (aA G l.co.aM.length ng) (aD ⟨l.co.at_.toArray⟩) (aA F l.fs.length cF)) (OwLo.set8 (hdb.own.mono (N':=fun b=>b<=g) (fun b h=> .inl h)) hra (show gR<=g by omega) (aA X l.st.aI.length cX) (aA Y l.st.aJ.length dY) (aB aC l.st.aL) (aB aC l.st.aK) (aB aC l.co.aN) (aA G l.co.aM.length ng) (aD ⟨l.co.at_.toArray⟩) (aA F l.fs.length cF)) (zP HBE.o (show w.heap.size<=gR by have:=HGR.o;omega) (aA X l.st.aI.length cX) (aA Y l.st.aJ.length dY) (aB aC l.st.aL) (aB aC l.st.aK) (aB aC l.co.aN) (aA G l.co.aM.length ng) (aD ⟨l.co.at_.toArray⟩) (aA F l.fs.length cF)) (RwX.set8R hrx (show gR<=g by omega) hra (aA X l.st.aI.length cX) (aA Y l.st.aJ.length dY) (aB aC l.st.aL) (aB aC l.st.aK) (aB aC l.co.aN) (aA G l.co.aM.length ng) (aD ⟨l.co.at_.toArray⟩) (aA F l.fs.length cF));obtain⟨d0,d1,d2,d3,d4,d5,d6,d7⟩:=sqC8 hbb;obtain⟨y0,y1,y2,y3,y4,y5,y6,y7⟩:=sqC8 hra;obtain⟨f0,f1,f2,f3,f4,f5,f6,f7⟩:=sqF8 hra;have n1':¬(g=gR):=wu;have hno:∀b,(b<=g)->b<wr.heap.size:=fun b h=>by omega
   clear hbel hdb hrx hra hbb HDB0
   refine wL ?_;intros;go_region
   all_goals (try dsimp only [Exit.then])
   refine wL ?_;intros;refine bodyPost_ret (vB rfl _ _ gR _ _ _ _ ac (Arr.drew HF.o) underlying44 rfl ww) rfl ?_;rw [<-HLR.o];exact⟨u8,_,_,_,_,rfl,(HR8.o.below (Below.refl _ _).drew).wider (fun b hb=> .inl (hgR2 b hb)),((HO8.o.below (Below.refl _ _).drew).lower (show w.heap.size<=g+1 by have:=HGR.o;omega)).mono (fun b hb=>hgR2 b hb),HB8.o.drew⟩
  ·have hcc:decide (i<n)=true:=decide_eq_true hlt;have hci:decide ((i:Int)<(n:Int))=true:=decide_eq_true wu;have hi0:=we i
   have hi1:(i:Int)<(n:Int):=wu;have hil:i<os.length:=by rw [HL.o];exact hlt
   obtain⟨b,off,B,cB,B',cB',rfl,hbw,c0,c1,c2,c3,c4,hs,hs'⟩:=(HRD.o.below hbel).ord_at i hil;have hgo:=HGO.o os[i] (List.getElem_mem hil);have hrs:=Vv (lo0 aL) (os.take i) os[i];rw [<-List.take_succ_eq_append_getElem hil]at hrs;have hrl:(yW (lo0 aL) (os.take i)).2.length=i:=by rw [Kx,List.length_take];omega
   generalize os[i]=o at *
   obtain⟨kd,no,dg,D,ps⟩:=o;dsimp only at c0 c1 c2 c3 c4 hs hs';have HRS:=sqH hrs;obtain⟨w4,hw4⟩:=wY (wr.alloc (aE #[aB aC kd,aB aC no,aD ⟨dg.toArray⟩,aA B D.length cB,aA B' ps.length cB'] 28))
   have hb4:Below wr.heap.size wr w4:=by rw [hw4];exact(Below.refl _ _).alloc ag _
   have hO4:Arr w4 wr.heap.size 28 [aB aC kd,aB aC no,aD ⟨dg.toArray⟩,aA B D.length cB,aA B' ps.length cB']:=by rw [hw4];exact Arr.new wr 28 _
   have hws4:=hb4.size;have HDO:=sqH (z2y g p _ kd no dg D ps B cB B' cB' w4 i HINV.o wu hgo (fun b=>b<=g\/u8.ownBlock=aG b) (.inl ag) (fun b hb=>by rcases hb with hb | hb;omega;(have:=(HRX.o.rwo.blk hb).2;omega)) (HDB.o.below hb4) (hs.below hb4) (hs'.below hb4));obtain⟨o0,o1,o2,o3,o4⟩:=sqC5 hO4;rw [hw4]at o0 o1 o2 o3 o4;have HB4:=sqH hb4;have HW4:=sqH hw4;clear hb4 hw4 hO4 hs hs' hgo hrs hbel HDB0
   refine wL ?_;intros;rw [<-HW4.o];refine(HDO.o).mono ?_;rintro e_ w5 ⟨dv,pv,wv,rfl,hg5,⟨p',hd5⟩,hra⟩;dsimp only;clear c0 c1 c2 c3 c4 o0 o1 o2 o3 o4 HDO;generalize hst:xp (yW (lo0 aL) (List.take i os)).1 ⟨kd,no,dg,D,ps⟩=lr2 at *
   have hrs:=HRS.o;obtain⟨l2,r⟩:=lr2;dsimp only at hd5 hra hrs ⊢
   have HRS2:=sqH hrs;obtain⟨P1,q1,rfl,hs1,hl1⟩:=uG hra.d;obtain⟨P2,q2,rfl,hs2,hl2⟩:=uG hra.p;obtain⟨P3,q3,rfl,hs3,hl3⟩:=uG hra.w;have hrx4:=HRX.o.below HB4.o;obtain⟨ys,hys⟩:=hrx4.own_m;have hrx5:=hrx4.other hg5 (fun b e=>by cases e;exact zf hys (HDB.o.below HB4.o).box aa) (fun b e=>by cases e;exact Nat.le_refl _);obtain⟨xs,hxs,hop⟩:=hrx5.open_;have hhop:=hop r (yZ r P1 q1 P2 q2 P3 q3) w5;have hle:∀b,(u8.ownBlock=aG b\/b<=g)->¬leads b (yZ r P1 q1 P2 q2 P3 q3):=fun b hb hl=>by
    have hbl:b<w4.heap.size:=by
     rcases hb with hb | hb
     ·have:=(HRX.o.rwo.blk hb).2;omega
     ·omega
    obtain⟨a,e1 | e1 | e1,rfl⟩:=Kt hl
    ·have:=hl1 a e1;omega
    ·have:=hl2 a e1;omega
    ·have:=hl3 a e1;omega
   have HOP:=sqH (fun (w2:World) (v2:Value) h1 h2 h3=>hhop w2 v2 (Below.refl _ _) ⟨P1,q1,P2,q2,P3,q3,rfl,hs1,hs2,hs3⟩ hle h1 h2 h3);have hws5:w4.heap.size<=w5.heap.size:=hg5.size;have hB5:=yB (HBE.o.trans (HB4.o.mono hwr)) hg5 (show w.heap.size<=g by have:=HGG.o;omega) wu;obtain⟨HB5,HX5,HA5,HD5,HBK⟩:=sqJ5 hB5 hxs ((HRA.o.below HB4.o).grown hg5 af) (hd5.wider (N':=fun b=>b<=g\/u8.ownBlock=aG b\/w5.heap.size<=b) (fun b h=>h.elim (fun h=> .inl (.inl h)) (fun h=>h.elim (fun h=> .inl (.inr h)) .inr))) (show ∀k,u8.ownBlock=aG k->w.heap.size<=k from fun k hk=>(hrx5.rwo.blk hk).1);clear hst hrs hd5 hra hg5 hrx4 hys hrx5 hxs hop hhop hle hs1 hs2 hs3 hl1 hl2 hl3 hB5
   refine wL ?_;intros;refine zj rfl (.tmp 36) (.tmp 40) rfl z4v ac HX5.o (us:= [aB aC r.err,aD ⟨r.dig.toArray⟩,aA P1 r.data.length q1,aA P2 r.aP.length q2,aB aC r.n,aA P3 r.who.length q3]) ac rfl (JT r P1 q1 P2 q2 P3 q3) (by show((yW (lo0 aL) (List.take i os)).2.length+1)*104<=140737488355328;rw [hrl];omega) wu ?_;intro v9 w9 ho9 hg9 hv9;have HN:=sqH (HOP.o w9 v9 ho9 hg9 hv9);have HD9:=sqH ((HD5.o.grownR HX5.o hg9 (fun b e=> .inr (.inl e))).mono (N':=fun b=>b<=g\/v9.ownBlock=aG b) (fun b h=>h.imp id (fun e=>by
    rcases hv9 with e2 | ⟨g2,e2,h2⟩
    ·exact .inl (e2▸e)
    ·rw [e2]at e;cases e;exact .inr h2)))
   have HA9:=sqH (HA5.o.grown hg9 (zf HX5.o HA5.o aa));have HB9:=sqH (HB5.o.grown hg9 wu HBK.o);clear ho9 hg9 hv9
   refine wL ?_;intros;go_roundg (n - (i+1))
   case measure=>exact wc HGK
   case rel=>exact⟨i+1,p',rfl,by go_num,wu,HB9.o,by rw [HRS2.o];exact HD9.o,by rw [HRS2.o];exact HN.o,HA9.o⟩
abbrev xd:ai:= [97,98,99]
abbrev QA:OrdP:=⟨1,0, [],xd, []⟩
theorem Kq:putB [] xd= [⟨shaS xd,xd,0,false⟩]:=by
 unfold putB srt;exact List.mergeSort_singleton _
theorem US (aL:Nat) (h3:3<=aL) (h:aL<=4000):Fits ⟨[], [],aL,0⟩ xd :=
 ⟨(LInv.zero h).b.g,aa,.inl (by show(0:Nat)<24;decide),by show usd (putB [] xd)<=aL;rw [Kq];simpa [usd] using h3⟩
theorem z1u (aL:Nat) (h3:3<=aL) (h:aL<=4000):xp (lo0 aL) QA=(⟨⟨[⟨shaS xd,xd,0,false⟩], [],aL,0⟩,⟨0, [], []⟩, []⟩,⟨0,shaS xd, [], [],0, []⟩):=by
 have hf:pbP ⟨[], [],aL,0⟩ ⟨0, [], []⟩ xd=(⟨[⟨shaS xd,xd,0,false⟩], [],aL,0⟩,⟨0, [], []⟩,shaS xd,0):=by
  unfold pbP;rw [if_pos (US aL h3 h),UV rfl];unfold zJ;rw [Kq]
 unfold xp;rw [if_pos aa];unfold blobD;rw [if_pos rfl];show(zM (lo0 aL) (pbP ⟨[], [],aL,0⟩ ⟨0, [], []⟩ xd).1 _ _,_)=_;show(zM (lo0 aL) (pbP ⟨[], [],aL,0⟩ ⟨0, [], []⟩ xd).1 (pbP ⟨[], [],aL,0⟩ ⟨0, [], []⟩ xd).2.1 (pbP ⟨[], [],aL,0⟩ ⟨0, [], []⟩ xd).2.2.2,(⟨(pbP ⟨[], [],aL,0⟩ ⟨0, [], []⟩ xd).2.2.2,(pbP ⟨[], [],aL,0⟩ ⟨0, [], []⟩ xd).2.2.1, [], [],0, []⟩:RepP))=_;rw [hf];rfl
abbrev stA (aL:Nat):StoP:=⟨[⟨shaS xd,xd,0,false⟩], [],aL,0⟩
theorem Xh (w:World):yb (w.alloc (aE #[aB .u8 97,aB .u8 98,aB .u8 99] 5 (3,4))) w.heap.size (aG ⟨w.heap.size,0,aF⟩) 3 xd:=⟨w.heap.size, [],(3,4),rfl,Nat.le_refl _,World.alloc_heap_new w _,rfl,by simp [maxLen],.inr ag⟩
theorem Rw.of_cells {α:Type} {S:Shp α} {e:TypeId} {l:List α} (ps:Cel α) (h1:ps.map (·.1)=l) (h2:qJ S w ps) (hA:Arr w g e (cls ps)) (hl:l.length=n):Rw S w (aG ⟨g,0,aF⟩) l :=
 ⟨ps,h1,h2,Rd.of_arr hA (by rw [<-h1,List.length_map];exact vZ ps h2.lens) (by rw [List.take_of_length_le];rw [<-h1,List.length_map,vZ ps h2.lens];exact Nat.le_refl _)⟩
abbrev wkP:PartP:=⟨[97],shaS xd,3⟩
abbrev wk2:OrdP:=⟨12,1,keyS 2, [], []⟩
abbrev wk3:OrdP:=⟨13,0,keyS 2, [], [wkP]⟩
abbrev wk4:OrdP:=⟨6,0,keyS 2, [], []⟩
abbrev stW:StoP:=⟨[⟨shaS xd,xd,0,false⟩], [⟨keyS 2, [wkP],0,1⟩],50,1⟩
theorem z48:xp ⟨stA 50,⟨0, [], []⟩, []⟩ wk2=(⟨stA 50,⟨0, [], []⟩, [⟨keyS 2,1, []⟩]⟩,⟨0, [], [], [],1, []⟩):=by
 unfold xp;rw [if_neg aa,if_neg aa,if_neg aa];unfold fliD;rw [if_pos rfl];rfl
theorem z2l:qK (stA 50).aI [wkP]=0:=by
 unfold qK;simp [List.findIdx?_cons];rfl
theorem z4c:xF (stA 50) (keyS 2) [wkP]=stW:=by
 unfold xF xl;simp [srt]
theorem z2i:qN (stA 50) ⟨0, [], []⟩ (keyS 2) [wkP]=(stW,⟨0, [], []⟩,0):=by
 unfold qN;rw [if_pos z2l,z4c,UV rfl]
theorem z4a:xo [⟨keyS 2,1, []⟩] (keyS 2)=([], [1],0):=by
 unfold xo;rw [show fnd 0 [(⟨keyS 2,1, []⟩:FlP)] (keyS 2)=aG 0 by simp [fnd]];rfl
theorem z2j:xp ⟨stA 50,⟨0, [], []⟩, [⟨keyS 2,1, []⟩]⟩ wk3=(⟨stW,⟨0, [], []⟩, []⟩,⟨0, [], [], [],0, [1]⟩):=by
 unfold xp;rw [if_neg aa,if_neg aa,if_neg aa];unfold fliD;rw [if_neg aa,if_pos rfl];have h:kY ⟨stA 50,⟨0, [], []⟩, [⟨keyS 2,1, []⟩]⟩ (keyS 2) [wkP]=(⟨stW,⟨0, [], []⟩, []⟩, [1],0):=by
  unfold kY;dsimp only;rw [z4a,z2i];rfl
 show(vx _ (kY ⟨stA 50,⟨0, [], []⟩, [⟨keyS 2,1, []⟩]⟩ (keyS 2) [wkP]).1 (kY ⟨stA 50,⟨0, [], []⟩, [⟨keyS 2,1, []⟩]⟩ (keyS 2) [wkP]).2.2,(⟨(kY ⟨stA 50,⟨0, [], []⟩, [⟨keyS 2,1, []⟩]⟩ (keyS 2) [wkP]).2.2, [], [], [],0,(kY ⟨stA 50,⟨0, [], []⟩, [⟨keyS 2,1, []⟩]⟩ (keyS 2) [wkP]).2.1⟩:RepP))=_;rw [h];rfl
theorem z4b:∃x:EntP,xp ⟨stW,⟨0, [], []⟩, []⟩ wk4=(⟨⟨stW.aI, [x],50,2⟩,⟨0, [], []⟩, []⟩,⟨0, [], [], [wkP],0, []⟩):=by
 refine⟨⟨keyS 2, [wkP],0,2⟩,?_⟩;have h:atE stW (keyS 2)=aG (0,⟨keyS 2, [wkP],0,1⟩):=by
  unfold atE;simp [List.findIdx?_cons]
 unfold xp;rw [if_neg aa,if_pos aa];unfold entD;rw [if_neg aa,if_pos rfl];unfold gtP;dsimp only;rw [h];rfl
theorem z4d:∃x:EntP,∃r0 r1 r2:RepP,yW (lo0 50) [QA,wk2,wk3,wk4]=(⟨⟨stW.aI, [x],50,2⟩,⟨0, [], []⟩, []⟩, [r0,r1,r2,⟨0, [], [], [wkP],0, []⟩]):=by
 obtain⟨x,hx⟩:=z4b;refine⟨x,⟨0,shaS xd, [], [],0, []⟩,⟨0, [], [], [],1, []⟩,⟨0, [], [], [],0, [1]⟩,?_⟩;unfold yW;rw [z1u 50 aa aa];dsimp only;unfold yW;rw [z48];dsimp only;unfold yW;rw [z2j];dsimp only;unfold yW;rw [hx];rfl
theorem z49:chk [wkP]=0:=by
 have h:hexC (shaS xd)=0:=zE _;unfold chk;rw [if_neg aa,k5];dsimp only;rw [if_neg aa];simp [h,yv]
theorem z2k:∀o∈ [QA,wk2,wk3,wk4],GoodD o:=by
 intro o ho;simp only [List.mem_cons,List.not_mem_nil,or_false]at ho;rcases ho with rfl | rfl | rfl | rfl
 ·exact ZD (k:=1) (f:=⟨false,false,true,false⟩) rfl (fun _=>rfl) (fun _=>rfl) (fun h=>by cases h) (fun _=>rfl) wu (fun h=>by cases h) aa rfl
 ·exact ZD (k:=12) (f:=⟨true,true,false,false⟩) rfl (fun h=>by cases h) (fun h=>by cases h) (fun _=>rfl) (fun _=>rfl) wu (fun _=>zE _) aa rfl (h5:=fun _=>⟨2,aa,rfl⟩)
 ·exact ZD (k:=13) (f:=⟨false,true,false,true⟩) rfl (fun _=>rfl) (fun h=>by cases h) (fun _=>rfl) (fun h=>by cases h) wu (fun _=>zE _) aa z49 (h5:=fun _=>⟨2,aa,rfl⟩)
 ·exact ZD (k:=6) (f:=⟨false,true,false,false⟩) rfl (fun _=>rfl) (fun h=>by cases h) (fun _=>rfl) (fun _=>rfl) wu (fun _=>zE _) aa rfl (h5:=fun _=>⟨2,aa,rfl⟩)
theorem Uy (w:World):Calls zZZ 8 #[] w fun e w'=>e= .returned (.bool true)/\Below w.heap.size w w':=by
 obtain⟨w1,hw1⟩:=wY (w.alloc (aE #[aB .u8 97,aB .u8 98,aB .u8 99] 5 (3,4)))
 have z1:yb w1 w.heap.size (aG ⟨w.heap.size,0,aF⟩) 3 xd:=by rw [hw1];exact Xh w
 have hb1:Below w.heap.size w w1:=by rw [hw1];exact(Below.refl _ _).alloc ag _
 obtain⟨HD,HK,HB1,HW1⟩:=sqJ4 (yA (aG ⟨w.heap.size,0,aF⟩) 3 3 xd w1 rfl ag aa z1.sl.1.rd) (fun W=>JA 2 W aa aa) hb1 hw1;have hkc:=fun (w:World) (C:Array Value) (n c:Nat)=>Lib.run_convert_bytes_const (P:=zZZ) w 25 5 C n c underlying25 underlying5;clear z1 hb1 hw1;go_enter func8,ntmps8;go_wp2_with fail;rw [<-HW1.o];refine wZ HD.o fun w2 hb2=>?_;dsimp only;obtain⟨w3,hw3⟩:=wY (w2.alloc (aE #[aB .u8 97,aB .u8 98,aB .u8 99] 5 (3,4)))
 have z3:yb w3 w2.heap.size (aG ⟨w2.heap.size,0,aF⟩) 3 xd:=by rw [hw3];exact Xh w2
 have hb3:Below w2.heap.size w2 w3:=by rw [hw3];exact(Below.refl _ _).alloc ag _
 obtain⟨HB3,HS3,HW3⟩:=sqJ3 ((wm HB1.o hb2).trans (hb3.mono (wm HB1.o hb2).size)) z3.sl.1 hw3;clear hb2 hw3 z3 hb3 HD HB1 HW1;go_wp2_with fail;rw [<-HW3.o];refine wZ ((HK.o w3)) fun w4 hb4=>?_;dsimp only;go_wp2_with fail;refine wZ ((HK.o w4)) fun w5 hb5=>?_;dsimp only;rw [show keyS (pk 2 7)=keyS 2 from rfl];obtain⟨w6,hw6⟩:=wY (w5.alloc (aE #[aD ⟨#[97]⟩,aD ⟨(shaS xd).toArray⟩,aB aC 3] 85))
 have hA6:Arr w6 w5.heap.size 85 (pcs [wkP]):=by rw [hw6];exact Arr.new w5 85 (pcs [wkP])
 have hb6:Below w5.heap.size w5 w6:=by rw [hw6];exact(Below.refl _ _).alloc ag _
 have hs6:Sl w6 3 (aG ⟨w5.heap.size,0,aF⟩) 1 1 (pcs [wkP]):=⟨Rd.of_arr hA6 rfl ac,Nat.le_refl _,aa,fun a e=>by cases e;exact hA6.lt⟩
 have hb45:=wm hb4 hb5;have hb46:=wm hb45 hb6;obtain⟨HB6,HS6,HT6,HW6,HK6⟩:=sqJ5 (wm HB3.o hb46) hs6 (HS3.o.below hb46) hw6 (HK.o w6);clear hb4 hb5 hb45 hb46 hw6 hA6 hb6 hs6 HB3 HS3 HW3 HK;go_wp2_with fail;rw [<-HW6.o];refine wZ HK6.o fun w7 hb7=>?_;dsimp only;rw [show keyS (pk 2 7)=keyS 2 from rfl];obtain⟨w8,hw8⟩:=wY (w7.alloc (aE #[aB aC 1,aB aC 0,aD ⟨#[]⟩,aA (aG ⟨w2.heap.size,0,aF⟩) 3 3,aA aF 0 0,aB aC 12,aB aC 1,aD ⟨(keyS 2).toArray⟩,aA aF 0 0,aA aF 0 0,aB aC 13,aB aC 0,aD ⟨(keyS 2).toArray⟩,aA aF 0 0,aA (aG ⟨w5.heap.size,0,aF⟩) 1 1,aB aC 6,aB aC 0,aD ⟨(keyS 2).toArray⟩,aA aF 0 0,aA aF 0 0] 28))
 have hA8:Arr w8 w7.heap.size 28 [aB aC 1,aB aC 0,aD ⟨#[]⟩,aA (aG ⟨w2.heap.size,0,aF⟩) 3 3,aA aF 0 0,aB aC 12,aB aC 1,aD ⟨(keyS 2).toArray⟩,aA aF 0 0,aA aF 0 0,aB aC 13,aB aC 0,aD ⟨(keyS 2).toArray⟩,aA aF 0 0,aA (aG ⟨w5.heap.size,0,aF⟩) 1 1,aB aC 6,aB aC 0,aD ⟨(keyS 2).toArray⟩,aA aF 0 0,aA aF 0 0]:=by rw [hw8];exact Arr.new w7 28 _
 have hb8:Below w7.heap.size w7 w8:=by rw [hw8];exact(Below.refl _ _).alloc ag _
 have hb68:=wm hb7 hb8;have hT8:=HT6.o.below hb68;have hS8:=HS6.o.below hb68;have hrw:Rw OrdS w8 (aG ⟨w7.heap.size,0,aF⟩) [QA,wk2,wk3,wk4]:=Rw.of_cells (n:=4) [(QA,ocell QA (aG ⟨w2.heap.size,0,aF⟩) 3 aF 0),(wk2,ocell wk2 aF 0 aF 0),(wk3,ocell wk3 aF 0 (aG ⟨w5.heap.size,0,aF⟩) 1),(wk4,ocell wk4 aF 0 aF 0)] rfl (fun p hp=>by
  simp only [List.mem_cons,List.not_mem_nil,or_false]at hp;rcases hp with rfl | rfl | rfl | rfl
  ·exact⟨_,_,_,_,rfl,hT8,Sl.nil_ _ _⟩
  ·exact⟨_,_,_,_,rfl,Sl.nil_ _ _,Sl.nil_ _ _⟩
  ·exact⟨_,_,_,_,rfl,Sl.nil_ _ _,hS8⟩
  ·exact⟨_,_,_,_,rfl,Sl.nil_ _ _,Sl.nil_ _ _⟩) hA8 rfl
 have hru:=z5e 50 (aG ⟨w7.heap.size,0,aF⟩) 4 4 [QA,wk2,wk3,wk4] w8 aa rfl aa ag aa z2k hrw;obtain⟨x,r0,r1,r2,hrr⟩:=z4d;rw [hrr]at hru;dsimp only at hru;obtain⟨HRU,HW8,HB8⟩:=sqJ3 hru hw8 (wm HB6.o hb68);clear hw8 hA8 hb7 hb8 hb68 hT8 hS8 hrw hru hrr HB6 HS6 HT6 HW6 HK6;go_wp2_with fail;rw [<-HW8.o];refine HRU.o.mono ?_;rintro e_ w9 ⟨vr,v1,v2,v3,v4,rfl,hrx,hol,hb9⟩;dsimp only;obtain⟨Ar,cr,rfl,hcr,hcm,hRr⟩:=hrx.rwo.rows;obtain⟨⟨X,cX,Y,dY,G,ng,F,cF⟩,rfl,rfl,rfl,rfl, -⟩:=hol.rd;obtain⟨b1,o1,B1,c1,B1',c1',C1,d1,hAr,hbw,e0, -, -,e3, -, -, -,hs2, -⟩:=hRr.rep_at 3 (by show 3<4;decide);subst hAr;have HB9:=sqH (wm HB8.o hb9);simp only [List.getElem_cons_succ,List.getElem_cons_zero]at e0 e3 hs2;obtain⟨b2,o2,rfl,hbq,hq⟩:=hs2.rd.2 aa;have q1:=hq 1 _ rfl;have hb0:=World.size_alloc;clear hrx hol hb9 hRr hcr hcm HRU HB8 HW8 hs2 hq hb0;go_wp2_with fail;go_ret;exact⟨rfl,HB9.o.alloc HB9.o.size _⟩
end Go.Proofs.YtcjmjaefcjcomaaGreat
