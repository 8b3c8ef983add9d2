/- Lemmas, as stated. -/
import Derived.Test.YtcjmjaefcjcomaaGreatQB22
set_option linter.unusedVariables false
set_option linter.unusedSimpArgs false
set_option maxRecDepth 100000
set_option maxHeartbeats 16000000
open Go.Proofs.Tryz
open Go.Value renaming slice->aA,int->aB,string->aD
open Go.IntKind renaming i64->aC
open Option renaming none->aF,some->aG
open And renaming intro->aH
namespace Go.Proofs.YtcjmjaefcjcomaaGreat
open Go.RowKit Go.Maps
variable {c:ColP} {g n:Nat} {s:StoP}
theorem z2z (g:Nat) (p:LoW) (l:LoP) (kd n:Nat) (dg D:ai) (ps:List PartP) (A:aj) (c:Nat) (A':aj) (c':Nat) (w:World) (hL:GoodL l) (hn:n<=4000) (h1:kd=9) (N:am) (hNg:N g) (hNw:∀b,N b->b<w.heap.size) (hb:DkB w g p l N) (hd:Sl w 1 A D.length c (bys D)) (hq:Sl w 3 A' ps.length c' (pcs ps)) :
  Calls Tryz.prog 51 #[.pointer (aG ⟨g,0,aF⟩),orV kd n dg D ps A c A' c'] w (ka w g N (roomD l ⟨kd,n,dg,D,ps⟩)):=by
 have k1:((kd:Int)==9)=true:=by rw [beq_iff_eq];omega
 have HK:=sqH h1;have HPX:=sqH hn;clear h1 hn;obtain⟨X,cX,Y,dY,G,ng,F,cF⟩:=p;obtain⟨s,co,fs⟩:=l;obtain⟨w0,H,HDK,HBC,hws,HBX,HD,HQ,hHw,hHw1,hgH,hHl,hgl,hgw,HP,HR,HL,HNW,x0,x1,x2,x3,x4,HW0,HH⟩:=Yf kd n dg D ps A c A' c' hL hNw hb hd hq;clear hb hd hq hL hNw;go_enter func51,ntmps51
 refine wM 3 ?_;intros;rw [<-HW0.o,<-HH.o];clear x0 x1 x2 x3 x4;have HPB:=sqH (fun W (h:Below w0.heap.size w0 W)=>z05 X cX Y dY s G ng co W n HPX.o HL.o.s (HDK.o W h).rd.s HL.o.g HL.o.c (HDK.o W h).rd.c);have hgn:(evP s n).2.1<=10:=z3f HL.o.s n;generalize hpb:evP s n=r at HPB hgn;obtain⟨t,k9,q⟩:=r;dsimp only at HPB hgn;have HPD:=sqH hpb;clear hpb;have HSB:=sqH (show ∀W,Below w0.heap.size w0 W->(wK W g (aA X s.aI.length cX) (aA Y s.aJ.length dY) (aB aC s.aL) (aB aC s.aK) (aB aC co.aN) (aA G co.aM.length ng) (aD ⟨co.at_.toArray⟩))/\W.cell? ⟨H,1,aF⟩=aG (aB aC n) from fun W h=>by
  obtain⟨y0,y1,y2,y3,y4,y5,y6,_⟩:=HBC.o W h;exact⟨⟨y0,y1,y2,y3,y4,y5,y6⟩,(HP.o W h).c1⟩)
 iterate 1 (first | go_values | go_skip | go_guarded | go_step | go_upon | go_back)
 apply zC;intro REST;apply zC;intro Rb1;refine ze [18] (S:=(fun w'=>(wK w' g (aA X s.aI.length cX) (aA Y s.aJ.length dY) (aB aC s.aL) (aB aC s.aK) (aB aC co.aN) (aA G co.aM.length ng) (aD ⟨co.at_.toArray⟩))/\w'.cell? ⟨H,1,aF⟩=aG (aB aC n))) ww ?_ (fun hHeld=> ?_)
 ·exact HSB.o _ (((wo w0)).drew)
 have hB:=((wo w0)).drew;generalize w0.drew=wn0 at *
 refine wT 0 ?_;refine wT 1 ?_;refine wT 2 ?_;refine wT 3 ?_;refine wS 4 ?_;refine wT 5 ?_;refine wT 6 ?_;refine wT 7 ?_;refine wT 8 ?_;refine wS 9 ?_;refine wT 10 ?_;refine wS 11 ?_;refine za (rs:= [12,17]) ww ab ?_;refine z8.cons (o:=_) rfl (fun K hK=> ?_) ?_
 ·
  go_simp;refine(HPB.o wn0 hB).mono ?_;rintro e5 w5 ⟨v1,v2,A9,c9,rfl,ho5,hb5⟩;obtain⟨A1,c1,B1,d1,rfl,rfl, -⟩:=ho5.rows;dsimp only;refine wC hK (HSB.o _ ((wm hB hb5))) (fun W=>Below w0.heap.size w0 W/\OwSt W w.heap.size (aA A1 t.aI.length c1) (aA B1 t.aJ.length d1) t (fun b=>(N b\/b=H+1))) (by exact⟨wm hB hb5,(ho5.lower (base':=w.heap.size) (by have:=hB.size;omega)).mono (N':=(fun b=>(N b\/b=H+1))) (fun b hb=>by have:=hB.size;rcases hb with hb | hb;(have:=HNW.o b hb;omega);omega)⟩) fun wn1 hF=> ?_;clear hB hHeld hb5 ho5 hK K;obtain⟨hHeld,hB,ho⟩:=hF
  refine wT 13 ?_;refine wT 14 ?_;refine wT 15 ?_;refine wT 16 ?_;refine wX 17 fun K hK=>?_;obtain⟨g5,hge,hba,hn,hnl,hN⟩:=wG wn1 38 [aA aF 0 0,aA aF 0 0,aB aC 0,aB aC 0] hB.size;go_simp;rw [<-hge];clear hge;refine wC hK (HSB.o _ ((wm hB hba))) (fun W=>Below w0.heap.size w0 W/\Arr W g5 38 [aA aF 0 0,aA aF 0 0,aB aC 0,aB aC 0]/\w0.heap.size<=g5/\OwSt W w.heap.size (aA A1 t.aI.length c1) (aA B1 t.aJ.length d1) t (fun b=>(N b\/b=H+1)\/b=g5)) ⟨wm hB hba,hn,hnl,(ho.wider (N':=(fun b=>(N b\/b=H+1)\/b=g5)) (fun b hb=>hb.elim (fun hb=> .inl hb) (fun hb=> .inr (hN _ hb)))).below hba⟩ fun wn2 hF=> ?_;clear ho hB hHeld hba hn hnl hN hK K;obtain⟨hHeld,hB,h5,h5l,ho⟩:=hF
  try simp only [sqP]
  have hall:=aH hB (aH h5 (aH h5l (aH ho hHeld)));clear hHeld ho h5l h5 hB;generalize wn2=wz at hall ⊢
  revert hall;revert wz;revert g5;revert c9;revert A9;revert d1;revert B1;revert c1;revert A1;exact Rb1.o
 refine z8.cons (o:=_) rfl (fun K hK=> ?_) ?_
 ·
  obtain⟨g5,hge,hba,hn,hnl,hN⟩:=wG wn0 38 [aA aF 0 0,aA aF 0 0,aB aC 0,aB aC 0] hB.size;go_simp;rw [<-hge];clear hge;refine wC hK (HSB.o _ ((wm hB hba))) (fun W=>Below w0.heap.size w0 W/\Arr W g5 38 [aA aF 0 0,aA aF 0 0,aB aC 0,aB aC 0]/\w0.heap.size<=g5) ⟨wm hB hba,hn,hnl⟩ fun wn3 hF=> ?_;clear hB hHeld hba hn hnl hN hK K;obtain⟨hHeld,hB,h5,h5l⟩:=hF
  try simp only [sqP]
  refine wX 12 fun K hK=>?_;go_simp;refine(HPB.o wn3 hB).mono ?_;rintro e5 w5 ⟨v1,v2,A9,c9,rfl,ho5,hb5⟩;obtain⟨A1,c1,B1,d1,rfl,rfl, -⟩:=ho5.rows;dsimp only;refine wC hK (HSB.o _ ((wm hB hb5))) (fun W=>Below w0.heap.size w0 W/\Arr W g5 38 [aA aF 0 0,aA aF 0 0,aB aC 0,aB aC 0]/\w0.heap.size<=g5/\OwSt W w.heap.size (aA A1 t.aI.length c1) (aA B1 t.aJ.length d1) t (fun b=>(N b\/b=H+1)\/b=g5)) (by exact⟨wm hB hb5,h5.below hb5,h5l,(ho5.lower (base':=w.heap.size) (by have:=hB.size;omega)).mono (N':=(fun b=>(N b\/b=H+1)\/b=g5)) (fun b hb=>hb.elim (fun hb=>by have:=hB.size;rcases hb with hb | hb;(have:=HNW.o b hb;omega);omega) (fun hb=>(by rw [hb];exact h5.lt)))⟩) fun wn4 hF=> ?_;clear h5l h5 hB hHeld hb5 ho5 hK K;obtain⟨hHeld,hB,h5,h5l,ho⟩:=hF
  refine wT 13 ?_;refine wT 14 ?_;refine wT 15 ?_;refine wT 16 ?_;exact Rb1.o A1 c1 B1 d1 A9 c9 g5 wn4 ⟨hB,h5,h5l,ho,hHeld⟩
 exact z8.nil;intro A1 c1 B1 d1 A9 c9 g5 wRb1 hall;obtain⟨hB,h5,h5l,ho,hHeld⟩:=hall;refine za (rs:= [18]) ww ab ?_;refine z8.store (o:=_) rfl ac (fun K hK=> ?_) ?_
 ·
  have hqho:=ho.nb h5 aa aa;obtain⟨z0,f0,z1,f1,z2,f2,z3,f3⟩:=wg h5;go_simp;clear z0 f0 z1 f1 z2 f2 z3 f3;refine wD hK (fun W=>Below w0.heap.size w0 W/\Arr W g5 38 [(aA A1 t.aI.length c1),(aA B1 t.aJ.length d1),aB aC t.aL,aB aC t.aK]/\w0.heap.size<=g5/\OwSt W w.heap.size (aA A1 t.aI.length c1) (aA B1 t.aJ.length d1) t (fun b=>(N b\/b=H+1)\/b=g5)) ⟨((((hB).setCell (p:=⟨g5,0,aF⟩) h5l _).setCell (p:=⟨g5,1,aF⟩) h5l _).setCell (p:=⟨g5,2,aF⟩) h5l _).setCell (p:=⟨g5,3,aF⟩) h5l _,h5.all4 _ _ _ _,h5l,ho.set4N (.inr rfl) hqho.1 hqho.2 _ _ _ _⟩ fun wn5 hF=> ?_;clear ho h5l h5 hB hHeld;obtain⟨hB,h5,h5l,ho⟩:=hF;clear hqho;clear hK K
  refine wT 19 ?_;refine wT 20 ?_;refine zo ww ?_ _
  try dsimp only [Exit.then]
  have hall:=aH hB (aH h5 (aH h5l ho));clear ho h5l h5 hB;generalize wn5=wz at hall ⊢
  revert hall;revert wz;revert g5;revert c9;revert A9;revert d1;revert B1;revert c1;revert A1;exact REST.o
 exact z8.nil;intro A1 c1 B1 d1 A9 c9 g5 w3 hall;obtain⟨hB,h5,h5l,ho⟩:=hall;have HSB:=sqH (show ∀W,Below w3.heap.size w3 W->wI W g5 (aA A1 t.aI.length c1) (aA B1 t.aJ.length d1) (aB aC t.aL) (aB aC t.aK) from fun W h=>sqC4 (h5.below h));have HSG:=sqH (show ∀W W',Below w3.heap.size w3 W->W.grownBy W' (aG g)->wI W' g5 (aA A1 t.aI.length c1) (aA B1 t.aJ.length d1) (aB aC t.aL) (aB aC t.aK) from fun W W' h h'=>by
  have h6:=(h5.below h).grown h' af;exact sqC4 h6)
 have HSK:=sqH (show ∀W W':World,(wI W g5 (aA A1 t.aI.length c1) (aA B1 t.aJ.length d1) (aB aC t.aL) (aB aC t.aK))->Below W.heap.size W W'->wI W' g5 (aA A1 t.aI.length c1) (aA B1 t.aJ.length d1) (aB aC t.aL) (aB aC t.aK) from fun W W' h h'=>by have h2:=zZ h' aF;exact⟨h2.cell h.1 ab,h2.cell h.2.1 ab,h2.cell h.2.2.1 ab,h2.cell h.2.2.2 ab⟩);have hot:=(ho.wider (N':=(fun b=>N b\/b=H+1\/w3.heap.size<=b)) (fun b hb=>hb.elim (fun h=> .inl (.inl (.inl h))) (fun h=>h.elim (fun h=> .inl (.inl (.inr h))) (fun h=> .inr h)))).lower (base':=g+1) wu;have HKP:=sqH (fun (W:World) (h:Below w3.heap.size w3 W)=>KK g ⟨X,cX,Y,dY,G,ng,F,cF⟩ ⟨s,co,fs⟩ _ _ (aA G co.aM.length ng) t co q W (fun b=>N b\/b=H+1\/w3.heap.size<=b) (.inl hNg) ((HDK.o _ (wm hB h)).mono fun b hb=>hb.imp id fun h=>by(have:=hB.size;rcases h with h | h<;>omega)) (fun _=>⟨hot.below h,zc (HDK.o _ hB).own.c h⟩));have HBX3:=sqH (HBX.o.trans (hB.mono hws));have hws3:w.heap.size<=w3.heap.size:=Nat.le_trans hws hB.size;have hHl3:H+1<w3.heap.size:=Nat.lt_of_lt_of_le hHl hB.size;have hgl3:g<w3.heap.size:=wu;have hg5l:g5<w3.heap.size:=h5.lt;replace HR:=z2o HR hB;replace HBC:=z2o HBC hB;clear hot h5 ho hB;clear h5l HPB
 refine wM 4 ?_;intros;iterate 1 (first | go_values | go_skip | go_guarded | go_step | go_upon | go_back)
 apply zC;intro REST2;apply zC;intro Rc1;apply zC;intro Rc2;refine ze [10] (S:=(fun w'=>wI w' g5 (aA A1 t.aI.length c1) (aA B1 t.aJ.length d1) (aB aC t.aL) (aB aC t.aK))) ww ?_ (fun hHeld=> ?_)
 ·exact HSB.o _ (Below.refl w3.heap.size w3).drew
 have hB:=(Below.refl w3.heap.size w3).drew;generalize w3.drew=wn0 at *
 refine wT 0 ?_;refine wS 1 ?_;refine wT 2 ?_;refine wT 3 ?_;refine wT 4 ?_;refine wT 5 ?_;refine wT 7 ?_;refine za (rs:= [6,9]) ww ab ?_;refine z8.cons (o:=_) rfl (fun K hK=> ?_) ?_
 ·
  obtain⟨y0,y1,y2,y3,y4,y5,y6,y7⟩:=HBC.o _ hB;go_simp;clear y0 y1 y2 y3 y4 y5 y6 y7;refine wC hK (HSB.o _ hB) (fun W=>Below w3.heap.size w3 W) hB fun wn1 hF=> ?_;obtain⟨hHeld2,hF⟩:=hF;clear hB hHeld;have hHeld:=hHeld2;clear hHeld2;have hB:=hF;clear hK K
  try simp only [sqP]
  refine za (rs:= [8,9]) ww ab ?_;refine z8.cons (o:=_) rfl (fun K hK=> ?_) ?_
  ·
   go_simp;refine(HKP.o wn1 hB).mono ?_;rintro e5 w5 ⟨rfl,hg5,hd5⟩;dsimp only;refine wC hK (HSG.o _ _ hB hg5) (fun W=>w.grownBy W (aG g)/\(∃p2,DkB W g p2 (zM ⟨s,co,fs⟩ t co q) (fun b=>N b\/b=H+1\/w3.heap.size<=b))/\Arr W (H+1) 82 [aB aC 0,aD ⟨#[]⟩,aA aF 0 0,aA aF 0 0,aB aC 0,aA aF 0 0]/\w3.heap.size<=W.heap.size) ⟨zR (HBX3.o.trans (hB.mono wu)) hg5,hd5,(HR.o _ hB).grown hg5 af,Nat.le_trans hB.size hg5.size⟩ fun wn2 hF=> ?_;clear hB hHeld hg5 hd5 hK K;obtain⟨hHeld,hKg,hD,hR,hKl⟩:=hF
   try simp only [sqP]
   refine wX 9 fun K hK=>?_;have hba:=ws wn2 (.cells #[aB aC 0,aD ⟨#[]⟩,aA aF 0 0,aA aF 0 0,aB aC 0,aA aF 0 0] 82);have hn:=Arr.new wn2 82 [aB aC 0,aD ⟨#[]⟩,aA aF 0 0,aA aF 0 0,aB aC 0,aA aF 0 0];have hnl:w3.heap.size<=wn2.heap.size:=hKl;obtain⟨ga,hge⟩:=wY wn2.heap.size
   rw [<-hge]at hn hnl;go_simp;rw [<-hge];clear hge;refine wC hK (HSK.o _ _ hHeld hba) (fun W=>w.grownBy W (aG g)/\(∃p2,DkB W g p2 (zM ⟨s,co,fs⟩ t co q) (fun b=>N b\/b=H+1\/w3.heap.size<=b))/\Arr W (H+1) 82 [aB aC 0,aD ⟨#[]⟩,aA aF 0 0,aA aF 0 0,aB aC 0,aA aF 0 0]/\Arr W ga 82 [aB aC 0,aD ⟨#[]⟩,aA aF 0 0,aA aF 0 0,aB aC 0,aA aF 0 0]/\w3.heap.size<=ga) ⟨zQ hKg hba,hD.imp fun _ h=>h.below hba,hR.below hba,hn,hnl⟩ fun wn3 hF=> ?_;clear hKl hR hD hKg hHeld hba hn hnl hK K;obtain⟨hHeld,hKg,hD,hR,hA,hAl⟩:=hF
   try simp only [sqP]
   have hall:=aH hKg (aH hD (aH hR (aH hA (aH hAl hHeld))));clear hHeld hAl hA hR hD hKg;generalize wn3=wz at hall ⊢
   revert hall;revert wz;revert ga;exact Rc1.o
  refine z8.cons (o:=_) rfl (fun K hK=> ?_) ?_
  ·
   have hba:=ws wn1 (.cells #[aB aC 0,aD ⟨#[]⟩,aA aF 0 0,aA aF 0 0,aB aC 0,aA aF 0 0] 82);have hn:=Arr.new wn1 82 [aB aC 0,aD ⟨#[]⟩,aA aF 0 0,aA aF 0 0,aB aC 0,aA aF 0 0];have hnl:w3.heap.size<=wn1.heap.size:=hB.size;obtain⟨ga,hge⟩:=wY wn1.heap.size
   rw [<-hge]at hn hnl;go_simp;rw [<-hge];clear hge;refine wC hK (HSB.o _ (wm hB hba)) (fun W=>Below w3.heap.size w3 W/\Arr W ga 82 [aB aC 0,aD ⟨#[]⟩,aA aF 0 0,aA aF 0 0,aB aC 0,aA aF 0 0]/\w3.heap.size<=ga) ⟨wm hB hba,hn,hnl⟩ fun wn4 hF=> ?_;clear hB hHeld hba hn hnl hK K;obtain⟨hHeld,hB,hA,hAl⟩:=hF
   try simp only [sqP]
   have hall:=aH hB (aH hA (aH hAl hHeld));clear hHeld hAl hA hB;generalize wn4=wz at hall ⊢
   revert hall;revert wz;revert ga;exact Rc2.o
  exact z8.nil
 refine z8.cons (o:=_) rfl (fun K hK=> ?_) ?_
 ·
  have hba:=ws wn0 (.cells #[aB aC 0,aD ⟨#[]⟩,aA aF 0 0,aA aF 0 0,aB aC 0,aA aF 0 0] 82);have hn:=Arr.new wn0 82 [aB aC 0,aD ⟨#[]⟩,aA aF 0 0,aA aF 0 0,aB aC 0,aA aF 0 0];have hnl:w3.heap.size<=wn0.heap.size:=hB.size;obtain⟨ga,hge⟩:=wY wn0.heap.size
  rw [<-hge]at hn hnl;go_simp;rw [<-hge];clear hge;refine wC hK (HSB.o _ (wm hB hba)) (fun W=>Below w3.heap.size w3 W/\Arr W ga 82 [aB aC 0,aD ⟨#[]⟩,aA aF 0 0,aA aF 0 0,aB aC 0,aA aF 0 0]/\w3.heap.size<=ga) ⟨wm hB hba,hn,hnl⟩ fun wn5 hF=> ?_;clear hB hHeld hba hn hnl hK K;obtain⟨hHeld,hB,hA,hAl⟩:=hF
  try simp only [sqP]
  refine wX 6 fun K hK=>?_;obtain⟨y0,y1,y2,y3,y4,y5,y6,y7⟩:=HBC.o _ hB;go_simp;clear y0 y1 y2 y3 y4 y5 y6 y7;refine wC hK (HSB.o _ hB) (fun W=>Below w3.heap.size w3 W/\Arr W ga 82 [aB aC 0,aD ⟨#[]⟩,aA aF 0 0,aA aF 0 0,aB aC 0,aA aF 0 0]/\w3.heap.size<=ga) ⟨hB,hA,hAl⟩ fun wn6 hF=> ?_;clear hAl hA hB hHeld hK K;obtain⟨hHeld,hB,hA,hAl⟩:=hF
  try simp only [sqP]
  exact Rc2.o ga wn6 ⟨hB,hA,hAl,hHeld⟩
 exact z8.nil;intro ga wRc2 hall;obtain⟨hB,hA,hAl,hHeld⟩:=hall;refine za (rs:= [8]) ww ab ?_;refine z8.cons (o:=_) rfl (fun K hK=> ?_) ?_
 ·
  go_simp;refine(HKP.o wRc2 hB).mono ?_;rintro e5 w5 ⟨rfl,hg5,hd5⟩;dsimp only;refine wC hK (HSG.o _ _ hB hg5) (fun W=>w.grownBy W (aG g)/\(∃p2,DkB W g p2 (zM ⟨s,co,fs⟩ t co q) (fun b=>N b\/b=H+1\/w3.heap.size<=b))/\Arr W (H+1) 82 [aB aC 0,aD ⟨#[]⟩,aA aF 0 0,aA aF 0 0,aB aC 0,aA aF 0 0]/\Arr W ga 82 [aB aC 0,aD ⟨#[]⟩,aA aF 0 0,aA aF 0 0,aB aC 0,aA aF 0 0]/\w3.heap.size<=ga) ⟨zR (HBX3.o.trans (hB.mono wu)) hg5,hd5,(HR.o _ hB).grown hg5 af,hA.grown hg5 af,hAl⟩ fun wn7 hF=> ?_;clear hAl hA hB hHeld hg5 hd5 hK K;obtain⟨hHeld,hKg,hD,hR,hA,hAl⟩:=hF
  try simp only [sqP]
  exact Rc1.o ga wn7 ⟨hKg,hD,hR,hA,hAl,hHeld⟩
 exact z8.nil;intro ga wRc1 hall;obtain⟨hKg,hD,hR,hA,hAl,hHeld⟩:=hall;refine za (rs:= [10]) ww ab ?_;refine z8.store (o:=_) rfl ac (fun K hK=> ?_) ?_
 ·
  obtain⟨z0,f0,z1,f1,z2,f2,z3,f3,z4,f4,z5,f5⟩:=wj hA;go_simp;clear z0 f0 z1 f1 z2 f2 z3 f3 z4 f4 z5 f5;refine wD hK (fun W=>w.grownBy W (aG g)/\(∃p2,DkB W g p2 (zM ⟨s,co,fs⟩ t co q) (fun b=>N b\/b=H+1\/w3.heap.size<=b))/\Arr W (H+1) 82 [aB aC 0,aD ⟨#[]⟩,aA aF 0 0,aA aF 0 0,aB aC 0,aA aF 0 0]/\Arr W ga 82 [aB aC q,aD ⟨#[]⟩,aA aF 0 0,aA aF 0 0,aB aC 0,aA aF 0 0]/\w3.heap.size<=ga) ⟨zl hKg wu _ _ _ _ _ _,hD.imp fun _ h=>h.set6 hA (.inr (.inr hAl)) wu _ _ _ _ _ _,((((((hR.other wu _).other wu _).other wu _).other wu _).other wu _).other wu _),hA.all6 _ _ _ _ _ _,hAl⟩ fun wn8 hF=> ?_;clear hAl hA hR hD hKg hHeld;obtain⟨hKg,hD,hR,hA,hAl⟩:=hF;clear hK K
  try simp only [sqP]
  refine zo ww ?_ _
  try dsimp only [Exit.then]
  have hall:=aH hKg (aH hD (aH hR (aH hA hAl)));clear hAl hA hR hD hKg;generalize wn8=wz at hall ⊢
  revert hall;revert wz;revert ga;exact REST2.o
 exact z8.nil;intro ga w4 hall;obtain⟨hKg,hD,hR,hA,hAl⟩:=hall;have hA3:=hA.set (k:=4) ab (aB aC k9);have hR5:=hR.other (k:=4) (g':=ga) (show H+1≠ga by omega) (aB aC k9);have HX:=sqH (aH (hD.imp fun _ h=>h.set hA (.inr (.inr hAl)) (show g≠ga by omega) (aB aC k9) (k:=4)) (aH (zr (k:=4) (u:= aB aC k9) hKg (show w.heap.size<=ga by omega)) hR5));have HA3:=sqH hA3;have c4:=hA.c4;have q4:=hA.frozen 4;clear hA3 hR5 hA hR hD hKg hAl
 refine wN 6 ?_;intros;generalize w4.setCell ⟨ga,4,aF⟩ (aB aC k9)=w5 at *
 have hr3:=HX.o.2.2;have hz5:Arr w5 ga 82 [aB aC q,aD ⟨#[]⟩,aA aF 0 0,aA aF 0 0,aB aC k9,aA aF 0 0]:=HA3.o;clear c4 q4;obtain⟨z0,z1,z2,z3,z4,z5⟩:=sqC6 hz5;clear hz5;obtain⟨f0,f1,f2,f3,f4,f5⟩:=sqF6 hr3;obtain⟨y0,y1,y2,y3,y4,y5⟩:=sqC6 hr3;have HR3:=sqH hr3;have HF:=sqH (hr3.all6 (aB aC q) (aD ⟨#[]⟩) (aA aF 0 0) (aA aF 0 0) (aB aC k9) (aA aF 0 0));clear hr3
 refine wL ?_;intros;refine bodyPost_ret (results_cell_row rfl _ _ (H+1) _ _ _ _ ac HF.o underlying82 rfl ww) rfl ?_;have e1:roomD ⟨s,co,fs⟩ ⟨kd,n,dg,D,ps⟩=(zM ⟨s,co,fs⟩ t co q,⟨q, [], [], [],k9, []⟩):=by
  unfold roomD;rw [if_pos (show kd=9 from HK.o)];dsimp only;rw [HPD.o]
 rw [e1];obtain⟨⟨p',hd4⟩,hg5,hr5⟩:=HX.o;exact⟨_,_,_,rfl,zl hg5 hHw1 _ _ _ _ _ _,⟨p',(hd4.set6 hr5 (.inr (.inl rfl)) hgH _ _ _ _ _ _).mono fun b h=> .inl h⟩,⟨World.ownsRow_nil _ _ _ _,World.ownsRow_nil _ _ _ _,World.ownsRow_nil _ _ _ _⟩⟩
theorem z06 (g:Nat) (p:LoW) (l:LoP) (kd n:Nat) (dg D:ai) (ps:List PartP) (A:aj) (c:Nat) (A':aj) (c':Nat) (w:World) (hL:GoodL l) (h1:kd=10) (N:am) (hNg:N g) (hNw:∀b,N b->b<w.heap.size) (hb:DkB w g p l N) (hd:Sl w 1 A D.length c (bys D)) (hq:Sl w 3 A' ps.length c' (pcs ps)) :
  Calls Tryz.prog 51 #[.pointer (aG ⟨g,0,aF⟩),orV kd n dg D ps A c A' c'] w (ka w g N (roomD l ⟨kd,n,dg,D,ps⟩)):=by
 have k1:((kd:Int)==9)=false:=by rw [beq_eq_false_iff_ne];omega
 have k2:((kd:Int)==10)=true:=by rw [beq_iff_eq];omega
 have HK:=sqH h1;clear h1;obtain⟨X,cX,Y,dY,G,ng,F,cF⟩:=p;obtain⟨s,co,fs⟩:=l;obtain⟨w0,H,HDK,HBC,hws,HBX,HD,HQ,hHw,hHw1,hgH,hHl,hgl,hgw,HP,HR,HL,HNW,x0,x1,x2,x3,x4,HW0,HH⟩:=Yf kd n dg D ps A c A' c' hL hNw hb hd hq;clear hb hd hq hL hNw;go_enter func51,ntmps51
 refine wM 8 ?_;intros;rw [<-HW0.o,<-HH.o];clear x0 x1 x2 x3 x4;obtain⟨p0,p1,p2,p3,p4,p5,p6,p7⟩:=HBC.o _ (Below.refl _ _);by_cases hph:co.aN=0
 ·have hp:((co.aN:Int) != 0)=false:=by rw [hph];rfl
  have HPH:=sqH hph;have HBG:=sqH (VU X cX Y dY s w0 HL.o.s (HDK.o _ (Below.refl _ _)).rd.s);clear hph
  refine wL ?_;intros;refine HBG.o.mono ?_;rintro e_ w3 ⟨v1,v2,v3,rfl,ho,hl,hb3⟩;dsimp only;obtain⟨A1,c1,B1,d1,rfl,rfl, -⟩:=ho.rows;obtain⟨G1,n1,rfl, -, -⟩:=Rd.of_own' hl;have HKP:=sqH (KK g ⟨X,cX,Y,dY,G,ng,F,cF⟩ ⟨s,co,fs⟩ _ _ _ (Xm s) (UC s) 0 w3 (fun b=>N b\/b=H+1) (.inl hNg) ((HDK.o _ hb3).mono fun b hb=>hb.imp id fun h=>wu) (fun _=>⟨(ho.lower (show g+1<=w0.heap.size by omega)).mono (fun b hb=>by rcases hb with hb | hb;(have:=HNW.o b hb;omega);omega),zb hl (show g+1<=w0.heap.size by omega)⟩));have HB:=sqH hb3;clear p0 p1 p2 p3 p4 p5 p6 p7 ho hl hb3 HBG hp
  refine wL ?_;intros;refine(HKP.o).mono ?_;rintro e_ w4 ⟨rfl,hg4,hd4⟩;dsimp only;have hr3:=(HR.o _ HB.o).grown hg4 af;have HX:=sqH (aH hd4 (zR (HBX.o.trans (HB.o.mono hws)) hg4));clear HKP hd4 hg4;obtain⟨f0,f1,f2,f3,f4,f5⟩:=sqF6 hr3;obtain⟨y0,y1,y2,y3,y4,y5⟩:=sqC6 hr3;have HR3:=sqH hr3;have HF:=sqH (hr3.all6 (aB aC ((0:Nat):Int)) (aD ⟨#[]⟩) (aA aF 0 0) (aA aF 0 0) (aB aC 0) (aA aF 0 0));clear hr3
  refine wL ?_;intros;refine bodyPost_ret (results_cell_row rfl _ _ (H+1) _ _ _ _ ac HF.o underlying82 rfl ww) rfl ?_;have e1:roomD ⟨s,co,fs⟩ ⟨kd,n,dg,D,ps⟩=(zM ⟨s,co,fs⟩ (Xm s) (UC s) 0,Yq 0):=by
   unfold roomD;rw [if_neg (show ¬(kd=9) by have:=HK.o;omega),if_pos (show kd=10 from HK.o),if_pos (show co.aN=0 from HPH.o)];rfl
  rw [e1];obtain⟨⟨p',hd4⟩,hg5⟩:=HX.o;exact⟨_,_,_,rfl,zl hg5 hHw1 _ _ _ _ _ _,⟨p',(hd4.set6 HR3.o (.inr rfl) hgH _ _ _ _ _ _).mono fun b h=> .inl h⟩,.e_ _⟩
 ·have hp:((co.aN:Int) != 0)=true:=by rw [bne_iff_ne];omega
  have HPH:=sqH hph;clear hph;have hr3:=HR.o _ (Below.refl _ _);have HX:=sqH (HDK.o _ (Below.refl _ _));clear p0 p1 p2 p3 p5 p6 p7;obtain⟨f0,f1,f2,f3,f4,f5⟩:=sqF6 hr3;obtain⟨y0,y1,y2,y3,y4,y5⟩:=sqC6 hr3;have HR3:=sqH hr3;have HF:=sqH (hr3.all6 (aB aC 6) (aD ⟨#[]⟩) (aA aF 0 0) (aA aF 0 0) (aB aC 0) (aA aF 0 0));clear hr3
  refine wL ?_;intros;refine bodyPost_ret (results_cell_row rfl _ _ (H+1) _ _ _ _ ac HF.o underlying82 rfl ww) rfl ?_;have e1:roomD ⟨s,co,fs⟩ ⟨kd,n,dg,D,ps⟩=(⟨s,co,fs⟩,Yq 6):=by
   unfold roomD;rw [if_neg (show ¬(kd=9) by have:=HK.o;omega),if_pos (show kd=10 from HK.o),if_neg (show ¬(co.aN=0) from HPH.o)]
  rw [e1];exact⟨_,_,_,rfl,zl (zZ HBX.o (aG g)) hHw1 _ _ _ _ _ _,⟨_,(HX.o.set6 HR3.o (.inr hHw1) hgH _ _ _ _ _ _).mono fun b h=> .inl h⟩,.e_ _⟩
theorem jo (h:n=0\/c.aN=0):ticks n s c g=(s,c,g):=by
 cases n with
 | zero=>rfl
 | succ n=>unfold ticks;rw [if_pos (h.resolve_left wu)]
theorem Yx (h:c.aN≠0):ticks (n+1) s c g=ticks n (qF s c).1 (qF s c).2.1 (g+if (qF s c).2.2= [] then 0 else 1):=by
 rw [ticks,if_neg h]
theorem z07 (g:Nat) (p:LoW) (l:LoP) (kd n:Nat) (dg D:ai) (ps:List PartP) (A:aj) (c:Nat) (A':aj) (c':Nat) (w:World) (hL:GoodL l) (h8:8*unm l.st.aI+l.co.aM.length<=1000) (hn:n<=4000) (h1:kd=11) (N:am) (hNg:N g) (hNw:∀b,N b->b<w.heap.size) (hb:DkB w g p l N) (hd:Sl w 1 A D.length c (bys D)) (hq:Sl w 3 A' ps.length c' (pcs ps)) :
  Calls Tryz.prog 51 #[.pointer (aG ⟨g,0,aF⟩),orV kd n dg D ps A c A' c'] w (ka w g N (roomD l ⟨kd,n,dg,D,ps⟩)):=by
 have k1:((kd:Int)==9)=false:=by rw [beq_eq_false_iff_ne];omega
 have k2:((kd:Int)==10)=false:=by rw [beq_eq_false_iff_ne];omega
 obtain⟨HK,HN4,H8⟩:=sqJ3 h1 hn h8;clear h1 hn h8;obtain⟨X,cX,Y,dY,G,ng,F,cF⟩:=p;obtain⟨s,co,fs⟩:=l;obtain⟨w0,H,HDK,HBC,hws,HBX,HD,HQ,hHw,hHw1,hgH,hHl,hgl,hgw,HP,HR,HL,HNW,x0,x1,x2,x3,x4,HW0,HH⟩:=Yf kd n dg D ps A c A' c' hL hNw hb hd hq;clear hb hd hq hL hNw;go_enter func51,ntmps51
 refine wM 11 ?_;intros;rw [<-HW0.o,<-HH.o];clear x0 x1 x2 x3 x4;obtain⟨p0,p1,p2,p3,p4,p5,p6,p7⟩:=HBC.o _ (Below.refl _ _);by_cases hph:co.aN=0
 ·have hp:((co.aN:Int)==0)=true:=by rw [hph];rfl
  have HPH:=sqH hph;clear hph;have hr3:=HR.o _ (Below.refl _ _);have HX:=sqH (HDK.o _ (Below.refl _ _));clear p0 p1 p2 p3 p5 p6 p7;obtain⟨f0,f1,f2,f3,f4,f5⟩:=sqF6 hr3;obtain⟨y0,y1,y2,y3,y4,y5⟩:=sqC6 hr3;have HR3:=sqH hr3;have HF:=sqH (hr3.all6 (aB aC 11) (aD ⟨#[]⟩) (aA aF 0 0) (aA aF 0 0) (aB aC 0) (aA aF 0 0));clear hr3
  refine wL ?_;intros;refine bodyPost_ret (results_cell_row rfl _ _ (H+1) _ _ _ _ ac HF.o underlying82 rfl ww) rfl ?_;have e1:roomD ⟨s,co,fs⟩ ⟨kd,n,dg,D,ps⟩=(⟨s,co,fs⟩,Yq 11):=by
   unfold roomD;rw [if_neg (show ¬(kd=9) by have:=HK.o;omega),if_neg (show ¬(kd=10) by have:=HK.o;omega),if_pos (show co.aN=0 from HPH.o)]
  rw [e1];exact⟨_,_,_,rfl,zl (zZ HBX.o (aG g)) hHw1 _ _ _ _ _ _,⟨_,(HX.o.set6 HR3.o (.inr hHw1) hgH _ _ _ _ _ _).mono fun b h=> .inl h⟩,.e_ _⟩
 ·have hp:((co.aN:Int)==0)=false:=by rw [beq_eq_false_iff_ne];omega
  have HPH:=sqH hph;clear hph p0 p1 p2 p3 p5 p6 p7 HBC
  refine wL ?_;intros;clear p4;go_loopg [9,10] n (fun gn u9 u10 wr=>∃(i go:Nat) (t:StoP) (c2:ColP) (p:LoW),gn=n - i/\u9= aB aC go/\u10= aB aC i/\i<=n/\go<=i/\GoodS t/\GoodC t c2/\8*unm t.aI+c2.aM.length<=1000/\ticks (n - i) t c2 go=ticks n s co 0/\w.grownBy wr (aG g)/\DkB wr g p ⟨t,c2,fs⟩ (fun b=>N b\/b=H+1)/\Arr wr H 28 (orC kd n dg D ps A c A' c')/\Arr wr (H+1) 82 z5j)
  case atStart=>exact⟨0,0,s,co,_,rfl,rfl,rfl,Nat.zero_le _,Nat.le_refl _,HL.o.s,HL.o.c,H8.o,rfl,zZ HBX.o _,(HDK.o _ (Below.refl _ _)).mono (fun b hb=>hb.imp id fun h=>wu),HP.o _ (Below.refl _ _),HR.o _ (Below.refl _ _)⟩
  case round =>
   obtain⟨i,go,t,c2,p,hgk,rfl,rfl,hi,hgi,hgs,hgc,hgl2,htk,hgw2,hdb,hpo,hre⟩:=hrel;obtain⟨X,cX,Y,dY,G,ng,F,cF⟩:=p;obtain⟨HGK,HGS,HDB,HPO,HRE,HI⟩:=sqJ6 hgk (aH hgs (aH hgc (aH hgl2 (aH htk hgw2)))) hdb hpo hre (aH hi hgi);have hwr:w.heap.size<=wr.heap.size:=hgw2.size;have hHr:H+1<wr.heap.size:=hre.lt;have hgr':g<wr.heap.size:=hdb.lt;have hn63:=HN4.o;have o1:=hpo.c1;have p4:wr.cell? ⟨g,4,aF⟩=aG (aB aC c2.aN):=hdb.box.c4;clear hgk hgs hgc hgl2 htk hgw2 hdb hpo hre hi hgi;have hilt:(i:Int)<=4000:=by have:=HI.o;omega
   by_cases hlt:i<n
   rotate_left
   ·have hc1:decide ((i:Int)<(n:Int))=false:=decide_eq_false wu;have hc1':decide (i<n)=false:=decide_eq_false hlt;have HLT:=sqH (show n - i=0 by omega);clear hlt;have hr3:=HRE.o;obtain⟨f0,f1,f2,f3,f4,f5⟩:=sqF6 hr3;obtain⟨y0,y1,y2,y3,y4,y5⟩:=sqC6 hr3;have HR3:=sqH hr3;have HF:=sqH (hr3.all6 (aB aC 0) (aD ⟨#[]⟩) (aA aF 0 0) (aA aF 0 0) (aB aC go) (aA aF 0 0));clear hr3
    refine wL ?_;intros;refine bodyPost_ret (results_cell_row rfl _ _ (H+1) _ _ _ _ ac HF.o underlying82 rfl ww) rfl ?_;obtain⟨hgs,hgc,hgl2,htk,hgw2⟩:=HGS.o;have e1:roomD ⟨s,co,fs⟩ ⟨kd,n,dg,D,ps⟩=(⟨t,c2,fs⟩,⟨0, [], [], [],go, []⟩):=by
     unfold roomD;rw [if_neg (show ¬(kd=9) by have:=HK.o;omega),if_neg (show ¬(kd=10) by have:=HK.o;omega),if_neg (show ¬(co.aN=0) from HPH.o)];dsimp only;rw [<-htk,jo (.inl HLT.o)]
    rw [e1];exact⟨_,_,_,rfl,zl hgw2 hHw1 _ _ _ _ _ _,⟨_,(HDB.o.set6 HR3.o (.inr rfl) hgH _ _ _ _ _ _).mono fun b h=> .inl h⟩,⟨World.ownsRow_nil _ _ _ _,World.ownsRow_nil _ _ _ _,World.ownsRow_nil _ _ _ _⟩⟩
   have hc1:decide ((i:Int)<(n:Int))=true:=decide_eq_true wu;have hc1':decide (i<n)=true:=decide_eq_true hlt;by_cases hp2:c2.aN=0
   ·have hc2:((c2.aN:Int) != 0)=false:=by rw [hp2];rfl
    have HLT:=sqH hp2;clear hlt hp2;have hr3:=HRE.o;obtain⟨f0,f1,f2,f3,f4,f5⟩:=sqF6 hr3;obtain⟨y0,y1,y2,y3,y4,y5⟩:=sqC6 hr3;have HR3:=sqH hr3;have HF:=sqH (hr3.all6 (aB aC 0) (aD ⟨#[]⟩) (aA aF 0 0) (aA aF 0 0) (aB aC go) (aA aF 0 0));clear hr3
    refine wL ?_;intros;refine bodyPost_ret (results_cell_row rfl _ _ (H+1) _ _ _ _ ac HF.o underlying82 rfl ww) rfl ?_;obtain⟨hgs,hgc,hgl2,htk,hgw2⟩:=HGS.o;have e1:roomD ⟨s,co,fs⟩ ⟨kd,n,dg,D,ps⟩=(⟨t,c2,fs⟩,⟨0, [], [], [],go, []⟩):=by
     unfold roomD;rw [if_neg (show ¬(kd=9) by have:=HK.o;omega),if_neg (show ¬(kd=10) by have:=HK.o;omega),if_neg (show ¬(co.aN=0) from HPH.o)];dsimp only;rw [<-htk,jo (.inr HLT.o)]
    rw [e1];exact⟨_,_,_,rfl,zl hgw2 hHw1 _ _ _ _ _ _,⟨_,(HDB.o.set6 HR3.o (.inr rfl) hgH _ _ _ _ _ _).mono fun b h=> .inl h⟩,⟨World.ownsRow_nil _ _ _ _,World.ownsRow_nil _ _ _ _,World.ownsRow_nil _ _ _ _⟩⟩
   have hc2:((c2.aN:Int) != 0)=true:=by rw [bne_iff_ne];omega
   have HLT:=sqH (aH hlt hp2);clear hlt hp2;have HPB:=sqH (fun W (h:Below wr.heap.size wr W)=>VV X cX Y dY t G ng c2 W HGS.o.1 (HDB.o.below h).rd.s (by have:=HLT.o.2;have:=HGS.o.2.1.ph;omega) (by have:=HGS.o.2.2.1;omega) HGS.o.2.1 (HDB.o.below h).rd.c);obtain⟨m1,m2, -,m4,m5,m6⟩:=Q0 HGS.o.1 HGS.o.2.1 (show c2.aN=1\/c2.aN=2 by have:=HLT.o.2;have:=HGS.o.2.1.ph;omega);have m7:=Q1 t c2;have m8:=Yx (n:=n - (i+1)) (s:=t) (g:=go) HLT.o.2;rw [show n - (i+1)+1=n - i by have:=HLT.o.1;omega]at m8;generalize htt:qF t c2=r at HPB m1 m2 m4 m5 m6 m7 m8;obtain⟨t1,cc1,dd⟩:=r;dsimp only at HPB m1 m2 m4 m5 m6 m7 m8;have HM:=sqH (aH m1 (aH m2 (aH m5 (aH m6 (aH m7 m8)))));clear htt m1 m2 m4 m5 m6 m7 m8;have HSB:=sqH (show ∀W,Below wr.heap.size wr W->wK W g (aA X t.aI.length cX) (aA Y t.aJ.length dY) (aB aC t.aL) (aB aC t.aK) (aB aC c2.aN) (aA G c2.aM.length ng) (aD ⟨c2.at_.toArray⟩) from fun W h=>by
    have b:=(HDB.o.below h).box;exact sqC7 b)
   refine wN 17 ?_;intros;clear o1 p4
   iterate 1 (first | go_values | go_skip | go_guarded | go_step | go_upon | go_back)
   apply zC;intro REST;apply zC;intro Rd1;apply zC;intro Rd2;apply zC;intro Rd3;apply zC;intro Rd4;refine ze [18,19] (S:=(fun w'=>wK w' g (aA X t.aI.length cX) (aA Y t.aJ.length dY) (aB aC t.aL) (aB aC t.aK) (aB aC c2.aN) (aA G c2.aM.length ng) (aD ⟨c2.at_.toArray⟩))) ww ?_ (fun hHeld=> ?_)
   ·exact HSB.o _ (((wo wr)).drew)
   have hB:=((wo wr)).drew;generalize wr.drew=wn0 at *
   refine wT 0 ?_;refine wT 1 ?_;refine wT 2 ?_;refine wT 3 ?_;refine wS 4 ?_;refine wT 5 ?_;refine wT 6 ?_;refine wT 7 ?_;refine wT 8 ?_;refine wS 9 ?_;refine za (rs:= [10,16,17]) ww ab ?_;refine z8.cons (o:=_) rfl (fun K hK=> ?_) ?_
   ·
    go_simp;refine(HPB.o wn0 hB).mono ?_;rintro e5 w5 ⟨v1,v2,v3,rfl,ho5,hl5,hb5⟩;obtain⟨A1,c1,B1,d1,rfl,rfl, -⟩:=ho5.rows;obtain⟨G1,n1,rfl, -, -⟩:=Rd.of_own' hl5;dsimp only;refine wC hK (HSB.o _ ((wm hB hb5))) (fun W=>Below wr.heap.size wr W/\OwSt W (g+1) (aA A1 t1.aI.length c1) (aA B1 t1.aJ.length d1) t1 (fun b=>(N b\/b=H+1))/\W.ownsRow (g+1) 9 1 (aA G1 cc1.aM.length n1) cc1.aM.length (strs cc1.aM)) (by exact⟨wm hB hb5,(ho5.lower (base':=(g+1)) (by have:=hB.size;omega)).mono (N':=(fun b=>(N b\/b=H+1))) (fun b hb=>by have:=hB.size;rcases hb with hb | hb;(have:=HNW.o b hb;omega);omega),zb hl5 (by have:=hB.size;omega)⟩) fun wn1 hF=> ?_;clear hB hHeld hb5 ho5 hl5 hK K;obtain⟨hHeld,hB,ho,hl⟩:=hF
    refine wT 11 ?_;refine wT 12 ?_;refine wT 13 ?_;refine wT 14 ?_;refine wT 15 ?_;refine za (rs:= [16,17]) ww ab ?_;refine z8.cons (o:=_) rfl (fun K hK=> ?_) ?_
    ·
     obtain⟨g5,hge,hba,hn,hnl,hN⟩:=wG wn1 38 [aA aF 0 0,aA aF 0 0,aB aC 0,aB aC 0] hB.size;go_simp;rw [<-hge];clear hge;refine wC hK (HSB.o _ ((wm hB hba))) (fun W=>Below wr.heap.size wr W/\Arr W g5 38 [aA aF 0 0,aA aF 0 0,aB aC 0,aB aC 0]/\wr.heap.size<=g5/\OwSt W (g+1) (aA A1 t1.aI.length c1) (aA B1 t1.aJ.length d1) t1 (fun b=>(N b\/b=H+1)\/b=g5)/\W.ownsRow (g+1) 9 1 (aA G1 cc1.aM.length n1) cc1.aM.length (strs cc1.aM)) ⟨wm hB hba,hn,hnl,(ho.wider (N':=(fun b=>(N b\/b=H+1)\/b=g5)) (fun b hb=>hb.elim (fun hb=> .inl hb) (fun hb=> .inr (hN _ hb)))).below hba,zc hl hba⟩ fun wn2 hF=> ?_;clear hl ho hB hHeld hba hn hnl hN hK K;obtain⟨hHeld,hB,h5,h5l,ho,hl⟩:=hF
     try simp only [sqP]
     have hall:=aH hB (aH h5 (aH h5l (aH ho (aH hl hHeld))));clear hHeld hl ho h5l h5 hB;generalize wn2=wz at hall ⊢
     revert hall;revert wz;revert g5;revert n1;revert G1;revert d1;revert B1;revert c1;revert A1;exact Rd2.o
    refine z8.cons (o:=_) rfl (fun K hK=> ?_) ?_
    ·
     obtain⟨g6,hge,hba,hn,hnl,hN⟩:=wG wn1 41 [aB aC 0,aA aF 0 0,aD ⟨#[]⟩] hB.size;go_simp;rw [<-hge];clear hge;refine wC hK (HSB.o _ ((wm hB hba))) (fun W=>Below wr.heap.size wr W/\Arr W g6 41 [aB aC 0,aA aF 0 0,aD ⟨#[]⟩]/\wr.heap.size<=g6/\OwSt W (g+1) (aA A1 t1.aI.length c1) (aA B1 t1.aJ.length d1) t1 (fun b=>(N b\/b=H+1)\/b=g6)/\W.ownsRow (g+1) 9 1 (aA G1 cc1.aM.length n1) cc1.aM.length (strs cc1.aM)) ⟨wm hB hba,hn,hnl,(ho.wider (N':=(fun b=>(N b\/b=H+1)\/b=g6)) (fun b hb=>hb.elim (fun hb=> .inl hb) (fun hb=> .inr (hN _ hb)))).below hba,zc hl hba⟩ fun wn3 hF=> ?_;clear hl ho hB hHeld hba hn hnl hN hK K;obtain⟨hHeld,hB,h6,h6l,ho,hl⟩:=hF
     try simp only [sqP]
     have hall:=aH hB (aH h6 (aH h6l (aH ho (aH hl hHeld))));clear hHeld hl ho h6l h6 hB;generalize wn3=wz at hall ⊢
     revert hall;revert wz;revert g6;revert n1;revert G1;revert d1;revert B1;revert c1;revert A1;exact Rd3.o
    exact z8.nil
   refine z8.cons (o:=_) rfl (fun K hK=> ?_) ?_
   ·
    obtain⟨g5,hge,hba,hn,hnl,hN⟩:=wG wn0 38 [aA aF 0 0,aA aF 0 0,aB aC 0,aB aC 0] hB.size;go_simp;rw [<-hge];clear hge;refine wC hK (HSB.o _ ((wm hB hba))) (fun W=>Below wr.heap.size wr W/\Arr W g5 38 [aA aF 0 0,aA aF 0 0,aB aC 0,aB aC 0]/\wr.heap.size<=g5) ⟨wm hB hba,hn,hnl⟩ fun wn4 hF=> ?_;clear hB hHeld hba hn hnl hN hK K;obtain⟨hHeld,hB,h5,h5l⟩:=hF
    try simp only [sqP]
    refine za (rs:= [10,17]) ww ab ?_;refine z8.cons (o:=_) rfl (fun K hK=> ?_) ?_
    ·
     go_simp;refine(HPB.o wn4 hB).mono ?_;rintro e5 w5 ⟨v1,v2,v3,rfl,ho5,hl5,hb5⟩;obtain⟨A1,c1,B1,d1,rfl,rfl, -⟩:=ho5.rows;obtain⟨G1,n1,rfl, -, -⟩:=Rd.of_own' hl5;dsimp only;refine wC hK (HSB.o _ ((wm hB hb5))) (fun W=>Below wr.heap.size wr W/\Arr W g5 38 [aA aF 0 0,aA aF 0 0,aB aC 0,aB aC 0]/\wr.heap.size<=g5/\OwSt W (g+1) (aA A1 t1.aI.length c1) (aA B1 t1.aJ.length d1) t1 (fun b=>(N b\/b=H+1)\/b=g5)/\W.ownsRow (g+1) 9 1 (aA G1 cc1.aM.length n1) cc1.aM.length (strs cc1.aM)) (by exact⟨wm hB hb5,h5.below hb5,h5l,(ho5.lower (base':=(g+1)) (by have:=hB.size;omega)).mono (N':=(fun b=>(N b\/b=H+1)\/b=g5)) (fun b hb=>hb.elim (fun hb=>by have:=hB.size;rcases hb with hb | hb;(have:=HNW.o b hb;omega);omega) (fun hb=>(by rw [hb];exact h5.lt))),zb hl5 (by have:=hB.size;omega)⟩) fun wn5 hF=> ?_;clear h5l h5 hB hHeld hb5 ho5 hl5 hK K;obtain⟨hHeld,hB,h5,h5l,ho,hl⟩:=hF
     refine wT 11 ?_;refine wT 12 ?_;refine wT 13 ?_;refine wT 14 ?_;refine wT 15 ?_;exact Rd2.o A1 c1 B1 d1 G1 n1 g5 wn5 ⟨hB,h5,h5l,ho,hl,hHeld⟩
    refine z8.cons (o:=_) rfl (fun K hK=> ?_) ?_
    ·
     obtain⟨g6,hge,hba,hn,hnl,hN⟩:=wG wn4 41 [aB aC 0,aA aF 0 0,aD ⟨#[]⟩] hB.size;go_simp;rw [<-hge];clear hge;refine wC hK (HSB.o _ ((wm hB hba))) (fun W=>Below wr.heap.size wr W/\Arr W g5 38 [aA aF 0 0,aA aF 0 0,aB aC 0,aB aC 0]/\wr.heap.size<=g5/\Arr W g6 41 [aB aC 0,aA aF 0 0,aD ⟨#[]⟩]/\wr.heap.size<=g6/\g5≠g6) (by exact⟨wm hB hba,h5.below hba,h5l,hn,hnl,(fun e=>Nat.lt_irrefl _ (by have h1:=h5.lt;rw [e]at h1;exact Nat.lt_of_lt_of_le h1 (hN _ rfl)))⟩) fun wn6 hF=> ?_;clear h5l h5 hB hHeld hba hn hnl hN hK K;obtain⟨hHeld,hB,h5,h5l,h6,h6l,h56n⟩:=hF
     try simp only [sqP]
     have hall:=aH hB (aH h5 (aH h5l (aH h6 (aH h6l (aH h56n hHeld)))));clear hHeld h56n h6l h6 h5l h5 hB;generalize wn6=wz at hall ⊢
     revert hall;revert wz;revert g6;revert g5;exact Rd4.o
    exact z8.nil
   refine z8.cons (o:=_) rfl (fun K hK=> ?_) ?_
   ·
    obtain⟨g6,hge,hba,hn,hnl,hN⟩:=wG wn0 41 [aB aC 0,aA aF 0 0,aD ⟨#[]⟩] hB.size;go_simp;rw [<-hge];clear hge;refine wC hK (HSB.o _ ((wm hB hba))) (fun W=>Below wr.heap.size wr W/\Arr W g6 41 [aB aC 0,aA aF 0 0,aD ⟨#[]⟩]/\wr.heap.size<=g6) ⟨wm hB hba,hn,hnl⟩ fun wn7 hF=> ?_;clear hB hHeld hba hn hnl hN hK K;obtain⟨hHeld,hB,h6,h6l⟩:=hF
    try simp only [sqP]
    refine za (rs:= [10,16]) ww ab ?_;refine z8.cons (o:=_) rfl (fun K hK=> ?_) ?_
    ·
     go_simp;refine(HPB.o wn7 hB).mono ?_;rintro e5 w5 ⟨v1,v2,v3,rfl,ho5,hl5,hb5⟩;obtain⟨A1,c1,B1,d1,rfl,rfl, -⟩:=ho5.rows;obtain⟨G1,n1,rfl, -, -⟩:=Rd.of_own' hl5;dsimp only;refine wC hK (HSB.o _ ((wm hB hb5))) (fun W=>Below wr.heap.size wr W/\Arr W g6 41 [aB aC 0,aA aF 0 0,aD ⟨#[]⟩]/\wr.heap.size<=g6/\OwSt W (g+1) (aA A1 t1.aI.length c1) (aA B1 t1.aJ.length d1) t1 (fun b=>(N b\/b=H+1)\/b=g6)/\W.ownsRow (g+1) 9 1 (aA G1 cc1.aM.length n1) cc1.aM.length (strs cc1.aM)) (by exact⟨wm hB hb5,h6.below hb5,h6l,(ho5.lower (base':=(g+1)) (by have:=hB.size;omega)).mono (N':=(fun b=>(N b\/b=H+1)\/b=g6)) (fun b hb=>hb.elim (fun hb=>by have:=hB.size;rcases hb with hb | hb;(have:=HNW.o b hb;omega);omega) (fun hb=>(by rw [hb];exact h6.lt))),zb hl5 (by have:=hB.size;omega)⟩) fun wn8 hF=> ?_;clear h6l h6 hB hHeld hb5 ho5 hl5 hK K;obtain⟨hHeld,hB,h6,h6l,ho,hl⟩:=hF
     refine wT 11 ?_;refine wT 12 ?_;refine wT 13 ?_;refine wT 14 ?_;refine wT 15 ?_;exact Rd3.o A1 c1 B1 d1 G1 n1 g6 wn8 ⟨hB,h6,h6l,ho,hl,hHeld⟩
    refine z8.cons (o:=_) rfl (fun K hK=> ?_) ?_
    ·
     obtain⟨g5,hge,hba,hn,hnl,hN⟩:=wG wn7 38 [aA aF 0 0,aA aF 0 0,aB aC 0,aB aC 0] hB.size;go_simp;rw [<-hge];clear hge;refine wC hK (HSB.o _ ((wm hB hba))) (fun W=>Below wr.heap.size wr W/\Arr W g5 38 [aA aF 0 0,aA aF 0 0,aB aC 0,aB aC 0]/\wr.heap.size<=g5/\Arr W g6 41 [aB aC 0,aA aF 0 0,aD ⟨#[]⟩]/\wr.heap.size<=g6/\g5≠g6) (by exact⟨wm hB hba,hn,hnl,h6.below hba,h6l,(fun e=>Nat.lt_irrefl _ (by have h1:=h6.lt;rw [<-e]at h1;exact Nat.lt_of_lt_of_le h1 (hN _ rfl)))⟩) fun wn9 hF=> ?_;clear h6l h6 hB hHeld hba hn hnl hN hK K;obtain⟨hHeld,hB,h5,h5l,h6,h6l,h56n⟩:=hF
     try simp only [sqP]
     exact Rd4.o g5 g6 wn9 ⟨hB,h5,h5l,h6,h6l,h56n,hHeld⟩
    exact z8.nil
   exact z8.nil;intro g5 g6 wRd4 hall;obtain⟨hB,h5,h5l,h6,h6l,h56n,hHeld⟩:=hall;refine za (rs:= [10]) ww ab ?_;refine z8.cons (o:=_) rfl (fun K hK=> ?_) ?_
   ·
    go_simp;refine(HPB.o wRd4 hB).mono ?_;rintro e5 w5 ⟨v1,v2,v3,rfl,ho5,hl5,hb5⟩;obtain⟨A1,c1,B1,d1,rfl,rfl, -⟩:=ho5.rows;obtain⟨G1,n1,rfl, -, -⟩:=Rd.of_own' hl5;dsimp only;refine wC hK (HSB.o _ ((wm hB hb5))) (fun W=>Below wr.heap.size wr W/\Arr W g5 38 [aA aF 0 0,aA aF 0 0,aB aC 0,aB aC 0]/\wr.heap.size<=g5/\Arr W g6 41 [aB aC 0,aA aF 0 0,aD ⟨#[]⟩]/\wr.heap.size<=g6/\g5≠g6/\OwSt W (g+1) (aA A1 t1.aI.length c1) (aA B1 t1.aJ.length d1) t1 (fun b=>(N b\/b=H+1)\/b=g5\/b=g6)/\W.ownsRow (g+1) 9 1 (aA G1 cc1.aM.length n1) cc1.aM.length (strs cc1.aM)) (by exact⟨wm hB hb5,h5.below hb5,h5l,h6.below hb5,h6l,h56n,(ho5.lower (base':=(g+1)) (by have:=hB.size;omega)).mono (N':=(fun b=>(N b\/b=H+1)\/b=g5\/b=g6)) (fun b hb=>hb.elim (fun hb=>by have:=hB.size;rcases hb with hb | hb;(have:=HNW.o b hb;omega);omega) (fun hb=>hb.elim (fun hb=>by rw [hb];exact h5.lt) (fun hb=>(by rw [hb];exact h6.lt)))),zb hl5 (by have:=hB.size;omega)⟩) fun wn10 hF=> ?_;clear h56n h6l h6 h5l h5 hB hHeld hb5 ho5 hl5 hK K;obtain⟨hHeld,hB,h5,h5l,h6,h6l,h56n,ho,hl⟩:=hF
    refine wT 11 ?_;refine wT 12 ?_;refine wT 13 ?_;refine wT 14 ?_;refine wT 15 ?_;have hall:=aH hB (aH h5 (aH h5l (aH h6 (aH h6l (aH h56n (aH ho (aH hl hHeld)))))));clear hHeld hl ho h56n h6l h6 h5l h5 hB;generalize wn10=wz at hall ⊢
    revert hall;revert wz;revert g6;revert g5;revert n1;revert G1;revert d1;revert B1;revert c1;revert A1;exact Rd1.o
   exact z8.nil;intro A1 c1 B1 d1 G1 n1 g6 wRd3 hall;obtain⟨hB,h6,h6l,ho,hl,hHeld⟩:=hall;refine za (rs:= [16]) ww ab ?_;refine z8.cons (o:=_) rfl (fun K hK=> ?_) ?_
   ·
    obtain⟨g5,hge,hba,hn,hnl,hN⟩:=wG wRd3 38 [aA aF 0 0,aA aF 0 0,aB aC 0,aB aC 0] hB.size;go_simp;rw [<-hge];clear hge;refine wC hK (HSB.o _ ((wm hB hba))) (fun W=>Below wr.heap.size wr W/\Arr W g5 38 [aA aF 0 0,aA aF 0 0,aB aC 0,aB aC 0]/\wr.heap.size<=g5/\Arr W g6 41 [aB aC 0,aA aF 0 0,aD ⟨#[]⟩]/\wr.heap.size<=g6/\g5≠g6/\OwSt W (g+1) (aA A1 t1.aI.length c1) (aA B1 t1.aJ.length d1) t1 (fun b=>(N b\/b=H+1)\/b=g5\/b=g6)/\W.ownsRow (g+1) 9 1 (aA G1 cc1.aM.length n1) cc1.aM.length (strs cc1.aM)) (by exact⟨wm hB hba,hn,hnl,h6.below hba,h6l,(fun e=>Nat.lt_irrefl _ (by have h1:=h6.lt;rw [<-e]at h1;exact Nat.lt_of_lt_of_le h1 (hN _ rfl))),(ho.wider (N':=(fun b=>(N b\/b=H+1)\/b=g5\/b=g6)) (fun b hb=>hb.elim (fun hb=> .inl (.inl hb)) (fun hb=>hb.elim (fun hb=> .inr (hN _ hb)) (fun hb=> .inl (.inr hb))))).below hba,zc hl hba⟩) fun wn11 hF=> ?_;clear hl ho h6l h6 hB hHeld hba hn hnl hN hK K;obtain⟨hHeld,hB,h5,h5l,h6,h6l,h56n,ho,hl⟩:=hF
    try simp only [sqP]
    exact Rd1.o A1 c1 B1 d1 G1 n1 g5 g6 wn11 ⟨hB,h5,h5l,h6,h6l,h56n,ho,hl,hHeld⟩
   exact z8.nil;intro A1 c1 B1 d1 G1 n1 g5 wRd2 hall;obtain⟨hB,h5,h5l,ho,hl,hHeld⟩:=hall;refine za (rs:= [17]) ww ab ?_;refine z8.cons (o:=_) rfl (fun K hK=> ?_) ?_
   ·
    obtain⟨g6,hge,hba,hn,hnl,hN⟩:=wG wRd2 41 [aB aC 0,aA aF 0 0,aD ⟨#[]⟩] hB.size;go_simp;rw [<-hge];clear hge;refine wC hK (HSB.o _ ((wm hB hba))) (fun W=>Below wr.heap.size wr W/\Arr W g5 38 [aA aF 0 0,aA aF 0 0,aB aC 0,aB aC 0]/\wr.heap.size<=g5/\Arr W g6 41 [aB aC 0,aA aF 0 0,aD ⟨#[]⟩]/\wr.heap.size<=g6/\g5≠g6/\OwSt W (g+1) (aA A1 t1.aI.length c1) (aA B1 t1.aJ.length d1) t1 (fun b=>(N b\/b=H+1)\/b=g5\/b=g6)/\W.ownsRow (g+1) 9 1 (aA G1 cc1.aM.length n1) cc1.aM.length (strs cc1.aM)) (by exact⟨wm hB hba,h5.below hba,h5l,hn,hnl,(fun e=>Nat.lt_irrefl _ (by have h1:=h5.lt;rw [e]at h1;exact Nat.lt_of_lt_of_le h1 (hN _ rfl))),(ho.wider (N':=(fun b=>(N b\/b=H+1)\/b=g5\/b=g6)) (fun b hb=>hb.elim (fun hb=> .inl (.inl hb)) (fun hb=>hb.elim (fun hb=> .inl (.inr hb)) (fun hb=> .inr (hN _ hb))))).below hba,zc hl hba⟩) fun wn12 hF=> ?_;clear hl ho h5l h5 hB hHeld hba hn hnl hN hK K;obtain⟨hHeld,hB,h5,h5l,h6,h6l,h56n,ho,hl⟩:=hF
    try simp only [sqP]
    exact Rd1.o A1 c1 B1 d1 G1 n1 g5 g6 wn12 ⟨hB,h5,h5l,h6,h6l,h56n,ho,hl,hHeld⟩
   exact z8.nil;intro A1 c1 B1 d1 G1 n1 g5 g6 wRd1 hall;obtain⟨hB,h5,h5l,h6,h6l,h56n,ho,hl,hHeld⟩:=hall;refine za (rs:= [18]) ww ab ?_;refine z8.store (o:=_) rfl ac (fun K hK=> ?_) ?_
   ·
    have hqho:=ho.nb h5 aa aa;have hqhl:=zf hl h5 aa;obtain⟨z0,f0,z1,f1,z2,f2,z3,f3⟩:=wg h5;go_simp;clear z0 f0 z1 f1 z2 f2 z3 f3;refine wD hK (fun W=>Below wr.heap.size wr W/\Arr W g5 38 [(aA A1 t1.aI.length c1),(aA B1 t1.aJ.length d1),aB aC t.aL,aB aC t.aK]/\wr.heap.size<=g5/\Arr W g6 41 [aB aC 0,aA aF 0 0,aD ⟨#[]⟩]/\wr.heap.size<=g6/\g5≠g6/\OwSt W (g+1) (aA A1 t1.aI.length c1) (aA B1 t1.aJ.length d1) t1 (fun b=>(N b\/b=H+1)\/b=g5\/b=g6)/\W.ownsRow (g+1) 9 1 (aA G1 cc1.aM.length n1) cc1.aM.length (strs cc1.aM)) ⟨((((hB).setCell (p:=⟨g5,0,aF⟩) h5l _).setCell (p:=⟨g5,1,aF⟩) h5l _).setCell (p:=⟨g5,2,aF⟩) h5l _).setCell (p:=⟨g5,3,aF⟩) h5l _,h5.all4 _ _ _ _,h5l,((((h6).other (h56n.symm) _).other (h56n.symm) _).other (h56n.symm) _).other (h56n.symm) _,h6l,h56n,ho.set4N (.inr (.inl rfl)) hqho.1 hqho.2 _ _ _ _,qA hl hqhl _ _ _ _⟩ fun wn13 hF=> ?_;clear hl ho h56n h6l h6 h5l h5 hB hHeld;obtain⟨hB,h5,h5l,h6,h6l,h56n,ho,hl⟩:=hF;clear hqho hqhl;clear hK K
    try simp only [sqP]
    refine wW 19 fun K hK=>?_;have hqho:=ho.nb h6 aa aa;have hqhl:=zf hl h6 aa;obtain⟨z0,f0,z1,f1,z2,f2⟩:=wh h6;go_simp;clear z0 f0 z1 f1 z2 f2;refine wD hK (fun W=>Below wr.heap.size wr W/\Arr W g5 38 [(aA A1 t1.aI.length c1),(aA B1 t1.aJ.length d1),aB aC t.aL,aB aC t.aK]/\wr.heap.size<=g5/\Arr W g6 41 [aB aC cc1.aN,(aA G1 cc1.aM.length n1),aD ⟨cc1.at_.toArray⟩]/\wr.heap.size<=g6/\g5≠g6/\OwSt W (g+1) (aA A1 t1.aI.length c1) (aA B1 t1.aJ.length d1) t1 (fun b=>(N b\/b=H+1)\/b=g5\/b=g6)/\W.ownsRow (g+1) 9 1 (aA G1 cc1.aM.length n1) cc1.aM.length (strs cc1.aM)) ⟨(((hB).setCell (p:=⟨g6,0,aF⟩) h6l _).setCell (p:=⟨g6,1,aF⟩) h6l _).setCell (p:=⟨g6,2,aF⟩) h6l _,(((h5).other (h56n) _).other (h56n) _).other (h56n) _,h5l,h6.all3 _ _ _,h6l,h56n,ho.set3N (.inr (.inr rfl)) hqho.1 hqho.2 _ _ _,kz hl hqhl _ _ _⟩ fun wn14 hF=> ?_;clear hl ho h56n h6l h6 h5l h5 hB;obtain⟨hB,h5,h5l,h6,h6l,h56n,ho,hl⟩:=hF;clear hqho hqhl;clear hK K
    refine wT 20 ?_;refine wT 21 ?_;refine zo ww ?_ _
    try dsimp only [Exit.then]
    have hall:=aH hB (aH h5 (aH h5l (aH h6 (aH h6l (aH h56n (aH ho hl))))));clear hl ho h56n h6l h6 h5l h5 hB;generalize wn14=wz at hall ⊢
    revert hall;revert wz;revert g6;revert g5;revert n1;revert G1;revert d1;revert B1;revert c1;revert A1;exact REST.o
   exact z8.nil;intro A1 c1 B1 d1 G1 n1 g5 g6 w5 hall;obtain⟨hB,h5,h5l,h6,h6l,h56n,ho,hl⟩:=hall;have hdb5:=HDB.o.below hB;have hbb:Arr w5 g 79 [aA X t.aI.length cX,aA Y t.aJ.length dY,aB aC t.aL,aB aC t.aK,aB aC c2.aN,aA G c2.aM.length ng,aD ⟨c2.at_.toArray⟩,aA F fs.length cF]:=hdb5.box;have n1':¬(g5=g):=wu;have n2':¬(g6=g):=wu;have hg7:=(zq (k:=6) (u:= aD ⟨cc1.at_.toArray⟩) (zq (k:=5) (u:= aA G1 cc1.aM.length n1) (zq (k:=4) (u:= aB aC cc1.aN) (zq (k:=3) (u:= aB aC t.aK) (zq (k:=2) (u:= aB aC t.aL) (zq (k:=1) (u:= aA B1 t1.aJ.length d1) (zq (k:=0) (u:= aA A1 t1.aI.length c1) (World.grownBy.refl w5 (aG g)))))))))
   obtain⟨HA7,HG7,HOW,HB5⟩:=sqJ4 (hbb.fst7 (aA A1 t1.aI.length c1) (aA B1 t1.aJ.length d1) (aB aC t.aL) (aB aC t.aK) (aB aC cc1.aN) (aA G1 cc1.aM.length n1) (aD ⟨cc1.at_.toArray⟩)) hg7 (show OwLo w5 (g+1) (aA A1 t1.aI.length c1) (aA B1 t1.aJ.length d1) (aA G1 cc1.aM.length n1) (aA F fs.length cF) ⟨t1,cc1,fs⟩ (fun b=>N b\/b=H+1) from⟨ho.mono fun b hb=> .inl hb,hl,hdb5.own.f⟩) hB;obtain⟨d0,d1_,d2,d3,d4,d5,d6⟩:=sqC7 hbb;obtain⟨e0,e1,e2,e3,e4,e5,e6⟩:=sqF7 hbb;obtain⟨x0,x1,x2,x3⟩:=sqC4 h5;obtain⟨y0,y1,y2⟩:=sqC3 h6;have hdd:(⟨dd.toArray⟩:ByteArray).toList=dd:=ByteArray.toList_eq _;generalize hds:(⟨dd.toArray⟩:ByteArray)=ds at *
   have HDS:=sqH hds;have HDD:=sqH hdd;clear hdb5 hbb hg7 hB h5 h5l h6 h6l h56n ho hl HPB HSB hds hdd
   refine wN 20 ?_;intros;iterate 1 (first | go_values | go_skip | go_guarded | go_step | go_upon | go_back)
   go_region
   all_goals (try dsimp only [Exit.then])
   clear d0 d1_ d2 d3 d4 d5 d6 e0 e1 e2 e3 e4 e5 e6 x0 x1 x2 x3 y0 y1 y2;obtain⟨p',hD⟩:=DkB.mk' (HOW.o.grownE HG7.o (Nat.lt_succ_self g) (.inl hNg)) (by
    show Arr _ g _ [_,_,aB aC t1.aL,aB aC t1.aK,_,_,_,_];rw [HM.o.2.2.1,HM.o.2.2.2.1];exact HA7.o)
   have HW7:=sqH (aH (hD.below (Below.refl _ _).drew) (aH (zQ ((zQ HGS.o.2.2.2.2 HB5.o).trans HG7.o) (Below.refl _ _).drew) (aH (Arr.drew ((HPO.o.below HB5.o).grown HG7.o af)) (Arr.drew ((HRE.o.below HB5.o).grown HG7.o af)))));clear hD HOW HA7 HG7;generalize (((((((w5.setCell ⟨g,0,aF⟩ (aA A1 t1.aI.length c1)).setCell ⟨g,1,aF⟩ (aA B1 t1.aJ.length d1)).setCell ⟨g,2,aF⟩ (aB aC t.aL)).setCell ⟨g,3,aF⟩ (aB aC t.aK)).setCell ⟨g,4,aF⟩ (aB aC cc1.aN)).setCell ⟨g,5,aF⟩ (aA G1 cc1.aM.length n1)).setCell ⟨g,6,aF⟩ (aD ⟨cc1.at_.toArray⟩)).drew=w7 at *
   have hgo4:(go:Int)<=4000:=by have:=HI.o;omega
   by_cases hd:dd= []
   ·have e1:ds.toList.isEmpty=true:=by rw [HDD.o,hd];rfl
    have HDE:=sqH hd;clear hd
    refine wL ?_;intros;go_roundg (n - (i+1))
    case measure=>have:=HGK.o;have:=HLT.o.1;omega
    case rel =>
     have hm8:=HM.o.2.2.2.2.2;rw [HGS.o.2.2.2.1,if_pos HDE.o]at hm8;have hlt:=HLT.o.1;have hgi:=HI.o.2;exact⟨i+1,go,t1,cc1,p',rfl,rfl,by go_num,wu,wu,HM.o.1,HM.o.2.1,by have:=HM.o.2.2.2.2.1;have:=HGS.o.2.2.1;omega,hm8.symm,HW7.o.2.1,HW7.o.1,HW7.o.2.2.1,HW7.o.2.2.2⟩
   ·have e1:ds.toList.isEmpty=false:=by rw [HDD.o];cases dd with | nil=>exact absurd rfl hd | cons _ _=>rfl
    have HDE:=sqH hd;clear hd
    refine wL ?_;intros;go_roundg (n - (i+1))
    case measure=>have:=HGK.o;have:=HLT.o.1;omega
    case rel =>
     have hm8:=HM.o.2.2.2.2.2;rw [HGS.o.2.2.2.1,if_neg HDE.o]at hm8;have hlt:=HLT.o.1;have hgi:=HI.o.2;exact⟨i+1,go+1,t1,cc1,p',rfl,by go_num,by go_num,wu,wu,HM.o.1,HM.o.2.1,by have:=HM.o.2.2.2.2.1;have:=HGS.o.2.2.1;omega,hm8.symm,HW7.o.2.1,HW7.o.1,HW7.o.2.2.1,HW7.o.2.2.2⟩
end Go.Proofs.YtcjmjaefcjcomaaGreat
