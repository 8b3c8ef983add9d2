/- Lemmas, as stated. -/
import Derived.Test.YtaboknhfiijipaaGreatQT29
set_option linter.unusedVariables false
set_option linter.unusedSimpArgs false
set_option maxRecDepth 100000
set_option maxHeartbeats 16000000
open Go.Proofs.Tryz
open Go.Value renaming slice->ax,int->ay,string->aA
open Go.IntKind renaming i64->az
open Go.Obj renaming cells->aB
open Option renaming none->aC,some->aD
open And renaming intro->aE
namespace Go.Proofs.YtaboknhfiijipaaGreat
open Go.RowKit Go.Maps
variable {c:ColP} {g n:Nat} {s:StoP}
theorem z16 (g:Nat) (p:LoW) (l:LoP) (kd n:Nat) (dg D:ae) (ps:List PartP) (A:af) (c:Nat) (A':af) (c':Nat) (w:World) (hL:GoodL l) (hn:n<=4000) (h1:kd=9) (N:aj) (hNg:N g) (hNw:∀b,N b->b<w.heap.size) (hb:DkB w g p l N) (hd:Sl w 1 A D.length c (bys D)) (hq:Sl w 3 A' ps.length c' (pcs ps)) :
  Calls Tryz.prog 68 #[.pointer (aD ⟨g,0,aC⟩),orV kd n dg D ps A c A' c'] w (k5 w g N (roomD l ⟨kd,n,dg,D,ps⟩)):=by
 have k1:((kd:Int)==9)=true:=by rw [beq_iff_eq];omega
 have HK:=sqH h1;have HPX:=sqH hn;clear h1 hn;obtain⟨X,cX,Y,dY,G,ng,F,cF⟩:=p;obtain⟨s,co,fs⟩:=l;have hgl:=hb.lt;have hgw:=hb.lt;have hbw:=hb.wider (N':=fun b=>N b\/w.heap.size<=b) (fun b h=>h);obtain⟨w0,hw0,hP,hR,hbx⟩:=zo w 29 47 [ay az kd,ay az n,aA ⟨dg.toArray⟩,ax A D.length c,ax A' ps.length c'] [ay az 0,aA ⟨#[]⟩,ax aC 0 0,ax aC 0 0,ay az 0,ax aC 0 0];have HDK:=sqH (show ∀W,Below w0.heap.size w0 W->DkB W g ⟨X,cX,Y,dY,G,ng,F,cF⟩ ⟨s,co,fs⟩ (fun b=>N b\/w.heap.size<=b) from fun W h=>(hbw.below hbx).below h);have HBC:=sqH (show ∀W,Below w0.heap.size w0 W->wF W g (ax X s.aF.length cX) (ax Y s.aG.length dY) (ay az s.aI) (ay az s.aH) (ay az co.aK) (ax G co.aJ.length ng) (aA ⟨co.at_.toArray⟩) (ax F fs.length cF) from fun W h=>by
  have b:=(HDK.o W h).box;exact sqC8 b)
 have hws:=hbx.size;obtain⟨HBX,HD,HQ⟩:=sqJ3 hbx (hd.below hbx) (hq.below hbx);obtain⟨H,hH⟩:=wV w.heap.size
 rw [<-hH]at hP hR hgl;have hHw:w.heap.size<=H:=wm;have hHw1:w.heap.size<=H+1:=wm;have hgH:g≠H+1:=wm;have hHl:H+1<w0.heap.size:=hR.lt;obtain⟨HP,HR,HL,HNW⟩:=sqJ4 (show ∀W,Below w0.heap.size w0 W->Arr W H 29 (orC kd n dg D ps A c A' c') from fun W h=>hP.below h) (show ∀W,Below w0.heap.size w0 W->Arr W (H+1) 47 QW from fun W h=>hR.below h) hL hNw;obtain⟨x0,x1,x2,x3,x4⟩:=sqC5 hP;have HW0:=sqH hw0;have HH:=sqH hH;rw [hw0,hH]at x0 x1 x2 x3 x4;clear hb hbw hbx hd hq hP hR hL hw0 hH hNw;go_enter func68,ntmps68
 refine wI 3 ?_;intros;rw [<-HW0.o,<-HH.o];clear x0 x1 x2 x3 x4;have HPB:=sqH (fun W (h:Below w0.heap.size w0 W)=>J9 X cX Y dY s G ng co W n HPX.o HL.o.s (HDK.o W h).rd.s HL.o.g HL.o.c (HDK.o W h).rd.c);have hgn:(evP s n).2.1<=10:=z1h HL.o.s n;generalize hpb:evP s n=r at HPB hgn;obtain⟨t,k9,q⟩:=r;dsimp only at HPB hgn;have HPD:=sqH hpb;clear hpb;have HSB:=sqH (show ∀W,Below w0.heap.size w0 W->(wG W g (ax X s.aF.length cX) (ax Y s.aG.length dY) (ay az s.aI) (ay az s.aH) (ay az co.aK) (ax G co.aJ.length ng) (aA ⟨co.at_.toArray⟩))/\W.cell? ⟨H,1,aC⟩=aD (ay az n) from fun W h=>by
  obtain⟨y0,y1,y2,y3,y4,y5,y6,_⟩:=HBC.o W h;exact⟨⟨y0,y1,y2,y3,y4,y5,y6⟩,(HP.o W h).c1⟩)
 iterate 1 (first | go_values | go_skip | go_guarded | go_step | go_upon | go_back)
 apply zE;intro REST;apply zE;intro Rb1;refine ze [18] (S:=(fun w'=>(wG w' g (ax X s.aF.length cX) (ax Y s.aG.length dY) (ay az s.aI) (ay az s.aH) (ay az co.aK) (ax G co.aJ.length ng) (aA ⟨co.at_.toArray⟩))/\w'.cell? ⟨H,1,aC⟩=aD (ay az n))) wo ?_ (fun hHeld=> ?_)
 ·exact HSB.o _ (((wi w0)).drew)
 have hB:=((wi w0)).drew;generalize w0.drew=wn0 at *
 refine wP 0 ?_;refine wP 1 ?_;refine wP 2 ?_;refine wP 3 ?_;refine wO 4 ?_;refine wP 5 ?_;refine wP 6 ?_;refine wP 7 ?_;refine wP 8 ?_;refine wO 9 ?_;refine wP 10 ?_;refine wO 11 ?_;refine za (rs:= [12,17]) wo wu ?_;refine z8.cons (o:=_) rfl (fun K hK=> ?_) ?_
 ·
  go_simp;refine(HPB.o wn0 hB).mono ?_;rintro e5 w5 ⟨v1,v2,A9,c9,rfl,ho5,hb5⟩;obtain⟨A1,c1,B1,d1,rfl,rfl, -⟩:=ho5.rows;dsimp only;refine zR hK ?_ (fun W=>Below w0.heap.size w0 W/\OwSt W w.heap.size (ax A1 t.aF.length c1) (ax B1 t.aG.length d1) t (fun b=>(N b\/b=H+1))) (fun W=>True) ?_ ?_ (fun wn1 hHeld2 hF _=> ?_)
  ·exact HSB.o _ ((wh hB hb5))
  ·exact⟨wh hB hb5,(ho5.lower (base':=w.heap.size) (by have:=hB.size;omega)).mono (N':=(fun b=>(N b\/b=H+1))) (fun b hb=>by have:=hB.size;rcases hb with hb | hb;(have:=HNW.o b hb;omega);omega)⟩
  ·trivial
  clear hB hHeld;have hHeld:=hHeld2;clear hHeld2;obtain⟨hB,ho⟩:=hF;clear hb5 ho5;clear hK K
  refine wP 13 ?_;refine wP 14 ?_;refine wP 15 ?_;refine wP 16 ?_;refine wU 17 fun K hK=>?_;have hba:=wj wn1 (aB #[ax aC 0 0,ax aC 0 0,ay az 0,ay az 0] 34);have hn:=Arr.new wn1 34 [ax aC 0 0,ax aC 0 0,ay az 0,ay az 0];have hnl:w0.heap.size<=wn1.heap.size:=hB.size;obtain⟨g5,hge⟩:=wV wn1.heap.size
  have hN:∀b,b=g5->wn1.heap.size<=b:=fun b h=>by rw [h,hge];exact Nat.le_refl _
  rw [<-hge]at hn hnl;go_simp;rw [<-hge];clear hge;refine zR hK ?_ (fun W=>Below w0.heap.size w0 W/\Arr W g5 34 [ax aC 0 0,ax aC 0 0,ay az 0,ay az 0]/\w0.heap.size<=g5/\OwSt W w.heap.size (ax A1 t.aF.length c1) (ax B1 t.aG.length d1) t (fun b=>(N b\/b=H+1)\/b=g5)) (fun W=>True) ?_ ?_ (fun wn2 hHeld2 hF _=> ?_)
  ·exact HSB.o _ ((wh hB hba))
  ·exact⟨wh hB hba,hn,hnl,(ho.wider (N':=(fun b=>(N b\/b=H+1)\/b=g5)) (fun b hb=>hb.elim (fun hb=> .inl hb) (fun hb=> .inr (hN _ hb)))).below hba⟩
  ·trivial
  clear ho hB hHeld;have hHeld:=hHeld2;clear hHeld2;obtain⟨hB,h5,h5l,ho⟩:=hF;clear hba hn hnl hN;clear hK K
  try simp only [sqP]
  have hall:=aE hB (aE h5 (aE h5l (aE ho hHeld)));clear hHeld ho h5l h5 hB;generalize wn2=wz at hall ⊢
  revert hall;revert wz;revert g5;revert c9;revert A9;revert d1;revert B1;revert c1;revert A1;exact Rb1.o
 refine z8.cons (o:=_) rfl (fun K hK=> ?_) ?_
 ·
  have hba:=wj wn0 (aB #[ax aC 0 0,ax aC 0 0,ay az 0,ay az 0] 34);have hn:=Arr.new wn0 34 [ax aC 0 0,ax aC 0 0,ay az 0,ay az 0];have hnl:w0.heap.size<=wn0.heap.size:=hB.size;obtain⟨g5,hge⟩:=wV wn0.heap.size
  have hN:∀b,b=g5->wn0.heap.size<=b:=fun b h=>by rw [h,hge];exact Nat.le_refl _
  rw [<-hge]at hn hnl;go_simp;rw [<-hge];clear hge;refine zR hK ?_ (fun W=>Below w0.heap.size w0 W/\Arr W g5 34 [ax aC 0 0,ax aC 0 0,ay az 0,ay az 0]/\w0.heap.size<=g5) (fun W=>True) ?_ ?_ (fun wn3 hHeld2 hF _=> ?_)
  ·exact HSB.o _ ((wh hB hba))
  ·exact⟨wh hB hba,hn,hnl⟩
  ·trivial
  clear hB hHeld;have hHeld:=hHeld2;clear hHeld2;obtain⟨hB,h5,h5l⟩:=hF;clear hba hn hnl hN;clear hK K
  try simp only [sqP]
  refine wU 12 fun K hK=>?_;go_simp;refine(HPB.o wn3 hB).mono ?_;rintro e5 w5 ⟨v1,v2,A9,c9,rfl,ho5,hb5⟩;obtain⟨A1,c1,B1,d1,rfl,rfl, -⟩:=ho5.rows;dsimp only;refine zR hK ?_ (fun W=>Below w0.heap.size w0 W/\Arr W g5 34 [ax aC 0 0,ax aC 0 0,ay az 0,ay az 0]/\w0.heap.size<=g5/\OwSt W w.heap.size (ax A1 t.aF.length c1) (ax B1 t.aG.length d1) t (fun b=>(N b\/b=H+1)\/b=g5)) (fun W=>True) ?_ ?_ (fun wn4 hHeld2 hF _=> ?_)
  ·exact HSB.o _ ((wh hB hb5))
  ·exact⟨wh hB hb5,h5.below hb5,h5l,(ho5.lower (base':=w.heap.size) (by have:=hB.size;omega)).mono (N':=(fun b=>(N b\/b=H+1)\/b=g5)) (fun b hb=>hb.elim (fun hb=>by have:=hB.size;rcases hb with hb | hb;(have:=HNW.o b hb;omega);omega) (fun hb=>(by rw [hb];exact h5.lt)))⟩
  ·trivial
  clear h5l h5 hB hHeld;have hHeld:=hHeld2;clear hHeld2;obtain⟨hB,h5,h5l,ho⟩:=hF;clear hb5 ho5;clear hK K
  refine wP 13 ?_;refine wP 14 ?_;refine wP 15 ?_;refine wP 16 ?_;have hall:=aE hB (aE h5 (aE h5l (aE ho hHeld)));clear hHeld ho h5l h5 hB;generalize wn4=wz at hall ⊢
  revert hall;revert wz;revert g5;revert c9;revert A9;revert d1;revert B1;revert c1;revert A1;exact Rb1.o
 exact z8.nil;intro A1 c1 B1 d1 A9 c9 g5 wRb1 hall;obtain⟨hB,h5,h5l,ho,hHeld⟩:=hall;refine za (rs:= [18]) wo wu ?_;refine z8.store (o:=_) rfl ww (fun K hK=> ?_) ?_
 ·
  have hqho:=ho.nb h5 ws ws;obtain⟨z0,f0,z1,f1,z2,f2,z3,f3⟩:=wZ h5;go_simp;clear z0 f0 z1 f1 z2 f2 z3 f3;refine vd hK (fun W=>Below w0.heap.size w0 W/\Arr W g5 34 [(ax A1 t.aF.length c1),(ax B1 t.aG.length d1),ay az t.aI,ay az t.aH]/\w0.heap.size<=g5/\OwSt W w.heap.size (ax A1 t.aF.length c1) (ax B1 t.aG.length d1) t (fun b=>(N b\/b=H+1)\/b=g5)) (fun W=>True) ?_ ?_ (fun wn5 hF _=> ?_)
  ·exact⟨((((hB).setCell (p:=⟨g5,0,aC⟩) h5l _).setCell (p:=⟨g5,1,aC⟩) h5l _).setCell (p:=⟨g5,2,aC⟩) h5l _).setCell (p:=⟨g5,3,aC⟩) h5l _,h5.all4 _ _ _ _,h5l,ho.set4N (.inr rfl) hqho.1 hqho.2 _ _ _ _⟩
  ·trivial
  clear ho h5l h5 hB hHeld;obtain⟨hB,h5,h5l,ho⟩:=hF;clear hqho;clear hK K
  refine wP 19 ?_;refine wP 20 ?_;refine zq wo ?_ _
  try dsimp only [Exit.then]
  have hall:=aE hB (aE h5 (aE h5l ho));clear ho h5l h5 hB;generalize wn5=wz at hall ⊢
  revert hall;revert wz;revert g5;revert c9;revert A9;revert d1;revert B1;revert c1;revert A1;exact REST.o
 exact z8.nil;intro A1 c1 B1 d1 A9 c9 g5 w3 hall;obtain⟨hB,h5,h5l,ho⟩:=hall;have HSB:=sqH (show ∀W,Below w3.heap.size w3 W->wD W g5 (ax A1 t.aF.length c1) (ax B1 t.aG.length d1) (ay az t.aI) (ay az t.aH) from fun W h=>sqC4 (h5.below h));have HSG:=sqH (show ∀W W',Below w3.heap.size w3 W->W.grownBy W' (aD g)->wD W' g5 (ax A1 t.aF.length c1) (ax B1 t.aG.length d1) (ay az t.aI) (ay az t.aH) from fun W W' h h'=>by
  have h6:=(h5.below h).grown h' ab;exact sqC4 h6)
 have HSK:=sqH (show ∀W W':World,(wD W g5 (ax A1 t.aF.length c1) (ax B1 t.aG.length d1) (ay az t.aI) (ay az t.aH))->Below W.heap.size W W'->wD W' g5 (ax A1 t.aF.length c1) (ax B1 t.aG.length d1) (ay az t.aI) (ay az t.aH) from fun W W' h h'=>by have h2:=zY h' aC;exact⟨h2.cell h.1 wu,h2.cell h.2.1 wu,h2.cell h.2.2.1 wu,h2.cell h.2.2.2 wu⟩);have hot:=(ho.wider (N':=(fun b=>N b\/b=H+1\/w3.heap.size<=b)) (fun b hb=>hb.elim (fun h=> .inl (.inl (.inl h))) (fun h=>h.elim (fun h=> .inl (.inl (.inr h))) (fun h=> .inr h)))).lower (base':=g+1) wm;have HKP:=sqH (fun (W:World) (h:Below w3.heap.size w3 W)=>Kb g ⟨X,cX,Y,dY,G,ng,F,cF⟩ ⟨s,co,fs⟩ _ _ (ax G co.aJ.length ng) t co q W (fun b=>N b\/b=H+1\/w3.heap.size<=b) (.inl hNg) ((HDK.o _ (wh hB h)).mono fun b hb=>hb.imp id fun h=>by(have:=hB.size;rcases h with h | h<;>omega)) (fun _=>⟨hot.below h,zc (HDK.o _ hB).own.c h⟩));have HBX3:=sqH (HBX.o.trans (hB.mono hws));have hws3:w.heap.size<=w3.heap.size:=Nat.le_trans hws hB.size;have hHl3:H+1<w3.heap.size:=Nat.lt_of_lt_of_le hHl hB.size;have hgl3:g<w3.heap.size:=wm;have hg5l:g5<w3.heap.size:=h5.lt;replace HR:=z0u HR hB;replace HBC:=z0u HBC hB;clear hot h5 ho hB;clear h5l HPB
 refine wI 4 ?_;intros;iterate 1 (first | go_values | go_skip | go_guarded | go_step | go_upon | go_back)
 apply zE;intro REST2;apply zE;intro Rc1;apply zE;intro Rc2;refine ze [10] (S:=(fun w'=>wD w' g5 (ax A1 t.aF.length c1) (ax B1 t.aG.length d1) (ay az t.aI) (ay az t.aH))) wo ?_ (fun hHeld=> ?_)
 ·exact HSB.o _ (Below.refl w3.heap.size w3).drew
 have hB:=(Below.refl w3.heap.size w3).drew;generalize w3.drew=wn0 at *
 refine wP 0 ?_;refine wO 1 ?_;refine wP 2 ?_;refine wP 3 ?_;refine wP 4 ?_;refine wP 5 ?_;refine wP 7 ?_;refine za (rs:= [6,9]) wo wu ?_;refine z8.cons (o:=_) rfl (fun K hK=> ?_) ?_
 ·
  obtain⟨y0,y1,y2,y3,y4,y5,y6,y7⟩:=HBC.o _ hB;go_simp;clear y0 y1 y2 y3 y4 y5 y6 y7;refine zR hK ?_ (fun W=>Below w3.heap.size w3 W) (fun W=>True) ?_ ?_ (fun wn1 hHeld2 hF _=> ?_)
  ·exact HSB.o _ hB
  ·exact hB
  ·trivial
  clear hB hHeld;have hHeld:=hHeld2;clear hHeld2;have hB:=hF;clear hK K
  try simp only [sqP]
  refine za (rs:= [8,9]) wo wu ?_;refine z8.cons (o:=_) rfl (fun K hK=> ?_) ?_
  ·
   go_simp;refine(HKP.o wn1 hB).mono ?_;rintro e5 w5 ⟨rfl,hg5,hd5⟩;dsimp only;refine zR hK ?_ (fun W=>w.grownBy W (aD g)/\(∃p2,DkB W g p2 (zH ⟨s,co,fs⟩ t co q) (fun b=>N b\/b=H+1\/w3.heap.size<=b))/\Arr W (H+1) 47 [ay az 0,aA ⟨#[]⟩,ax aC 0 0,ax aC 0 0,ay az 0,ax aC 0 0]/\w3.heap.size<=W.heap.size) (fun W=>True) ?_ ?_ (fun wn2 hHeld2 hF _=> ?_)
   ·exact HSG.o _ _ hB hg5
   ·exact⟨zP (HBX3.o.trans (hB.mono wm)) hg5,hd5,(HR.o _ hB).grown hg5 ab,Nat.le_trans hB.size hg5.size⟩
   ·trivial
   clear hB hHeld;have hHeld:=hHeld2;clear hHeld2;obtain⟨hKg,hD,hR,hKl⟩:=hF;clear hg5 hd5;clear hK K
   try simp only [sqP]
   refine wU 9 fun K hK=>?_;have hba:=wj wn2 (aB #[ay az 0,aA ⟨#[]⟩,ax aC 0 0,ax aC 0 0,ay az 0,ax aC 0 0] 47);have hn:=Arr.new wn2 47 [ay az 0,aA ⟨#[]⟩,ax aC 0 0,ax aC 0 0,ay az 0,ax aC 0 0];have hnl:w3.heap.size<=wn2.heap.size:=hKl;obtain⟨ga,hge⟩:=wV wn2.heap.size
   rw [<-hge]at hn hnl;go_simp;rw [<-hge];clear hge;refine zR hK ?_ (fun W=>w.grownBy W (aD g)/\(∃p2,DkB W g p2 (zH ⟨s,co,fs⟩ t co q) (fun b=>N b\/b=H+1\/w3.heap.size<=b))/\Arr W (H+1) 47 [ay az 0,aA ⟨#[]⟩,ax aC 0 0,ax aC 0 0,ay az 0,ax aC 0 0]/\Arr W ga 47 [ay az 0,aA ⟨#[]⟩,ax aC 0 0,ax aC 0 0,ay az 0,ax aC 0 0]/\w3.heap.size<=ga) (fun W=>True) ?_ ?_ (fun wn3 hHeld2 hF _=> ?_)
   ·exact HSK.o _ _ hHeld hba
   ·exact⟨zO hKg hba,hD.imp fun _ h=>h.below hba,hR.below hba,hn,hnl⟩
   ·trivial
   clear hKl hR hD hKg hHeld;have hHeld:=hHeld2;clear hHeld2;obtain⟨hKg,hD,hR,hA,hAl⟩:=hF;clear hba hn hnl;clear hK K
   try simp only [sqP]
   have hall:=aE hKg (aE hD (aE hR (aE hA (aE hAl hHeld))));clear hHeld hAl hA hR hD hKg;generalize wn3=wz at hall ⊢
   revert hall;revert wz;revert ga;exact Rc1.o
  refine z8.cons (o:=_) rfl (fun K hK=> ?_) ?_
  ·
   have hba:=wj wn1 (aB #[ay az 0,aA ⟨#[]⟩,ax aC 0 0,ax aC 0 0,ay az 0,ax aC 0 0] 47);have hn:=Arr.new wn1 47 [ay az 0,aA ⟨#[]⟩,ax aC 0 0,ax aC 0 0,ay az 0,ax aC 0 0];have hnl:w3.heap.size<=wn1.heap.size:=hB.size;obtain⟨ga,hge⟩:=wV wn1.heap.size
   rw [<-hge]at hn hnl;go_simp;rw [<-hge];clear hge;refine zR hK ?_ (fun W=>Below w3.heap.size w3 W/\Arr W ga 47 [ay az 0,aA ⟨#[]⟩,ax aC 0 0,ax aC 0 0,ay az 0,ax aC 0 0]/\w3.heap.size<=ga) (fun W=>True) ?_ ?_ (fun wn4 hHeld2 hF _=> ?_)
   ·exact HSB.o _ (wh hB hba)
   ·exact⟨wh hB hba,hn,hnl⟩
   ·trivial
   clear hB hHeld;have hHeld:=hHeld2;clear hHeld2;obtain⟨hB,hA,hAl⟩:=hF;clear hba hn hnl;clear hK K
   try simp only [sqP]
   have hall:=aE hB (aE hA (aE hAl hHeld));clear hHeld hAl hA hB;generalize wn4=wz at hall ⊢
   revert hall;revert wz;revert ga;exact Rc2.o
  exact z8.nil
 refine z8.cons (o:=_) rfl (fun K hK=> ?_) ?_
 ·
  have hba:=wj wn0 (aB #[ay az 0,aA ⟨#[]⟩,ax aC 0 0,ax aC 0 0,ay az 0,ax aC 0 0] 47);have hn:=Arr.new wn0 47 [ay az 0,aA ⟨#[]⟩,ax aC 0 0,ax aC 0 0,ay az 0,ax aC 0 0];have hnl:w3.heap.size<=wn0.heap.size:=hB.size;obtain⟨ga,hge⟩:=wV wn0.heap.size
  rw [<-hge]at hn hnl;go_simp;rw [<-hge];clear hge;refine zR hK ?_ (fun W=>Below w3.heap.size w3 W/\Arr W ga 47 [ay az 0,aA ⟨#[]⟩,ax aC 0 0,ax aC 0 0,ay az 0,ax aC 0 0]/\w3.heap.size<=ga) (fun W=>True) ?_ ?_ (fun wn5 hHeld2 hF _=> ?_)
  ·exact HSB.o _ (wh hB hba)
  ·exact⟨wh hB hba,hn,hnl⟩
  ·trivial
  clear hB hHeld;have hHeld:=hHeld2;clear hHeld2;obtain⟨hB,hA,hAl⟩:=hF;clear hba hn hnl;clear hK K
  try simp only [sqP]
  refine wU 6 fun K hK=>?_;obtain⟨y0,y1,y2,y3,y4,y5,y6,y7⟩:=HBC.o _ hB;go_simp;clear y0 y1 y2 y3 y4 y5 y6 y7;refine zR hK ?_ (fun W=>Below w3.heap.size w3 W/\Arr W ga 47 [ay az 0,aA ⟨#[]⟩,ax aC 0 0,ax aC 0 0,ay az 0,ax aC 0 0]/\w3.heap.size<=ga) (fun W=>True) ?_ ?_ (fun wn6 hHeld2 hF _=> ?_)
  ·exact HSB.o _ hB
  ·exact⟨hB,hA,hAl⟩
  ·trivial
  clear hAl hA hB hHeld;have hHeld:=hHeld2;clear hHeld2;obtain⟨hB,hA,hAl⟩:=hF;clear hK K
  try simp only [sqP]
  have hall:=aE hB (aE hA (aE hAl hHeld));clear hHeld hAl hA hB;generalize wn6=wz at hall ⊢
  revert hall;revert wz;revert ga;exact Rc2.o
 exact z8.nil;intro ga wRc2 hall;obtain⟨hB,hA,hAl,hHeld⟩:=hall;refine za (rs:= [8]) wo wu ?_;refine z8.cons (o:=_) rfl (fun K hK=> ?_) ?_
 ·
  go_simp;refine(HKP.o wRc2 hB).mono ?_;rintro e5 w5 ⟨rfl,hg5,hd5⟩;dsimp only;refine zR hK ?_ (fun W=>w.grownBy W (aD g)/\(∃p2,DkB W g p2 (zH ⟨s,co,fs⟩ t co q) (fun b=>N b\/b=H+1\/w3.heap.size<=b))/\Arr W (H+1) 47 [ay az 0,aA ⟨#[]⟩,ax aC 0 0,ax aC 0 0,ay az 0,ax aC 0 0]/\Arr W ga 47 [ay az 0,aA ⟨#[]⟩,ax aC 0 0,ax aC 0 0,ay az 0,ax aC 0 0]/\w3.heap.size<=ga) (fun W=>True) ?_ ?_ (fun wn7 hHeld2 hF _=> ?_)
  ·exact HSG.o _ _ hB hg5
  ·exact⟨zP (HBX3.o.trans (hB.mono wm)) hg5,hd5,(HR.o _ hB).grown hg5 ab,hA.grown hg5 ab,hAl⟩
  ·trivial
  clear hAl hA hB hHeld;have hHeld:=hHeld2;clear hHeld2;obtain⟨hKg,hD,hR,hA,hAl⟩:=hF;clear hg5 hd5;clear hK K
  try simp only [sqP]
  have hall:=aE hKg (aE hD (aE hR (aE hA (aE hAl hHeld))));clear hHeld hAl hA hR hD hKg;generalize wn7=wz at hall ⊢
  revert hall;revert wz;revert ga;exact Rc1.o
 exact z8.nil;intro ga wRc1 hall;obtain⟨hKg,hD,hR,hA,hAl,hHeld⟩:=hall;refine za (rs:= [10]) wo wu ?_;refine z8.store (o:=_) rfl ww (fun K hK=> ?_) ?_
 ·
  obtain⟨z0,f0,z1,f1,z2,f2,z3,f3,z4,f4,z5,f5⟩:=wg hA;go_simp;clear z0 f0 z1 f1 z2 f2 z3 f3 z4 f4 z5 f5;refine vd hK (fun W=>w.grownBy W (aD g)/\(∃p2,DkB W g p2 (zH ⟨s,co,fs⟩ t co q) (fun b=>N b\/b=H+1\/w3.heap.size<=b))/\Arr W (H+1) 47 [ay az 0,aA ⟨#[]⟩,ax aC 0 0,ax aC 0 0,ay az 0,ax aC 0 0]/\Arr W ga 47 [ay az q,aA ⟨#[]⟩,ax aC 0 0,ax aC 0 0,ay az 0,ax aC 0 0]/\w3.heap.size<=ga) (fun W=>True) ?_ ?_ (fun wn8 hF _=> ?_)
  ·exact⟨zl hKg wm _ _ _ _ _ _,hD.imp fun _ h=>h.set6 hA (.inr (.inr hAl)) wm _ _ _ _ _ _,((((((hR.other wm _).other wm _).other wm _).other wm _).other wm _).other wm _),hA.all6 _ _ _ _ _ _,hAl⟩
  ·trivial
  clear hAl hA hR hD hKg hHeld;obtain⟨hKg,hD,hR,hA,hAl⟩:=hF;clear hK K
  try simp only [sqP]
  refine zq wo ?_ _
  try dsimp only [Exit.then]
  have hall:=aE hKg (aE hD (aE hR (aE hA hAl)));clear hAl hA hR hD hKg;generalize wn8=wz at hall ⊢
  revert hall;revert wz;revert ga;exact REST2.o
 exact z8.nil;intro ga w4 hall;obtain⟨hKg,hD,hR,hA,hAl⟩:=hall;have hA3:=hA.set (k:=4) wu (ay az k9);have hR5:=hR.other (k:=4) (g':=ga) (show H+1≠ga by omega) (ay az k9);have HX:=sqH (aE (hD.imp fun _ h=>h.set hA (.inr (.inr hAl)) (show g≠ga by omega) (ay az k9) (k:=4)) (aE (zt (k:=4) (u:= ay az k9) hKg (show w.heap.size<=ga by omega)) hR5));have HA3:=sqH hA3;have c4:=hA.c4;have q4:=hA.frozen 4;clear hA3 hR5 hA hR hD hKg hAl
 refine wJ 6 ?_;intros;generalize w4.setCell ⟨ga,4,aC⟩ (ay az k9)=w5 at *
 have hr3:=HX.o.2.2;have hz5:Arr w5 ga 47 [ay az q,aA ⟨#[]⟩,ax aC 0 0,ax aC 0 0,ay az k9,ax aC 0 0]:=HA3.o;clear c4 q4;obtain⟨z0,z1,z2,z3,z4,z5⟩:=sqC6 hz5;clear hz5;obtain⟨f0,f1,f2,f3,f4,f5⟩:=sqF6 hr3;obtain⟨y0,y1,y2,y3,y4,y5⟩:=sqC6 hr3;have HR3:=sqH hr3;have HF:=sqH (hr3.all6 (ay az q) (aA ⟨#[]⟩) (ax aC 0 0) (ax aC 0 0) (ay az k9) (ax aC 0 0));clear hr3
 refine wH ?_;intros;refine bodyPost_ret (results_cell_row rfl _ _ (H+1) _ _ _ _ ww HF.o underlying47 rfl wo) rfl ?_;have e1:roomD ⟨s,co,fs⟩ ⟨kd,n,dg,D,ps⟩=(zH ⟨s,co,fs⟩ t co q,⟨q, [], [], [],k9, []⟩):=by
  unfold roomD;rw [if_pos (show kd=9 from HK.o)];dsimp only;rw [HPD.o]
 rw [e1];obtain⟨⟨p',hd4⟩,hg5,hr5⟩:=HX.o;exact⟨_,_,_,rfl,zl hg5 hHw1 _ _ _ _ _ _,⟨p',(hd4.set6 hr5 (.inr (.inl rfl)) hgH _ _ _ _ _ _).mono fun b h=> .inl h⟩,⟨World.ownsRow_nil _ _ _ _,World.ownsRow_nil _ _ _ _,World.ownsRow_nil _ _ _ _⟩⟩
theorem Jb (g:Nat) (p:LoW) (l:LoP) (kd n:Nat) (dg D:ae) (ps:List PartP) (A:af) (c:Nat) (A':af) (c':Nat) (w:World) (hL:GoodL l) (h1:kd=10) (N:aj) (hNg:N g) (hNw:∀b,N b->b<w.heap.size) (hb:DkB w g p l N) (hd:Sl w 1 A D.length c (bys D)) (hq:Sl w 3 A' ps.length c' (pcs ps)) :
  Calls Tryz.prog 68 #[.pointer (aD ⟨g,0,aC⟩),orV kd n dg D ps A c A' c'] w (k5 w g N (roomD l ⟨kd,n,dg,D,ps⟩)):=by
 have k1:((kd:Int)==9)=false:=by rw [beq_eq_false_iff_ne];omega
 have k2:((kd:Int)==10)=true:=by rw [beq_iff_eq];omega
 have HK:=sqH h1;clear h1;obtain⟨X,cX,Y,dY,G,ng,F,cF⟩:=p;obtain⟨s,co,fs⟩:=l;have hgl:=hb.lt;have hgw:=hb.lt;have hbw:=hb.wider (N':=fun b=>N b\/w.heap.size<=b) (fun b h=>h);obtain⟨w0,hw0,hP,hR,hbx⟩:=zo w 29 47 [ay az kd,ay az n,aA ⟨dg.toArray⟩,ax A D.length c,ax A' ps.length c'] [ay az 0,aA ⟨#[]⟩,ax aC 0 0,ax aC 0 0,ay az 0,ax aC 0 0];have HDK:=sqH (show ∀W,Below w0.heap.size w0 W->DkB W g ⟨X,cX,Y,dY,G,ng,F,cF⟩ ⟨s,co,fs⟩ (fun b=>N b\/w.heap.size<=b) from fun W h=>(hbw.below hbx).below h);have HBC:=sqH (show ∀W,Below w0.heap.size w0 W->wF W g (ax X s.aF.length cX) (ax Y s.aG.length dY) (ay az s.aI) (ay az s.aH) (ay az co.aK) (ax G co.aJ.length ng) (aA ⟨co.at_.toArray⟩) (ax F fs.length cF) from fun W h=>by
  have b:=(HDK.o W h).box;exact sqC8 b)
 have hws:=hbx.size;obtain⟨HBX,HD,HQ⟩:=sqJ3 hbx (hd.below hbx) (hq.below hbx);obtain⟨H,hH⟩:=wV w.heap.size
 rw [<-hH]at hP hR hgl;have hHw:w.heap.size<=H:=wm;have hHw1:w.heap.size<=H+1:=wm;have hgH:g≠H+1:=wm;have hHl:H+1<w0.heap.size:=hR.lt;obtain⟨HP,HR,HL,HNW⟩:=sqJ4 (show ∀W,Below w0.heap.size w0 W->Arr W H 29 (orC kd n dg D ps A c A' c') from fun W h=>hP.below h) (show ∀W,Below w0.heap.size w0 W->Arr W (H+1) 47 QW from fun W h=>hR.below h) hL hNw;obtain⟨x0,x1,x2,x3,x4⟩:=sqC5 hP;have HW0:=sqH hw0;have HH:=sqH hH;rw [hw0,hH]at x0 x1 x2 x3 x4;clear hb hbw hbx hd hq hP hR hL hw0 hH hNw;go_enter func68,ntmps68
 refine wI 8 ?_;intros;rw [<-HW0.o,<-HH.o];clear x0 x1 x2 x3 x4;obtain⟨p0,p1,p2,p3,p4,p5,p6,p7⟩:=HBC.o _ (Below.refl _ _);by_cases hph:co.aK=0
 ·have hp:((co.aK:Int) != 0)=false:=by rw [hph];rfl
  have HPH:=sqH hph;have HBG:=sqH (Vb X cX Y dY s w0 HL.o.s (HDK.o _ (Below.refl _ _)).rd.s);clear hph
  refine wH ?_;intros;refine HBG.o.mono ?_;rintro e_ w3 ⟨v1,v2,v3,rfl,ho,hl,hb3⟩;dsimp only;obtain⟨A1,c1,B1,d1,rfl,rfl, -⟩:=ho.rows;obtain⟨G1,n1,rfl, -, -⟩:=Rd.of_own' hl;have HKP:=sqH (Kb g ⟨X,cX,Y,dY,G,ng,F,cF⟩ ⟨s,co,fs⟩ _ _ _ (YE s) (VN s) 0 w3 (fun b=>N b\/b=H+1) (.inl hNg) ((HDK.o _ hb3).mono fun b hb=>hb.imp id fun h=>wm) (fun _=>⟨(ho.lower (show g+1<=w0.heap.size by omega)).mono (fun b hb=>by rcases hb with hb | hb;(have:=HNW.o b hb;omega);omega),zb hl (show g+1<=w0.heap.size by omega)⟩));have HB:=sqH hb3;clear p0 p1 p2 p3 p4 p5 p6 p7 ho hl hb3 HBG hp
  refine wH ?_;intros;refine(HKP.o).mono ?_;rintro e_ w4 ⟨rfl,hg4,hd4⟩;dsimp only;have hr3:=(HR.o _ HB.o).grown hg4 ab;have HX:=sqH (aE hd4 (zP (HBX.o.trans (HB.o.mono hws)) hg4));clear HKP hd4 hg4;obtain⟨f0,f1,f2,f3,f4,f5⟩:=sqF6 hr3;obtain⟨y0,y1,y2,y3,y4,y5⟩:=sqC6 hr3;have HR3:=sqH hr3;have HF:=sqH (hr3.all6 (ay az ((0:Nat):Int)) (aA ⟨#[]⟩) (ax aC 0 0) (ax aC 0 0) (ay az 0) (ax aC 0 0));clear hr3
  refine wH ?_;intros;refine bodyPost_ret (results_cell_row rfl _ _ (H+1) _ _ _ _ ww HF.o underlying47 rfl wo) rfl ?_;have e1:roomD ⟨s,co,fs⟩ ⟨kd,n,dg,D,ps⟩=(zH ⟨s,co,fs⟩ (YE s) (VN s) 0,KJ 0):=by
   unfold roomD;rw [if_neg (show ¬(kd=9) by have:=HK.o;omega),if_pos (show kd=10 from HK.o),if_pos (show co.aK=0 from HPH.o)];rfl
  rw [e1];obtain⟨⟨p',hd4⟩,hg5⟩:=HX.o;exact⟨_,_,_,rfl,zl hg5 hHw1 _ _ _ _ _ _,⟨p',(hd4.set6 HR3.o (.inr rfl) hgH _ _ _ _ _ _).mono fun b h=> .inl h⟩,.e_ _⟩
 ·have hp:((co.aK:Int) != 0)=true:=by rw [bne_iff_ne];omega
  have HPH:=sqH hph;clear hph;have hr3:=HR.o _ (Below.refl _ _);have HX:=sqH (HDK.o _ (Below.refl _ _));clear p0 p1 p2 p3 p5 p6 p7;obtain⟨f0,f1,f2,f3,f4,f5⟩:=sqF6 hr3;obtain⟨y0,y1,y2,y3,y4,y5⟩:=sqC6 hr3;have HR3:=sqH hr3;have HF:=sqH (hr3.all6 (ay az 6) (aA ⟨#[]⟩) (ax aC 0 0) (ax aC 0 0) (ay az 0) (ax aC 0 0));clear hr3
  refine wH ?_;intros;refine bodyPost_ret (results_cell_row rfl _ _ (H+1) _ _ _ _ ww HF.o underlying47 rfl wo) rfl ?_;have e1:roomD ⟨s,co,fs⟩ ⟨kd,n,dg,D,ps⟩=(⟨s,co,fs⟩,KJ 6):=by
   unfold roomD;rw [if_neg (show ¬(kd=9) by have:=HK.o;omega),if_pos (show kd=10 from HK.o),if_neg (show ¬(co.aK=0) from HPH.o)]
  rw [e1];exact⟨_,_,_,rfl,zl (zY HBX.o (aD g)) hHw1 _ _ _ _ _ _,⟨_,(HX.o.set6 HR3.o (.inr hHw1) hgH _ _ _ _ _ _).mono fun b h=> .inl h⟩,.e_ _⟩
theorem j9 (h:n=0\/c.aK=0):ticks n s c g=(s,c,g):=by
 cases n with
 | zero=>rfl
 | succ n=>unfold ticks;rw [if_pos (h.resolve_left wm)]
theorem KR (h:c.aK≠0):ticks (n+1) s c g=ticks n (qD s c).1 (qD s c).2.1 (g+if (qD s c).2.2= [] then 0 else 1):=by
 rw [ticks,if_neg h]
theorem Jc (g:Nat) (p:LoW) (l:LoP) (kd n:Nat) (dg D:ae) (ps:List PartP) (A:af) (c:Nat) (A':af) (c':Nat) (w:World) (hL:GoodL l) (h8:8*unm l.st.aF+l.co.aJ.length<=1000) (hn:n<=4000) (h1:kd=11) (N:aj) (hNg:N g) (hNw:∀b,N b->b<w.heap.size) (hb:DkB w g p l N) (hd:Sl w 1 A D.length c (bys D)) (hq:Sl w 3 A' ps.length c' (pcs ps)) :
  Calls Tryz.prog 68 #[.pointer (aD ⟨g,0,aC⟩),orV kd n dg D ps A c A' c'] w (k5 w g N (roomD l ⟨kd,n,dg,D,ps⟩)):=by
 have k1:((kd:Int)==9)=false:=by rw [beq_eq_false_iff_ne];omega
 have k2:((kd:Int)==10)=false:=by rw [beq_eq_false_iff_ne];omega
 obtain⟨HK,HN4,H8⟩:=sqJ3 h1 hn h8;clear h1 hn h8;obtain⟨X,cX,Y,dY,G,ng,F,cF⟩:=p;obtain⟨s,co,fs⟩:=l;have hgl:=hb.lt;have hgw:=hb.lt;have hbw:=hb.wider (N':=fun b=>N b\/w.heap.size<=b) (fun b h=>h);obtain⟨w0,hw0,hP,hR,hbx⟩:=zo w 29 47 [ay az kd,ay az n,aA ⟨dg.toArray⟩,ax A D.length c,ax A' ps.length c'] [ay az 0,aA ⟨#[]⟩,ax aC 0 0,ax aC 0 0,ay az 0,ax aC 0 0];have HDK:=sqH (show ∀W,Below w0.heap.size w0 W->DkB W g ⟨X,cX,Y,dY,G,ng,F,cF⟩ ⟨s,co,fs⟩ (fun b=>N b\/w.heap.size<=b) from fun W h=>(hbw.below hbx).below h);have HBC:=sqH (show ∀W,Below w0.heap.size w0 W->wF W g (ax X s.aF.length cX) (ax Y s.aG.length dY) (ay az s.aI) (ay az s.aH) (ay az co.aK) (ax G co.aJ.length ng) (aA ⟨co.at_.toArray⟩) (ax F fs.length cF) from fun W h=>by
  have b:=(HDK.o W h).box;exact sqC8 b)
 have hws:=hbx.size;obtain⟨HBX,HD,HQ⟩:=sqJ3 hbx (hd.below hbx) (hq.below hbx);obtain⟨H,hH⟩:=wV w.heap.size
 rw [<-hH]at hP hR hgl;have hHw:w.heap.size<=H:=wm;have hHw1:w.heap.size<=H+1:=wm;have hgH:g≠H+1:=wm;have hHl:H+1<w0.heap.size:=hR.lt;obtain⟨HP,HR,HL,HNW⟩:=sqJ4 (show ∀W,Below w0.heap.size w0 W->Arr W H 29 (orC kd n dg D ps A c A' c') from fun W h=>hP.below h) (show ∀W,Below w0.heap.size w0 W->Arr W (H+1) 47 QW from fun W h=>hR.below h) hL hNw;obtain⟨x0,x1,x2,x3,x4⟩:=sqC5 hP;have HW0:=sqH hw0;have HH:=sqH hH;rw [hw0,hH]at x0 x1 x2 x3 x4;clear hb hbw hbx hd hq hP hR hL hw0 hH hNw;go_enter func68,ntmps68
 refine wI 11 ?_;intros;rw [<-HW0.o,<-HH.o];clear x0 x1 x2 x3 x4;obtain⟨p0,p1,p2,p3,p4,p5,p6,p7⟩:=HBC.o _ (Below.refl _ _);by_cases hph:co.aK=0
 ·have hp:((co.aK:Int)==0)=true:=by rw [hph];rfl
  have HPH:=sqH hph;clear hph;have hr3:=HR.o _ (Below.refl _ _);have HX:=sqH (HDK.o _ (Below.refl _ _));clear p0 p1 p2 p3 p5 p6 p7;obtain⟨f0,f1,f2,f3,f4,f5⟩:=sqF6 hr3;obtain⟨y0,y1,y2,y3,y4,y5⟩:=sqC6 hr3;have HR3:=sqH hr3;have HF:=sqH (hr3.all6 (ay az 11) (aA ⟨#[]⟩) (ax aC 0 0) (ax aC 0 0) (ay az 0) (ax aC 0 0));clear hr3
  refine wH ?_;intros;refine bodyPost_ret (results_cell_row rfl _ _ (H+1) _ _ _ _ ww HF.o underlying47 rfl wo) rfl ?_;have e1:roomD ⟨s,co,fs⟩ ⟨kd,n,dg,D,ps⟩=(⟨s,co,fs⟩,KJ 11):=by
   unfold roomD;rw [if_neg (show ¬(kd=9) by have:=HK.o;omega),if_neg (show ¬(kd=10) by have:=HK.o;omega),if_pos (show co.aK=0 from HPH.o)]
  rw [e1];exact⟨_,_,_,rfl,zl (zY HBX.o (aD g)) hHw1 _ _ _ _ _ _,⟨_,(HX.o.set6 HR3.o (.inr hHw1) hgH _ _ _ _ _ _).mono fun b h=> .inl h⟩,.e_ _⟩
 ·have hp:((co.aK:Int)==0)=false:=by rw [beq_eq_false_iff_ne];omega
  have HPH:=sqH hph;clear hph p0 p1 p2 p3 p5 p6 p7 HBC
  refine wH ?_;intros;clear p4;go_loopg [9,10] n (fun gn u9 u10 wr=>∃(i go:Nat) (t:StoP) (c2:ColP) (p:LoW),gn=n - i/\u9= ay az go/\u10= ay az i/\i<=n/\go<=i/\GoodS t/\GoodC t c2/\8*unm t.aF+c2.aJ.length<=1000/\ticks (n - i) t c2 go=ticks n s co 0/\w.grownBy wr (aD g)/\DkB wr g p ⟨t,c2,fs⟩ (fun b=>N b\/b=H+1)/\Arr wr H 29 (orC kd n dg D ps A c A' c')/\Arr wr (H+1) 47 QW)
  case atStart=>exact⟨0,0,s,co,_,rfl,rfl,rfl,Nat.zero_le _,Nat.le_refl _,HL.o.s,HL.o.c,H8.o,rfl,zY HBX.o _,(HDK.o _ (Below.refl _ _)).mono (fun b hb=>hb.imp id fun h=>wm),HP.o _ (Below.refl _ _),HR.o _ (Below.refl _ _)⟩
  case round =>
   obtain⟨i,go,t,c2,p,hgk,rfl,rfl,hi,hgi,hgs,hgc,hgl2,htk,hgw2,hdb,hpo,hre⟩:=hrel;obtain⟨X,cX,Y,dY,G,ng,F,cF⟩:=p;obtain⟨HGK,HGS,HDB,HPO,HRE,HI⟩:=sqJ6 hgk (aE hgs (aE hgc (aE hgl2 (aE htk hgw2)))) hdb hpo hre (aE hi hgi);have hwr:w.heap.size<=wr.heap.size:=hgw2.size;have hHr:H+1<wr.heap.size:=hre.lt;have hgr':g<wr.heap.size:=hdb.lt;have hn63:=HN4.o;have o1:=hpo.c1;have p4:wr.cell? ⟨g,4,aC⟩=aD (ay az c2.aK):=hdb.box.c4;clear hgk hgs hgc hgl2 htk hgw2 hdb hpo hre hi hgi;have hilt:(i:Int)<=4000:=by have:=HI.o;omega
   by_cases hlt:i<n
   rotate_left
   ·have hc1:decide ((i:Int)<(n:Int))=false:=decide_eq_false wm;have hc1':decide (i<n)=false:=decide_eq_false hlt;have HLT:=sqH (show n - i=0 by omega);clear hlt;have hr3:=HRE.o;obtain⟨f0,f1,f2,f3,f4,f5⟩:=sqF6 hr3;obtain⟨y0,y1,y2,y3,y4,y5⟩:=sqC6 hr3;have HR3:=sqH hr3;have HF:=sqH (hr3.all6 (ay az 0) (aA ⟨#[]⟩) (ax aC 0 0) (ax aC 0 0) (ay az go) (ax aC 0 0));clear hr3
    refine wH ?_;intros;refine bodyPost_ret (results_cell_row rfl _ _ (H+1) _ _ _ _ ww HF.o underlying47 rfl wo) rfl ?_;obtain⟨hgs,hgc,hgl2,htk,hgw2⟩:=HGS.o;have e1:roomD ⟨s,co,fs⟩ ⟨kd,n,dg,D,ps⟩=(⟨t,c2,fs⟩,⟨0, [], [], [],go, []⟩):=by
     unfold roomD;rw [if_neg (show ¬(kd=9) by have:=HK.o;omega),if_neg (show ¬(kd=10) by have:=HK.o;omega),if_neg (show ¬(co.aK=0) from HPH.o)];dsimp only;rw [<-htk,j9 (.inl HLT.o)]
    rw [e1];exact⟨_,_,_,rfl,zl hgw2 hHw1 _ _ _ _ _ _,⟨_,(HDB.o.set6 HR3.o (.inr rfl) hgH _ _ _ _ _ _).mono fun b h=> .inl h⟩,⟨World.ownsRow_nil _ _ _ _,World.ownsRow_nil _ _ _ _,World.ownsRow_nil _ _ _ _⟩⟩
   have hc1:decide ((i:Int)<(n:Int))=true:=decide_eq_true wm;have hc1':decide (i<n)=true:=decide_eq_true hlt;by_cases hp2:c2.aK=0
   ·have hc2:((c2.aK:Int) != 0)=false:=by rw [hp2];rfl
    have HLT:=sqH hp2;clear hlt hp2;have hr3:=HRE.o;obtain⟨f0,f1,f2,f3,f4,f5⟩:=sqF6 hr3;obtain⟨y0,y1,y2,y3,y4,y5⟩:=sqC6 hr3;have HR3:=sqH hr3;have HF:=sqH (hr3.all6 (ay az 0) (aA ⟨#[]⟩) (ax aC 0 0) (ax aC 0 0) (ay az go) (ax aC 0 0));clear hr3
    refine wH ?_;intros;refine bodyPost_ret (results_cell_row rfl _ _ (H+1) _ _ _ _ ww HF.o underlying47 rfl wo) rfl ?_;obtain⟨hgs,hgc,hgl2,htk,hgw2⟩:=HGS.o;have e1:roomD ⟨s,co,fs⟩ ⟨kd,n,dg,D,ps⟩=(⟨t,c2,fs⟩,⟨0, [], [], [],go, []⟩):=by
     unfold roomD;rw [if_neg (show ¬(kd=9) by have:=HK.o;omega),if_neg (show ¬(kd=10) by have:=HK.o;omega),if_neg (show ¬(co.aK=0) from HPH.o)];dsimp only;rw [<-htk,j9 (.inr HLT.o)]
    rw [e1];exact⟨_,_,_,rfl,zl hgw2 hHw1 _ _ _ _ _ _,⟨_,(HDB.o.set6 HR3.o (.inr rfl) hgH _ _ _ _ _ _).mono fun b h=> .inl h⟩,⟨World.ownsRow_nil _ _ _ _,World.ownsRow_nil _ _ _ _,World.ownsRow_nil _ _ _ _⟩⟩
   have hc2:((c2.aK:Int) != 0)=true:=by rw [bne_iff_ne];omega
   have HLT:=sqH (aE hlt hp2);clear hlt hp2;have HPB:=sqH (fun W (h:Below wr.heap.size wr W)=>Vc X cX Y dY t G ng c2 W HGS.o.1 (HDB.o.below h).rd.s (by have:=HLT.o.2;have:=HGS.o.2.1.ph;omega) (by have:=HGS.o.2.2.1;omega) HGS.o.2.1 (HDB.o.below h).rd.c);obtain⟨m1,m2, -,m4,m5,m6⟩:=ZD HGS.o.1 HGS.o.2.1 (show c2.aK=1\/c2.aK=2 by have:=HLT.o.2;have:=HGS.o.2.1.ph;omega);have m7:=ZE t c2;have m8:=KR (n:=n - (i+1)) (s:=t) (g:=go) HLT.o.2;rw [show n - (i+1)+1=n - i by have:=HLT.o.1;omega]at m8;generalize htt:qD t c2=r at HPB m1 m2 m4 m5 m6 m7 m8;obtain⟨t1,cc1,dd⟩:=r;dsimp only at HPB m1 m2 m4 m5 m6 m7 m8;have HM:=sqH (aE m1 (aE m2 (aE m5 (aE m6 (aE m7 m8)))));clear htt m1 m2 m4 m5 m6 m7 m8;have HSB:=sqH (show ∀W,Below wr.heap.size wr W->wG W g (ax X t.aF.length cX) (ax Y t.aG.length dY) (ay az t.aI) (ay az t.aH) (ay az c2.aK) (ax G c2.aJ.length ng) (aA ⟨c2.at_.toArray⟩) from fun W h=>by
    have b:=(HDB.o.below h).box;exact sqC7 b)
   refine wJ 17 ?_;intros;clear o1 p4
   iterate 1 (first | go_values | go_skip | go_guarded | go_step | go_upon | go_back)
   apply zE;intro REST;apply zE;intro Rd1;apply zE;intro Rd2;apply zE;intro Rd3;apply zE;intro Rd4;refine ze [18,19] (S:=(fun w'=>wG w' g (ax X t.aF.length cX) (ax Y t.aG.length dY) (ay az t.aI) (ay az t.aH) (ay az c2.aK) (ax G c2.aJ.length ng) (aA ⟨c2.at_.toArray⟩))) wo ?_ (fun hHeld=> ?_)
   ·exact HSB.o _ (((wi wr)).drew)
   have hB:=((wi wr)).drew;generalize wr.drew=wn0 at *
   refine wP 0 ?_;refine wP 1 ?_;refine wP 2 ?_;refine wP 3 ?_;refine wO 4 ?_;refine wP 5 ?_;refine wP 6 ?_;refine wP 7 ?_;refine wP 8 ?_;refine wO 9 ?_;refine za (rs:= [10,16,17]) wo wu ?_;refine z8.cons (o:=_) rfl (fun K hK=> ?_) ?_
   ·
    go_simp;refine(HPB.o wn0 hB).mono ?_;rintro e5 w5 ⟨v1,v2,v3,rfl,ho5,hl5,hb5⟩;obtain⟨A1,c1,B1,d1,rfl,rfl, -⟩:=ho5.rows;obtain⟨G1,n1,rfl, -, -⟩:=Rd.of_own' hl5;dsimp only;refine zR hK ?_ (fun W=>Below wr.heap.size wr W/\OwSt W (g+1) (ax A1 t1.aF.length c1) (ax B1 t1.aG.length d1) t1 (fun b=>(N b\/b=H+1))/\W.ownsRow (g+1) 9 1 (ax G1 cc1.aJ.length n1) cc1.aJ.length (strs cc1.aJ)) (fun W=>True) ?_ ?_ (fun wn1 hHeld2 hF _=> ?_)
    ·exact HSB.o _ ((wh hB hb5))
    ·exact⟨wh hB hb5,(ho5.lower (base':=(g+1)) (by have:=hB.size;omega)).mono (N':=(fun b=>(N b\/b=H+1))) (fun b hb=>by have:=hB.size;rcases hb with hb | hb;(have:=HNW.o b hb;omega);omega),zb hl5 (by have:=hB.size;omega)⟩
    ·trivial
    clear hB hHeld;have hHeld:=hHeld2;clear hHeld2;obtain⟨hB,ho,hl⟩:=hF;clear hb5 ho5 hl5;clear hK K
    refine wP 11 ?_;refine wP 12 ?_;refine wP 13 ?_;refine wP 14 ?_;refine wP 15 ?_;refine za (rs:= [16,17]) wo wu ?_;refine z8.cons (o:=_) rfl (fun K hK=> ?_) ?_
    ·
     have hba:=wj wn1 (aB #[ax aC 0 0,ax aC 0 0,ay az 0,ay az 0] 34);have hn:=Arr.new wn1 34 [ax aC 0 0,ax aC 0 0,ay az 0,ay az 0];have hnl:wr.heap.size<=wn1.heap.size:=hB.size;obtain⟨g5,hge⟩:=wV wn1.heap.size
     have hN:∀b,b=g5->wn1.heap.size<=b:=fun b h=>by rw [h,hge];exact Nat.le_refl _
     rw [<-hge]at hn hnl;go_simp;rw [<-hge];clear hge;refine zR hK ?_ (fun W=>Below wr.heap.size wr W/\Arr W g5 34 [ax aC 0 0,ax aC 0 0,ay az 0,ay az 0]/\wr.heap.size<=g5/\OwSt W (g+1) (ax A1 t1.aF.length c1) (ax B1 t1.aG.length d1) t1 (fun b=>(N b\/b=H+1)\/b=g5)/\W.ownsRow (g+1) 9 1 (ax G1 cc1.aJ.length n1) cc1.aJ.length (strs cc1.aJ)) (fun W=>True) ?_ ?_ (fun wn2 hHeld2 hF _=> ?_)
     ·exact HSB.o _ ((wh hB hba))
     ·exact⟨wh hB hba,hn,hnl,(ho.wider (N':=(fun b=>(N b\/b=H+1)\/b=g5)) (fun b hb=>hb.elim (fun hb=> .inl hb) (fun hb=> .inr (hN _ hb)))).below hba,zc hl hba⟩
     ·trivial
     clear hl ho hB hHeld;have hHeld:=hHeld2;clear hHeld2;obtain⟨hB,h5,h5l,ho,hl⟩:=hF;clear hba hn hnl hN;clear hK K
     try simp only [sqP]
     have hall:=aE hB (aE h5 (aE h5l (aE ho (aE hl hHeld))));clear hHeld hl ho h5l h5 hB;generalize wn2=wz at hall ⊢
     revert hall;revert wz;revert g5;revert n1;revert G1;revert d1;revert B1;revert c1;revert A1;exact Rd2.o
    refine z8.cons (o:=_) rfl (fun K hK=> ?_) ?_
    ·
     have hba:=wj wn1 (aB #[ay az 0,ax aC 0 0,aA ⟨#[]⟩] 37);have hn:=Arr.new wn1 37 [ay az 0,ax aC 0 0,aA ⟨#[]⟩];have hnl:wr.heap.size<=wn1.heap.size:=hB.size;obtain⟨g6,hge⟩:=wV wn1.heap.size
     have hN:∀b,b=g6->wn1.heap.size<=b:=fun b h=>by rw [h,hge];exact Nat.le_refl _
     rw [<-hge]at hn hnl;go_simp;rw [<-hge];clear hge;refine zR hK ?_ (fun W=>Below wr.heap.size wr W/\Arr W g6 37 [ay az 0,ax aC 0 0,aA ⟨#[]⟩]/\wr.heap.size<=g6/\OwSt W (g+1) (ax A1 t1.aF.length c1) (ax B1 t1.aG.length d1) t1 (fun b=>(N b\/b=H+1)\/b=g6)/\W.ownsRow (g+1) 9 1 (ax G1 cc1.aJ.length n1) cc1.aJ.length (strs cc1.aJ)) (fun W=>True) ?_ ?_ (fun wn3 hHeld2 hF _=> ?_)
     ·exact HSB.o _ ((wh hB hba))
     ·exact⟨wh hB hba,hn,hnl,(ho.wider (N':=(fun b=>(N b\/b=H+1)\/b=g6)) (fun b hb=>hb.elim (fun hb=> .inl hb) (fun hb=> .inr (hN _ hb)))).below hba,zc hl hba⟩
     ·trivial
     clear hl ho hB hHeld;have hHeld:=hHeld2;clear hHeld2;obtain⟨hB,h6,h6l,ho,hl⟩:=hF;clear hba hn hnl hN;clear hK K
     try simp only [sqP]
     have hall:=aE hB (aE h6 (aE h6l (aE ho (aE hl hHeld))));clear hHeld hl ho h6l h6 hB;generalize wn3=wz at hall ⊢
     revert hall;revert wz;revert g6;revert n1;revert G1;revert d1;revert B1;revert c1;revert A1;exact Rd3.o
    exact z8.nil
   refine z8.cons (o:=_) rfl (fun K hK=> ?_) ?_
   ·
    have hba:=wj wn0 (aB #[ax aC 0 0,ax aC 0 0,ay az 0,ay az 0] 34);have hn:=Arr.new wn0 34 [ax aC 0 0,ax aC 0 0,ay az 0,ay az 0];have hnl:wr.heap.size<=wn0.heap.size:=hB.size;obtain⟨g5,hge⟩:=wV wn0.heap.size
    have hN:∀b,b=g5->wn0.heap.size<=b:=fun b h=>by rw [h,hge];exact Nat.le_refl _
    rw [<-hge]at hn hnl;go_simp;rw [<-hge];clear hge;refine zR hK ?_ (fun W=>Below wr.heap.size wr W/\Arr W g5 34 [ax aC 0 0,ax aC 0 0,ay az 0,ay az 0]/\wr.heap.size<=g5) (fun W=>True) ?_ ?_ (fun wn4 hHeld2 hF _=> ?_)
    ·exact HSB.o _ ((wh hB hba))
    ·exact⟨wh hB hba,hn,hnl⟩
    ·trivial
    clear hB hHeld;have hHeld:=hHeld2;clear hHeld2;obtain⟨hB,h5,h5l⟩:=hF;clear hba hn hnl hN;clear hK K
    try simp only [sqP]
    refine za (rs:= [10,17]) wo wu ?_;refine z8.cons (o:=_) rfl (fun K hK=> ?_) ?_
    ·
     go_simp;refine(HPB.o wn4 hB).mono ?_;rintro e5 w5 ⟨v1,v2,v3,rfl,ho5,hl5,hb5⟩;obtain⟨A1,c1,B1,d1,rfl,rfl, -⟩:=ho5.rows;obtain⟨G1,n1,rfl, -, -⟩:=Rd.of_own' hl5;dsimp only;refine zR hK ?_ (fun W=>Below wr.heap.size wr W/\Arr W g5 34 [ax aC 0 0,ax aC 0 0,ay az 0,ay az 0]/\wr.heap.size<=g5/\OwSt W (g+1) (ax A1 t1.aF.length c1) (ax B1 t1.aG.length d1) t1 (fun b=>(N b\/b=H+1)\/b=g5)/\W.ownsRow (g+1) 9 1 (ax G1 cc1.aJ.length n1) cc1.aJ.length (strs cc1.aJ)) (fun W=>True) ?_ ?_ (fun wn5 hHeld2 hF _=> ?_)
     ·exact HSB.o _ ((wh hB hb5))
     ·exact⟨wh hB hb5,h5.below hb5,h5l,(ho5.lower (base':=(g+1)) (by have:=hB.size;omega)).mono (N':=(fun b=>(N b\/b=H+1)\/b=g5)) (fun b hb=>hb.elim (fun hb=>by have:=hB.size;rcases hb with hb | hb;(have:=HNW.o b hb;omega);omega) (fun hb=>(by rw [hb];exact h5.lt))),zb hl5 (by have:=hB.size;omega)⟩
     ·trivial
     clear h5l h5 hB hHeld;have hHeld:=hHeld2;clear hHeld2;obtain⟨hB,h5,h5l,ho,hl⟩:=hF;clear hb5 ho5 hl5;clear hK K
     refine wP 11 ?_;refine wP 12 ?_;refine wP 13 ?_;refine wP 14 ?_;refine wP 15 ?_;have hall:=aE hB (aE h5 (aE h5l (aE ho (aE hl hHeld))));clear hHeld hl ho h5l h5 hB;generalize wn5=wz at hall ⊢
     revert hall;revert wz;revert g5;revert n1;revert G1;revert d1;revert B1;revert c1;revert A1;exact Rd2.o
    refine z8.cons (o:=_) rfl (fun K hK=> ?_) ?_
    ·
     have hba:=wj wn4 (aB #[ay az 0,ax aC 0 0,aA ⟨#[]⟩] 37);have hn:=Arr.new wn4 37 [ay az 0,ax aC 0 0,aA ⟨#[]⟩];have hnl:wr.heap.size<=wn4.heap.size:=hB.size;obtain⟨g6,hge⟩:=wV wn4.heap.size
     have hN:∀b,b=g6->wn4.heap.size<=b:=fun b h=>by rw [h,hge];exact Nat.le_refl _
     rw [<-hge]at hn hnl;go_simp;rw [<-hge];clear hge;refine zR hK ?_ (fun W=>Below wr.heap.size wr W/\Arr W g5 34 [ax aC 0 0,ax aC 0 0,ay az 0,ay az 0]/\wr.heap.size<=g5/\Arr W g6 37 [ay az 0,ax aC 0 0,aA ⟨#[]⟩]/\wr.heap.size<=g6/\g5≠g6) (fun W=>True) ?_ ?_ (fun wn6 hHeld2 hF _=> ?_)
     ·exact HSB.o _ ((wh hB hba))
     ·exact⟨wh hB hba,h5.below hba,h5l,hn,hnl,(fun e=>Nat.lt_irrefl _ (by have h1:=h5.lt;rw [e]at h1;exact Nat.lt_of_lt_of_le h1 (hN _ rfl)))⟩
     ·trivial
     clear h5l h5 hB hHeld;have hHeld:=hHeld2;clear hHeld2;obtain⟨hB,h5,h5l,h6,h6l,h56n⟩:=hF;clear hba hn hnl hN;clear hK K
     try simp only [sqP]
     have hall:=aE hB (aE h5 (aE h5l (aE h6 (aE h6l (aE h56n hHeld)))));clear hHeld h56n h6l h6 h5l h5 hB;generalize wn6=wz at hall ⊢
     revert hall;revert wz;revert g6;revert g5;exact Rd4.o
    exact z8.nil
   refine z8.cons (o:=_) rfl (fun K hK=> ?_) ?_
   ·
    have hba:=wj wn0 (aB #[ay az 0,ax aC 0 0,aA ⟨#[]⟩] 37);have hn:=Arr.new wn0 37 [ay az 0,ax aC 0 0,aA ⟨#[]⟩];have hnl:wr.heap.size<=wn0.heap.size:=hB.size;obtain⟨g6,hge⟩:=wV wn0.heap.size
    have hN:∀b,b=g6->wn0.heap.size<=b:=fun b h=>by rw [h,hge];exact Nat.le_refl _
    rw [<-hge]at hn hnl;go_simp;rw [<-hge];clear hge;refine zR hK ?_ (fun W=>Below wr.heap.size wr W/\Arr W g6 37 [ay az 0,ax aC 0 0,aA ⟨#[]⟩]/\wr.heap.size<=g6) (fun W=>True) ?_ ?_ (fun wn7 hHeld2 hF _=> ?_)
    ·exact HSB.o _ ((wh hB hba))
    ·exact⟨wh hB hba,hn,hnl⟩
    ·trivial
    clear hB hHeld;have hHeld:=hHeld2;clear hHeld2;obtain⟨hB,h6,h6l⟩:=hF;clear hba hn hnl hN;clear hK K
    try simp only [sqP]
    refine za (rs:= [10,16]) wo wu ?_;refine z8.cons (o:=_) rfl (fun K hK=> ?_) ?_
    ·
     go_simp;refine(HPB.o wn7 hB).mono ?_;rintro e5 w5 ⟨v1,v2,v3,rfl,ho5,hl5,hb5⟩;obtain⟨A1,c1,B1,d1,rfl,rfl, -⟩:=ho5.rows;obtain⟨G1,n1,rfl, -, -⟩:=Rd.of_own' hl5;dsimp only;refine zR hK ?_ (fun W=>Below wr.heap.size wr W/\Arr W g6 37 [ay az 0,ax aC 0 0,aA ⟨#[]⟩]/\wr.heap.size<=g6/\OwSt W (g+1) (ax A1 t1.aF.length c1) (ax B1 t1.aG.length d1) t1 (fun b=>(N b\/b=H+1)\/b=g6)/\W.ownsRow (g+1) 9 1 (ax G1 cc1.aJ.length n1) cc1.aJ.length (strs cc1.aJ)) (fun W=>True) ?_ ?_ (fun wn8 hHeld2 hF _=> ?_)
     ·exact HSB.o _ ((wh hB hb5))
     ·exact⟨wh hB hb5,h6.below hb5,h6l,(ho5.lower (base':=(g+1)) (by have:=hB.size;omega)).mono (N':=(fun b=>(N b\/b=H+1)\/b=g6)) (fun b hb=>hb.elim (fun hb=>by have:=hB.size;rcases hb with hb | hb;(have:=HNW.o b hb;omega);omega) (fun hb=>(by rw [hb];exact h6.lt))),zb hl5 (by have:=hB.size;omega)⟩
     ·trivial
     clear h6l h6 hB hHeld;have hHeld:=hHeld2;clear hHeld2;obtain⟨hB,h6,h6l,ho,hl⟩:=hF;clear hb5 ho5 hl5;clear hK K
     refine wP 11 ?_;refine wP 12 ?_;refine wP 13 ?_;refine wP 14 ?_;refine wP 15 ?_;have hall:=aE hB (aE h6 (aE h6l (aE ho (aE hl hHeld))));clear hHeld hl ho h6l h6 hB;generalize wn8=wz at hall ⊢
     revert hall;revert wz;revert g6;revert n1;revert G1;revert d1;revert B1;revert c1;revert A1;exact Rd3.o
    refine z8.cons (o:=_) rfl (fun K hK=> ?_) ?_
    ·
     have hba:=wj wn7 (aB #[ax aC 0 0,ax aC 0 0,ay az 0,ay az 0] 34);have hn:=Arr.new wn7 34 [ax aC 0 0,ax aC 0 0,ay az 0,ay az 0];have hnl:wr.heap.size<=wn7.heap.size:=hB.size;obtain⟨g5,hge⟩:=wV wn7.heap.size
     have hN:∀b,b=g5->wn7.heap.size<=b:=fun b h=>by rw [h,hge];exact Nat.le_refl _
     rw [<-hge]at hn hnl;go_simp;rw [<-hge];clear hge;refine zR hK ?_ (fun W=>Below wr.heap.size wr W/\Arr W g5 34 [ax aC 0 0,ax aC 0 0,ay az 0,ay az 0]/\wr.heap.size<=g5/\Arr W g6 37 [ay az 0,ax aC 0 0,aA ⟨#[]⟩]/\wr.heap.size<=g6/\g5≠g6) (fun W=>True) ?_ ?_ (fun wn9 hHeld2 hF _=> ?_)
     ·exact HSB.o _ ((wh hB hba))
     ·exact⟨wh hB hba,hn,hnl,h6.below hba,h6l,(fun e=>Nat.lt_irrefl _ (by have h1:=h6.lt;rw [<-e]at h1;exact Nat.lt_of_lt_of_le h1 (hN _ rfl)))⟩
     ·trivial
     clear h6l h6 hB hHeld;have hHeld:=hHeld2;clear hHeld2;obtain⟨hB,h5,h5l,h6,h6l,h56n⟩:=hF;clear hba hn hnl hN;clear hK K
     try simp only [sqP]
     have hall:=aE hB (aE h5 (aE h5l (aE h6 (aE h6l (aE h56n hHeld)))));clear hHeld h56n h6l h6 h5l h5 hB;generalize wn9=wz at hall ⊢
     revert hall;revert wz;revert g6;revert g5;exact Rd4.o
    exact z8.nil
   exact z8.nil;intro g5 g6 wRd4 hall;obtain⟨hB,h5,h5l,h6,h6l,h56n,hHeld⟩:=hall;refine za (rs:= [10]) wo wu ?_;refine z8.cons (o:=_) rfl (fun K hK=> ?_) ?_
   ·
    go_simp;refine(HPB.o wRd4 hB).mono ?_;rintro e5 w5 ⟨v1,v2,v3,rfl,ho5,hl5,hb5⟩;obtain⟨A1,c1,B1,d1,rfl,rfl, -⟩:=ho5.rows;obtain⟨G1,n1,rfl, -, -⟩:=Rd.of_own' hl5;dsimp only;refine zR hK ?_ (fun W=>Below wr.heap.size wr W/\Arr W g5 34 [ax aC 0 0,ax aC 0 0,ay az 0,ay az 0]/\wr.heap.size<=g5/\Arr W g6 37 [ay az 0,ax aC 0 0,aA ⟨#[]⟩]/\wr.heap.size<=g6/\g5≠g6/\OwSt W (g+1) (ax A1 t1.aF.length c1) (ax B1 t1.aG.length d1) t1 (fun b=>(N b\/b=H+1)\/b=g5\/b=g6)/\W.ownsRow (g+1) 9 1 (ax G1 cc1.aJ.length n1) cc1.aJ.length (strs cc1.aJ)) (fun W=>True) ?_ ?_ (fun wn10 hHeld2 hF _=> ?_)
    ·exact HSB.o _ ((wh hB hb5))
    ·exact⟨wh hB hb5,h5.below hb5,h5l,h6.below hb5,h6l,h56n,(ho5.lower (base':=(g+1)) (by have:=hB.size;omega)).mono (N':=(fun b=>(N b\/b=H+1)\/b=g5\/b=g6)) (fun b hb=>hb.elim (fun hb=>by have:=hB.size;rcases hb with hb | hb;(have:=HNW.o b hb;omega);omega) (fun hb=>hb.elim (fun hb=>by rw [hb];exact h5.lt) (fun hb=>(by rw [hb];exact h6.lt)))),zb hl5 (by have:=hB.size;omega)⟩
    ·trivial
    clear h56n h6l h6 h5l h5 hB hHeld;have hHeld:=hHeld2;clear hHeld2;obtain⟨hB,h5,h5l,h6,h6l,h56n,ho,hl⟩:=hF;clear hb5 ho5 hl5;clear hK K
    refine wP 11 ?_;refine wP 12 ?_;refine wP 13 ?_;refine wP 14 ?_;refine wP 15 ?_;have hall:=aE hB (aE h5 (aE h5l (aE h6 (aE h6l (aE h56n (aE ho (aE hl hHeld)))))));clear hHeld hl ho h56n h6l h6 h5l h5 hB;generalize wn10=wz at hall ⊢
    revert hall;revert wz;revert g6;revert g5;revert n1;revert G1;revert d1;revert B1;revert c1;revert A1;exact Rd1.o
   exact z8.nil;intro A1 c1 B1 d1 G1 n1 g6 wRd3 hall;obtain⟨hB,h6,h6l,ho,hl,hHeld⟩:=hall;refine za (rs:= [16]) wo wu ?_;refine z8.cons (o:=_) rfl (fun K hK=> ?_) ?_
   ·
    have hba:=wj wRd3 (aB #[ax aC 0 0,ax aC 0 0,ay az 0,ay az 0] 34);have hn:=Arr.new wRd3 34 [ax aC 0 0,ax aC 0 0,ay az 0,ay az 0];have hnl:wr.heap.size<=wRd3.heap.size:=hB.size;obtain⟨g5,hge⟩:=wV wRd3.heap.size
    have hN:∀b,b=g5->wRd3.heap.size<=b:=fun b h=>by rw [h,hge];exact Nat.le_refl _
    rw [<-hge]at hn hnl;go_simp;rw [<-hge];clear hge;refine zR hK ?_ (fun W=>Below wr.heap.size wr W/\Arr W g5 34 [ax aC 0 0,ax aC 0 0,ay az 0,ay az 0]/\wr.heap.size<=g5/\Arr W g6 37 [ay az 0,ax aC 0 0,aA ⟨#[]⟩]/\wr.heap.size<=g6/\g5≠g6/\OwSt W (g+1) (ax A1 t1.aF.length c1) (ax B1 t1.aG.length d1) t1 (fun b=>(N b\/b=H+1)\/b=g5\/b=g6)/\W.ownsRow (g+1) 9 1 (ax G1 cc1.aJ.length n1) cc1.aJ.length (strs cc1.aJ)) (fun W=>True) ?_ ?_ (fun wn11 hHeld2 hF _=> ?_)
    ·exact HSB.o _ ((wh hB hba))
    ·exact⟨wh hB hba,hn,hnl,h6.below hba,h6l,(fun e=>Nat.lt_irrefl _ (by have h1:=h6.lt;rw [<-e]at h1;exact Nat.lt_of_lt_of_le h1 (hN _ rfl))),(ho.wider (N':=(fun b=>(N b\/b=H+1)\/b=g5\/b=g6)) (fun b hb=>hb.elim (fun hb=> .inl (.inl hb)) (fun hb=>hb.elim (fun hb=> .inr (hN _ hb)) (fun hb=> .inl (.inr hb))))).below hba,zc hl hba⟩
    ·trivial
    clear hl ho h6l h6 hB hHeld;have hHeld:=hHeld2;clear hHeld2;obtain⟨hB,h5,h5l,h6,h6l,h56n,ho,hl⟩:=hF;clear hba hn hnl hN;clear hK K
    try simp only [sqP]
    have hall:=aE hB (aE h5 (aE h5l (aE h6 (aE h6l (aE h56n (aE ho (aE hl hHeld)))))));clear hHeld hl ho h56n h6l h6 h5l h5 hB;generalize wn11=wz at hall ⊢
    revert hall;revert wz;revert g6;revert g5;revert n1;revert G1;revert d1;revert B1;revert c1;revert A1;exact Rd1.o
   exact z8.nil;intro A1 c1 B1 d1 G1 n1 g5 wRd2 hall;obtain⟨hB,h5,h5l,ho,hl,hHeld⟩:=hall;refine za (rs:= [17]) wo wu ?_;refine z8.cons (o:=_) rfl (fun K hK=> ?_) ?_
   ·
    have hba:=wj wRd2 (aB #[ay az 0,ax aC 0 0,aA ⟨#[]⟩] 37);have hn:=Arr.new wRd2 37 [ay az 0,ax aC 0 0,aA ⟨#[]⟩];have hnl:wr.heap.size<=wRd2.heap.size:=hB.size;obtain⟨g6,hge⟩:=wV wRd2.heap.size
    have hN:∀b,b=g6->wRd2.heap.size<=b:=fun b h=>by rw [h,hge];exact Nat.le_refl _
    rw [<-hge]at hn hnl;go_simp;rw [<-hge];clear hge;refine zR hK ?_ (fun W=>Below wr.heap.size wr W/\Arr W g5 34 [ax aC 0 0,ax aC 0 0,ay az 0,ay az 0]/\wr.heap.size<=g5/\Arr W g6 37 [ay az 0,ax aC 0 0,aA ⟨#[]⟩]/\wr.heap.size<=g6/\g5≠g6/\OwSt W (g+1) (ax A1 t1.aF.length c1) (ax B1 t1.aG.length d1) t1 (fun b=>(N b\/b=H+1)\/b=g5\/b=g6)/\W.ownsRow (g+1) 9 1 (ax G1 cc1.aJ.length n1) cc1.aJ.length (strs cc1.aJ)) (fun W=>True) ?_ ?_ (fun wn12 hHeld2 hF _=> ?_)
    ·exact HSB.o _ ((wh hB hba))
    ·exact⟨wh hB hba,h5.below hba,h5l,hn,hnl,(fun e=>Nat.lt_irrefl _ (by have h1:=h5.lt;rw [e]at h1;exact Nat.lt_of_lt_of_le h1 (hN _ rfl))),(ho.wider (N':=(fun b=>(N b\/b=H+1)\/b=g5\/b=g6)) (fun b hb=>hb.elim (fun hb=> .inl (.inl hb)) (fun hb=>hb.elim (fun hb=> .inl (.inr hb)) (fun hb=> .inr (hN _ hb))))).below hba,zc hl hba⟩
    ·trivial
    clear hl ho h5l h5 hB hHeld;have hHeld:=hHeld2;clear hHeld2;obtain⟨hB,h5,h5l,h6,h6l,h56n,ho,hl⟩:=hF;clear hba hn hnl hN;clear hK K
    try simp only [sqP]
    have hall:=aE hB (aE h5 (aE h5l (aE h6 (aE h6l (aE h56n (aE ho (aE hl hHeld)))))));clear hHeld hl ho h56n h6l h6 h5l h5 hB;generalize wn12=wz at hall ⊢
    revert hall;revert wz;revert g6;revert g5;revert n1;revert G1;revert d1;revert B1;revert c1;revert A1;exact Rd1.o
   exact z8.nil;intro A1 c1 B1 d1 G1 n1 g5 g6 wRd1 hall;obtain⟨hB,h5,h5l,h6,h6l,h56n,ho,hl,hHeld⟩:=hall;refine za (rs:= [18]) wo wu ?_;refine z8.store (o:=_) rfl ww (fun K hK=> ?_) ?_
   ·
    have hqho:=ho.nb h5 ws ws;have hqhl:=zg hl h5 ws;obtain⟨z0,f0,z1,f1,z2,f2,z3,f3⟩:=wZ h5;go_simp;clear z0 f0 z1 f1 z2 f2 z3 f3;refine vd hK (fun W=>Below wr.heap.size wr W/\Arr W g5 34 [(ax A1 t1.aF.length c1),(ax B1 t1.aG.length d1),ay az t.aI,ay az t.aH]/\wr.heap.size<=g5/\Arr W g6 37 [ay az 0,ax aC 0 0,aA ⟨#[]⟩]/\wr.heap.size<=g6/\g5≠g6/\OwSt W (g+1) (ax A1 t1.aF.length c1) (ax B1 t1.aG.length d1) t1 (fun b=>(N b\/b=H+1)\/b=g5\/b=g6)/\W.ownsRow (g+1) 9 1 (ax G1 cc1.aJ.length n1) cc1.aJ.length (strs cc1.aJ)) (fun W=>True) ?_ ?_ (fun wn13 hF _=> ?_)
    ·exact⟨((((hB).setCell (p:=⟨g5,0,aC⟩) h5l _).setCell (p:=⟨g5,1,aC⟩) h5l _).setCell (p:=⟨g5,2,aC⟩) h5l _).setCell (p:=⟨g5,3,aC⟩) h5l _,h5.all4 _ _ _ _,h5l,((((h6).other (h56n.symm) _).other (h56n.symm) _).other (h56n.symm) _).other (h56n.symm) _,h6l,h56n,ho.set4N (.inr (.inl rfl)) hqho.1 hqho.2 _ _ _ _,qt hl hqhl _ _ _ _⟩
    ·trivial
    clear hl ho h56n h6l h6 h5l h5 hB hHeld;obtain⟨hB,h5,h5l,h6,h6l,h56n,ho,hl⟩:=hF;clear hqho hqhl;clear hK K
    try simp only [sqP]
    refine wT 19 fun K hK=>?_;have hqho:=ho.nb h6 ws ws;have hqhl:=zg hl h6 ws;obtain⟨z0,f0,z1,f1,z2,f2⟩:=wc h6;go_simp;clear z0 f0 z1 f1 z2 f2;refine vd hK (fun W=>Below wr.heap.size wr W/\Arr W g5 34 [(ax A1 t1.aF.length c1),(ax B1 t1.aG.length d1),ay az t.aI,ay az t.aH]/\wr.heap.size<=g5/\Arr W g6 37 [ay az cc1.aK,(ax G1 cc1.aJ.length n1),aA ⟨cc1.at_.toArray⟩]/\wr.heap.size<=g6/\g5≠g6/\OwSt W (g+1) (ax A1 t1.aF.length c1) (ax B1 t1.aG.length d1) t1 (fun b=>(N b\/b=H+1)\/b=g5\/b=g6)/\W.ownsRow (g+1) 9 1 (ax G1 cc1.aJ.length n1) cc1.aJ.length (strs cc1.aJ)) (fun W=>True) ?_ ?_ (fun wn14 hF _=> ?_)
    ·exact⟨(((hB).setCell (p:=⟨g6,0,aC⟩) h6l _).setCell (p:=⟨g6,1,aC⟩) h6l _).setCell (p:=⟨g6,2,aC⟩) h6l _,(((h5).other (h56n) _).other (h56n) _).other (h56n) _,h5l,h6.all3 _ _ _,h6l,h56n,ho.set3N (.inr (.inr rfl)) hqho.1 hqho.2 _ _ _,kn hl hqhl _ _ _⟩
    ·trivial
    clear hl ho h56n h6l h6 h5l h5 hB;obtain⟨hB,h5,h5l,h6,h6l,h56n,ho,hl⟩:=hF;clear hqho hqhl;clear hK K
    refine wP 20 ?_;refine wP 21 ?_;refine zq wo ?_ _
    try dsimp only [Exit.then]
    have hall:=aE hB (aE h5 (aE h5l (aE h6 (aE h6l (aE h56n (aE ho hl))))));clear hl ho h56n h6l h6 h5l h5 hB;generalize wn14=wz at hall ⊢
    revert hall;revert wz;revert g6;revert g5;revert n1;revert G1;revert d1;revert B1;revert c1;revert A1;exact REST.o
   exact z8.nil;intro A1 c1 B1 d1 G1 n1 g5 g6 w5 hall;obtain⟨hB,h5,h5l,h6,h6l,h56n,ho,hl⟩:=hall;have hdb5:=HDB.o.below hB;have hbb:Arr w5 g 82 [ax X t.aF.length cX,ax Y t.aG.length dY,ay az t.aI,ay az t.aH,ay az c2.aK,ax G c2.aJ.length ng,aA ⟨c2.at_.toArray⟩,ax F fs.length cF]:=hdb5.box;have n1':¬(g5=g):=wm;have n2':¬(g6=g):=wm;have hg7:=(zr (k:=6) (u:= aA ⟨cc1.at_.toArray⟩) (zr (k:=5) (u:= ax G1 cc1.aJ.length n1) (zr (k:=4) (u:= ay az cc1.aK) (zr (k:=3) (u:= ay az t.aH) (zr (k:=2) (u:= ay az t.aI) (zr (k:=1) (u:= ax B1 t1.aG.length d1) (zr (k:=0) (u:= ax A1 t1.aF.length c1) (World.grownBy.refl w5 (aD g)))))))))
   obtain⟨HA7,HG7,HOW,HB5⟩:=sqJ4 (hbb.fst7 (ax A1 t1.aF.length c1) (ax B1 t1.aG.length d1) (ay az t.aI) (ay az t.aH) (ay az cc1.aK) (ax G1 cc1.aJ.length n1) (aA ⟨cc1.at_.toArray⟩)) hg7 (show OwLo w5 (g+1) (ax A1 t1.aF.length c1) (ax B1 t1.aG.length d1) (ax G1 cc1.aJ.length n1) (ax F fs.length cF) ⟨t1,cc1,fs⟩ (fun b=>N b\/b=H+1) from⟨ho.mono fun b hb=> .inl hb,hl,hdb5.own.f⟩) hB;obtain⟨d0,d1_,d2,d3,d4,d5,d6⟩:=sqC7 hbb;obtain⟨e0,e1,e2,e3,e4,e5,e6⟩:=sqF7 hbb;obtain⟨x0,x1,x2,x3⟩:=sqC4 h5;obtain⟨y0,y1,y2⟩:=sqC3 h6;have hdd:(⟨dd.toArray⟩:ByteArray).toList=dd:=ByteArray.toList_eq _;generalize hds:(⟨dd.toArray⟩:ByteArray)=ds at *
   have HDS:=sqH hds;have HDD:=sqH hdd;clear hdb5 hbb hg7 hB h5 h5l h6 h6l h56n ho hl HPB HSB hds hdd
   refine wJ 20 ?_;intros;iterate 1 (first | go_values | go_skip | go_guarded | go_step | go_upon | go_back)
   go_region
   all_goals (try dsimp only [Exit.then])
   clear d0 d1_ d2 d3 d4 d5 d6 e0 e1 e2 e3 e4 e5 e6 x0 x1 x2 x3 y0 y1 y2;obtain⟨p',hD⟩:=DkB.mk' (HOW.o.grownE HG7.o (Nat.lt_succ_self g) (.inl hNg)) (by
    show Arr _ g _ [_,_,ay az t1.aI,ay az t1.aH,_,_,_,_];rw [HM.o.2.2.1,HM.o.2.2.2.1];exact HA7.o)
   have HW7:=sqH (aE (hD.below (Below.refl _ _).drew) (aE (zO ((zO HGS.o.2.2.2.2 HB5.o).trans HG7.o) (Below.refl _ _).drew) (aE (Arr.drew ((HPO.o.below HB5.o).grown HG7.o ab)) (Arr.drew ((HRE.o.below HB5.o).grown HG7.o ab)))));clear hD HOW HA7 HG7;generalize (((((((w5.setCell ⟨g,0,aC⟩ (ax A1 t1.aF.length c1)).setCell ⟨g,1,aC⟩ (ax B1 t1.aG.length d1)).setCell ⟨g,2,aC⟩ (ay az t.aI)).setCell ⟨g,3,aC⟩ (ay az t.aH)).setCell ⟨g,4,aC⟩ (ay az cc1.aK)).setCell ⟨g,5,aC⟩ (ax G1 cc1.aJ.length n1)).setCell ⟨g,6,aC⟩ (aA ⟨cc1.at_.toArray⟩)).drew=w7 at *
   have hgo4:(go:Int)<=4000:=by have:=HI.o;omega
   by_cases hd:dd= []
   ·have e1:ds.toList.isEmpty=true:=by rw [HDD.o,hd];rfl
    have HDE:=sqH hd;clear hd
    refine wH ?_;intros;go_roundg (n - (i+1))
    case measure=>have:=HGK.o;have:=HLT.o.1;omega
    case rel =>
     have hm8:=HM.o.2.2.2.2.2;rw [HGS.o.2.2.2.1,if_pos HDE.o]at hm8;have hlt:=HLT.o.1;have hgi:=HI.o.2;exact⟨i+1,go,t1,cc1,p',rfl,rfl,by go_num,wm,wm,HM.o.1,HM.o.2.1,by have:=HM.o.2.2.2.2.1;have:=HGS.o.2.2.1;omega,hm8.symm,HW7.o.2.1,HW7.o.1,HW7.o.2.2.1,HW7.o.2.2.2⟩
   ·have e1:ds.toList.isEmpty=false:=by rw [HDD.o];cases dd with | nil=>exact absurd rfl hd | cons _ _=>rfl
    have HDE:=sqH hd;clear hd
    refine wH ?_;intros;go_roundg (n - (i+1))
    case measure=>have:=HGK.o;have:=HLT.o.1;omega
    case rel =>
     have hm8:=HM.o.2.2.2.2.2;rw [HGS.o.2.2.2.1,if_neg HDE.o]at hm8;have hlt:=HLT.o.1;have hgi:=HI.o.2;exact⟨i+1,go+1,t1,cc1,p',rfl,by go_num,by go_num,wm,wm,HM.o.1,HM.o.2.1,by have:=HM.o.2.2.2.2.1;have:=HGS.o.2.2.1;omega,hm8.symm,HW7.o.2.1,HW7.o.1,HW7.o.2.2.1,HW7.o.2.2.2⟩
end Go.Proofs.YtaboknhfiijipaaGreat
