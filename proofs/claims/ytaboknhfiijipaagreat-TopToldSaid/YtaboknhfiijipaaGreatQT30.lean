/- Lemmas, as stated. -/
import Derived.Test.YtaboknhfiijipaaGreatQT29
set_option linter.unusedVariables false
set_option linter.unusedSimpArgs false
set_option maxRecDepth 100000
set_option maxHeartbeats 16000000
open Go.Proofs.Tryz
open Go.Value renaming slice->ax,int->ay,string->aA
open Go.IntKind renaming i64->az
open Go.Obj renaming cells->aB
open Option renaming none->aC,some->aD
open And renaming intro->aE
namespace Go.Proofs.YtaboknhfiijipaaGreat
open Go.RowKit Go.Maps
theorem z2p (g:Nat) (p:LoW) (l:LoP) (kd n:Nat) (dg D:ae) (ps:List PartP) (A:af) (c:Nat) (A':af) (c':Nat) (w:World) (hL:GoodL l) (hk:hexC dg=0) (hpz:chk ps=0) (hck:l.st.aH<1099511627776) (hlen:l.st.aG.length<10) (h1:kd=5) (N:aj) (hNg:N g) (hNw:∀b,N b->b<w.heap.size) (hb:DkB w g p l N) (hd:Sl w 1 A D.length c (bys D)) (hq:Sl w 3 A' ps.length c' (pcs ps)) :
  Calls Tryz.prog 67 #[.pointer (aD ⟨g,0,aC⟩),orV kd n dg D ps A c A' c'] w (k5 w g N (entD l ⟨kd,n,dg,D,ps⟩)):=by
 have k1:((kd:Int)==5)=true:=by rw [beq_iff_eq];omega
 have HK:=sqH h1;have HPX:=sqH (aE hk (aE hpz (aE hck hlen)));clear h1 hk hpz hck hlen;obtain⟨X,cX,Y,dY,G,ng,F,cF⟩:=p;obtain⟨s,co,fs⟩:=l;have hgl:=hb.lt;have hgw:=hb.lt;have hbw:=hb.wider (N':=fun b=>N b\/w.heap.size<=b) (fun b h=>h);obtain⟨w0,hw0,hP,hR,hbx⟩:=zo w 29 47 [ay az kd,ay az n,aA ⟨dg.toArray⟩,ax A D.length c,ax A' ps.length c'] [ay az 0,aA ⟨#[]⟩,ax aC 0 0,ax aC 0 0,ay az 0,ax aC 0 0];have HDK:=sqH (show ∀W,Below w0.heap.size w0 W->DkB W g ⟨X,cX,Y,dY,G,ng,F,cF⟩ ⟨s,co,fs⟩ (fun b=>N b\/w.heap.size<=b) from fun W h=>(hbw.below hbx).below h);have HBC:=sqH (show ∀W,Below w0.heap.size w0 W->wF W g (ax X s.aF.length cX) (ax Y s.aG.length dY) (ay az s.aI) (ay az s.aH) (ay az co.aK) (ax G co.aJ.length ng) (aA ⟨co.at_.toArray⟩) (ax F fs.length cF) from fun W h=>by
  have b:=(HDK.o W h).box;exact sqC8 b)
 have hws:=hbx.size;obtain⟨HBX,HD,HQ⟩:=sqJ3 hbx (hd.below hbx) (hq.below hbx);obtain⟨H,hH⟩:=wV w.heap.size
 rw [<-hH]at hP hR hgl;have hHw:w.heap.size<=H:=wm;have hHw1:w.heap.size<=H+1:=wm;have hgH:g≠H+1:=wm;have hHl:H+1<w0.heap.size:=hR.lt;obtain⟨HP,HR,HL,HNW⟩:=sqJ4 (show ∀W,Below w0.heap.size w0 W->Arr W H 29 (orC kd n dg D ps A c A' c') from fun W h=>hP.below h) (show ∀W,Below w0.heap.size w0 W->Arr W (H+1) 47 QW from fun W h=>hR.below h) hL hNw;obtain⟨x0,x1,x2,x3,x4⟩:=sqC5 hP;have HW0:=sqH hw0;have HH:=sqH hH;rw [hw0,hH]at x0 x1 x2 x3 x4;clear hb hbw hbx hd hq hP hR hL hw0 hH hNw;go_enter func67,ntmps67
 refine wI 3 ?_;intros;rw [<-HW0.o,<-HH.o];clear x0 x1 x2 x3 x4;have HPB:=sqH (fun W (h:Below w0.heap.size w0 W)=>Vm ⟨X,cX,Y,dY,G,ng,F,cF⟩ ⟨s,co,fs⟩ dg ps A' c' W HL.o (HDK.o W h).rd HPX.o.1 HPX.o.2.1 HPX.o.2.2.1 HPX.o.2.2.2 (HQ.o.below h));generalize hpb:KY ⟨s,co,fs⟩ dg ps=r at HPB;obtain⟨m,q⟩:=r;dsimp only at HPB;have HPD:=sqH hpb;clear hpb;obtain⟨HSB,HSG,HKP⟩:=sqJ3 (show ∀W,Below w0.heap.size w0 W->W.cell? ⟨H,2,aC⟩=aD (aA ⟨dg.toArray⟩)/\W.cell? ⟨H,4,aC⟩=aD (ax A' ps.length c') from fun W h=>⟨(HP.o W h).c2,(HP.o W h).c4⟩) (show ∀W W',Below w0.heap.size w0 W->W.grownBy W' (aD g)->W'.cell? ⟨H,2,aC⟩=aD (aA ⟨dg.toArray⟩)/\W'.cell? ⟨H,4,aC⟩=aD (ax A' ps.length c') from fun W W' h h'=>⟨((HP.o W h).grown h' ab).c2,((HP.o W h).grown h' ab).c4⟩) (fun (W:World) (h:Below w0.heap.size w0 W) (v1 v2 v3 v4:Value) (m:LoP) (q:Nat) (ho:q=0->OwLo W (g+1) v1 v2 v3 v4 m (fun b=>N b\/b=H+1)) (hb:DkB W g ⟨X,cX,Y,dY,G,ng,F,cF⟩ ⟨s,co,fs⟩ (fun b=>N b\/b=H+1))=>jk g ⟨X,cX,Y,dY,G,ng,F,cF⟩ ⟨s,co,fs⟩ v1 v2 v3 v4 m q W (fun b=>N b\/b=H+1) (.inl hNg) hb ho)
 iterate 1 (first | go_values | go_skip | go_guarded | go_step | go_upon | go_back)
 apply zE;intro REST;refine ze [13] (S:=(fun w'=>w'.cell? ⟨H,2,aC⟩=aD (aA ⟨dg.toArray⟩)/\w'.cell? ⟨H,4,aC⟩=aD (ax A' ps.length c'))) wo ?_ (fun hHeld=> ?_)
 ·exact HSB.o _ (Below.refl w0.heap.size w0).drew
 have hB:=(Below.refl w0.heap.size w0).drew;generalize w0.drew=wn0 at *
 refine wP 0 ?_;refine wP 1 ?_;refine wP 2 ?_;refine wP 3 ?_;refine wP 5 ?_;refine wO 6 ?_;refine wP 7 ?_;refine wO 8 ?_;refine za (rs:= [4]) wo wu ?_;refine z8.cons (o:=_) rfl (fun K hK=> ?_) ?_
 ·
  obtain⟨y0,y1,y2,y3,y4,y5,y6,y7⟩:=HBC.o _ hB;go_simp;clear y0 y1 y2 y3 y4 y5 y6 y7;refine zR hK ?_ (fun W=>Below w0.heap.size w0 W) (fun W=>True) ?_ ?_ (fun wn1 hHeld2 hF _=> ?_)
  ·exact HSB.o _ hB
  ·exact hB
  ·trivial
  clear hB hHeld;have hHeld:=hHeld2;clear hHeld2;have hB:=hF;clear hK K
  try simp only [sqP]
  refine wU 9 fun K hK=>?_;go_simp;refine(HPB.o wn1 hB).mono ?_;rintro e5 w5 ⟨v1,v2,v3,v4,rfl,ho5,hb5⟩;obtain⟨⟨A1,c1,B1,d1,G1,n1,F1,f1⟩,rfl,rfl,rfl,rfl, -⟩:=ho5.rd;dsimp only;refine zR hK ?_ (fun W=>Below w0.heap.size w0 W/\OwLo W (g+1) (ax A1 m.st.aF.length c1) (ax B1 m.st.aG.length d1) (ax G1 m.co.aJ.length n1) (ax F1 m.fs.length f1) m (fun b=>N b\/b=H+1)) (fun W=>True) ?_ ?_ (fun wn2 hHeld2 hF _=> ?_)
  ·exact HSB.o _ (wh hB hb5)
  ·exact⟨wh hB hb5,ho5.at_ (by have:=hB.size;omega) (fun b hb=>by have:=hB.size;rcases hb with hb | hb;(have:=HNW.o b hb;omega);omega)⟩
  ·trivial
  clear hB hHeld;have hHeld:=hHeld2;clear hHeld2;obtain⟨hB,ho⟩:=hF;clear hb5 ho5;clear hK K
  refine wP 10 ?_;refine wP 11 ?_;refine wU 12 fun K hK=>?_;go_simp;refine(HKP.o wn2 hB _ _ _ _ m q (fun _=>ho) ((HDK.o _ hB).mono (fun b hb=>hb.imp id (fun h=>wm)))).mono ?_;rintro e5 w5 ⟨rfl,hg5,hd5⟩;dsimp only;refine zR hK ?_ (fun W=>w.grownBy W (aD g)/\(∃p2,DkB W g p2 (xE ⟨s,co,fs⟩ m q) (fun b=>N b\/b=H+1))/\Arr W (H+1) 47 [ay az 0,aA ⟨#[]⟩,ax aC 0 0,ax aC 0 0,ay az 0,ax aC 0 0]) (fun W=>True) ?_ ?_ (fun wn3 hHeld2 hF _=> ?_)
  ·exact HSG.o _ _ hB hg5
  ·exact⟨zP (HBX.o.trans (hB.mono wm)) hg5,hd5,(HR.o _ hB).grown hg5 ab⟩
  ·trivial
  clear ho hB hHeld;have hHeld:=hHeld2;clear hHeld2;obtain⟨hKg,hD,hR⟩:=hF;clear hg5 hd5;clear hK K
  try simp only [sqP]
  refine wT 13 fun K hK=>?_;obtain⟨z0,f0,z1,f1,z2,f2,z3,f3,z4,f4,z5,f5⟩:=wg hR;go_simp;clear z0 f0 z1 f1 z2 f2 z3 f3 z4 f4 z5 f5;refine vd hK (fun W=>w.grownBy W (aD g)/\(∃p2,DkB W g p2 (xE ⟨s,co,fs⟩ m q) (fun b=>N b\/b=H+1))/\Arr W (H+1) 47 [ay az q,aA ⟨#[]⟩,ax aC 0 0,ax aC 0 0,ay az 0,ax aC 0 0]) (fun W=>True) ?_ ?_ (fun wn4 hF _=> ?_)
  ·exact⟨zl hKg wm _ _ _ _ _ _,hD.imp fun _ h=>h.set6 hR (.inr rfl) wm _ _ _ _ _ _,hR.all6 _ _ _ _ _ _⟩
  ·trivial
  clear hR hD hKg hHeld;obtain⟨hKg,hD,hR⟩:=hF;clear hK K
  try simp only [sqP]
  refine zq wo ?_ _
  try dsimp only [Exit.then]
  have hall:=aE hKg (aE hD hR);clear hR hD hKg;generalize wn4=wz at hall ⊢
  revert hall;revert wz;revert f1;revert F1;revert n1;revert G1;revert d1;revert B1;revert c1;revert A1;exact REST.o
 exact z8.nil;intro A1 c1 B1 d1 G1 n1 F1 f1 w3 hall;obtain⟨hKg,hD,hR⟩:=hall;have HX:=sqH (aE hD hKg);have HF:=sqH hR;clear hD hKg hR
 refine wH ?_;intros;refine bodyPost_ret (results_cell_row rfl _ _ (H+1) _ _ _ _ ww HF.o underlying47 rfl wo) rfl ?_;have e1:entD ⟨s,co,fs⟩ ⟨kd,n,dg,D,ps⟩=(xE ⟨s,co,fs⟩ m q,KJ q):=by
  unfold entD;rw [if_pos (show kd=5 from HK.o)];dsimp only;rw [HPD.o]
 rw [e1];obtain⟨⟨p2,hD⟩,hK⟩:=HX.o;exact⟨_,_,_,rfl,hK,⟨p2,hD.mono fun b h=> .inl h⟩,.e_ q⟩
theorem z2q (g:Nat) (p:LoW) (l:LoP) (kd n:Nat) (dg D:ae) (ps:List PartP) (A:af) (c:Nat) (A':af) (c':Nat) (w:World) (hL:GoodL l) (hck:l.st.aH<1099511627776) (h1:kd=6) (N:aj) (hNg:N g) (hNw:∀b,N b->b<w.heap.size) (hb:DkB w g p l N) (hd:Sl w 1 A D.length c (bys D)) (hq:Sl w 3 A' ps.length c' (pcs ps)) :
  Calls Tryz.prog 67 #[.pointer (aD ⟨g,0,aC⟩),orV kd n dg D ps A c A' c'] w (k5 w g N (entD l ⟨kd,n,dg,D,ps⟩)):=by
 have k1:((kd:Int)==5)=false:=by rw [beq_eq_false_iff_ne];omega
 have k2:((kd:Int)==6)=true:=by rw [beq_iff_eq];omega
 have HK:=sqH h1;have HPX:=sqH hck;clear h1 hck;obtain⟨X,cX,Y,dY,G,ng,F,cF⟩:=p;obtain⟨s,co,fs⟩:=l;have hgl:=hb.lt;have hgw:=hb.lt;have hbw:=hb.wider (N':=fun b=>N b\/w.heap.size<=b) (fun b h=>h);obtain⟨w0,hw0,hP,hR,hbx⟩:=zo w 29 47 [ay az kd,ay az n,aA ⟨dg.toArray⟩,ax A D.length c,ax A' ps.length c'] [ay az 0,aA ⟨#[]⟩,ax aC 0 0,ax aC 0 0,ay az 0,ax aC 0 0];have HDK:=sqH (show ∀W,Below w0.heap.size w0 W->DkB W g ⟨X,cX,Y,dY,G,ng,F,cF⟩ ⟨s,co,fs⟩ (fun b=>N b\/w.heap.size<=b) from fun W h=>(hbw.below hbx).below h);have HBC:=sqH (show ∀W,Below w0.heap.size w0 W->wF W g (ax X s.aF.length cX) (ax Y s.aG.length dY) (ay az s.aI) (ay az s.aH) (ay az co.aK) (ax G co.aJ.length ng) (aA ⟨co.at_.toArray⟩) (ax F fs.length cF) from fun W h=>by
  have b:=(HDK.o W h).box;exact sqC8 b)
 have hws:=hbx.size;obtain⟨HBX,HD,HQ⟩:=sqJ3 hbx (hd.below hbx) (hq.below hbx);obtain⟨H,hH⟩:=wV w.heap.size
 rw [<-hH]at hP hR hgl;have hHw:w.heap.size<=H:=wm;have hHw1:w.heap.size<=H+1:=wm;have hgH:g≠H+1:=wm;have hHl:H+1<w0.heap.size:=hR.lt;obtain⟨HP,HR,HL,HNW⟩:=sqJ4 (show ∀W,Below w0.heap.size w0 W->Arr W H 29 (orC kd n dg D ps A c A' c') from fun W h=>hP.below h) (show ∀W,Below w0.heap.size w0 W->Arr W (H+1) 47 QW from fun W h=>hR.below h) hL hNw;obtain⟨x0,x1,x2,x3,x4⟩:=sqC5 hP;have HW0:=sqH hw0;have HH:=sqH hH;rw [hw0,hH]at x0 x1 x2 x3 x4;clear hb hbw hbx hd hq hP hR hL hw0 hH hNw;go_enter func67,ntmps67
 refine wI 5 ?_;intros;rw [<-HW0.o,<-HH.o];clear x0 x1 x2 x3 x4;have HPB:=sqH (fun W (h:Below w0.heap.size w0 W)=>z3m X cX Y dY s W dg HL.o.s (HDK.o W h).rd.s HPX.o);generalize hpb:gtP s dg=r at HPB;obtain⟨t,p2,q⟩:=r;dsimp only at HPB;have HPD:=sqH hpb;clear hpb;have HSB:=sqH (show ∀W,Below w0.heap.size w0 W->(wD W g (ax X s.aF.length cX) (ax Y s.aG.length dY) (ay az s.aI) (ay az s.aH))/\W.cell? ⟨H,2,aC⟩=aD (aA ⟨dg.toArray⟩) from fun W h=>by
  obtain⟨y0,y1,y2,y3,_⟩:=HBC.o W h;exact⟨⟨y0,y1,y2,y3⟩,(HP.o W h).c2⟩)
 iterate 1 (first | go_values | go_skip | go_guarded | go_step | go_upon | go_back)
 apply zE;intro REST;apply zE;intro Rb1;refine ze [13] (S:=(fun w'=>(wD w' g (ax X s.aF.length cX) (ax Y s.aG.length dY) (ay az s.aI) (ay az s.aH))/\w'.cell? ⟨H,2,aC⟩=aD (aA ⟨dg.toArray⟩))) wo ?_ (fun hHeld=> ?_)
 ·exact HSB.o _ (((wi w0)).drew)
 have hB:=((wi w0)).drew;generalize w0.drew=wn0 at *
 refine wP 0 ?_;refine wP 1 ?_;refine wP 2 ?_;refine wP 3 ?_;refine wO 4 ?_;refine wP 5 ?_;refine wO 6 ?_;refine za (rs:= [7,12]) wo wu ?_;refine z8.cons (o:=_) rfl (fun K hK=> ?_) ?_
 ·
  go_simp;refine(HPB.o wn0 hB).mono ?_;rintro e5 w5 ⟨v1,v2,vp,rfl,ho5,hp5,hb5⟩;obtain⟨A1,c1,B1,d1,rfl,rfl, -⟩:=ho5.rows;obtain⟨P1,k1_,rfl, -, -⟩:=Rd.of_own' hp5;dsimp only;refine zR hK ?_ (fun W=>Below w0.heap.size w0 W/\OwSt W w.heap.size (ax A1 t.aF.length c1) (ax B1 t.aG.length d1) t (fun b=>(N b\/b=H+1))/\W.ownsRow w.heap.size 85 3 (ax P1 p2.length k1_) p2.length (pcs p2)) (fun W=>True) ?_ ?_ (fun wn1 hHeld2 hF _=> ?_)
  ·exact HSB.o _ ((wh hB hb5))
  ·exact⟨wh hB hb5,(ho5.lower (base':=w.heap.size) (by have:=hB.size;omega)).mono (N':=(fun b=>(N b\/b=H+1))) (fun b hb=>by have:=hB.size;rcases hb with hb | hb;(have:=HNW.o b hb;omega);omega),zb hp5 (by have:=hB.size;omega)⟩
  ·trivial
  clear hB hHeld;have hHeld:=hHeld2;clear hHeld2;obtain⟨hB,ho,hl⟩:=hF;clear hb5 ho5 hp5;clear hK K
  refine wP 8 ?_;refine wP 9 ?_;refine wP 10 ?_;refine wP 11 ?_;refine wU 12 fun K hK=>?_;have hba:=wj wn1 (aB #[ax aC 0 0,ax aC 0 0,ay az 0,ay az 0] 34);have hn:=Arr.new wn1 34 [ax aC 0 0,ax aC 0 0,ay az 0,ay az 0];have hnl:w0.heap.size<=wn1.heap.size:=hB.size;obtain⟨g5,hge⟩:=wV wn1.heap.size
  have hN:∀b,b=g5->wn1.heap.size<=b:=fun b h=>by rw [h,hge];exact Nat.le_refl _
  rw [<-hge]at hn hnl;go_simp;rw [<-hge];clear hge;refine zR hK ?_ (fun W=>Below w0.heap.size w0 W/\Arr W g5 34 [ax aC 0 0,ax aC 0 0,ay az 0,ay az 0]/\w0.heap.size<=g5/\OwSt W w.heap.size (ax A1 t.aF.length c1) (ax B1 t.aG.length d1) t (fun b=>(N b\/b=H+1)\/b=g5)/\W.ownsRow w.heap.size 85 3 (ax P1 p2.length k1_) p2.length (pcs p2)) (fun W=>True) ?_ ?_ (fun wn2 hHeld2 hF _=> ?_)
  ·exact HSB.o _ ((wh hB hba))
  ·exact⟨wh hB hba,hn,hnl,(ho.wider (N':=(fun b=>(N b\/b=H+1)\/b=g5)) (fun b hb=>hb.elim (fun hb=> .inl hb) (fun hb=> .inr (hN _ hb)))).below hba,zc hl hba⟩
  ·trivial
  clear hl ho hB hHeld;have hHeld:=hHeld2;clear hHeld2;obtain⟨hB,h5,h5l,ho,hl⟩:=hF;clear hba hn hnl hN;clear hK K
  try simp only [sqP]
  have hall:=aE hB (aE h5 (aE h5l (aE ho (aE hl hHeld))));clear hHeld hl ho h5l h5 hB;generalize wn2=wz at hall ⊢
  revert hall;revert wz;revert g5;revert k1_;revert P1;revert d1;revert B1;revert c1;revert A1;exact Rb1.o
 refine z8.cons (o:=_) rfl (fun K hK=> ?_) ?_
 ·
  have hba:=wj wn0 (aB #[ax aC 0 0,ax aC 0 0,ay az 0,ay az 0] 34);have hn:=Arr.new wn0 34 [ax aC 0 0,ax aC 0 0,ay az 0,ay az 0];have hnl:w0.heap.size<=wn0.heap.size:=hB.size;obtain⟨g5,hge⟩:=wV wn0.heap.size
  have hN:∀b,b=g5->wn0.heap.size<=b:=fun b h=>by rw [h,hge];exact Nat.le_refl _
  rw [<-hge]at hn hnl;go_simp;rw [<-hge];clear hge;refine zR hK ?_ (fun W=>Below w0.heap.size w0 W/\Arr W g5 34 [ax aC 0 0,ax aC 0 0,ay az 0,ay az 0]/\w0.heap.size<=g5) (fun W=>True) ?_ ?_ (fun wn3 hHeld2 hF _=> ?_)
  ·exact HSB.o _ ((wh hB hba))
  ·exact⟨wh hB hba,hn,hnl⟩
  ·trivial
  clear hB hHeld;have hHeld:=hHeld2;clear hHeld2;obtain⟨hB,h5,h5l⟩:=hF;clear hba hn hnl hN;clear hK K
  try simp only [sqP]
  refine wU 7 fun K hK=>?_;go_simp;refine(HPB.o wn3 hB).mono ?_;rintro e5 w5 ⟨v1,v2,vp,rfl,ho5,hp5,hb5⟩;obtain⟨A1,c1,B1,d1,rfl,rfl, -⟩:=ho5.rows;obtain⟨P1,k1_,rfl, -, -⟩:=Rd.of_own' hp5;dsimp only;refine zR hK ?_ (fun W=>Below w0.heap.size w0 W/\Arr W g5 34 [ax aC 0 0,ax aC 0 0,ay az 0,ay az 0]/\w0.heap.size<=g5/\OwSt W w.heap.size (ax A1 t.aF.length c1) (ax B1 t.aG.length d1) t (fun b=>(N b\/b=H+1)\/b=g5)/\W.ownsRow w.heap.size 85 3 (ax P1 p2.length k1_) p2.length (pcs p2)) (fun W=>True) ?_ ?_ (fun wn4 hHeld2 hF _=> ?_)
  ·exact HSB.o _ ((wh hB hb5))
  ·exact⟨wh hB hb5,h5.below hb5,h5l,(ho5.lower (base':=w.heap.size) (by have:=hB.size;omega)).mono (N':=(fun b=>(N b\/b=H+1)\/b=g5)) (fun b hb=>hb.elim (fun hb=>by have:=hB.size;rcases hb with hb | hb;(have:=HNW.o b hb;omega);omega) (fun hb=>(by rw [hb];exact h5.lt))),zb hp5 (by have:=hB.size;omega)⟩
  ·trivial
  clear h5l h5 hB hHeld;have hHeld:=hHeld2;clear hHeld2;obtain⟨hB,h5,h5l,ho,hl⟩:=hF;clear hb5 ho5 hp5;clear hK K
  refine wP 8 ?_;refine wP 9 ?_;refine wP 10 ?_;refine wP 11 ?_;have hall:=aE hB (aE h5 (aE h5l (aE ho (aE hl hHeld))));clear hHeld hl ho h5l h5 hB;generalize wn4=wz at hall ⊢
  revert hall;revert wz;revert g5;revert k1_;revert P1;revert d1;revert B1;revert c1;revert A1;exact Rb1.o
 exact z8.nil;intro A1 c1 B1 d1 P1 k1_ g5 wRb1 hall;obtain⟨hB,h5,h5l,ho,hl,hHeld⟩:=hall;refine za (rs:= [13]) wo wu ?_;refine z8.store (o:=_) rfl ww (fun K hK=> ?_) ?_
 ·
  have hqho:=ho.nb h5 ws ws;have hqhl:=zg hl h5 ws;obtain⟨z0,f0,z1,f1,z2,f2,z3,f3⟩:=wZ h5;go_simp;clear z0 f0 z1 f1 z2 f2 z3 f3;refine vd hK (fun W=>Below w0.heap.size w0 W/\Arr W g5 34 [(ax A1 t.aF.length c1),(ax B1 t.aG.length d1),ay az t.aI,ay az t.aH]/\w0.heap.size<=g5/\OwSt W w.heap.size (ax A1 t.aF.length c1) (ax B1 t.aG.length d1) t (fun b=>(N b\/b=H+1)\/b=g5)/\W.ownsRow w.heap.size 85 3 (ax P1 p2.length k1_) p2.length (pcs p2)) (fun W=>True) ?_ ?_ (fun wn5 hF _=> ?_)
  ·exact⟨((((hB).setCell (p:=⟨g5,0,aC⟩) h5l _).setCell (p:=⟨g5,1,aC⟩) h5l _).setCell (p:=⟨g5,2,aC⟩) h5l _).setCell (p:=⟨g5,3,aC⟩) h5l _,h5.all4 _ _ _ _,h5l,ho.set4N (.inr rfl) hqho.1 hqho.2 _ _ _ _,qt hl hqhl _ _ _ _⟩
  ·trivial
  clear hl ho h5l h5 hB hHeld;obtain⟨hB,h5,h5l,ho,hl⟩:=hF;clear hqho hqhl;clear hK K
  refine wP 14 ?_;refine wP 15 ?_;refine zq wo ?_ _
  try dsimp only [Exit.then]
  have hall:=aE hB (aE h5 (aE h5l (aE ho hl)));clear hl ho h5l h5 hB;generalize wn5=wz at hall ⊢
  revert hall;revert wz;revert g5;revert k1_;revert P1;revert d1;revert B1;revert c1;revert A1;exact REST.o
 exact z8.nil;intro A1 c1 B1 d1 P1 k1_ g5 w3 hall;obtain⟨hB,h5,h5l,ho,hl⟩:=hall;have HSB:=sqH (show ∀W,Below w3.heap.size w3 W->wD W g5 (ax A1 t.aF.length c1) (ax B1 t.aG.length d1) (ay az t.aI) (ay az t.aH) from fun W h=>sqC4 (h5.below h));have HSG:=sqH (show ∀W W',Below w3.heap.size w3 W->W.grownBy W' (aD g)->wD W' g5 (ax A1 t.aF.length c1) (ax B1 t.aG.length d1) (ay az t.aI) (ay az t.aH) from fun W W' h h'=>by
  have h6:=(h5.below h).grown h' ab;exact sqC4 h6)
 have HSK:=sqH (show ∀W W':World,(wD W g5 (ax A1 t.aF.length c1) (ax B1 t.aG.length d1) (ay az t.aI) (ay az t.aH))->Below W.heap.size W W'->wD W' g5 (ax A1 t.aF.length c1) (ax B1 t.aG.length d1) (ay az t.aI) (ay az t.aH) from fun W W' h h'=>by have h2:=zY h' aC;exact⟨h2.cell h.1 wu,h2.cell h.2.1 wu,h2.cell h.2.2.1 wu,h2.cell h.2.2.2 wu⟩);have hot:=(ho.wider (N':=(fun b=>N b\/b=H+1\/w3.heap.size<=b)) (fun b hb=>hb.elim (fun h=> .inl (.inl (.inl h))) (fun h=>h.elim (fun h=> .inl (.inl (.inr h))) (fun h=> .inr h)))).lower (base':=g+1) wm;have HKP:=sqH (fun (W:World) (h:Below w3.heap.size w3 W)=>Kb g ⟨X,cX,Y,dY,G,ng,F,cF⟩ ⟨s,co,fs⟩ _ _ (ax G co.aJ.length ng) t co q W (fun b=>N b\/b=H+1\/w3.heap.size<=b) (.inl hNg) ((HDK.o _ (wh hB h)).mono fun b hb=>hb.imp id fun h=>by(have:=hB.size;rcases h with h | h<;>omega)) (fun _=>⟨hot.below h,zc (HDK.o _ hB).own.c h⟩));have HBX3:=sqH (HBX.o.trans (hB.mono hws));have hws3:w.heap.size<=w3.heap.size:=Nat.le_trans hws hB.size;have hHl3:H+1<w3.heap.size:=Nat.lt_of_lt_of_le hHl hB.size;have hgl3:g<w3.heap.size:=wm;have hg5l:g5<w3.heap.size:=h5.lt;replace HR:=z0u HR hB;replace HBC:=z0u HBC hB;clear hot h5 ho hB;have hl0:=hl;clear hl h5l HPB
 refine wI 6 ?_;intros;iterate 1 (first | go_values | go_skip | go_guarded | go_step | go_upon | go_back)
 apply zE;intro REST2;apply zE;intro Rc1;apply zE;intro Rc2;refine ze [10] (S:=(fun w'=>wD w' g5 (ax A1 t.aF.length c1) (ax B1 t.aG.length d1) (ay az t.aI) (ay az t.aH))) wo ?_ (fun hHeld=> ?_)
 ·exact HSB.o _ (Below.refl w3.heap.size w3).drew
 have hB:=(Below.refl w3.heap.size w3).drew;have hl:=zc hl0 (Below.refl w3.heap.size w3).drew;generalize w3.drew=wn0 at *
 refine wP 0 ?_;refine wO 1 ?_;refine wP 2 ?_;refine wP 3 ?_;refine wP 4 ?_;refine wP 5 ?_;refine wP 7 ?_;refine za (rs:= [6,9]) wo wu ?_;refine z8.cons (o:=_) rfl (fun K hK=> ?_) ?_
 ·
  obtain⟨y0,y1,y2,y3,y4,y5,y6,y7⟩:=HBC.o _ hB;go_simp;clear y0 y1 y2 y3 y4 y5 y6 y7;refine zR hK ?_ (fun W=>Below w3.heap.size w3 W/\W.ownsRow w.heap.size 85 3 (ax P1 p2.length k1_) p2.length (pcs p2)) (fun W=>True) ?_ ?_ (fun wn1 hHeld2 hF _=> ?_)
  ·exact HSB.o _ hB
  ·exact⟨hB,hl⟩
  ·trivial
  clear hl hB hHeld;have hHeld:=hHeld2;clear hHeld2;obtain⟨hB,hl⟩:=hF;clear hK K
  try simp only [sqP]
  refine za (rs:= [8,9]) wo wu ?_;refine z8.cons (o:=_) rfl (fun K hK=> ?_) ?_
  ·
   go_simp;refine(HKP.o wn1 hB).mono ?_;rintro e5 w5 ⟨rfl,hg5,hd5⟩;dsimp only;refine zR hK ?_ (fun W=>w.grownBy W (aD g)/\(∃p2,DkB W g p2 (zH ⟨s,co,fs⟩ t co q) (fun b=>N b\/b=H+1\/w3.heap.size<=b))/\Arr W (H+1) 47 [ay az 0,aA ⟨#[]⟩,ax aC 0 0,ax aC 0 0,ay az 0,ax aC 0 0]/\w3.heap.size<=W.heap.size/\W.ownsRow w.heap.size 85 3 (ax P1 p2.length k1_) p2.length (pcs p2)) (fun W=>True) ?_ ?_ (fun wn2 hHeld2 hF _=> ?_)
   ·exact HSG.o _ _ hB hg5
   ·exact⟨zP (HBX3.o.trans (hB.mono wm)) hg5,hd5,(HR.o _ hB).grown hg5 ab,Nat.le_trans hB.size hg5.size,kf hl hg5 hgw⟩
   ·trivial
   clear hl hB hHeld;have hHeld:=hHeld2;clear hHeld2;obtain⟨hKg,hD,hR,hKl,hl⟩:=hF;clear hg5 hd5;clear hK K
   try simp only [sqP]
   refine wU 9 fun K hK=>?_;have hba:=wj wn2 (aB #[ay az 0,aA ⟨#[]⟩,ax aC 0 0,ax aC 0 0,ay az 0,ax aC 0 0] 47);have hn:=Arr.new wn2 47 [ay az 0,aA ⟨#[]⟩,ax aC 0 0,ax aC 0 0,ay az 0,ax aC 0 0];have hnl:w3.heap.size<=wn2.heap.size:=hKl;obtain⟨ga,hge⟩:=wV wn2.heap.size
   rw [<-hge]at hn hnl;go_simp;rw [<-hge];clear hge;refine zR hK ?_ (fun W=>w.grownBy W (aD g)/\(∃p2,DkB W g p2 (zH ⟨s,co,fs⟩ t co q) (fun b=>N b\/b=H+1\/w3.heap.size<=b))/\Arr W (H+1) 47 [ay az 0,aA ⟨#[]⟩,ax aC 0 0,ax aC 0 0,ay az 0,ax aC 0 0]/\Arr W ga 47 [ay az 0,aA ⟨#[]⟩,ax aC 0 0,ax aC 0 0,ay az 0,ax aC 0 0]/\w3.heap.size<=ga/\W.ownsRow w.heap.size 85 3 (ax P1 p2.length k1_) p2.length (pcs p2)) (fun W=>True) ?_ ?_ (fun wn3 hHeld2 hF _=> ?_)
   ·exact HSK.o _ _ hHeld hba
   ·exact⟨zO hKg hba,hD.imp fun _ h=>h.below hba,hR.below hba,hn,hnl,zc hl hba⟩
   ·trivial
   clear hl hKl hR hD hKg hHeld;have hHeld:=hHeld2;clear hHeld2;obtain⟨hKg,hD,hR,hA,hAl,hl⟩:=hF;clear hba hn hnl;clear hK K
   try simp only [sqP]
   have hall:=aE hKg (aE hD (aE hR (aE hA (aE hAl (aE hl hHeld)))));clear hHeld hl hAl hA hR hD hKg;generalize wn3=wz at hall ⊢
   revert hall;revert wz;revert ga;exact Rc1.o
  refine z8.cons (o:=_) rfl (fun K hK=> ?_) ?_
  ·
   have hba:=wj wn1 (aB #[ay az 0,aA ⟨#[]⟩,ax aC 0 0,ax aC 0 0,ay az 0,ax aC 0 0] 47);have hn:=Arr.new wn1 47 [ay az 0,aA ⟨#[]⟩,ax aC 0 0,ax aC 0 0,ay az 0,ax aC 0 0];have hnl:w3.heap.size<=wn1.heap.size:=hB.size;obtain⟨ga,hge⟩:=wV wn1.heap.size
   rw [<-hge]at hn hnl;go_simp;rw [<-hge];clear hge;refine zR hK ?_ (fun W=>Below w3.heap.size w3 W/\Arr W ga 47 [ay az 0,aA ⟨#[]⟩,ax aC 0 0,ax aC 0 0,ay az 0,ax aC 0 0]/\w3.heap.size<=ga/\W.ownsRow w.heap.size 85 3 (ax P1 p2.length k1_) p2.length (pcs p2)) (fun W=>True) ?_ ?_ (fun wn4 hHeld2 hF _=> ?_)
   ·exact HSB.o _ (wh hB hba)
   ·exact⟨wh hB hba,hn,hnl,zc hl hba⟩
   ·trivial
   clear hl hB hHeld;have hHeld:=hHeld2;clear hHeld2;obtain⟨hB,hA,hAl,hl⟩:=hF;clear hba hn hnl;clear hK K
   try simp only [sqP]
   have hall:=aE hB (aE hA (aE hAl (aE hl hHeld)));clear hHeld hl hAl hA hB;generalize wn4=wz at hall ⊢
   revert hall;revert wz;revert ga;exact Rc2.o
  exact z8.nil
 refine z8.cons (o:=_) rfl (fun K hK=> ?_) ?_
 ·
  have hba:=wj wn0 (aB #[ay az 0,aA ⟨#[]⟩,ax aC 0 0,ax aC 0 0,ay az 0,ax aC 0 0] 47);have hn:=Arr.new wn0 47 [ay az 0,aA ⟨#[]⟩,ax aC 0 0,ax aC 0 0,ay az 0,ax aC 0 0];have hnl:w3.heap.size<=wn0.heap.size:=hB.size;obtain⟨ga,hge⟩:=wV wn0.heap.size
  rw [<-hge]at hn hnl;go_simp;rw [<-hge];clear hge;refine zR hK ?_ (fun W=>Below w3.heap.size w3 W/\Arr W ga 47 [ay az 0,aA ⟨#[]⟩,ax aC 0 0,ax aC 0 0,ay az 0,ax aC 0 0]/\w3.heap.size<=ga/\W.ownsRow w.heap.size 85 3 (ax P1 p2.length k1_) p2.length (pcs p2)) (fun W=>True) ?_ ?_ (fun wn5 hHeld2 hF _=> ?_)
  ·exact HSB.o _ (wh hB hba)
  ·exact⟨wh hB hba,hn,hnl,zc hl hba⟩
  ·trivial
  clear hl hB hHeld;have hHeld:=hHeld2;clear hHeld2;obtain⟨hB,hA,hAl,hl⟩:=hF;clear hba hn hnl;clear hK K
  try simp only [sqP]
  refine wU 6 fun K hK=>?_;obtain⟨y0,y1,y2,y3,y4,y5,y6,y7⟩:=HBC.o _ hB;go_simp;clear y0 y1 y2 y3 y4 y5 y6 y7;refine zR hK ?_ (fun W=>Below w3.heap.size w3 W/\Arr W ga 47 [ay az 0,aA ⟨#[]⟩,ax aC 0 0,ax aC 0 0,ay az 0,ax aC 0 0]/\w3.heap.size<=ga/\W.ownsRow w.heap.size 85 3 (ax P1 p2.length k1_) p2.length (pcs p2)) (fun W=>True) ?_ ?_ (fun wn6 hHeld2 hF _=> ?_)
  ·exact HSB.o _ hB
  ·exact⟨hB,hA,hAl,hl⟩
  ·trivial
  clear hl hAl hA hB hHeld;have hHeld:=hHeld2;clear hHeld2;obtain⟨hB,hA,hAl,hl⟩:=hF;clear hK K
  try simp only [sqP]
  have hall:=aE hB (aE hA (aE hAl (aE hl hHeld)));clear hHeld hl hAl hA hB;generalize wn6=wz at hall ⊢
  revert hall;revert wz;revert ga;exact Rc2.o
 exact z8.nil;intro ga wRc2 hall;obtain⟨hB,hA,hAl,hl,hHeld⟩:=hall;refine za (rs:= [8]) wo wu ?_;refine z8.cons (o:=_) rfl (fun K hK=> ?_) ?_
 ·
  go_simp;refine(HKP.o wRc2 hB).mono ?_;rintro e5 w5 ⟨rfl,hg5,hd5⟩;dsimp only;refine zR hK ?_ (fun W=>w.grownBy W (aD g)/\(∃p2,DkB W g p2 (zH ⟨s,co,fs⟩ t co q) (fun b=>N b\/b=H+1\/w3.heap.size<=b))/\Arr W (H+1) 47 [ay az 0,aA ⟨#[]⟩,ax aC 0 0,ax aC 0 0,ay az 0,ax aC 0 0]/\Arr W ga 47 [ay az 0,aA ⟨#[]⟩,ax aC 0 0,ax aC 0 0,ay az 0,ax aC 0 0]/\w3.heap.size<=ga/\W.ownsRow w.heap.size 85 3 (ax P1 p2.length k1_) p2.length (pcs p2)) (fun W=>True) ?_ ?_ (fun wn7 hHeld2 hF _=> ?_)
  ·exact HSG.o _ _ hB hg5
  ·exact⟨zP (HBX3.o.trans (hB.mono wm)) hg5,hd5,(HR.o _ hB).grown hg5 ab,hA.grown hg5 ab,hAl,kf hl hg5 hgw⟩
  ·trivial
  clear hl hAl hA hB hHeld;have hHeld:=hHeld2;clear hHeld2;obtain⟨hKg,hD,hR,hA,hAl,hl⟩:=hF;clear hg5 hd5;clear hK K
  try simp only [sqP]
  have hall:=aE hKg (aE hD (aE hR (aE hA (aE hAl (aE hl hHeld)))));clear hHeld hl hAl hA hR hD hKg;generalize wn7=wz at hall ⊢
  revert hall;revert wz;revert ga;exact Rc1.o
 exact z8.nil;intro ga wRc1 hall;obtain⟨hKg,hD,hR,hA,hAl,hl,hHeld⟩:=hall;refine za (rs:= [10]) wo wu ?_;refine z8.store (o:=_) rfl ww (fun K hK=> ?_) ?_
 ·
  obtain⟨z0,f0,z1,f1,z2,f2,z3,f3,z4,f4,z5,f5⟩:=wg hA;go_simp;clear z0 f0 z1 f1 z2 f2 z3 f3 z4 f4 z5 f5;refine vd hK (fun W=>w.grownBy W (aD g)/\(∃p2,DkB W g p2 (zH ⟨s,co,fs⟩ t co q) (fun b=>N b\/b=H+1\/w3.heap.size<=b))/\Arr W (H+1) 47 [ay az 0,aA ⟨#[]⟩,ax aC 0 0,ax aC 0 0,ay az 0,ax aC 0 0]/\Arr W ga 47 [ay az q,aA ⟨#[]⟩,ax aC 0 0,ax aC 0 0,ay az 0,ax aC 0 0]/\w3.heap.size<=ga/\W.ownsRow w.heap.size 85 3 (ax P1 p2.length k1_) p2.length (pcs p2)) (fun W=>True) ?_ ?_ (fun wn8 hF _=> ?_)
  ·exact⟨zl hKg wm _ _ _ _ _ _,hD.imp fun _ h=>h.set6 hA (.inr (.inr hAl)) wm _ _ _ _ _ _,((((((hR.other wm _).other wm _).other wm _).other wm _).other wm _).other wm _),hA.all6 _ _ _ _ _ _,hAl,qu hl (zg hl hA ws) _ _ _ _ _ _⟩
  ·trivial
  clear hl hAl hA hR hD hKg hHeld;obtain⟨hKg,hD,hR,hA,hAl,hl⟩:=hF;clear hK K
  try simp only [sqP]
  refine zq wo ?_ _
  try dsimp only [Exit.then]
  have hall:=aE hKg (aE hD (aE hR (aE hA (aE hAl hl))));clear hl hAl hA hR hD hKg;generalize wn8=wz at hall ⊢
  revert hall;revert wz;revert ga;exact REST2.o
 exact z8.nil;intro ga w4 hall;obtain⟨hKg,hD,hR,hA,hAl,hl⟩:=hall;have hA3:=hA.set (k:=3) wu (ax P1 p2.length k1_);have hR5:=hR.other (k:=3) (g':=ga) (show H+1≠ga by omega) (ax P1 p2.length k1_);have hl5:=zd (k:=3) (u:= ax P1 p2.length k1_) hl (zg hl hA ws);obtain⟨HL5,HX,HA3⟩:=sqJ3 hl5 (aE (hD.imp fun _ h=>h.set hA (.inr (.inr hAl)) (show g≠ga by omega) (ax P1 p2.length k1_) (k:=3)) (aE (zt (k:=3) (u:= ax P1 p2.length k1_) hKg (show w.heap.size<=ga by omega)) hR5)) hA3;have c3:=hA.c3;have q3:=hA.frozen 3;clear hA3 hR5 hl5 hl hl0 hA hR hD hKg hAl
 refine wJ 8 ?_;intros;generalize w4.setCell ⟨ga,3,aC⟩ (ax P1 p2.length k1_)=w5 at *
 have hr3:=HX.o.2.2;have hz5:Arr w5 ga 47 [ay az q,aA ⟨#[]⟩,ax aC 0 0,ax P1 p2.length k1_,ay az 0,ax aC 0 0]:=HA3.o;clear c3 q3;obtain⟨z0,z1,z2,z3,z4,z5⟩:=sqC6 hz5;clear hz5;obtain⟨f0,f1,f2,f3,f4,f5⟩:=sqF6 hr3;obtain⟨y0,y1,y2,y3,y4,y5⟩:=sqC6 hr3;have HR3:=sqH hr3;have HF:=sqH (hr3.all6 (ay az q) (aA ⟨#[]⟩) (ax aC 0 0) (ax P1 p2.length k1_) (ay az 0) (ax aC 0 0));clear hr3
 refine wH ?_;intros;refine bodyPost_ret (results_cell_row rfl _ _ (H+1) _ _ _ _ ww HF.o underlying47 rfl wo) rfl ?_;have e1:entD ⟨s,co,fs⟩ ⟨kd,n,dg,D,ps⟩=(zH ⟨s,co,fs⟩ t co q,⟨q, [], [],p2,0, []⟩):=by
  unfold entD;rw [if_neg (show ¬(kd=5) by have:=HK.o;omega),if_pos (show kd=6 from HK.o)];dsimp only;rw [HPD.o]
 rw [e1];obtain⟨⟨p',hd4⟩,hg5,hr5⟩:=HX.o;exact⟨_,_,_,rfl,zl hg5 hHw1 _ _ _ _ _ _,⟨p',(hd4.set6 hr5 (.inr (.inl rfl)) hgH _ _ _ _ _ _).mono fun b h=> .inl h⟩,⟨World.ownsRow_nil _ _ _ _,qu HL5.o (zg HL5.o hr5 ws) _ _ _ _ _ _,World.ownsRow_nil _ _ _ _⟩⟩
theorem z2r (g:Nat) (p:LoW) (l:LoP) (kd n:Nat) (dg D:ae) (ps:List PartP) (A:af) (c:Nat) (A':af) (c':Nat) (w:World) (hL:GoodL l) (h1:kd=7\/kd=8) (N:aj) (hNg:N g) (hNw:∀b,N b->b<w.heap.size) (hb:DkB w g p l N) (hd:Sl w 1 A D.length c (bys D)) (hq:Sl w 3 A' ps.length c' (pcs ps)) :
  Calls Tryz.prog 67 #[.pointer (aD ⟨g,0,aC⟩),orV kd n dg D ps A c A' c'] w (k5 w g N (entD l ⟨kd,n,dg,D,ps⟩)):=by
 have k1:((kd:Int)==5)=false:=by rw [beq_eq_false_iff_ne];omega
 have k2:((kd:Int)==6)=false:=by rw [beq_eq_false_iff_ne];omega
 have k3:((kd:Int)==7)=decide (kd=7):=by rw [Bool.eq_iff_iff,beq_iff_eq,decide_eq_true_iff];omega
 have HK:=sqH h1;have HK3:=sqH k3;clear h1 k3;obtain⟨X,cX,Y,dY,G,ng,F,cF⟩:=p;obtain⟨s,co,fs⟩:=l;have hgl:=hb.lt;have hgw:=hb.lt;have hbw:=hb.wider (N':=fun b=>N b\/w.heap.size<=b) (fun b h=>h);obtain⟨w0,hw0,hP,hR,hbx⟩:=zo w 29 47 [ay az kd,ay az n,aA ⟨dg.toArray⟩,ax A D.length c,ax A' ps.length c'] [ay az 0,aA ⟨#[]⟩,ax aC 0 0,ax aC 0 0,ay az 0,ax aC 0 0];have HDK:=sqH (show ∀W,Below w0.heap.size w0 W->DkB W g ⟨X,cX,Y,dY,G,ng,F,cF⟩ ⟨s,co,fs⟩ (fun b=>N b\/w.heap.size<=b) from fun W h=>(hbw.below hbx).below h);have HBC:=sqH (show ∀W,Below w0.heap.size w0 W->wF W g (ax X s.aF.length cX) (ax Y s.aG.length dY) (ay az s.aI) (ay az s.aH) (ay az co.aK) (ax G co.aJ.length ng) (aA ⟨co.at_.toArray⟩) (ax F fs.length cF) from fun W h=>by
  have b:=(HDK.o W h).box;exact sqC8 b)
 have hws:=hbx.size;obtain⟨HBX,HD,HQ⟩:=sqJ3 hbx (hd.below hbx) (hq.below hbx);obtain⟨H,hH⟩:=wV w.heap.size
 rw [<-hH]at hP hR hgl;have hHw:w.heap.size<=H:=wm;have hHw1:w.heap.size<=H+1:=wm;have hgH:g≠H+1:=wm;have hHl:H+1<w0.heap.size:=hR.lt;obtain⟨HP,HR,HL,HNW⟩:=sqJ4 (show ∀W,Below w0.heap.size w0 W->Arr W H 29 (orC kd n dg D ps A c A' c') from fun W h=>hP.below h) (show ∀W,Below w0.heap.size w0 W->Arr W (H+1) 47 QW from fun W h=>hR.below h) hL hNw;obtain⟨x0,x1,x2,x3,x4⟩:=sqC5 hP;have HW0:=sqH hw0;have HH:=sqH hH;rw [hw0,hH]at x0 x1 x2 x3 x4;clear hb hbw hbx hd hq hP hR hL hw0 hH hNw;go_enter func67,ntmps67
 refine wI 9 ?_;intros;rw [<-HW0.o,<-HH.o];clear x0 x1 x2 x3 x4;have HPB:=sqH (fun W (h:Below w0.heap.size w0 W)=>z2s X cX Y dY s W dg (decide (kd=7)) HL.o.s (HDK.o W h).rd.s);rw [<-HK3.o]at HPB;generalize hpb:heP s dg ((kd:Int)==7)=r at HPB;obtain⟨t,q⟩:=r;dsimp only at HPB;have HPD:=sqH hpb;clear hpb;have HSB:=sqH (show ∀W,Below w0.heap.size w0 W->(wD W g (ax X s.aF.length cX) (ax Y s.aG.length dY) (ay az s.aI) (ay az s.aH))/\W.cell? ⟨H,2,aC⟩=aD (aA ⟨dg.toArray⟩)/\W.cell? ⟨H,0,aC⟩=aD (ay az kd) from fun W h=>by
  obtain⟨y0,y1,y2,y3,_⟩:=HBC.o W h;exact⟨⟨y0,y1,y2,y3⟩,(HP.o W h).c2,(HP.o W h).c0⟩)
 iterate 1 (first | go_values | go_skip | go_guarded | go_step | go_upon | go_back)
 apply zE;intro REST;apply zE;intro Rb1;refine ze [15] (S:=(fun w'=>(wD w' g (ax X s.aF.length cX) (ax Y s.aG.length dY) (ay az s.aI) (ay az s.aH))/\w'.cell? ⟨H,2,aC⟩=aD (aA ⟨dg.toArray⟩)/\w'.cell? ⟨H,0,aC⟩=aD (ay az kd))) wo ?_ (fun hHeld=> ?_)
 ·exact HSB.o _ (((wi w0)).drew)
 have hB:=((wi w0)).drew;generalize w0.drew=wn0 at *
 refine wP 0 ?_;refine wP 1 ?_;refine wP 2 ?_;refine wP 3 ?_;refine wO 4 ?_;refine wP 5 ?_;refine wO 6 ?_;refine wP 7 ?_;refine wO 8 ?_;refine wP 9 ?_;refine za (rs:= [10,14]) wo wu ?_;refine z8.cons (o:=_) rfl (fun K hK=> ?_) ?_
 ·
  go_simp;refine(HPB.o wn0 hB).mono ?_;rintro e5 w5 ⟨v1,v2,rfl,ho5,hb5⟩;obtain⟨A1,c1,B1,d1,rfl,rfl, -⟩:=ho5.rows;dsimp only;refine zR hK ?_ (fun W=>Below w0.heap.size w0 W/\OwSt W w.heap.size (ax A1 t.aF.length c1) (ax B1 t.aG.length d1) t (fun b=>(N b\/b=H+1))) (fun W=>True) ?_ ?_ (fun wn1 hHeld2 hF _=> ?_)
  ·exact HSB.o _ ((wh hB hb5))
  ·exact⟨wh hB hb5,(ho5.lower (base':=w.heap.size) (by have:=hB.size;omega)).mono (N':=(fun b=>(N b\/b=H+1))) (fun b hb=>by have:=hB.size;rcases hb with hb | hb;(have:=HNW.o b hb;omega);omega)⟩
  ·trivial
  clear hB hHeld;have hHeld:=hHeld2;clear hHeld2;obtain⟨hB,ho⟩:=hF;clear hb5 ho5;clear hK K
  refine wP 11 ?_;refine wP 12 ?_;refine wP 13 ?_;refine wU 14 fun K hK=>?_;have hba:=wj wn1 (aB #[ax aC 0 0,ax aC 0 0,ay az 0,ay az 0] 34);have hn:=Arr.new wn1 34 [ax aC 0 0,ax aC 0 0,ay az 0,ay az 0];have hnl:w0.heap.size<=wn1.heap.size:=hB.size;obtain⟨g5,hge⟩:=wV wn1.heap.size
  have hN:∀b,b=g5->wn1.heap.size<=b:=fun b h=>by rw [h,hge];exact Nat.le_refl _
  rw [<-hge]at hn hnl;go_simp;rw [<-hge];clear hge;refine zR hK ?_ (fun W=>Below w0.heap.size w0 W/\Arr W g5 34 [ax aC 0 0,ax aC 0 0,ay az 0,ay az 0]/\w0.heap.size<=g5/\OwSt W w.heap.size (ax A1 t.aF.length c1) (ax B1 t.aG.length d1) t (fun b=>(N b\/b=H+1)\/b=g5)) (fun W=>True) ?_ ?_ (fun wn2 hHeld2 hF _=> ?_)
  ·exact HSB.o _ ((wh hB hba))
  ·exact⟨wh hB hba,hn,hnl,(ho.wider (N':=(fun b=>(N b\/b=H+1)\/b=g5)) (fun b hb=>hb.elim (fun hb=> .inl hb) (fun hb=> .inr (hN _ hb)))).below hba⟩
  ·trivial
  clear ho hB hHeld;have hHeld:=hHeld2;clear hHeld2;obtain⟨hB,h5,h5l,ho⟩:=hF;clear hba hn hnl hN;clear hK K
  try simp only [sqP]
  have hall:=aE hB (aE h5 (aE h5l (aE ho hHeld)));clear hHeld ho h5l h5 hB;generalize wn2=wz at hall ⊢
  revert hall;revert wz;revert g5;revert d1;revert B1;revert c1;revert A1;exact Rb1.o
 refine z8.cons (o:=_) rfl (fun K hK=> ?_) ?_
 ·
  have hba:=wj wn0 (aB #[ax aC 0 0,ax aC 0 0,ay az 0,ay az 0] 34);have hn:=Arr.new wn0 34 [ax aC 0 0,ax aC 0 0,ay az 0,ay az 0];have hnl:w0.heap.size<=wn0.heap.size:=hB.size;obtain⟨g5,hge⟩:=wV wn0.heap.size
  have hN:∀b,b=g5->wn0.heap.size<=b:=fun b h=>by rw [h,hge];exact Nat.le_refl _
  rw [<-hge]at hn hnl;go_simp;rw [<-hge];clear hge;refine zR hK ?_ (fun W=>Below w0.heap.size w0 W/\Arr W g5 34 [ax aC 0 0,ax aC 0 0,ay az 0,ay az 0]/\w0.heap.size<=g5) (fun W=>True) ?_ ?_ (fun wn3 hHeld2 hF _=> ?_)
  ·exact HSB.o _ ((wh hB hba))
  ·exact⟨wh hB hba,hn,hnl⟩
  ·trivial
  clear hB hHeld;have hHeld:=hHeld2;clear hHeld2;obtain⟨hB,h5,h5l⟩:=hF;clear hba hn hnl hN;clear hK K
  try simp only [sqP]
  refine wU 10 fun K hK=>?_;go_simp;refine(HPB.o wn3 hB).mono ?_;rintro e5 w5 ⟨v1,v2,rfl,ho5,hb5⟩;obtain⟨A1,c1,B1,d1,rfl,rfl, -⟩:=ho5.rows;dsimp only;refine zR hK ?_ (fun W=>Below w0.heap.size w0 W/\Arr W g5 34 [ax aC 0 0,ax aC 0 0,ay az 0,ay az 0]/\w0.heap.size<=g5/\OwSt W w.heap.size (ax A1 t.aF.length c1) (ax B1 t.aG.length d1) t (fun b=>(N b\/b=H+1)\/b=g5)) (fun W=>True) ?_ ?_ (fun wn4 hHeld2 hF _=> ?_)
  ·exact HSB.o _ ((wh hB hb5))
  ·exact⟨wh hB hb5,h5.below hb5,h5l,(ho5.lower (base':=w.heap.size) (by have:=hB.size;omega)).mono (N':=(fun b=>(N b\/b=H+1)\/b=g5)) (fun b hb=>hb.elim (fun hb=>by have:=hB.size;rcases hb with hb | hb;(have:=HNW.o b hb;omega);omega) (fun hb=>(by rw [hb];exact h5.lt)))⟩
  ·trivial
  clear h5l h5 hB hHeld;have hHeld:=hHeld2;clear hHeld2;obtain⟨hB,h5,h5l,ho⟩:=hF;clear hb5 ho5;clear hK K
  refine wP 11 ?_;refine wP 12 ?_;refine wP 13 ?_;have hall:=aE hB (aE h5 (aE h5l (aE ho hHeld)));clear hHeld ho h5l h5 hB;generalize wn4=wz at hall ⊢
  revert hall;revert wz;revert g5;revert d1;revert B1;revert c1;revert A1;exact Rb1.o
 exact z8.nil;intro A1 c1 B1 d1 g5 wRb1 hall;obtain⟨hB,h5,h5l,ho,hHeld⟩:=hall;refine za (rs:= [15]) wo wu ?_;refine z8.store (o:=_) rfl ww (fun K hK=> ?_) ?_
 ·
  have hqho:=ho.nb h5 ws ws;obtain⟨z0,f0,z1,f1,z2,f2,z3,f3⟩:=wZ h5;go_simp;clear z0 f0 z1 f1 z2 f2 z3 f3;refine vd hK (fun W=>Below w0.heap.size w0 W/\Arr W g5 34 [(ax A1 t.aF.length c1),(ax B1 t.aG.length d1),ay az t.aI,ay az t.aH]/\w0.heap.size<=g5/\OwSt W w.heap.size (ax A1 t.aF.length c1) (ax B1 t.aG.length d1) t (fun b=>(N b\/b=H+1)\/b=g5)) (fun W=>True) ?_ ?_ (fun wn5 hF _=> ?_)
  ·exact⟨((((hB).setCell (p:=⟨g5,0,aC⟩) h5l _).setCell (p:=⟨g5,1,aC⟩) h5l _).setCell (p:=⟨g5,2,aC⟩) h5l _).setCell (p:=⟨g5,3,aC⟩) h5l _,h5.all4 _ _ _ _,h5l,ho.set4N (.inr rfl) hqho.1 hqho.2 _ _ _ _⟩
  ·trivial
  clear ho h5l h5 hB hHeld;obtain⟨hB,h5,h5l,ho⟩:=hF;clear hqho;clear hK K
  refine wP 16 ?_;refine zq wo ?_ _
  try dsimp only [Exit.then]
  have hall:=aE hB (aE h5 (aE h5l ho));clear ho h5l h5 hB;generalize wn5=wz at hall ⊢
  revert hall;revert wz;revert g5;revert d1;revert B1;revert c1;revert A1;exact REST.o
 exact z8.nil;intro A1 c1 B1 d1 g5 w3 hall;obtain⟨hB,h5,h5l,ho⟩:=hall;have HSB:=sqH (show ∀W,Below w3.heap.size w3 W->wD W g5 (ax A1 t.aF.length c1) (ax B1 t.aG.length d1) (ay az t.aI) (ay az t.aH) from fun W h=>sqC4 (h5.below h));have HSG:=sqH (show ∀W W',Below w3.heap.size w3 W->W.grownBy W' (aD g)->wD W' g5 (ax A1 t.aF.length c1) (ax B1 t.aG.length d1) (ay az t.aI) (ay az t.aH) from fun W W' h h'=>by
  have h6:=(h5.below h).grown h' ab;exact sqC4 h6)
 have HSK:=sqH (show ∀W W':World,(wD W g5 (ax A1 t.aF.length c1) (ax B1 t.aG.length d1) (ay az t.aI) (ay az t.aH))->Below W.heap.size W W'->wD W' g5 (ax A1 t.aF.length c1) (ax B1 t.aG.length d1) (ay az t.aI) (ay az t.aH) from fun W W' h h'=>by have h2:=zY h' aC;exact⟨h2.cell h.1 wu,h2.cell h.2.1 wu,h2.cell h.2.2.1 wu,h2.cell h.2.2.2 wu⟩);have hot:=(ho.wider (N':=(fun b=>N b\/b=H+1)) (fun b hb=> .inl (.inl hb))).lower (base':=g+1) wm;have HKP:=sqH (fun (W:World) (h:Below w3.heap.size w3 W)=>Kb g ⟨X,cX,Y,dY,G,ng,F,cF⟩ ⟨s,co,fs⟩ _ _ (ax G co.aJ.length ng) t co q W (fun b=>N b\/b=H+1) (.inl hNg) ((HDK.o _ (wh hB h)).mono fun b hb=>hb.imp id fun h=>wm) (fun _=>⟨hot.below h,zc (HDK.o _ hB).own.c h⟩));have HBX3:=sqH (HBX.o.trans (hB.mono hws));have hws3:w.heap.size<=w3.heap.size:=Nat.le_trans hws hB.size;have hHl3:H+1<w3.heap.size:=Nat.lt_of_lt_of_le hHl hB.size;have hgl3:g<w3.heap.size:=wm;have hg5l:g5<w3.heap.size:=h5.lt;replace HR:=z0u HR hB;replace HBC:=z0u HBC hB;clear hot h5 ho hB;clear h5l HPB
 refine wI 10 ?_;intros;iterate 1 (first | go_values | go_skip | go_guarded | go_step | go_upon | go_back)
 apply zE;intro REST2;refine ze [9] (S:=(fun w'=>wD w' g5 (ax A1 t.aF.length c1) (ax B1 t.aG.length d1) (ay az t.aI) (ay az t.aH))) wo ?_ (fun hHeld=> ?_)
 ·exact HSB.o _ (Below.refl w3.heap.size w3).drew
 have hB:=(Below.refl w3.heap.size w3).drew;generalize w3.drew=wn0 at *
 refine wP 0 ?_;refine wO 1 ?_;refine wP 2 ?_;refine wP 3 ?_;refine wP 4 ?_;refine wP 5 ?_;refine wP 7 ?_;refine za (rs:= [6]) wo wu ?_;refine z8.cons (o:=_) rfl (fun K hK=> ?_) ?_
 ·
  obtain⟨y0,y1,y2,y3,y4,y5,y6,y7⟩:=HBC.o _ hB;go_simp;clear y0 y1 y2 y3 y4 y5 y6 y7;refine zR hK ?_ (fun W=>Below w3.heap.size w3 W) (fun W=>True) ?_ ?_ (fun wn1 hHeld2 hF _=> ?_)
  ·exact HSB.o _ hB
  ·exact hB
  ·trivial
  clear hB hHeld;have hHeld:=hHeld2;clear hHeld2;have hB:=hF;clear hK K
  try simp only [sqP]
  refine wU 8 fun K hK=>?_;go_simp;refine(HKP.o wn1 hB).mono ?_;rintro e5 w5 ⟨rfl,hg5,hd5⟩;dsimp only;refine zR hK ?_ (fun W=>w.grownBy W (aD g)/\(∃p2,DkB W g p2 (zH ⟨s,co,fs⟩ t co q) (fun b=>N b\/b=H+1))/\Arr W (H+1) 47 [ay az 0,aA ⟨#[]⟩,ax aC 0 0,ax aC 0 0,ay az 0,ax aC 0 0]) (fun W=>True) ?_ ?_ (fun wn2 hHeld2 hF _=> ?_)
  ·exact HSG.o _ _ hB hg5
  ·exact⟨zP (HBX3.o.trans (hB.mono wm)) hg5,hd5,(HR.o _ hB).grown hg5 ab⟩
  ·trivial
  clear hB hHeld;have hHeld:=hHeld2;clear hHeld2;obtain⟨hKg,hD,hR⟩:=hF;clear hg5 hd5;clear hK K
  try simp only [sqP]
  refine wT 9 fun K hK=>?_;obtain⟨z0,f0,z1,f1,z2,f2,z3,f3,z4,f4,z5,f5⟩:=wg hR;go_simp;clear z0 f0 z1 f1 z2 f2 z3 f3 z4 f4 z5 f5;refine vd hK (fun W=>w.grownBy W (aD g)/\(∃p2,DkB W g p2 (zH ⟨s,co,fs⟩ t co q) (fun b=>N b\/b=H+1))/\Arr W (H+1) 47 [ay az q,aA ⟨#[]⟩,ax aC 0 0,ax aC 0 0,ay az 0,ax aC 0 0]) (fun W=>True) ?_ ?_ (fun wn3 hF _=> ?_)
  ·exact⟨zl hKg wm _ _ _ _ _ _,hD.imp fun _ h=>h.set6 hR (.inr rfl) wm _ _ _ _ _ _,hR.all6 _ _ _ _ _ _⟩
  ·trivial
  clear hR hD hKg hHeld;obtain⟨hKg,hD,hR⟩:=hF;clear hK K
  try simp only [sqP]
  refine zq wo ?_ _
  try dsimp only [Exit.then]
  have hall:=aE hKg (aE hD hR);clear hR hD hKg;generalize wn3=wz at hall ⊢
  revert hall;revert wz;exact REST2.o
 exact z8.nil;intro w4 hall;obtain⟨hKg,hD,hR⟩:=hall;have HX:=sqH (aE hD hKg);have HF:=sqH hR;clear hD hKg hR
 refine wH ?_;intros;refine bodyPost_ret (results_cell_row rfl _ _ (H+1) _ _ _ _ ww HF.o underlying47 rfl wo) rfl ?_;have e1:entD ⟨s,co,fs⟩ ⟨kd,n,dg,D,ps⟩=(zH ⟨s,co,fs⟩ t co q,KJ q):=by
  unfold entD;rw [if_neg (show ¬(kd=5) by have:=HK.o;omega),if_neg (show ¬(kd=6) by have:=HK.o;omega)];dsimp only;rw [<-HK3.o,HPD.o]
 rw [e1];obtain⟨⟨p2,hD⟩,hK⟩:=HX.o;exact⟨_,_,_,rfl,hK,⟨p2,hD.mono fun b h=> .inl h⟩,.e_ q⟩
end Go.Proofs.YtaboknhfiijipaaGreat
