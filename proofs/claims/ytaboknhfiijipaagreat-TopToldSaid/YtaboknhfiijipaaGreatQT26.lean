/- Lemmas, as stated. -/
import Derived.Test.YtaboknhfiijipaaGreatQT23
set_option linter.unusedVariables false
set_option linter.unusedSimpArgs false
set_option maxRecDepth 100000
set_option maxHeartbeats 16000000
open Go.Value renaming slice->ax,int->ay,string->aA
open Go.IntKind renaming i64->az
open Option renaming none->aC
open And renaming intro->aE
namespace Go.Proofs.YtaboknhfiijipaaGreat
open Go.RowKit Go.Maps
theorem zE {P Q:Prop} (h:Hid P->Q) (p:P):Q:=h (Lib.hid p)
theorem J5 (A:af) (c:Nat) (B:af) (d:Nat) (s:StoP) (Ag:af) (ng:Nat) (cp:ColP) (key:ae) (ps:List PartP) (PA:af) (pc:Nat) (w:World) (hg:GoodS s) (hr:RdSt w A c B d s) (hgl:cp.aJ.length<=1000) (hgc:GoodC s cp) (hc:RdC w Ag ng cp) (hk:hexC key=0) (hpz:chk ps=0) (hhv:qA s.aF ps=0) (hclk:s.aH<1099511627776) (hlen:s.aG.length<10) (hP:Sl w 3 PA ps.length pc (pcs ps)) (t:StoP) (ht:t=xo s key ps) (htg0:GoodS t) :
  Calls Tryz.prog 149 #[.agg #[ax A s.aF.length c,ax B s.aG.length d,ay az s.aI,ay az s.aH],coV (ax Ag cp.aJ.length ng) cp,aA ⟨key.toArray⟩,ax PA ps.length pc] w fun e w' =>
   ∃v1 v2 v3,e= .returned (.tuple #[stV v1 v2 t,coV v3 (zG t cp (ps.map (·.dig))).2,ay az 0])/\OwSt w' w.heap.size v1 v2 (zG t cp (ps.map (·.dig))).1 (fun b=>b<w.heap.size)/\w'.ownsRow w.heap.size 9 1 v3 (zG t cp (ps.map (·.dig))).2.aJ.length (strs (zG t cp (ps.map (·.dig))).2.aJ)/\Below w.heap.size w w':=by
 have hp8:=(zk hpz).1;have HPB:=sqH (fun W (h1:RdSt W A c B d s) (h2:Sl W 3 PA ps.length pc (pcs ps))=>VA A c B d s t key ps PA pc W hg h1 hk hpz hhv hclk hlen h2 ht);have htg:=sqH htg0;have hml:(ps.map (·.dig)).length<=8:=by rw [List.length_map];exact hp8
 clear ht htg0 hk hpz hhv hclk hlen;have hlb:s.aF.length<=24:=hg.b.len;have hle:s.aG.length<=10:=hg.e.len;obtain⟨aK,aJ,at_⟩:=cp;simp only at hgl;obtain⟨w0,hw0,hS,hC,hR,hQ,hbx⟩:=qi w 34 37 [ax A s.aF.length c,ax B s.aG.length d,ay az s.aI,ay az s.aH] [ay az aK,ax Ag aJ.length ng,aA ⟨at_.toArray⟩] [ax aC 0 0,ax aC 0 0,ay az 0,ay az 0] [ay az 0,ax aC 0 0,aA ⟨#[]⟩];have hr0:=hr.below hbx;have hc0:=hc.below hbx;obtain⟨H,hH⟩:=wV w.heap.size
 have HCK:=sqH (ql A c B d s Ag ng ⟨aK,aJ,at_⟩ w0 hg hr0 (by show aJ.length<=1000;omega) hgc hc0);rw [<-hH]at hS hC hR hQ hbx ⊢
 have hHl:H+1+1+1<w0.heap.size:=hQ.lt;obtain⟨HSX,HBX,HR0,HG,HGC⟩:=sqJ5 (show ∀W,Below w0.heap.size w0 W->Arr W H 34 [ax A s.aF.length c,ax B s.aG.length d,ay az s.aI,ay az s.aH]/\Arr W (H+1) 37 [ay az aK,ax Ag aJ.length ng,aA ⟨at_.toArray⟩]/\Arr W (H+2) 34 [ax aC 0 0,ax aC 0 0,ay az 0,ay az 0]/\Arr W (H+3) 37 [ay az 0,ax aC 0 0,aA ⟨#[]⟩]/\RdC W Ag ng ⟨aK,aJ,at_⟩ from fun W h=>⟨hS.below h,hC.below h,hR.below h,hQ.below h,hc0.below h⟩) hbx hr0 hg hgc;obtain⟨x0,x1,x2,x3⟩:=sqC4 hS;obtain⟨y0,y1,y2⟩:=sqC3 hC;rw [hw0,hH]at x0 x1 x2 x3 y0 y1 y2;clear hg hr hgc hc hr0 hc0 hS hC hR hQ hbx;go_enter Tryz.func149,Tryz.ntmps149;go_wp2_with fail;rw [<-hw0,<-hH];have HH:=sqH hH;clear hH hw0;clear x0 x1 x2 x3 y0 y1 y2;refine wW HCK.o fun w1 hb1=>?_;dsimp only;obtain⟨x0,x1,x2,x3⟩:=sqC4 ((HSX.o _ hb1).1);clear HCK;have hbw1:=HBX.o.trans (hb1.mono (show H<=w0.heap.size by omega));have HSP:=sqH (show ∀W,Below w1.heap.size w1 W->Sl W 3 PA ps.length pc (pcs ps) from fun W h=>(hP.below (by rw [<-HH.o];exact hbw1)).below h);have HPR:=sqH (show ∀W,Below w1.heap.size w1 W->Rd W 3 PA ps.length (pcs ps) from fun W h=>(HSP.o W h).rd);have HPB1:=sqH (HPB.o w1 (HR0.o.below hb1) (HSP.o _ (Below.refl _ _)));clear hP HPB HR0 hbw1;go_wp2_with fail;clear x0 x1 x2 x3;refine HPB1.o.mono ?_;rintro e_ w2 ⟨A2,c2,B2,d2,rfl,ho2,hb2⟩;dsimp only;have hb12:=hb2;have hb02:=wh hb1 hb2;have hs1:=hb1.size;have hs2:=hb2.size;obtain⟨W3,hW3⟩:=wV (w2.alloc (.cells #[ax A2 t.aF.length c2,ax B2 t.aG.length d2,ay az t.aI,ay az t.aH] 34))
 have hG3:Arr W3 w2.heap.size 34 [ax A2 t.aF.length c2,ax B2 t.aG.length d2,ay az t.aI,ay az t.aH]:=by rw [hW3];exact Arr.new w2 34 _
 have hb23:Below w2.heap.size w2 W3:=by rw [hW3];exact(Below.refl w2.heap.size w2).alloc ac _
 have hb13:=wh hb02 hb23;obtain⟨g2,hg2⟩:=wV w2.heap.size
 rw [<-hg2]at hG3;have hg2l:w2.heap.size<=g2:=wm;have ho3:=(ho2.wider (N':=fun b=>b<w1.heap.size\/b=g2) (fun b hb=>hb.imp id (fun h=>wm))).below hb23;obtain⟨DS,hDS⟩:=wV (ps.map (·.dig))
 have hdl:DS.length<=8:=by rw [hDS];exact hml
 have HDG:=sqH (fun (W:World) (h:Rd W 3 PA ps.length (pcs ps))=>show Calls Tryz.prog 170 #[ax PA ps.length pc] W fun e w'=>∃v,e= .returned v/\w'.ownsRow W.heap.size 9 1 v DS.length (strs DS)/\Below W.heap.size W w' from by rw [hDS];exact Ji PA pc ps W wm h);have HKE:=sqH (fun (N:aj) (W:World) (A7:af) (c7:Nat) (h1:OwSt W w1.heap.size (ax A2 t.aF.length c2) (ax B2 t.aG.length d2) t N) (h2:RdC W Ag ng ⟨aK,aJ,at_⟩) (h3:Rd W 1 A7 DS.length (strs DS)) (h4:DS.length<=c7) (h5:w1.heap.size<=W.heap.size) (h6:∀b,N b->b<W.heap.size)=>ZT A2 c2 B2 d2 t Ag ng ⟨aK,aJ,at_⟩ A7 c7 DS w1.heap.size N W htg.o h1 h5 h6 (by show aJ.length<=2000;omega) HGC.o.ph h2 h4 wm h3);generalize hkp:zG t ⟨aK,aJ,at_⟩ DS=KP at *
 obtain⟨HDS,HKP,HW3,HG2E⟩:=sqJ4 hDS hkp hW3 hg2;clear hkp HPB1 ho2 hW3 hg2 hDS;go_wp2_with fail;rw [<-HW3.o,<-HG2E.o];apply zE;intro REST;refine ze [9,10] (S:=(fun w'=>(wD w' g2 (ax A2 t.aF.length c2) (ax B2 t.aG.length d2) (ay az t.aI) (ay az t.aH))/\(wC w' (H+1) (ay az aK) (ax Ag aJ.length ng) (aA ⟨at_.toArray⟩)))) wo ?_ (fun hHeld=> ?_)
 ·exact⟨sqC4 (hG3.drew),(HSX.o _ (hb13.drew)).2.1.c0,(HSX.o _ (hb13.drew)).2.1.c1,(HSX.o _ (hb13.drew)).2.1.c2⟩
 have hB:=hb23.drew;have hG:=hG3.drew;have ho:=ho3.drewX;generalize W3.drew=wn0 at *
 refine wO 0 ?_;refine wO 1 ?_;refine wP 2 ?_;refine za (rs:= [3,8]) wo wu ?_;refine z8.cons (o:=_) rfl (fun K hK=> ?_) ?_
 ·
  go_simp;refine(HDG.o wn0 (HPR.o _ (wh hb12 hB))).mono ?_;rintro e5 w5 ⟨v5,rfl,ho5,hb5⟩;obtain⟨A7,c7,rfl,hc7,hr7⟩:=Rd.of_own' ho5;clear ho5;dsimp only;refine zR hK ?_ (fun W=>Below w2.heap.size w2 W/\Arr W g2 34 [ax A2 t.aF.length c2,ax B2 t.aG.length d2,ay az t.aI,ay az t.aH]/\OwSt W w1.heap.size (ax A2 t.aF.length c2) (ax B2 t.aG.length d2) t (fun b=>b<w1.heap.size\/b=g2)/\Rd W 1 A7 DS.length (strs DS)) (fun W=>True) ?_ ?_ (fun wn1 hHeld hF _=> ?_)
  ·exact⟨sqC4 (hG.below hb5),(HSX.o _ (hb02.trans ((wh hB hb5).mono hb02.size))).2.1.c0,(HSX.o _ (hb02.trans ((wh hB hb5).mono hb02.size))).2.1.c1,(HSX.o _ (hb02.trans ((wh hB hb5).mono hb02.size))).2.1.c2⟩
  ·exact⟨wh hB hb5,hG.below hb5,ho.below hb5,hr7⟩
  ·trivial
  clear ho hG hB;obtain⟨hB,hG,ho,hdg⟩:=hF;clear hb5 hr7;clear hK K
  try simp only [sqP]
  refine za (rs:= [4,8]) wo wu ?_;refine z8.cons (o:=_) rfl (fun K hK=> ?_) ?_
  ·
   go_simp;refine(HKE.o _ wn1 A7 c7 ho (HSX.o _ (wh hb02 hB)).2.2.2.2 hdg hc7 (Nat.le_trans hs2 hB.size) (fun b hb=>hb.elim (fun h=>Nat.lt_of_lt_of_le h (Nat.le_trans hs2 hB.size)) (fun h=>by rw [h];exact hG.lt))).mono ?_;rintro e5 w5 ⟨v1,v3,rfl,ho5,hl5,hb5⟩;obtain⟨A5,c5,_,_,rfl, -, -⟩:=ho5.rows;obtain⟨A6,c6,rfl, -, -⟩:=Rd.of_own' hl5;dsimp only;refine zR hK ?_ (fun W=>Below w2.heap.size w2 W/\Arr W g2 34 [ax A2 t.aF.length c2,ax B2 t.aG.length d2,ay az t.aI,ay az t.aH]/\OwSt W w1.heap.size (ax A5 KP.1.aF.length c5) (ax B2 t.aG.length d2) KP.1 (fun b=>b<w1.heap.size\/b=g2)/\W.ownsRow w1.heap.size 9 1 (ax A6 KP.2.aJ.length c6) KP.2.aJ.length (strs KP.2.aJ)) (fun W=>True) ?_ ?_ (fun wn2 hHeld hF _=> ?_)
   ·exact⟨sqC4 (hG.below hb5),(HSX.o _ (hb02.trans ((wh hB hb5).mono hb02.size))).2.1.c0,(HSX.o _ (hb02.trans ((wh hB hb5).mono hb02.size))).2.1.c1,(HSX.o _ (hb02.trans ((wh hB hb5).mono hb02.size))).2.1.c2⟩
   ·exact⟨wh hB hb5,hG.below hb5,ho5,zb hl5 (Nat.le_trans hs2 hB.size)⟩
   ·trivial
   clear hdg ho hG hB;obtain⟨hB,hG,ho,hl⟩:=hF;clear ho5 hl5 hb5;clear hK K
   refine wP 5 ?_;refine wP 6 ?_;refine wP 7 ?_;refine wU 8 fun K hK=>?_;have hba:=wj wn2 (.cells #[ay az 0,ax aC 0 0,aA ⟨#[]⟩] 37);have h14n:=Arr.new wn2 37 [ay az 0,ax aC 0 0,aA ⟨#[]⟩];have hl14n:w2.heap.size<wn2.heap.size:=Nat.lt_of_le_of_lt hg2l hG.lt;obtain⟨g14,hg14⟩:=wV wn2.heap.size
   rw [<-hg14]at h14n hl14n;go_simp;rw [<-hg14];have hN8:∀b,b=g14->wn2.heap.size<=b:=fun b h=>by rw [h,hg14];exact Nat.le_refl _
   clear hg14;refine zR hK ?_ (fun W=>Below w2.heap.size w2 W/\Arr W g2 34 [ax A2 t.aF.length c2,ax B2 t.aG.length d2,ay az t.aI,ay az t.aH]/\OwSt W w1.heap.size (ax A5 KP.1.aF.length c5) (ax B2 t.aG.length d2) KP.1 (fun b=>b<w1.heap.size\/b=g2\/b=g14)/\W.ownsRow w1.heap.size 9 1 (ax A6 KP.2.aJ.length c6) KP.2.aJ.length (strs KP.2.aJ)/\Arr W g14 37 [ay az 0,ax aC 0 0,aA ⟨#[]⟩]/\w2.heap.size<g14) (fun W=>True) ?_ ?_ (fun wn3 hHeld hF _=> ?_)
   ·exact⟨sqC4 (hG.below hba),(HSX.o _ (hb02.trans ((wh hB hba).mono hb02.size))).2.1.c0,(HSX.o _ (hb02.trans ((wh hB hba).mono hb02.size))).2.1.c1,(HSX.o _ (hb02.trans ((wh hB hba).mono hb02.size))).2.1.c2⟩
   ·exact⟨wh hB hba,hG.below hba,(ho.wider (N':=fun b=>b<w1.heap.size\/b=g2\/b=g14) (fun b hb=>hb.elim (fun h=> .inl (.inl h)) (fun h=>h.elim (fun h=> .inl (.inr h)) (fun h=> .inr (hN8 b h))))).below hba,zc hl hba,h14n,hl14n⟩
   ·trivial
   clear hl ho hG hB;obtain⟨hB,hG,ho,hl,h14,hl14⟩:=hF;clear hba h14n hl14n hN8;clear hK K
   try simp only [sqP]
   refine wT 9 fun K hK=>?_;have hne:=ho.nb hG ws ws;have hng:=zg hl hG ws;have hn14:g14≠g2:=by have:=HG2E.o;omega
   obtain⟨z0,z1,z2,z3⟩:=sqC4 hG;obtain⟨f0,f1,f2,f3⟩:=sqF4 hG;go_simp;clear z0 z1 z2 z3 f0 f1 f2 f3;refine vd hK (fun W=>Below w2.heap.size w2 W/\Arr W g2 34 [(ax A5 KP.1.aF.length c5),(ax B2 t.aG.length d2),(ay az t.aI),(ay az t.aH)]/\OwSt W w1.heap.size (ax A5 KP.1.aF.length c5) (ax B2 t.aG.length d2) KP.1 (fun b=>b<w1.heap.size\/b=g2\/b=g14)/\W.ownsRow w1.heap.size 9 1 (ax A6 KP.2.aJ.length c6) KP.2.aJ.length (strs KP.2.aJ)/\Arr W g14 37 [ay az 0,ax aC 0 0,aA ⟨#[]⟩]/\w2.heap.size<g14) (fun W=>True) ?_ ?_ (fun wn4 hF _=> ?_)
   ·exact⟨(((hB.setCell (p:=⟨g2,0,aC⟩) hg2l _).setCell (p:=⟨g2,1,aC⟩) hg2l _).setCell (p:=⟨g2,2,aC⟩) hg2l _).setCell (p:=⟨g2,3,aC⟩) hg2l _,hG.all4 _ _ _ _,ho.set4N (.inr (.inl rfl)) hne.1 hne.2 _ _ _ _,qt hl hng _ _ _ _,h14.other4 hn14 _ _ _ _,hl14⟩
   ·trivial
   clear hl14 h14 hl ho hG hB;obtain⟨hB,hG,ho,hl,h14,hl14⟩:=hF;clear hne hng hn14;clear hK K
   try simp only [sqP]
   refine wT 10 fun K hK=>?_;have hne:=ho.nb h14 ws ws;have hng:=zg hl h14 ws;have hn14:g14≠g2:=by have:=HG2E.o;omega
   obtain⟨z0,z1,z2⟩:=sqC3 h14;obtain⟨f0,f1,f2⟩:=sqF3 h14;go_simp;clear z0 z1 z2 f0 f1 f2;refine vd hK (fun W=>Below w2.heap.size w2 W/\Arr W g2 34 [(ax A5 KP.1.aF.length c5),(ax B2 t.aG.length d2),(ay az t.aI),(ay az t.aH)]/\OwSt W w1.heap.size (ax A5 KP.1.aF.length c5) (ax B2 t.aG.length d2) KP.1 (fun b=>b<w1.heap.size\/b=g2\/b=g14)/\W.ownsRow w1.heap.size 9 1 (ax A6 KP.2.aJ.length c6) KP.2.aJ.length (strs KP.2.aJ)/\Arr W g14 37 [(ay az KP.2.aK),(ax A6 KP.2.aJ.length c6),(aA ⟨KP.2.at_.toArray⟩)]/\w2.heap.size<g14) (fun W=>True) ?_ ?_ (fun wn5 hF _=> ?_)
   ·exact⟨((hB.setCell (p:=⟨g14,0,aC⟩) (Nat.le_of_lt hl14) _).setCell (p:=⟨g14,1,aC⟩) (Nat.le_of_lt hl14) _).setCell (p:=⟨g14,2,aC⟩) (Nat.le_of_lt hl14) _,((hG.other hn14.symm _).other hn14.symm _).other hn14.symm _,ho.set3N (.inr (.inr rfl)) hne.1 hne.2 _ _ _,kn hl hng _ _ _,h14.all3 _ _ _,hl14⟩
   ·trivial
   clear hl14 h14 hl ho hG hB;obtain⟨hB,hG,ho,hl,h14,hl14⟩:=hF;clear hne hng hn14;clear hK K
   try simp only [sqP]
   refine zq wo ?_ _;dsimp only [Exit.then];have hall:=aE hB (aE hG (aE ho (aE hl (aE h14 hl14))));clear hB hG ho hl h14 hl14 hc7;generalize wn5=wz at hall ⊢
   revert hall;revert wz;revert g14;revert c6;revert A6;revert c5;revert A5;revert c7;revert A7;exact REST.o
  refine z8.cons (o:=_) rfl (fun K hK=> ?_) ?_
  ·
   have hba:=wj wn1 (.cells #[ay az 0,ax aC 0 0,aA ⟨#[]⟩] 37);have h14n:=Arr.new wn1 37 [ay az 0,ax aC 0 0,aA ⟨#[]⟩];have hl14n:w2.heap.size<wn1.heap.size:=Nat.lt_of_le_of_lt hg2l hG.lt;obtain⟨g14,hg14⟩:=wV wn1.heap.size
   rw [<-hg14]at h14n hl14n;go_simp;rw [<-hg14];have hN8:∀b,b=g14->wn1.heap.size<=b:=fun b h=>by rw [h,hg14];exact Nat.le_refl _
   clear hg14;refine zR hK ?_ (fun W=>Below w2.heap.size w2 W/\Arr W g2 34 [ax A2 t.aF.length c2,ax B2 t.aG.length d2,ay az t.aI,ay az t.aH]/\OwSt W w1.heap.size (ax A2 t.aF.length c2) (ax B2 t.aG.length d2) t (fun b=>b<w1.heap.size\/b=g2\/b=g14)/\Rd W 1 A7 DS.length (strs DS)/\Arr W g14 37 [ay az 0,ax aC 0 0,aA ⟨#[]⟩]/\w2.heap.size<g14) (fun W=>True) ?_ ?_ (fun wn6 hHeld hF _=> ?_)
   ·exact⟨sqC4 (hG.below hba),(HSX.o _ (hb02.trans ((wh hB hba).mono hb02.size))).2.1.c0,(HSX.o _ (hb02.trans ((wh hB hba).mono hb02.size))).2.1.c1,(HSX.o _ (hb02.trans ((wh hB hba).mono hb02.size))).2.1.c2⟩
   ·exact⟨wh hB hba,hG.below hba,(ho.wider (N':=fun b=>b<w1.heap.size\/b=g2\/b=g14) (fun b hb=>hb.elim (fun h=> .inl (.inl h)) (fun h=>h.elim (fun h=> .inl (.inr h)) (fun h=> .inr (hN8 b h))))).below hba,hdg.below hba,h14n,hl14n⟩
   ·trivial
   clear hdg ho hG hB;obtain⟨hB,hG,ho,hdg,h14,hl14⟩:=hF;clear hba h14n hl14n hN8;clear hK K
   try simp only [sqP]
   refine wU 4 fun K hK=>?_;go_simp;refine(HKE.o _ wn6 A7 c7 ho (HSX.o _ (wh hb02 hB)).2.2.2.2 hdg hc7 (Nat.le_trans hs2 hB.size) (fun b hb=>hb.elim (fun h=>Nat.lt_of_lt_of_le h (Nat.le_trans hs2 hB.size)) (fun h=>h.elim (fun h=>by rw [h];exact hG.lt) (fun h=>by rw [h];exact h14.lt)))).mono ?_;rintro e5 w5 ⟨v1,v3,rfl,ho5,hl5,hb5⟩;obtain⟨A5,c5,_,_,rfl, -, -⟩:=ho5.rows;obtain⟨A6,c6,rfl, -, -⟩:=Rd.of_own' hl5;dsimp only;refine zR hK ?_ (fun W=>Below w2.heap.size w2 W/\Arr W g2 34 [ax A2 t.aF.length c2,ax B2 t.aG.length d2,ay az t.aI,ay az t.aH]/\OwSt W w1.heap.size (ax A5 KP.1.aF.length c5) (ax B2 t.aG.length d2) KP.1 (fun b=>b<w1.heap.size\/b=g2\/b=g14)/\W.ownsRow w1.heap.size 9 1 (ax A6 KP.2.aJ.length c6) KP.2.aJ.length (strs KP.2.aJ)/\Arr W g14 37 [ay az 0,ax aC 0 0,aA ⟨#[]⟩]/\w2.heap.size<g14) (fun W=>True) ?_ ?_ (fun wn7 hHeld hF _=> ?_)
   ·exact⟨sqC4 (hG.below hb5),(HSX.o _ (hb02.trans ((wh hB hb5).mono hb02.size))).2.1.c0,(HSX.o _ (hb02.trans ((wh hB hb5).mono hb02.size))).2.1.c1,(HSX.o _ (hb02.trans ((wh hB hb5).mono hb02.size))).2.1.c2⟩
   ·exact⟨wh hB hb5,hG.below hb5,ho5,zb hl5 (Nat.le_trans hs2 hB.size),h14.below hb5,hl14⟩
   ·trivial
   clear hl14 h14 hdg ho hG hB;obtain⟨hB,hG,ho,hl,h14,hl14⟩:=hF;clear ho5 hl5 hb5;clear hK K
   refine wP 5 ?_;refine wP 6 ?_;refine wP 7 ?_;refine wT 9 fun K hK=>?_;have hne:=ho.nb hG ws ws;have hng:=zg hl hG ws;have hn14:g14≠g2:=by have:=HG2E.o;omega
   obtain⟨z0,z1,z2,z3⟩:=sqC4 hG;obtain⟨f0,f1,f2,f3⟩:=sqF4 hG;go_simp;clear z0 z1 z2 z3 f0 f1 f2 f3;refine vd hK (fun W=>Below w2.heap.size w2 W/\Arr W g2 34 [(ax A5 KP.1.aF.length c5),(ax B2 t.aG.length d2),(ay az t.aI),(ay az t.aH)]/\OwSt W w1.heap.size (ax A5 KP.1.aF.length c5) (ax B2 t.aG.length d2) KP.1 (fun b=>b<w1.heap.size\/b=g2\/b=g14)/\W.ownsRow w1.heap.size 9 1 (ax A6 KP.2.aJ.length c6) KP.2.aJ.length (strs KP.2.aJ)/\Arr W g14 37 [ay az 0,ax aC 0 0,aA ⟨#[]⟩]/\w2.heap.size<g14) (fun W=>True) ?_ ?_ (fun wn8 hF _=> ?_)
   ·exact⟨(((hB.setCell (p:=⟨g2,0,aC⟩) hg2l _).setCell (p:=⟨g2,1,aC⟩) hg2l _).setCell (p:=⟨g2,2,aC⟩) hg2l _).setCell (p:=⟨g2,3,aC⟩) hg2l _,hG.all4 _ _ _ _,ho.set4N (.inr (.inl rfl)) hne.1 hne.2 _ _ _ _,qt hl hng _ _ _ _,h14.other4 hn14 _ _ _ _,hl14⟩
   ·trivial
   clear hl14 h14 hl ho hG hB;obtain⟨hB,hG,ho,hl,h14,hl14⟩:=hF;clear hne hng hn14;clear hK K
   try simp only [sqP]
   refine wT 10 fun K hK=>?_;have hne:=ho.nb h14 ws ws;have hng:=zg hl h14 ws;have hn14:g14≠g2:=by have:=HG2E.o;omega
   obtain⟨z0,z1,z2⟩:=sqC3 h14;obtain⟨f0,f1,f2⟩:=sqF3 h14;go_simp;clear z0 z1 z2 f0 f1 f2;refine vd hK (fun W=>Below w2.heap.size w2 W/\Arr W g2 34 [(ax A5 KP.1.aF.length c5),(ax B2 t.aG.length d2),(ay az t.aI),(ay az t.aH)]/\OwSt W w1.heap.size (ax A5 KP.1.aF.length c5) (ax B2 t.aG.length d2) KP.1 (fun b=>b<w1.heap.size\/b=g2\/b=g14)/\W.ownsRow w1.heap.size 9 1 (ax A6 KP.2.aJ.length c6) KP.2.aJ.length (strs KP.2.aJ)/\Arr W g14 37 [(ay az KP.2.aK),(ax A6 KP.2.aJ.length c6),(aA ⟨KP.2.at_.toArray⟩)]/\w2.heap.size<g14) (fun W=>True) ?_ ?_ (fun wn9 hF _=> ?_)
   ·exact⟨((hB.setCell (p:=⟨g14,0,aC⟩) (Nat.le_of_lt hl14) _).setCell (p:=⟨g14,1,aC⟩) (Nat.le_of_lt hl14) _).setCell (p:=⟨g14,2,aC⟩) (Nat.le_of_lt hl14) _,((hG.other hn14.symm _).other hn14.symm _).other hn14.symm _,ho.set3N (.inr (.inr rfl)) hne.1 hne.2 _ _ _,kn hl hng _ _ _,h14.all3 _ _ _,hl14⟩
   ·trivial
   clear hl14 h14 hl ho hG hB;obtain⟨hB,hG,ho,hl,h14,hl14⟩:=hF;clear hne hng hn14;clear hK K
   try simp only [sqP]
   refine zq wo ?_ _;dsimp only [Exit.then];have hall:=aE hB (aE hG (aE ho (aE hl (aE h14 hl14))));clear hB hG ho hl h14 hl14 hc7;generalize wn9=wz at hall ⊢
   revert hall;revert wz;revert g14;revert c6;revert A6;revert c5;revert A5;revert c7;revert A7;exact REST.o
  exact z8.nil
 refine z8.cons (o:=_) rfl (fun K hK=> ?_) ?_
 ·
  have hba:=wj wn0 (.cells #[ay az 0,ax aC 0 0,aA ⟨#[]⟩] 37);have h14n:=Arr.new wn0 37 [ay az 0,ax aC 0 0,aA ⟨#[]⟩];have hl14n:w2.heap.size<wn0.heap.size:=Nat.lt_of_le_of_lt hg2l hG.lt;obtain⟨g14,hg14⟩:=wV wn0.heap.size
  rw [<-hg14]at h14n hl14n;go_simp;rw [<-hg14];have hN8:∀b,b=g14->wn0.heap.size<=b:=fun b h=>by rw [h,hg14];exact Nat.le_refl _
  clear hg14;refine zR hK ?_ (fun W=>Below w2.heap.size w2 W/\Arr W g2 34 [ax A2 t.aF.length c2,ax B2 t.aG.length d2,ay az t.aI,ay az t.aH]/\OwSt W w1.heap.size (ax A2 t.aF.length c2) (ax B2 t.aG.length d2) t (fun b=>b<w1.heap.size\/b=g2\/b=g14)/\Arr W g14 37 [ay az 0,ax aC 0 0,aA ⟨#[]⟩]/\w2.heap.size<g14) (fun W=>True) ?_ ?_ (fun wn10 hHeld hF _=> ?_)
  ·exact⟨sqC4 (hG.below hba),(HSX.o _ (hb02.trans ((wh hB hba).mono hb02.size))).2.1.c0,(HSX.o _ (hb02.trans ((wh hB hba).mono hb02.size))).2.1.c1,(HSX.o _ (hb02.trans ((wh hB hba).mono hb02.size))).2.1.c2⟩
  ·exact⟨wh hB hba,hG.below hba,(ho.wider (N':=fun b=>b<w1.heap.size\/b=g2\/b=g14) (fun b hb=>hb.elim (fun h=> .inl (.inl h)) (fun h=>h.elim (fun h=> .inl (.inr h)) (fun h=> .inr (hN8 b h))))).below hba,h14n,hl14n⟩
  ·trivial
  clear ho hG hB;obtain⟨hB,hG,ho,h14,hl14⟩:=hF;clear hba h14n hl14n hN8;clear hK K
  try simp only [sqP]
  refine wU 3 fun K hK=>?_;go_simp;refine(HDG.o wn10 (HPR.o _ (wh hb12 hB))).mono ?_;rintro e5 w5 ⟨v5,rfl,ho5,hb5⟩;obtain⟨A7,c7,rfl,hc7,hr7⟩:=Rd.of_own' ho5;clear ho5;dsimp only;refine zR hK ?_ (fun W=>Below w2.heap.size w2 W/\Arr W g2 34 [ax A2 t.aF.length c2,ax B2 t.aG.length d2,ay az t.aI,ay az t.aH]/\OwSt W w1.heap.size (ax A2 t.aF.length c2) (ax B2 t.aG.length d2) t (fun b=>b<w1.heap.size\/b=g2\/b=g14)/\Rd W 1 A7 DS.length (strs DS)/\Arr W g14 37 [ay az 0,ax aC 0 0,aA ⟨#[]⟩]/\w2.heap.size<g14) (fun W=>True) ?_ ?_ (fun wn11 hHeld hF _=> ?_)
  ·exact⟨sqC4 (hG.below hb5),(HSX.o _ (hb02.trans ((wh hB hb5).mono hb02.size))).2.1.c0,(HSX.o _ (hb02.trans ((wh hB hb5).mono hb02.size))).2.1.c1,(HSX.o _ (hb02.trans ((wh hB hb5).mono hb02.size))).2.1.c2⟩
  ·exact⟨wh hB hb5,hG.below hb5,ho.below hb5,hr7,h14.below hb5,hl14⟩
  ·trivial
  clear hl14 h14 ho hG hB;obtain⟨hB,hG,ho,hdg,h14,hl14⟩:=hF;clear hb5 hr7;clear hK K
  try simp only [sqP]
  refine wU 4 fun K hK=>?_;go_simp;refine(HKE.o _ wn11 A7 c7 ho (HSX.o _ (wh hb02 hB)).2.2.2.2 hdg hc7 (Nat.le_trans hs2 hB.size) (fun b hb=>hb.elim (fun h=>Nat.lt_of_lt_of_le h (Nat.le_trans hs2 hB.size)) (fun h=>h.elim (fun h=>by rw [h];exact hG.lt) (fun h=>by rw [h];exact h14.lt)))).mono ?_;rintro e5 w5 ⟨v1,v3,rfl,ho5,hl5,hb5⟩;obtain⟨A5,c5,_,_,rfl, -, -⟩:=ho5.rows;obtain⟨A6,c6,rfl, -, -⟩:=Rd.of_own' hl5;dsimp only;refine zR hK ?_ (fun W=>Below w2.heap.size w2 W/\Arr W g2 34 [ax A2 t.aF.length c2,ax B2 t.aG.length d2,ay az t.aI,ay az t.aH]/\OwSt W w1.heap.size (ax A5 KP.1.aF.length c5) (ax B2 t.aG.length d2) KP.1 (fun b=>b<w1.heap.size\/b=g2\/b=g14)/\W.ownsRow w1.heap.size 9 1 (ax A6 KP.2.aJ.length c6) KP.2.aJ.length (strs KP.2.aJ)/\Arr W g14 37 [ay az 0,ax aC 0 0,aA ⟨#[]⟩]/\w2.heap.size<g14) (fun W=>True) ?_ ?_ (fun wn12 hHeld hF _=> ?_)
  ·exact⟨sqC4 (hG.below hb5),(HSX.o _ (hb02.trans ((wh hB hb5).mono hb02.size))).2.1.c0,(HSX.o _ (hb02.trans ((wh hB hb5).mono hb02.size))).2.1.c1,(HSX.o _ (hb02.trans ((wh hB hb5).mono hb02.size))).2.1.c2⟩
  ·exact⟨wh hB hb5,hG.below hb5,ho5,zb hl5 (Nat.le_trans hs2 hB.size),h14.below hb5,hl14⟩
  ·trivial
  clear hl14 h14 hdg ho hG hB;obtain⟨hB,hG,ho,hl,h14,hl14⟩:=hF;clear ho5 hl5 hb5;clear hK K
  refine wP 5 ?_;refine wP 6 ?_;refine wP 7 ?_;refine wT 9 fun K hK=>?_;have hne:=ho.nb hG ws ws;have hng:=zg hl hG ws;have hn14:g14≠g2:=by have:=HG2E.o;omega
  obtain⟨z0,z1,z2,z3⟩:=sqC4 hG;obtain⟨f0,f1,f2,f3⟩:=sqF4 hG;go_simp;clear z0 z1 z2 z3 f0 f1 f2 f3;refine vd hK (fun W=>Below w2.heap.size w2 W/\Arr W g2 34 [(ax A5 KP.1.aF.length c5),(ax B2 t.aG.length d2),(ay az t.aI),(ay az t.aH)]/\OwSt W w1.heap.size (ax A5 KP.1.aF.length c5) (ax B2 t.aG.length d2) KP.1 (fun b=>b<w1.heap.size\/b=g2\/b=g14)/\W.ownsRow w1.heap.size 9 1 (ax A6 KP.2.aJ.length c6) KP.2.aJ.length (strs KP.2.aJ)/\Arr W g14 37 [ay az 0,ax aC 0 0,aA ⟨#[]⟩]/\w2.heap.size<g14) (fun W=>True) ?_ ?_ (fun wn13 hF _=> ?_)
  ·exact⟨(((hB.setCell (p:=⟨g2,0,aC⟩) hg2l _).setCell (p:=⟨g2,1,aC⟩) hg2l _).setCell (p:=⟨g2,2,aC⟩) hg2l _).setCell (p:=⟨g2,3,aC⟩) hg2l _,hG.all4 _ _ _ _,ho.set4N (.inr (.inl rfl)) hne.1 hne.2 _ _ _ _,qt hl hng _ _ _ _,h14.other4 hn14 _ _ _ _,hl14⟩
  ·trivial
  clear hl14 h14 hl ho hG hB;obtain⟨hB,hG,ho,hl,h14,hl14⟩:=hF;clear hne hng hn14;clear hK K
  try simp only [sqP]
  refine wT 10 fun K hK=>?_;have hne:=ho.nb h14 ws ws;have hng:=zg hl h14 ws;have hn14:g14≠g2:=by have:=HG2E.o;omega
  obtain⟨z0,z1,z2⟩:=sqC3 h14;obtain⟨f0,f1,f2⟩:=sqF3 h14;go_simp;clear z0 z1 z2 f0 f1 f2;refine vd hK (fun W=>Below w2.heap.size w2 W/\Arr W g2 34 [(ax A5 KP.1.aF.length c5),(ax B2 t.aG.length d2),(ay az t.aI),(ay az t.aH)]/\OwSt W w1.heap.size (ax A5 KP.1.aF.length c5) (ax B2 t.aG.length d2) KP.1 (fun b=>b<w1.heap.size\/b=g2\/b=g14)/\W.ownsRow w1.heap.size 9 1 (ax A6 KP.2.aJ.length c6) KP.2.aJ.length (strs KP.2.aJ)/\Arr W g14 37 [(ay az KP.2.aK),(ax A6 KP.2.aJ.length c6),(aA ⟨KP.2.at_.toArray⟩)]/\w2.heap.size<g14) (fun W=>True) ?_ ?_ (fun wn14 hF _=> ?_)
  ·exact⟨((hB.setCell (p:=⟨g14,0,aC⟩) (Nat.le_of_lt hl14) _).setCell (p:=⟨g14,1,aC⟩) (Nat.le_of_lt hl14) _).setCell (p:=⟨g14,2,aC⟩) (Nat.le_of_lt hl14) _,((hG.other hn14.symm _).other hn14.symm _).other hn14.symm _,ho.set3N (.inr (.inr rfl)) hne.1 hne.2 _ _ _,kn hl hng _ _ _,h14.all3 _ _ _,hl14⟩
  ·trivial
  clear hl14 h14 hl ho hG hB;obtain⟨hB,hG,ho,hl,h14,hl14⟩:=hF;clear hne hng hn14;clear hK K
  try simp only [sqP]
  refine zq wo ?_ _;dsimp only [Exit.then];have hall:=aE hB (aE hG (aE ho (aE hl (aE h14 hl14))));clear hB hG ho hl h14 hl14 hc7;generalize wn14=wz at hall ⊢
  revert hall;revert wz;revert g14;revert c6;revert A6;revert c5;revert A5;revert c7;revert A7;exact REST.o
 exact z8.nil;intro A7 c7 A5 c5 A6 c6 g7 w7 hall;obtain⟨hB,hS,ho,hl,h14,hl14⟩:=hall;have hb27:=wh hb02 hB;have hR:=(HSX.o _ hb27).2.2.1;have hQ:=(HSX.o _ hb27).2.2.2.1;have hB:=HBX.o.trans (hb27.mono (show H<=w0.heap.size by omega));have hz2:=HG2E.o;have hH2:H+3<g2:=wm;have hH7:H+3<g7:=wm;have hg27:g2≠g7:=wm;generalize KP.1.aF.length=n5 at *
 clear hb02 hb12 hb23 hb13 hb27 hG3 ho3 HKE HDG hz2;have hHg:H+2≠H+3:=wm;have ho':=(ho.lower (base':=H) wm).mono (N':=fun b=>b<w1.heap.size) (fun b hb=> .inl hb);obtain⟨HF1,HF2,HF3,HF4,HF5⟩:=sqJ5 (qO (g:=H+2) (h:=H+3) (u0:= ax A5 n5 c5) (u1:= ax B2 (t).aG.length d2) (u2:= ay az t.aI) (u3:= ay az t.aH) (x0:= ay az KP.2.aK) (x1:= ax A6 KP.2.aJ.length c6) (x2:= aA ⟨KP.2.at_.toArray⟩) hR hHg) (qP (g:=H+2) (h:=H+3) (u0:= ax A5 n5 c5) (u1:= ax B2 (t).aG.length d2) (u2:= ay az t.aI) (u3:= ay az t.aH) (x0:= ay az KP.2.aK) (x1:= ax A6 KP.2.aJ.length c6) (x2:= aA ⟨KP.2.at_.toArray⟩) hQ hHg) (qC (g:=H+2) (h:=H+3) (u0:= ax A5 n5 c5) (u1:= ax B2 (t).aG.length d2) (u2:= ay az t.aI) (u3:= ay az t.aH) (x0:= ay az KP.2.aK) (x1:= ax A6 KP.2.aJ.length c6) (x2:= aA ⟨KP.2.at_.toArray⟩) ho' wm wm (ho.nb hR ws ws).1 (ho.nb hR ws ws).2 (ho.nb hQ ws ws).1 (ho.nb hQ ws ws).2) (qM (g:=H+2) (h:=H+3) (u0:= ax A5 n5 c5) (u1:= ax B2 (t).aG.length d2) (u2:= ay az t.aI) (u3:= ay az t.aH) (x0:= ay az KP.2.aK) (x1:= ax A6 KP.2.aJ.length c6) (x2:= aA ⟨KP.2.at_.toArray⟩) hl (zg hl hR ws) (zg hl hQ ws)) (zK (g:=H+2) (h:=H+3) (u0:= ax A5 n5 c5) (u1:= ax B2 (t).aG.length d2) (u2:= ay az t.aI) (u3:= ay az t.aH) (x0:= ay az KP.2.aK) (x1:= ax A6 KP.2.aJ.length c6) (x2:= aA ⟨KP.2.at_.toArray⟩) hB wm wm);obtain⟨f0,f1,f2,f3⟩:=sqF4 hR;obtain⟨y0,y1,y2,y3⟩:=sqC4 hR;obtain⟨e0,e1,e2⟩:=sqF3 hQ;obtain⟨x0,x1,x2⟩:=sqC3 hQ;obtain⟨s0,s1,s2,s3⟩:=sqC4 hS;obtain⟨t0,t1,t2⟩:=sqC3 h14;have n1:¬(g2=H+2):=wm;have n2:¬(g7=H+2):=wm;have n3:¬(g2=H+3):=wm;clear hR hQ ho ho' hl hB hS h14
 refine wH ?_;intros;go_region
 all_goals (try dsimp only [Exit.then])
 go_wp2_with fail;refine bodyPost_ret ((qc rfl) _ _ (H+2) (H+3) _ _ _ _ _ _ _ _ ww (Arr.drew HF1.o) Tryz.underlying34 rfl wo ww (Arr.drew HF2.o) Tryz.underlying37 rfl wo) rfl ?_;have hh:=HH.o;subst hh;rw [<-HDS.o,HKP.o];have hq1:w.heap.size<=w1.heap.size:=wm;exact⟨_,_,_,rfl,HF3.o.drewX.mono (fun b hb=>Nat.lt_of_lt_of_le hb hq1),zb HF4.o.drew hq1,HF5.o.drew⟩
end Go.Proofs.YtaboknhfiijipaaGreat
