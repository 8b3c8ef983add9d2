/- Lemmas, as stated. -/
import Derived.Test.YtaboknhfiijipaaGreatQT29
set_option linter.unusedVariables false
set_option linter.unusedSimpArgs false
set_option maxRecDepth 100000
set_option maxHeartbeats 16000000
open Go.Proofs.Tryz
open Go.Proofs.Tryz renaming prog->zZZ
open Go.Value renaming slice->ax,int->ay,string->aA
open Go.IntKind renaming i64->az
open Go.Obj renaming cells->aB
open Option renaming none->aC,some->aD
open And renaming intro->aE
namespace Go.Proofs.YtaboknhfiijipaaGreat
open Go.RowKit Go.Maps
theorem KU {fs:List FlP} {k:ae} {i:Nat} (hi:i<fs.length):kB (fs.take (i+1)) k=(kB (fs.take i) k||fs[i].key==k):=by
 unfold kB;rw [List.take_succ_eq_append_getElem hi,List.any_append];simp
theorem z17 (p:LoW) (m:LoP) (kd n:Nat) (dg D:ae) (ps:List PartP) (A:af) (c:Nat) (A':af) (c':Nat) (w:World) (hr:RdLo w p m) :
  Calls zZZ 121 #[loV p m,orV kd n dg D ps A c A' c'] w fun e w'=>e= .returned (.bool (kB m.fs dg))/\Below w.heap.size w w':=by
 obtain⟨X,cX,Y,dY,G,ng,F,cF⟩:=p;obtain⟨s,co,fs⟩:=m;obtain⟨w0,hw0,hP,hO,hbx⟩:=zo w 40 29 [ax X s.aF.length cX,ax Y s.aG.length dY,ay az s.aI,ay az s.aH,ay az co.aK,ax G co.aJ.length ng,aA ⟨co.at_.toArray⟩,ax F fs.length cF] [ay az kd,ay az n,aA ⟨dg.toArray⟩,ax A D.length c,ax A' ps.length c'];have HR:=sqH (fun W (h:Below w0.heap.size w0 W)=>(hr.below hbx).f.below h);have hfc:(cF:Int)<=9223372036854775807:=by have h:cF<=maxLen:=hr.fm;unfold maxLen at h;omega
 have hfl:fs.length<=cF:=hr.fc;have HBX:=sqH hbx;have HPO:=sqH (show ∀W,Below w0.heap.size w0 W->Arr W (w.heap.size+1) 29 [ay az kd,ay az n,aA ⟨dg.toArray⟩,ax A D.length c,ax A' ps.length c'] from fun W h=>hO.below h);have x7:=hP.c7;have HW0:=sqH hw0;rw [hw0]at x7;obtain⟨H,hH⟩:=wV w.heap.size
 rw [<-hH]at HPO;have HH:=sqH hH;clear hr hbx hP hO hw0 hH;go_enter func121,ntmps121
 refine wH ?_;intros;rw [<-HW0.o,<-HH.o];clear x7;go_loopg [10] fs.length (fun gn u wr=>∃i:Nat,gn=fs.length - i/\u= ay az i/\i<=fs.length/\kB (fs.take i) dg=false/\Below w0.heap.size w0 wr)
 case atStart=>exact⟨0,rfl,rfl,Nat.zero_le _,rfl,Below.refl _ _⟩
 case round =>
  obtain⟨i,hgk,rfl,hi,hwt,hbl⟩:=hrel;obtain⟨HGK,HWT,HBL⟩:=sqJ3 hgk hwt hbl;clear hgk hwt;by_cases hlt:i<fs.length
  ·have hcc:decide (i<fs.length)=true:=decide_eq_true hlt;have hci:decide ((i:Int)<(fs.length:Int))=true:=decide_eq_true wm;obtain⟨b,off,B,cb,rfl,hbb,c0,c1,c2, -⟩:=(HR.o _ hbl).at_ i hlt;have hi0:=wY i
   have hi1:(i:Int)<(fs.length:Int):=wm;have htk:=KU (k:=dg) hlt;rw [HWT.o,Bool.false_or]at htk;have HTK:=sqH htk;clear htk;generalize fs[i]=fl at *
   obtain⟨k,ld,wt⟩:=fl;dsimp only at c0 c1 c2;obtain⟨w4,hw4⟩:=wV (wr.alloc (aB #[aA ⟨k.toArray⟩,ay az ld,ax B wt.length cb] 93))
   have hb4:Below w0.heap.size w0 w4:=by rw [hw4];exact hbl.alloc hbl.size _
   have z0:w4.cell? ⟨wr.heap.size,0,aC⟩=aD (aA ⟨k.toArray⟩):=by rw [hw4];exact(Arr.new wr 93 [aA ⟨k.toArray⟩,ay az ld,ax B wt.length cb]).c0
   have y2:w4.cell? ⟨H+1,2,aC⟩=aD (aA ⟨dg.toArray⟩):=(HPO.o _ hb4).c2;have HB4:=sqH hb4;have HW4:=sqH hw4;clear hb4 hbl hw4;rw [HW4.o]at z0 y2;by_cases hkd:k=dg
   ·have hke:(k==dg)=true:=by rw [hkd];exact beq_self_eq_true _
    have HKE:=sqH hkd;have hke2:(dg==dg)=true:=beq_self_eq_true _;clear hkd
    refine wH ?_;intros;go_ret;have e1:kB fs dg=true:=by
     have h:=HTK.o;dsimp only at h;rw [HKE.o,beq_self_eq_true]at h;unfold kB at h ⊢
     rw [List.any_eq_true]at h ⊢
     obtain⟨x,hx,hx2⟩:=h;exact⟨x,List.mem_of_mem_take hx,hx2⟩
    rw [e1];exact⟨rfl,HBX.o.trans ((HW4.o▸HB4.o).mono HBX.o.size)⟩
   ·have hke:(k==dg)=false:=beq_eq_false_iff_ne.2 hkd;have HKE:=sqH hkd;clear hkd
    refine wH ?_;intros;go_roundg (fs.length - (i+1))
    case measure=>exact wX HGK
    case rel=>exact⟨i+1,rfl,by go_num,wm,HTK.o.trans (beq_eq_false_iff_ne.2 HKE.o),HW4.o▸HB4.o⟩
  ·obtain rfl:i=fs.length:=by omega
   have hcc:decide (fs.length<fs.length)=false:=wu;have hci:decide ((fs.length:Int)<(fs.length:Int))=false:=wu;have hwf:=HWT.o;rw [List.take_length]at hwf;have HWF:=sqH hwf;clear hwf hbl
   refine wH ?_;intros;go_ret;rw [HWF.o];exact⟨rfl,wh HBX.o HBL.o⟩
theorem z12 (g:Nat) (p:LoW) (l:LoP) (kd n:Nat) (dg D:ae) (ps:List PartP) (A:af) (c:Nat) (A':af) (c':Nat) (w:World) (hL:GoodL l) (hk:hexC dg=0) (hkl:dg.length<=1000) (hn1:1<=n) (hn2:n<=1000) (hck:l.st.aH<1099511627776) (h1:kd=12) (N:aj) (hNg:N g) (hNw:∀b,N b->b<w.heap.size) (hb:DkB w g p l N) (hd:Sl w 1 A D.length c (bys D)) (hq:Sl w 3 A' ps.length c' (pcs ps)) :
  Calls zZZ 69 #[.pointer (aD ⟨g,0,aC⟩),orV kd n dg D ps A c A' c'] w (k5 w g N (fliD l ⟨kd,n,dg,D,ps⟩)):=by
 have k1:((kd:Int)==12)=true:=by rw [beq_iff_eq];omega
 have HK:=sqH h1;have HPX:=sqH (aE hk (aE hkl (aE hn1 (aE hn2 hck))));clear h1 hk hkl hn1 hn2 hck;obtain⟨X,cX,Y,dY,G,ng,F,cF⟩:=p;obtain⟨s,co,fs⟩:=l;have hgl:=hb.lt;have hgw:=hb.lt;have hbw:=hb.wider (N':=fun b=>N b\/w.heap.size<=b) (fun b h=>h);obtain⟨w0,hw0,hP,hR,hbx⟩:=zo w 29 47 [ay az kd,ay az n,aA ⟨dg.toArray⟩,ax A D.length c,ax A' ps.length c'] [ay az 0,aA ⟨#[]⟩,ax aC 0 0,ax aC 0 0,ay az 0,ax aC 0 0];have HDK:=sqH (show ∀W,Below w0.heap.size w0 W->DkB W g ⟨X,cX,Y,dY,G,ng,F,cF⟩ ⟨s,co,fs⟩ (fun b=>N b\/w.heap.size<=b) from fun W h=>(hbw.below hbx).below h);have HBC:=sqH (show ∀W,Below w0.heap.size w0 W->wF W g (ax X s.aF.length cX) (ax Y s.aG.length dY) (ay az s.aI) (ay az s.aH) (ay az co.aK) (ax G co.aJ.length ng) (aA ⟨co.at_.toArray⟩) (ax F fs.length cF) from fun W h=>by
  have b:=(HDK.o W h).box;exact sqC8 b)
 have hws:=hbx.size;obtain⟨HDB,HBX,HD,HQ⟩:=sqJ4 (show ∀W,Below w.heap.size w W->DkB W g ⟨X,cX,Y,dY,G,ng,F,cF⟩ ⟨s,co,fs⟩ (fun b=>N b\/w.heap.size<=b) from fun W h=>hbw.below h) hbx (hd.below hbx) (hq.below hbx);obtain⟨H,hH⟩:=wV w.heap.size
 rw [<-hH]at hP hR hgl;have hHw:w.heap.size<=H:=wm;have hHw1:w.heap.size<=H+1:=wm;have hgH:g≠H+1:=wm;have hHl:H+1<w0.heap.size:=hR.lt;obtain⟨HP,HR,HL,HNW⟩:=sqJ4 (show ∀W,Below w0.heap.size w0 W->Arr W H 29 (orC kd n dg D ps A c A' c') from fun W h=>hP.below h) (show ∀W,Below w0.heap.size w0 W->Arr W (H+1) 47 QW from fun W h=>hR.below h) hL hNw;obtain⟨x0,x1,x2,x3,x4⟩:=sqC5 hP;have HW0:=sqH hw0;have HH:=sqH hH;rw [hw0,hH]at x0 x1 x2 x3 x4;clear hb hbw hbx hd hq hP hR hL hw0 hH hNw;go_enter func69,ntmps69
 refine wJ 2 ?_;intros;rw [<-HW0.o,<-HH.o];clear x0 x1 x2 x3 x4;have HPB:=sqH (fun W (h:Below w0.heap.size w0 W)=>Vk ⟨X,cX,Y,dY,G,ng,F,cF⟩ ⟨s,co,fs⟩ dg (n:Int) W HL.o (HDK.o W h).rd HPX.o.1 HPX.o.2.1 (by have:=HPX.o.2.2.1;omega) (by have:=HPX.o.2.2.2.1;omega) HPX.o.2.2.2.2);generalize hpb:uu ⟨s,co,fs⟩ dg (n:Int)=r at HPB;obtain⟨m,p2,lead,q⟩:=r;dsimp only at HPB;have HPD:=sqH hpb;clear hpb;have HSB:=sqH (show ∀W,Below w0.heap.size w0 W->(wF W g (ax X s.aF.length cX) (ax Y s.aG.length dY) (ay az s.aI) (ay az s.aH) (ay az co.aK) (ax G co.aJ.length ng) (aA ⟨co.at_.toArray⟩) (ax F fs.length cF))/\W.cell? ⟨H,2,aC⟩=aD (aA ⟨dg.toArray⟩)/\W.cell? ⟨H,1,aC⟩=aD (ay az n) from fun W h=>⟨HBC.o W h,(HP.o W h).c2,(HP.o W h).c1⟩)
 iterate 1 (first | go_values | go_skip | go_guarded | go_step | go_upon | go_back)
 apply zE;intro REST;apply zE;intro Rb1;refine ze [15] (S:=(fun w'=>(wF w' g (ax X s.aF.length cX) (ax Y s.aG.length dY) (ay az s.aI) (ay az s.aH) (ay az co.aK) (ax G co.aJ.length ng) (aA ⟨co.at_.toArray⟩) (ax F fs.length cF))/\w'.cell? ⟨H,2,aC⟩=aD (aA ⟨dg.toArray⟩)/\w'.cell? ⟨H,1,aC⟩=aD (ay az n))) wo ?_ (fun hHeld=> ?_)
 ·exact HSB.o _ (((wi w0)).drew)
 have hB:=((wi w0)).drew;generalize w0.drew=wn0 at *
 refine wP 0 ?_;refine wP 1 ?_;refine wP 2 ?_;refine wO 3 ?_;refine wP 4 ?_;refine wO 5 ?_;refine wP 6 ?_;refine wO 7 ?_;refine za (rs:= [8,14]) wo wu ?_;refine z8.cons (o:=_) rfl (fun K hK=> ?_) ?_
 ·
  go_simp;refine(HPB.o wn0 hB).mono ?_;rintro e5 w5 ⟨v1,v2,v3,v4,vp,rfl,ho5,hp5,hb5⟩;obtain⟨⟨A1,c1,B1,d1,G1,n1,F1,jf⟩,rfl,rfl,rfl,rfl, -⟩:=ho5.rd;obtain⟨P1,k1_,rfl, -, -⟩:=Rd.of_own' hp5;dsimp only;refine zR hK ?_ (fun W=>Below w0.heap.size w0 W/\OwSt W w.heap.size (ax A1 m.st.aF.length c1) (ax B1 m.st.aG.length d1) m.st (fun b=>(N b\/b=H+1))/\W.ownsRow w.heap.size 9 1 (ax G1 m.co.aJ.length n1) m.co.aJ.length (strs m.co.aJ)/\W.ownsRow w.heap.size 85 3 (ax P1 p2.length k1_) p2.length (pcs p2)/\FlsO W w.heap.size (ax F1 m.fs.length jf) m.fs) (fun W=>True) ?_ ?_ (fun wn1 hHeld2 hF _=> ?_)
  ·exact HSB.o _ ((wh hB hb5))
  ·exact⟨wh hB hb5,(ho5.s.lower (base':=w.heap.size) (by have:=hB.size;omega)).mono (N':=(fun b=>(N b\/b=H+1))) (fun b hb=>by have:=hB.size;rcases hb with hb | hb;(have:=HNW.o b hb;omega);omega),zb ho5.c (by have:=hB.size;omega),zb hp5 (by have:=hB.size;omega),ho5.f.lower (by have:=hB.size;omega)⟩
  ·trivial
  clear hB hHeld;have hHeld:=hHeld2;clear hHeld2;obtain⟨hB,ho,hc,hl,hf⟩:=hF;clear hb5 ho5 hp5;clear hK K
  refine wP 9 ?_;refine wP 10 ?_;refine wP 11 ?_;refine wP 12 ?_;refine wP 13 ?_;refine wU 14 fun K hK=>?_;have hba:=wj wn1 (aB #[ax aC 0 0,ax aC 0 0,ay az 0,ay az 0,ay az 0,ax aC 0 0,aA ⟨#[]⟩,ax aC 0 0] 40);have hn:=Arr.new wn1 40 [ax aC 0 0,ax aC 0 0,ay az 0,ay az 0,ay az 0,ax aC 0 0,aA ⟨#[]⟩,ax aC 0 0];have hnl:w0.heap.size<=wn1.heap.size:=hB.size;obtain⟨g5,hge⟩:=wV wn1.heap.size
  have hN:∀b,b=g5->wn1.heap.size<=b:=fun b h=>by rw [h,hge];exact Nat.le_refl _
  rw [<-hge]at hn hnl;go_simp;rw [<-hge];clear hge;refine zR hK ?_ (fun W=>Below w0.heap.size w0 W/\Arr W g5 40 [ax aC 0 0,ax aC 0 0,ay az 0,ay az 0,ay az 0,ax aC 0 0,aA ⟨#[]⟩,ax aC 0 0]/\w0.heap.size<=g5/\OwSt W w.heap.size (ax A1 m.st.aF.length c1) (ax B1 m.st.aG.length d1) m.st (fun b=>(N b\/b=H+1)\/b=g5)/\W.ownsRow w.heap.size 9 1 (ax G1 m.co.aJ.length n1) m.co.aJ.length (strs m.co.aJ)/\W.ownsRow w.heap.size 85 3 (ax P1 p2.length k1_) p2.length (pcs p2)/\FlsO W w.heap.size (ax F1 m.fs.length jf) m.fs) (fun W=>True) ?_ ?_ (fun wn2 hHeld2 hF _=> ?_)
  ·exact HSB.o _ ((wh hB hba))
  ·exact⟨wh hB hba,hn,hnl,(ho.wider (N':=(fun b=>(N b\/b=H+1)\/b=g5)) (fun b hb=>hb.elim (fun hb=> .inl hb) (fun hb=> .inr (hN _ hb)))).below hba,zc hc hba,zc hl hba,hf.below hba⟩
  ·trivial
  clear hf hl hc ho hB hHeld;have hHeld:=hHeld2;clear hHeld2;obtain⟨hB,h5,h5l,ho,hc,hl,hf⟩:=hF;clear hba hn hnl hN;clear hK K
  try simp only [sqP]
  have hall:=aE hB (aE h5 (aE h5l (aE ho (aE hc (aE hl (aE hf hHeld))))));clear hHeld hf hl hc ho h5l h5 hB;generalize wn2=wz at hall ⊢
  revert hall;revert wz;revert g5;revert k1_;revert P1;revert jf;revert F1;revert n1;revert G1;revert d1;revert B1;revert c1;revert A1;exact Rb1.o
 refine z8.cons (o:=_) rfl (fun K hK=> ?_) ?_
 ·
  have hba:=wj wn0 (aB #[ax aC 0 0,ax aC 0 0,ay az 0,ay az 0,ay az 0,ax aC 0 0,aA ⟨#[]⟩,ax aC 0 0] 40);have hn:=Arr.new wn0 40 [ax aC 0 0,ax aC 0 0,ay az 0,ay az 0,ay az 0,ax aC 0 0,aA ⟨#[]⟩,ax aC 0 0];have hnl:w0.heap.size<=wn0.heap.size:=hB.size;obtain⟨g5,hge⟩:=wV wn0.heap.size
  have hN:∀b,b=g5->wn0.heap.size<=b:=fun b h=>by rw [h,hge];exact Nat.le_refl _
  rw [<-hge]at hn hnl;go_simp;rw [<-hge];clear hge;refine zR hK ?_ (fun W=>Below w0.heap.size w0 W/\Arr W g5 40 [ax aC 0 0,ax aC 0 0,ay az 0,ay az 0,ay az 0,ax aC 0 0,aA ⟨#[]⟩,ax aC 0 0]/\w0.heap.size<=g5) (fun W=>True) ?_ ?_ (fun wn3 hHeld2 hF _=> ?_)
  ·exact HSB.o _ ((wh hB hba))
  ·exact⟨wh hB hba,hn,hnl⟩
  ·trivial
  clear hB hHeld;have hHeld:=hHeld2;clear hHeld2;obtain⟨hB,h5,h5l⟩:=hF;clear hba hn hnl hN;clear hK K
  try simp only [sqP]
  refine wU 8 fun K hK=>?_;go_simp;refine(HPB.o wn3 hB).mono ?_;rintro e5 w5 ⟨v1,v2,v3,v4,vp,rfl,ho5,hp5,hb5⟩;obtain⟨⟨A1,c1,B1,d1,G1,n1,F1,jf⟩,rfl,rfl,rfl,rfl, -⟩:=ho5.rd;obtain⟨P1,k1_,rfl, -, -⟩:=Rd.of_own' hp5;dsimp only;refine zR hK ?_ (fun W=>Below w0.heap.size w0 W/\Arr W g5 40 [ax aC 0 0,ax aC 0 0,ay az 0,ay az 0,ay az 0,ax aC 0 0,aA ⟨#[]⟩,ax aC 0 0]/\w0.heap.size<=g5/\OwSt W w.heap.size (ax A1 m.st.aF.length c1) (ax B1 m.st.aG.length d1) m.st (fun b=>(N b\/b=H+1)\/b=g5)/\W.ownsRow w.heap.size 9 1 (ax G1 m.co.aJ.length n1) m.co.aJ.length (strs m.co.aJ)/\W.ownsRow w.heap.size 85 3 (ax P1 p2.length k1_) p2.length (pcs p2)/\FlsO W w.heap.size (ax F1 m.fs.length jf) m.fs) (fun W=>True) ?_ ?_ (fun wn4 hHeld2 hF _=> ?_)
  ·exact HSB.o _ ((wh hB hb5))
  ·exact⟨wh hB hb5,h5.below hb5,h5l,(ho5.s.lower (base':=w.heap.size) (by have:=hB.size;omega)).mono (N':=(fun b=>(N b\/b=H+1)\/b=g5)) (fun b hb=>hb.elim (fun hb=>by have:=hB.size;rcases hb with hb | hb;(have:=HNW.o b hb;omega);omega) (fun hb=>(by rw [hb];exact h5.lt))),zb ho5.c (by have:=hB.size;omega),zb hp5 (by have:=hB.size;omega),ho5.f.lower (by have:=hB.size;omega)⟩
  ·trivial
  clear h5l h5 hB hHeld;have hHeld:=hHeld2;clear hHeld2;obtain⟨hB,h5,h5l,ho,hc,hl,hf⟩:=hF;clear hb5 ho5 hp5;clear hK K
  refine wP 9 ?_;refine wP 10 ?_;refine wP 11 ?_;refine wP 12 ?_;refine wP 13 ?_;have hall:=aE hB (aE h5 (aE h5l (aE ho (aE hc (aE hl (aE hf hHeld))))));clear hHeld hf hl hc ho h5l h5 hB;generalize wn4=wz at hall ⊢
  revert hall;revert wz;revert g5;revert k1_;revert P1;revert jf;revert F1;revert n1;revert G1;revert d1;revert B1;revert c1;revert A1;exact Rb1.o
 exact z8.nil;intro A1 c1 B1 d1 G1 n1 F1 jf P1 k1_ g5 wRb1 hall;obtain⟨hB,h5,h5l,ho,hc,hl,hf,hHeld⟩:=hall;refine za (rs:= [15]) wo wu ?_;refine z8.store (o:=_) rfl ww (fun K hK=> ?_) ?_
 ·
  have hqho:=ho.nb h5 ws ws;have hqhc:=zg hc h5 ws;have hqhl:=zg hl h5 ws;obtain⟨z0,f0,z1,f1,z2,f2,z3,f3,z4,f4,z5,f5,z6,f6,z7,f7⟩:=we h5;go_simp;clear z0 f0 z1 f1 z2 f2 z3 f3 z4 f4 z5 f5 z6 f6 z7 f7;refine vd hK (fun W=>Below w0.heap.size w0 W/\Arr W g5 40 [(ax A1 m.st.aF.length c1),(ax B1 m.st.aG.length d1),ay az m.st.aI,ay az m.st.aH,ay az m.co.aK,(ax G1 m.co.aJ.length n1),aA ⟨m.co.at_.toArray⟩,(ax F1 m.fs.length jf)]/\w0.heap.size<=g5/\OwSt W w.heap.size (ax A1 m.st.aF.length c1) (ax B1 m.st.aG.length d1) m.st (fun b=>(N b\/b=H+1)\/b=g5)/\W.ownsRow w.heap.size 9 1 (ax G1 m.co.aJ.length n1) m.co.aJ.length (strs m.co.aJ)/\W.ownsRow w.heap.size 85 3 (ax P1 p2.length k1_) p2.length (pcs p2)/\FlsO W w.heap.size (ax F1 m.fs.length jf) m.fs) (fun W=>True) ?_ ?_ (fun wn5 hF _=> ?_)
  ·exact⟨((((((((hB).setCell (p:=⟨g5,0,aC⟩) h5l _).setCell (p:=⟨g5,1,aC⟩) h5l _).setCell (p:=⟨g5,2,aC⟩) h5l _).setCell (p:=⟨g5,3,aC⟩) h5l _).setCell (p:=⟨g5,4,aC⟩) h5l _).setCell (p:=⟨g5,5,aC⟩) h5l _).setCell (p:=⟨g5,6,aC⟩) h5l _).setCell (p:=⟨g5,7,aC⟩) h5l _,h5.all8 _ _ _ _ _ _ _ _,h5l,ho.set8N (.inr rfl) hqho.1 hqho.2 _ _ _ _ _ _ _ _,zZ hc hqhc _ _ _ _ _ _ _ _,zZ hl hqhl _ _ _ _ _ _ _ _,hf.set8 h5 ws ws _ _ _ _ _ _ _ _⟩
  ·trivial
  clear hf hl hc ho h5l h5 hB hHeld;obtain⟨hB,h5,h5l,ho,hc,hl,hf⟩:=hF;clear hqho hqhc hqhl;clear hK K
  refine wP 16 ?_;refine wP 17 ?_;refine wP 18 ?_;refine zq wo ?_ _
  try dsimp only [Exit.then]
  have hall:=aE hB (aE h5 (aE h5l (aE ho (aE hc (aE hl hf)))));clear hf hl hc ho h5l h5 hB;generalize wn5=wz at hall ⊢
  revert hall;revert wz;revert g5;revert k1_;revert P1;revert jf;revert F1;revert n1;revert G1;revert d1;revert B1;revert c1;revert A1;exact REST.o
 exact z8.nil;intro A1 c1 B1 d1 G1 n1 F1 jf P1 k1_ g5 w3 hall;obtain⟨hB,h5,h5l,ho,hc,hl,hf⟩:=hall;have hol:OwLo w3 w.heap.size (ax A1 m.st.aF.length c1) (ax B1 m.st.aG.length d1) (ax G1 m.co.aJ.length n1) (ax F1 m.fs.length jf) m (fun b=>N b\/b=H+1):=⟨ho.mono fun b hb=> .inl hb,hc,hf⟩
 have holw:=hol.wider (N':=fun b=>N b\/b=H+1\/w3.heap.size<=b) (fun b h=>h.elim (fun h=> .inl (.inl h)) (fun h=>h.elim (fun h=> .inl (.inr h)) .inr));have hgw3:g+1<=w.heap.size:=hgw;have HKP:=sqH (jk g ⟨X,cX,Y,dY,G,ng,F,cF⟩ ⟨s,co,fs⟩ _ _ _ _ m q w3 (fun b=>N b\/b=H+1\/w3.heap.size<=b) (.inl hNg) ((HDK.o _ hB).mono fun b hb=>hb.imp id fun h=>by(have:=hB.size;rcases h with h | h<;>omega)) (fun _=>holw.lower hgw3));obtain⟨a0,a1,a2,a3,a4,a5,a6,a7⟩:=sqC8 h5;obtain⟨HB,HOL,H5,HLR⟩:=sqJ4 hB hol h5 hl;have hg5w:w0.heap.size<=g5:=h5l;have hg5l:g5<w3.heap.size:=h5.lt;have hws3:w.heap.size<=w3.heap.size:=Nat.le_trans hws hB.size;clear hB h5 h5l ho hc hl hf HPB HSB hol holw
 refine wH ?_;intros;refine((HKP.o)).mono ?_;rintro e_ w4 ⟨rfl,hg4,hd4⟩;dsimp only;clear a0 a1 a2 a3 a4 a5 a6 a7 HKP;obtain⟨w5,hw5⟩:=wV (w4.alloc (aB #[ay az q,aA ⟨#[]⟩,ax aC 0 0,ax P1 p2.length k1_,ay az 0,ax aC 0 0] 47))
 have hb5:Below w4.heap.size w4 w5:=by rw [hw5];exact(Below.refl _ _).alloc ac _
 have hz5:Arr w5 w4.heap.size 47 [ay az q,aA ⟨#[]⟩,ax aC 0 0,ax P1 p2.length k1_,ay az 0,ax aC 0 0]:=by rw [hw5];exact Arr.new w4 47 _
 have hg35:=zO hg4 hb5;have hws4:w3.heap.size<=w4.heap.size:=hg4.size;obtain⟨gr,hgr⟩:=wV w4.heap.size
 rw [<-hgr]at hz5 hws4;have hgrl:gr<w5.heap.size:=hz5.lt;obtain⟨HX,HO5,HZ5,HW5,HGR⟩:=sqJ5 (aE (hd4.imp fun _ h=>h.below hb5) (aE (zO (zP (HBX.o.trans (HB.o.mono hws)) hg4) hb5) (aE (((HR.o _ HB.o).grown hg4 ab).below hb5) (kf HLR.o hg35 hgw)))) (aE ((HOL.o.grownE hg35 hgw (.inl hNg))) (aE (H5.o.grown hg35 ab) (((HP.o _ HB.o).grown hg35 ab)))) hz5 hw5 hgr;clear hd4 hb5 hz5 hg4 hg35 hw5 hgr
 refine wJ 5 ?_;intros;rw [<-HW5.o,<-HGR.o];clear HW5 HGR;by_cases hq0:q=0
 rotate_left
 ·have k2:((q:Int) != 0)=true:=by rw [bne_iff_ne];omega
  have HQ0:=sqH hq0;have hr3:=HX.o.2.2.1;obtain⟨z0,z1,z2,z3,z4,z5⟩:=sqC6 HZ5.o;clear hq0;obtain⟨f0,f1,f2,f3,f4,f5⟩:=sqF6 hr3;obtain⟨y0,y1,y2,y3,y4,y5⟩:=sqC6 hr3;have HR3:=sqH hr3;have HF:=sqH (hr3.all6 (ay az q) (aA ⟨#[]⟩) (ax aC 0 0) (ax P1 p2.length k1_) (ay az 0) (ax aC 0 0));clear hr3
  refine wH ?_;intros;refine bodyPost_ret (results_cell_row rfl _ _ (H+1) _ _ _ _ ww HF.o underlying47 rfl wo) rfl ?_;have e1:fliD ⟨s,co,fs⟩ ⟨kd,n,dg,D,ps⟩=(xE ⟨s,co,fs⟩ m q,⟨q, [], [],p2,0, []⟩):=by
   unfold fliD;rw [if_pos (show kd=12 from HK.o)];dsimp only;rw [HPD.o];dsimp only;rw [if_pos HQ0.o]
  rw [e1];obtain⟨⟨p',hd4⟩,hg5,hr5,hl5⟩:=HX.o;exact⟨_,_,_,rfl,zl hg5 hHw1 _ _ _ _ _ _,⟨p',(hd4.set6 hr5 (.inr (.inl rfl)) hgH _ _ _ _ _ _).mono fun b h=> .inl h⟩,⟨World.ownsRow_nil _ _ _ _,qu hl5 (zg hl5 hr5 ws) _ _ _ _ _ _,World.ownsRow_nil _ _ _ _⟩⟩
 have k2:((q:Int) != 0)=false:=by rw [hq0];rfl
 have HQ0:=sqH hq0;clear hq0;cases lead with
 | true =>
  have hr3:=HX.o.2.2.1;have hr3':=hr3.other (k:=4) (g':=gr) (show H+1≠gr by omega) (ay az 1);have hz6:=HZ5.o.set (k:=4) wu (ay az 1);have HX6:=sqH (aE (HX.o.1.imp fun _ h=>h.set HZ5.o (.inr (.inr hws4)) (show g≠gr by omega) (ay az 1) (k:=4)) (aE (zt (k:=4) (u:= ay az 1) HX.o.2.1 (show w.heap.size<=gr by omega)) (aE hr3' (zd (k:=4) (u:= ay az 1) HX.o.2.2.2 (zg HX.o.2.2.2 HZ5.o ws)))));have HZ6:=sqH hz6;have z4:=HZ5.o.c4;have q4:=HZ5.o.frozen 4;clear hr3 hr3' hz6 HX
  refine wJ 10 ?_;intros;generalize w5.setCell ⟨gr,4,aC⟩ (ay az 1)=w6 at *
  clear z4 q4;have HX:=HX6;have hr3:=HX.o.2.2.1;have hz6:Arr w6 gr 47 [ay az q,aA ⟨#[]⟩,ax aC 0 0,ax P1 p2.length k1_,ay az 1,ax aC 0 0]:=HZ6.o;obtain⟨z0,z1,z2,z3,z4,z5⟩:=sqC6 hz6;clear hz6;obtain⟨f0,f1,f2,f3,f4,f5⟩:=sqF6 hr3;obtain⟨y0,y1,y2,y3,y4,y5⟩:=sqC6 hr3;have HR3:=sqH hr3;have HF:=sqH (hr3.all6 (ay az q) (aA ⟨#[]⟩) (ax aC 0 0) (ax P1 p2.length k1_) (ay az 1) (ax aC 0 0));clear hr3
  refine wH ?_;intros;refine bodyPost_ret (results_cell_row rfl _ _ (H+1) _ _ _ _ ww HF.o underlying47 rfl wo) rfl ?_;have e1:fliD ⟨s,co,fs⟩ ⟨kd,n,dg,D,ps⟩=(xE ⟨s,co,fs⟩ m q,⟨q, [], [],p2,1, []⟩):=by
   unfold fliD;rw [if_pos (show kd=12 from HK.o)];dsimp only;rw [HPD.o];dsimp only;rw [if_neg (fun h=>h HQ0.o),if_pos rfl]
  rw [e1];obtain⟨⟨p',hd4⟩,hg5,hr5,hl5⟩:=HX.o;exact⟨_,_,_,rfl,zl hg5 hHw1 _ _ _ _ _ _,⟨p',(hd4.set6 hr5 (.inr (.inl rfl)) hgH _ _ _ _ _ _).mono fun b h=> .inl h⟩,⟨World.ownsRow_nil _ _ _ _,qu hl5 (zg hl5 hr5 ws) _ _ _ _ _ _,World.ownsRow_nil _ _ _ _⟩⟩
 | false =>
  have HWT:=sqH (z17 ⟨A1,c1,B1,d1,G1,n1,F1,jf⟩ m kd n dg D ps A c A' c' w5 (OwLo.rdAt (p:=⟨A1,c1,B1,d1,G1,n1,F1,jf⟩) HO5.o.1));obtain⟨a0,a1,a2,a3,a4,a5,a6,a7⟩:=sqC8 HO5.o.2.1;obtain⟨o0,o1,o2,o3,o4⟩:=sqC5 HO5.o.2.2;generalize hwv:kB m.fs dg=bw at HWT;have HWV:=sqH hwv;clear hwv
  refine wH ?_;intros;refine wW HWT.o fun w6 hb6=>?_;dsimp only;clear a0 a1 a2 a3 a4 a5 a6 a7 o0 o1 o2 o3 o4 HWT;have HX6:=sqH (aE (HX.o.1.imp fun _ h=>h.below hb6) (aE (zO HX.o.2.1 hb6) (aE (HX.o.2.2.1.below hb6) (zc HX.o.2.2.2 hb6))));have HZ6:=sqH (HZ5.o.below hb6);clear hb6 HX HZ5 HO5;cases bw with
  | false =>
   have HX:=HX6;have hr3:=HX.o.2.2.1;have hz6:=HZ6.o;obtain⟨z0,z1,z2,z3,z4,z5⟩:=sqC6 hz6;clear hz6;obtain⟨f0,f1,f2,f3,f4,f5⟩:=sqF6 hr3;obtain⟨y0,y1,y2,y3,y4,y5⟩:=sqC6 hr3;have HR3:=sqH hr3;have HF:=sqH (hr3.all6 (ay az q) (aA ⟨#[]⟩) (ax aC 0 0) (ax P1 p2.length k1_) (ay az 0) (ax aC 0 0));clear hr3
   refine wH ?_;intros;refine bodyPost_ret (results_cell_row rfl _ _ (H+1) _ _ _ _ ww HF.o underlying47 rfl wo) rfl ?_;have e1:fliD ⟨s,co,fs⟩ ⟨kd,n,dg,D,ps⟩=(xE ⟨s,co,fs⟩ m q,⟨q, [], [],p2,0, []⟩):=by
    unfold fliD;rw [if_pos (show kd=12 from HK.o)];dsimp only;rw [HPD.o];dsimp only;rw [if_neg (fun h=>h HQ0.o),if_neg ws,HWV.o];rfl
   rw [e1];obtain⟨⟨p',hd4⟩,hg5,hr5,hl5⟩:=HX.o;exact⟨_,_,_,rfl,zl hg5 hHw1 _ _ _ _ _ _,⟨p',(hd4.set6 hr5 (.inr (.inl rfl)) hgH _ _ _ _ _ _).mono fun b h=> .inl h⟩,⟨World.ownsRow_nil _ _ _ _,qu hl5 (zg hl5 hr5 ws) _ _ _ _ _ _,World.ownsRow_nil _ _ _ _⟩⟩
  | true =>
   have hr3:=HX6.o.2.2.1;have hr3':=hr3.other (k:=4) (g':=gr) (show H+1≠gr by omega) (ay az 2);have hz6:=HZ6.o.set (k:=4) wu (ay az 2);have HX:=sqH (aE (HX6.o.1.imp fun _ h=>h.set HZ6.o (.inr (.inr hws4)) (show g≠gr by omega) (ay az 2) (k:=4)) (aE (zt (k:=4) (u:= ay az 2) HX6.o.2.1 (show w.heap.size<=gr by omega)) (aE hr3' (zd (k:=4) (u:= ay az 2) HX6.o.2.2.2 (zg HX6.o.2.2.2 HZ6.o ws)))));have HZ7:=sqH hz6;have z4:=HZ6.o.c4;have q4:=HZ6.o.frozen 4;clear hr3 hr3' hz6 HX6 HZ6
   refine wJ 10 ?_;intros;generalize w6.setCell ⟨gr,4,aC⟩ (ay az 2)=w7 at *
   clear z4 q4;have hr3:=HX.o.2.2.1;have hz6:Arr w7 gr 47 [ay az q,aA ⟨#[]⟩,ax aC 0 0,ax P1 p2.length k1_,ay az 2,ax aC 0 0]:=HZ7.o;obtain⟨z0,z1,z2,z3,z4,z5⟩:=sqC6 hz6;clear hz6;obtain⟨f0,f1,f2,f3,f4,f5⟩:=sqF6 hr3;obtain⟨y0,y1,y2,y3,y4,y5⟩:=sqC6 hr3;have HR3:=sqH hr3;have HF:=sqH (hr3.all6 (ay az q) (aA ⟨#[]⟩) (ax aC 0 0) (ax P1 p2.length k1_) (ay az 2) (ax aC 0 0));clear hr3
   refine wH ?_;intros;refine bodyPost_ret (results_cell_row rfl _ _ (H+1) _ _ _ _ ww HF.o underlying47 rfl wo) rfl ?_;have e1:fliD ⟨s,co,fs⟩ ⟨kd,n,dg,D,ps⟩=(xE ⟨s,co,fs⟩ m q,⟨q, [], [],p2,2, []⟩):=by
    unfold fliD;rw [if_pos (show kd=12 from HK.o)];dsimp only;rw [HPD.o];dsimp only;rw [if_neg (fun h=>h HQ0.o),if_neg ws,HWV.o];rfl
   rw [e1];obtain⟨⟨p',hd4⟩,hg5,hr5,hl5⟩:=HX.o;exact⟨_,_,_,rfl,zl hg5 hHw1 _ _ _ _ _ _,⟨p',(hd4.set6 hr5 (.inr (.inl rfl)) hgH _ _ _ _ _ _).mono fun b h=> .inl h⟩,⟨World.ownsRow_nil _ _ _ _,qu hl5 (zg hl5 hr5 ws) _ _ _ _ _ _,World.ownsRow_nil _ _ _ _⟩⟩
theorem z13 (g:Nat) (p:LoW) (l:LoP) (kd n:Nat) (dg D:ae) (ps:List PartP) (A:af) (c:Nat) (A':af) (c':Nat) (w:World) (hL:GoodL l) (hk:hexC dg=0) (hpz:chk ps=0) (hck:l.st.aH<1099511627776) (hlen:l.st.aG.length<10) (h1:kd=13) (N:aj) (hNg:N g) (hNw:∀b,N b->b<w.heap.size) (hb:DkB w g p l N) (hd:Sl w 1 A D.length c (bys D)) (hq:Sl w 3 A' ps.length c' (pcs ps)) :
  Calls zZZ 69 #[.pointer (aD ⟨g,0,aC⟩),orV kd n dg D ps A c A' c'] w (k5 w g N (fliD l ⟨kd,n,dg,D,ps⟩)):=by
 have k1:((kd:Int)==12)=false:=by rw [beq_eq_false_iff_ne];omega
 have k2:((kd:Int)==13)=true:=by rw [beq_iff_eq];omega
 have HK:=sqH h1;have HPX:=sqH (aE hk (aE hpz (aE hck hlen)));clear h1 hk hpz hck hlen;obtain⟨X,cX,Y,dY,G,ng,F,cF⟩:=p;obtain⟨s,co,fs⟩:=l;have hgl:=hb.lt;have hgw:=hb.lt;have hbw:=hb.wider (N':=fun b=>N b\/w.heap.size<=b) (fun b h=>h);obtain⟨w0,hw0,hP,hR,hbx⟩:=zo w 29 47 [ay az kd,ay az n,aA ⟨dg.toArray⟩,ax A D.length c,ax A' ps.length c'] [ay az 0,aA ⟨#[]⟩,ax aC 0 0,ax aC 0 0,ay az 0,ax aC 0 0];have HDK:=sqH (show ∀W,Below w0.heap.size w0 W->DkB W g ⟨X,cX,Y,dY,G,ng,F,cF⟩ ⟨s,co,fs⟩ (fun b=>N b\/w.heap.size<=b) from fun W h=>(hbw.below hbx).below h);have HBC:=sqH (show ∀W,Below w0.heap.size w0 W->wF W g (ax X s.aF.length cX) (ax Y s.aG.length dY) (ay az s.aI) (ay az s.aH) (ay az co.aK) (ax G co.aJ.length ng) (aA ⟨co.at_.toArray⟩) (ax F fs.length cF) from fun W h=>by
  have b:=(HDK.o W h).box;exact sqC8 b)
 have hws:=hbx.size;obtain⟨HDB,HBX,HD,HQ⟩:=sqJ4 (show ∀W,Below w.heap.size w W->DkB W g ⟨X,cX,Y,dY,G,ng,F,cF⟩ ⟨s,co,fs⟩ (fun b=>N b\/w.heap.size<=b) from fun W h=>hbw.below h) hbx (hd.below hbx) (hq.below hbx);obtain⟨H,hH⟩:=wV w.heap.size
 rw [<-hH]at hP hR hgl;have hHw:w.heap.size<=H:=wm;have hHw1:w.heap.size<=H+1:=wm;have hgH:g≠H+1:=wm;have hHl:H+1<w0.heap.size:=hR.lt;obtain⟨HP,HR,HL,HNW⟩:=sqJ4 (show ∀W,Below w0.heap.size w0 W->Arr W H 29 (orC kd n dg D ps A c A' c') from fun W h=>hP.below h) (show ∀W,Below w0.heap.size w0 W->Arr W (H+1) 47 QW from fun W h=>hR.below h) hL hNw;obtain⟨x0,x1,x2,x3,x4⟩:=sqC5 hP;have HW0:=sqH hw0;have HH:=sqH hH;rw [hw0,hH]at x0 x1 x2 x3 x4;clear hb hbw hbx hd hq hP hR hL hw0 hH hNw;go_enter func69,ntmps69
 refine wJ 11 ?_;intros;rw [<-HW0.o,<-HH.o];clear x0 x1 x2 x3 x4;obtain⟨w1,hw1⟩:=wV (w0.alloc (aB #[ax aC 0 0,ax aC 0 0,ay az 0,ay az 0,ay az 0,ax aC 0 0,aA ⟨#[]⟩,ax aC 0 0] 40))
 have hb1:Below w0.heap.size w0 w1:=by rw [hw1];exact(Below.refl _ _).alloc ac _
 obtain⟨g5,hg5⟩:=wV w0.heap.size
 have h50:Arr w1 g5 40 [ax aC 0 0,ax aC 0 0,ay az 0,ay az 0,ay az 0,ax aC 0 0,aA ⟨#[]⟩,ax aC 0 0]:=by rw [hw1,hg5];exact Arr.new w0 40 _
 have HBX1:=sqH (HBX.o.trans (hb1.mono hws));have hws1:w.heap.size<=w1.heap.size:=Nat.le_trans hws hb1.size;have hg5l:g5<w1.heap.size:=h50.lt;have hg5w:w0.heap.size<=g5:=wm;have HDW:=sqH (show ∀W,Below w1.heap.size w1 W->DkB W g ⟨X,cX,Y,dY,G,ng,F,cF⟩ ⟨s,co,fs⟩ (fun b=>N b\/w.heap.size<=b) from fun W h=>HDK.o W (wh hb1 h));have HPB:=sqH (fun W (h:Below w1.heap.size w1 W)=>Ya ⟨X,cX,Y,dY,G,ng,F,cF⟩ ⟨s,co,fs⟩ dg ps A' c' W HL.o (HDW.o W h).rd HPX.o.1 HPX.o.2.1 HPX.o.2.2.1 HPX.o.2.2.2 (HQ.o.below (wh hb1 h)));generalize hpb:kC ⟨s,co,fs⟩ dg ps=r at HPB;obtain⟨m,who,q⟩:=r;dsimp only at HPB;have HPD:=sqH hpb;clear hpb;obtain⟨HSB,HR1,HH5,HW1,HG5,HPO⟩:=sqJ6 (show ∀W,Below w1.heap.size w1 W->(wF W g (ax X s.aF.length cX) (ax Y s.aG.length dY) (ay az s.aI) (ay az s.aH) (ay az co.aK) (ax G co.aJ.length ng) (aA ⟨co.at_.toArray⟩) (ax F fs.length cF))/\W.cell? ⟨H,2,aC⟩=aD (aA ⟨dg.toArray⟩)/\W.cell? ⟨H,4,aC⟩=aD (ax A' ps.length c') from fun W h=>⟨HBC.o W (wh hb1 h),(HP.o W (wh hb1 h)).c2,(HP.o W (wh hb1 h)).c4⟩) ((HR.o _ hb1)) h50 hw1 hg5 (HP.o _ hb1);clear hb1 hg5 h50 hw1;have o0:=HPO.o.c0;rw [HW1.o]at o0
 refine wJ 15 ?_;intros;rw [<-HW1.o,<-HG5.o];have h50:=HH5.o;clear o0 HW1 HG5 HH5;apply zE;intro REST;refine ze [13] (S:=(fun w'=>(wF w' g (ax X s.aF.length cX) (ax Y s.aG.length dY) (ay az s.aI) (ay az s.aH) (ay az co.aK) (ax G co.aJ.length ng) (aA ⟨co.at_.toArray⟩) (ax F fs.length cF))/\w'.cell? ⟨H,2,aC⟩=aD (aA ⟨dg.toArray⟩)/\w'.cell? ⟨H,4,aC⟩=aD (ax A' ps.length c'))) wo ?_ (fun hHeld=> ?_)
 ·exact HSB.o _ (((wi w1)).drew)
 have hB:=((wi w1)).drew;have h5:=h50.drew;have hW:=HBX1.o.drew;have hRr:=HR1.o.drew;generalize w1.drew=wn0 at *
 refine wP 0 ?_;refine wP 1 ?_;refine wP 2 ?_;refine wO 3 ?_;refine wP 4 ?_;refine wO 5 ?_;refine wP 6 ?_;refine wO 7 ?_;refine za (rs:= [8]) wo wu ?_;refine z8.cons (o:=_) rfl (fun K hK=> ?_) ?_
 ·
  go_simp;refine(HPB.o wn0 hB).mono ?_;rintro e5 w5 ⟨v1,v2,v3,v4,wv,rfl,ho5,hp5,hb5⟩;obtain⟨⟨A1,c1,B1,d1,G1,n1,F1,jf⟩,rfl,rfl,rfl,rfl, -⟩:=ho5.rd;obtain⟨P1,k1_,rfl, -, -⟩:=Rd.of_own' hp5;dsimp only;refine zR hK ?_ (fun W=>Below w1.heap.size w1 W/\Arr W g5 40 [ax aC 0 0,ax aC 0 0,ay az 0,ay az 0,ay az 0,ax aC 0 0,aA ⟨#[]⟩,ax aC 0 0]/\OwSt W w.heap.size (ax A1 m.st.aF.length c1) (ax B1 m.st.aG.length d1) m.st (fun b=>(N b\/b=H+1)\/b=g5)/\W.ownsRow w.heap.size 9 1 (ax G1 m.co.aJ.length n1) m.co.aJ.length (strs m.co.aJ)/\W.ownsRow w.heap.size 3 1 (ax P1 who.length k1_) who.length (ins who)/\FlsO W w.heap.size (ax F1 m.fs.length jf) m.fs/\Below w.heap.size w W/\Arr W (H+1) 47 [ay az 0,aA ⟨#[]⟩,ax aC 0 0,ax aC 0 0,ay az 0,ax aC 0 0]) (fun W=>True) ?_ ?_ (fun wn1 hHeld2 hF _=> ?_)
  ·exact HSB.o _ ((wh hB hb5))
  ·exact⟨wh hB hb5,h5.below hb5,(ho5.s.lower (base':=w.heap.size) (by have:=hB.size;omega)).mono (N':=(fun b=>(N b\/b=H+1)\/b=g5)) (fun b hb=>hb.elim (fun hb=>by have:=hB.size;rcases hb with hb | hb;(have:=HNW.o b hb;omega);omega) (fun hb=>(by rw [hb];exact h5.lt))),zb ho5.c (by have:=hB.size;omega),zb hp5 (by have:=hB.size;omega),ho5.f.lower (by have:=hB.size;omega),wh hW hb5,hRr.below hb5⟩
  ·trivial
  clear hRr hW h5 hB hHeld;have hHeld:=hHeld2;clear hHeld2;obtain⟨hB,h5,ho,hc,hl,hf,hW,hRr⟩:=hF;clear hb5 ho5 hp5;clear hK K
  refine wP 9 ?_;refine wP 10 ?_;refine wP 11 ?_;refine wP 12 ?_;refine wT 13 fun K hK=>?_;have hqho:=ho.nb h5 ws ws;have hqhc:=zg hc h5 ws;have hqhl:=zg hl h5 ws;obtain⟨z0,f0,z1,f1,z2,f2,z3,f3,z4,f4,z5,f5,z6,f6,z7,f7⟩:=we h5;go_simp;clear z0 f0 z1 f1 z2 f2 z3 f3 z4 f4 z5 f5 z6 f6 z7 f7;refine vd hK (fun W=>Arr W g5 40 [(ax A1 m.st.aF.length c1),(ax B1 m.st.aG.length d1),ay az m.st.aI,ay az m.st.aH,ay az m.co.aK,(ax G1 m.co.aJ.length n1),aA ⟨m.co.at_.toArray⟩,(ax F1 m.fs.length jf)]/\OwSt W w.heap.size (ax A1 m.st.aF.length c1) (ax B1 m.st.aG.length d1) m.st (fun b=>(N b\/b=H+1)\/b=g5)/\W.ownsRow w.heap.size 9 1 (ax G1 m.co.aJ.length n1) m.co.aJ.length (strs m.co.aJ)/\W.ownsRow w.heap.size 3 1 (ax P1 who.length k1_) who.length (ins who)/\FlsO W w.heap.size (ax F1 m.fs.length jf) m.fs/\Below w.heap.size w W/\Arr W (H+1) 47 [ay az 0,aA ⟨#[]⟩,ax aC 0 0,ax aC 0 0,ay az 0,ax aC 0 0]) (fun W=>True) ?_ ?_ (fun wn2 hF _=> ?_)
  ·exact⟨h5.all8 _ _ _ _ _ _ _ _,ho.set8N (.inr rfl) hqho.1 hqho.2 _ _ _ _ _ _ _ _,zZ hc hqhc _ _ _ _ _ _ _ _,zZ hl hqhl _ _ _ _ _ _ _ _,hf.set8 h5 ws ws _ _ _ _ _ _ _ _,zN hW wm _ _ _ _ _ _ _ _,K1 hRr (show H+1≠g5 by omega) _ _ _ _ _ _ _ _⟩
  ·trivial
  clear hRr hW hf hl hc ho h5 hB hHeld;obtain⟨h5,ho,hc,hl,hf,hW,hRr⟩:=hF;clear hqho hqhc hqhl;clear hK K
  refine wP 14 ?_;refine wP 15 ?_;refine zq wo ?_ _
  try dsimp only [Exit.then]
  have hall:=aE h5 (aE ho (aE hc (aE hl (aE hf (aE hW hRr)))));clear hRr hW hf hl hc ho h5;generalize wn2=wz at hall ⊢
  revert hall;revert wz;revert k1_;revert P1;revert jf;revert F1;revert n1;revert G1;revert d1;revert B1;revert c1;revert A1;exact REST.o
 exact z8.nil;intro A1 c1 B1 d1 G1 n1 F1 jf P1 k1_ w3 hall;obtain⟨h5,ho,hc,hl,hf,hW,hRr⟩:=hall;have hol:OwLo w3 w.heap.size (ax A1 m.st.aF.length c1) (ax B1 m.st.aG.length d1) (ax G1 m.co.aJ.length n1) (ax F1 m.fs.length jf) m (fun b=>N b\/b=H+1):=⟨ho.mono fun b hb=> .inl hb,hc,hf⟩
 have hgw3:g+1<=w.heap.size:=hgw;have HKP:=sqH (jk g ⟨X,cX,Y,dY,G,ng,F,cF⟩ ⟨s,co,fs⟩ _ _ _ _ m q w3 (fun b=>N b\/b=H+1) (.inl hNg) ((HDB.o _ hW).mono fun b hb=>hb.imp id fun h=>wm) (fun _=>hol.lower hgw3));obtain⟨a0,a1,a2,a3,a4,a5,a6,a7⟩:=sqC8 h5;obtain⟨HW3,HRR,HLR⟩:=sqJ3 hW hRr hl;clear h5 ho hc hl hf hW hRr HPB HSB hol
 refine wH ?_;intros;refine((HKP.o)).mono ?_;rintro e_ w4 ⟨rfl,hg4,hd4⟩;dsimp only;clear a0 a1 a2 a3 a4 a5 a6 a7 HKP;obtain⟨w5,hw5⟩:=wV (w4.alloc (aB #[ay az q,aA ⟨#[]⟩,ax aC 0 0,ax aC 0 0,ay az 0,ax P1 who.length k1_] 47))
 have hb5:Below w4.heap.size w4 w5:=by rw [hw5];exact(Below.refl _ _).alloc ac _
 have hz5:Arr w5 w4.heap.size 47 [ay az q,aA ⟨#[]⟩,ax aC 0 0,ax aC 0 0,ay az 0,ax P1 who.length k1_]:=by rw [hw5];exact Arr.new w4 47 _
 have hg35:=zO hg4 hb5;obtain⟨gr,hgr⟩:=wV w4.heap.size
 rw [<-hgr]at hz5;obtain⟨HX,HZ5,HW5,HGR⟩:=sqJ4 (aE (hd4.imp fun _ h=>h.below hb5) (aE (zO (zP HW3.o hg4) hb5) (aE ((HRR.o.grown hg4 ab).below hb5) (kf HLR.o hg35 hgw)))) hz5 hw5 hgr;clear hd4 hb5 hz5 hg4 hg35 hw5 hgr
 refine wJ 19 ?_;intros;rw [<-HW5.o,<-HGR.o];clear HW5 HGR;have hr3:=HX.o.2.2.1;obtain⟨z0,z1,z2,z3,z4,z5⟩:=sqC6 HZ5.o;obtain⟨f0,f1,f2,f3,f4,f5⟩:=sqF6 hr3;obtain⟨y0,y1,y2,y3,y4,y5⟩:=sqC6 hr3;have HR3:=sqH hr3;have HF:=sqH (hr3.all6 (ay az q) (aA ⟨#[]⟩) (ax aC 0 0) (ax aC 0 0) (ay az 0) (ax P1 who.length k1_));clear hr3
 refine wH ?_;intros;refine bodyPost_ret (results_cell_row rfl _ _ (H+1) _ _ _ _ ww HF.o underlying47 rfl wo) rfl ?_;have e1:fliD ⟨s,co,fs⟩ ⟨kd,n,dg,D,ps⟩=(xE ⟨s,co,fs⟩ m q,⟨q, [], [], [],0,who⟩):=by
  unfold fliD;rw [if_neg (show ¬(kd=12) by have:=HK.o;omega),if_pos (show kd=13 from HK.o)];dsimp only;rw [HPD.o]
 rw [e1];obtain⟨⟨p',hd4⟩,hg5,hr5,hl5⟩:=HX.o;exact⟨_,_,_,rfl,zl hg5 hHw1 _ _ _ _ _ _,⟨p',(hd4.set6 hr5 (.inr rfl) hgH _ _ _ _ _ _).mono fun b h=> .inl h⟩,⟨World.ownsRow_nil _ _ _ _,World.ownsRow_nil _ _ _ _,qu hl5 (zg hl5 hr5 ws) _ _ _ _ _ _⟩⟩
theorem z14 (g:Nat) (p:LoW) (l:LoP) (kd n:Nat) (dg D:ae) (ps:List PartP) (A:af) (c:Nat) (A':af) (c':Nat) (w:World) (hL:GoodL l) (h1:kd=14) (N:aj) (hNg:N g) (hNw:∀b,N b->b<w.heap.size) (hb:DkB w g p l N) (hd:Sl w 1 A D.length c (bys D)) (hq:Sl w 3 A' ps.length c' (pcs ps)) :
  Calls zZZ 69 #[.pointer (aD ⟨g,0,aC⟩),orV kd n dg D ps A c A' c'] w (k5 w g N (fliD l ⟨kd,n,dg,D,ps⟩)):=by
 have k1:((kd:Int)==12)=false:=by rw [beq_eq_false_iff_ne];omega
 have k2:((kd:Int)==13)=false:=by rw [beq_eq_false_iff_ne];omega
 have HK:=sqH h1;clear h1;obtain⟨X,cX,Y,dY,G,ng,F,cF⟩:=p;obtain⟨s,co,fs⟩:=l;have hgl:=hb.lt;have hgw:=hb.lt;have hbw:=hb.wider (N':=fun b=>N b\/w.heap.size<=b) (fun b h=>h);obtain⟨w0,hw0,hP,hR,hbx⟩:=zo w 29 47 [ay az kd,ay az n,aA ⟨dg.toArray⟩,ax A D.length c,ax A' ps.length c'] [ay az 0,aA ⟨#[]⟩,ax aC 0 0,ax aC 0 0,ay az 0,ax aC 0 0];have HDK:=sqH (show ∀W,Below w0.heap.size w0 W->DkB W g ⟨X,cX,Y,dY,G,ng,F,cF⟩ ⟨s,co,fs⟩ (fun b=>N b\/w.heap.size<=b) from fun W h=>(hbw.below hbx).below h);have HBC:=sqH (show ∀W,Below w0.heap.size w0 W->wF W g (ax X s.aF.length cX) (ax Y s.aG.length dY) (ay az s.aI) (ay az s.aH) (ay az co.aK) (ax G co.aJ.length ng) (aA ⟨co.at_.toArray⟩) (ax F fs.length cF) from fun W h=>by
  have b:=(HDK.o W h).box;exact sqC8 b)
 have hws:=hbx.size;obtain⟨HDB,HBX,HD,HQ⟩:=sqJ4 (show ∀W,Below w.heap.size w W->DkB W g ⟨X,cX,Y,dY,G,ng,F,cF⟩ ⟨s,co,fs⟩ (fun b=>N b\/w.heap.size<=b) from fun W h=>hbw.below h) hbx (hd.below hbx) (hq.below hbx);obtain⟨H,hH⟩:=wV w.heap.size
 rw [<-hH]at hP hR hgl;have hHw:w.heap.size<=H:=wm;have hHw1:w.heap.size<=H+1:=wm;have hgH:g≠H+1:=wm;have hHl:H+1<w0.heap.size:=hR.lt;obtain⟨HP,HR,HL,HNW⟩:=sqJ4 (show ∀W,Below w0.heap.size w0 W->Arr W H 29 (orC kd n dg D ps A c A' c') from fun W h=>hP.below h) (show ∀W,Below w0.heap.size w0 W->Arr W (H+1) 47 QW from fun W h=>hR.below h) hL hNw;obtain⟨x0,x1,x2,x3,x4⟩:=sqC5 hP;have HW0:=sqH hw0;have HH:=sqH hH;rw [hw0,hH]at x0 x1 x2 x3 x4;clear hb hbw hbx hd hq hP hR hL hw0 hH hNw;go_enter func69,ntmps69
 refine wJ 11 ?_;intros;rw [<-HW0.o,<-HH.o];clear x0 x1 x2 x3 x4;obtain⟨w1,hw1⟩:=wV (w0.alloc (aB #[ax aC 0 0,ax aC 0 0,ay az 0,ay az 0,ay az 0,ax aC 0 0,aA ⟨#[]⟩,ax aC 0 0] 40))
 have hb1:Below w0.heap.size w0 w1:=by rw [hw1];exact(Below.refl _ _).alloc ac _
 obtain⟨g5,hg5⟩:=wV w0.heap.size
 have h50:Arr w1 g5 40 [ax aC 0 0,ax aC 0 0,ay az 0,ay az 0,ay az 0,ax aC 0 0,aA ⟨#[]⟩,ax aC 0 0]:=by rw [hw1,hg5];exact Arr.new w0 40 _
 have HBX1:=sqH (HBX.o.trans (hb1.mono hws));have hws1:w.heap.size<=w1.heap.size:=Nat.le_trans hws hb1.size;have hg5l:g5<w1.heap.size:=h50.lt;have hg5w:w0.heap.size<=g5:=wm;have HDW:=sqH (show ∀W,Below w1.heap.size w1 W->DkB W g ⟨X,cX,Y,dY,G,ng,F,cF⟩ ⟨s,co,fs⟩ (fun b=>N b\/w.heap.size<=b) from fun W h=>HDK.o W (wh hb1 h));have HPB:=sqH (fun W (h:Below w1.heap.size w1 W)=>ZM ⟨X,cX,Y,dY,G,ng,F,cF⟩ ⟨s,co,fs⟩ dg W HL.o (HDW.o W h).rd);generalize hpb:yG ⟨s,co,fs⟩ dg=r at HPB;obtain⟨m,who,q⟩:=r;dsimp only at HPB;have HPD:=sqH hpb;clear hpb;obtain⟨HSB,HR1,HH5,HW1,HG5,HPO⟩:=sqJ6 (show ∀W,Below w1.heap.size w1 W->(wF W g (ax X s.aF.length cX) (ax Y s.aG.length dY) (ay az s.aI) (ay az s.aH) (ay az co.aK) (ax G co.aJ.length ng) (aA ⟨co.at_.toArray⟩) (ax F fs.length cF))/\W.cell? ⟨H,2,aC⟩=aD (aA ⟨dg.toArray⟩) from fun W h=>⟨HBC.o W (wh hb1 h),(HP.o W (wh hb1 h)).c2⟩) ((HR.o _ hb1)) h50 hw1 hg5 (HP.o _ hb1);clear hb1 hg5 h50 hw1;have o0:=HPO.o.c0;rw [HW1.o]at o0
 refine wJ 16 ?_;intros;rw [<-HW1.o,<-HG5.o];have h50:=HH5.o;clear o0 HW1 HG5 HH5;apply zE;intro REST;refine ze [11] (S:=(fun w'=>(wF w' g (ax X s.aF.length cX) (ax Y s.aG.length dY) (ay az s.aI) (ay az s.aH) (ay az co.aK) (ax G co.aJ.length ng) (aA ⟨co.at_.toArray⟩) (ax F fs.length cF))/\w'.cell? ⟨H,2,aC⟩=aD (aA ⟨dg.toArray⟩))) wo ?_ (fun hHeld=> ?_)
 ·exact HSB.o _ (((wi w1)).drew)
 have hB:=((wi w1)).drew;have h5:=h50.drew;have hW:=HBX1.o.drew;have hRr:=HR1.o.drew;generalize w1.drew=wn0 at *
 refine wP 0 ?_;refine wP 1 ?_;refine wP 2 ?_;refine wO 3 ?_;refine wP 4 ?_;refine wO 5 ?_;refine za (rs:= [6]) wo wu ?_;refine z8.cons (o:=_) rfl (fun K hK=> ?_) ?_
 ·
  go_simp;refine(HPB.o wn0 hB).mono ?_;rintro e5 w5 ⟨v1,v2,v3,v4,wv,rfl,ho5,hp5,hb5⟩;obtain⟨⟨A1,c1,B1,d1,G1,n1,F1,jf⟩,rfl,rfl,rfl,rfl, -⟩:=ho5.rd;obtain⟨P1,k1_,rfl, -, -⟩:=Rd.of_own' hp5;dsimp only;refine zR hK ?_ (fun W=>Below w1.heap.size w1 W/\Arr W g5 40 [ax aC 0 0,ax aC 0 0,ay az 0,ay az 0,ay az 0,ax aC 0 0,aA ⟨#[]⟩,ax aC 0 0]/\OwSt W w.heap.size (ax A1 m.st.aF.length c1) (ax B1 m.st.aG.length d1) m.st (fun b=>(N b\/b=H+1)\/b=g5)/\W.ownsRow w.heap.size 9 1 (ax G1 m.co.aJ.length n1) m.co.aJ.length (strs m.co.aJ)/\W.ownsRow w.heap.size 3 1 (ax P1 who.length k1_) who.length (ins who)/\FlsO W w.heap.size (ax F1 m.fs.length jf) m.fs/\Below w.heap.size w W/\Arr W (H+1) 47 [ay az 0,aA ⟨#[]⟩,ax aC 0 0,ax aC 0 0,ay az 0,ax aC 0 0]) (fun W=>True) ?_ ?_ (fun wn1 hHeld2 hF _=> ?_)
  ·exact HSB.o _ ((wh hB hb5))
  ·exact⟨wh hB hb5,h5.below hb5,(ho5.s.lower (base':=w.heap.size) (by have:=hB.size;omega)).mono (N':=(fun b=>(N b\/b=H+1)\/b=g5)) (fun b hb=>hb.elim (fun hb=>by have:=hB.size;rcases hb with hb | hb;(have:=HNW.o b hb;omega);omega) (fun hb=>(by rw [hb];exact h5.lt))),zb ho5.c (by have:=hB.size;omega),zb hp5 (by have:=hB.size;omega),ho5.f.lower (by have:=hB.size;omega),wh hW hb5,hRr.below hb5⟩
  ·trivial
  clear hRr hW h5 hB hHeld;have hHeld:=hHeld2;clear hHeld2;obtain⟨hB,h5,ho,hc,hl,hf,hW,hRr⟩:=hF;clear hb5 ho5 hp5;clear hK K
  refine wP 7 ?_;refine wP 8 ?_;refine wP 9 ?_;refine wP 10 ?_;refine wT 11 fun K hK=>?_;have hqho:=ho.nb h5 ws ws;have hqhc:=zg hc h5 ws;have hqhl:=zg hl h5 ws;obtain⟨z0,f0,z1,f1,z2,f2,z3,f3,z4,f4,z5,f5,z6,f6,z7,f7⟩:=we h5;go_simp;clear z0 f0 z1 f1 z2 f2 z3 f3 z4 f4 z5 f5 z6 f6 z7 f7;refine vd hK (fun W=>Arr W g5 40 [(ax A1 m.st.aF.length c1),(ax B1 m.st.aG.length d1),ay az m.st.aI,ay az m.st.aH,ay az m.co.aK,(ax G1 m.co.aJ.length n1),aA ⟨m.co.at_.toArray⟩,(ax F1 m.fs.length jf)]/\OwSt W w.heap.size (ax A1 m.st.aF.length c1) (ax B1 m.st.aG.length d1) m.st (fun b=>(N b\/b=H+1)\/b=g5)/\W.ownsRow w.heap.size 9 1 (ax G1 m.co.aJ.length n1) m.co.aJ.length (strs m.co.aJ)/\W.ownsRow w.heap.size 3 1 (ax P1 who.length k1_) who.length (ins who)/\FlsO W w.heap.size (ax F1 m.fs.length jf) m.fs/\Below w.heap.size w W/\Arr W (H+1) 47 [ay az 0,aA ⟨#[]⟩,ax aC 0 0,ax aC 0 0,ay az 0,ax aC 0 0]) (fun W=>True) ?_ ?_ (fun wn2 hF _=> ?_)
  ·exact⟨h5.all8 _ _ _ _ _ _ _ _,ho.set8N (.inr rfl) hqho.1 hqho.2 _ _ _ _ _ _ _ _,zZ hc hqhc _ _ _ _ _ _ _ _,zZ hl hqhl _ _ _ _ _ _ _ _,hf.set8 h5 ws ws _ _ _ _ _ _ _ _,zN hW wm _ _ _ _ _ _ _ _,K1 hRr (show H+1≠g5 by omega) _ _ _ _ _ _ _ _⟩
  ·trivial
  clear hRr hW hf hl hc ho h5 hB hHeld;obtain⟨h5,ho,hc,hl,hf,hW,hRr⟩:=hF;clear hqho hqhc hqhl;clear hK K
  refine wP 12 ?_;refine wP 13 ?_;refine zq wo ?_ _
  try dsimp only [Exit.then]
  have hall:=aE h5 (aE ho (aE hc (aE hl (aE hf (aE hW hRr)))));clear hRr hW hf hl hc ho h5;generalize wn2=wz at hall ⊢
  revert hall;revert wz;revert k1_;revert P1;revert jf;revert F1;revert n1;revert G1;revert d1;revert B1;revert c1;revert A1;exact REST.o
 exact z8.nil;intro A1 c1 B1 d1 G1 n1 F1 jf P1 k1_ w3 hall;obtain⟨h5,ho,hc,hl,hf,hW,hRr⟩:=hall;have hol:OwLo w3 w.heap.size (ax A1 m.st.aF.length c1) (ax B1 m.st.aG.length d1) (ax G1 m.co.aJ.length n1) (ax F1 m.fs.length jf) m (fun b=>N b\/b=H+1):=⟨ho.mono fun b hb=> .inl hb,hc,hf⟩
 have hgw3:g+1<=w.heap.size:=hgw;have HKP:=sqH (jk g ⟨X,cX,Y,dY,G,ng,F,cF⟩ ⟨s,co,fs⟩ _ _ _ _ m q w3 (fun b=>N b\/b=H+1) (.inl hNg) ((HDB.o _ hW).mono fun b hb=>hb.imp id fun h=>wm) (fun _=>hol.lower hgw3));obtain⟨a0,a1,a2,a3,a4,a5,a6,a7⟩:=sqC8 h5;obtain⟨HW3,HRR,HLR⟩:=sqJ3 hW hRr hl;clear h5 ho hc hl hf hW hRr HPB HSB hol
 refine wH ?_;intros;refine((HKP.o)).mono ?_;rintro e_ w4 ⟨rfl,hg4,hd4⟩;dsimp only;clear a0 a1 a2 a3 a4 a5 a6 a7 HKP;obtain⟨w5,hw5⟩:=wV (w4.alloc (aB #[ay az q,aA ⟨#[]⟩,ax aC 0 0,ax aC 0 0,ay az 0,ax P1 who.length k1_] 47))
 have hb5:Below w4.heap.size w4 w5:=by rw [hw5];exact(Below.refl _ _).alloc ac _
 have hz5:Arr w5 w4.heap.size 47 [ay az q,aA ⟨#[]⟩,ax aC 0 0,ax aC 0 0,ay az 0,ax P1 who.length k1_]:=by rw [hw5];exact Arr.new w4 47 _
 have hg35:=zO hg4 hb5;obtain⟨gr,hgr⟩:=wV w4.heap.size
 rw [<-hgr]at hz5;obtain⟨HX,HZ5,HW5,HGR⟩:=sqJ4 (aE (hd4.imp fun _ h=>h.below hb5) (aE (zO (zP HW3.o hg4) hb5) (aE ((HRR.o.grown hg4 ab).below hb5) (kf HLR.o hg35 hgw)))) hz5 hw5 hgr;clear hd4 hb5 hz5 hg4 hg35 hw5 hgr
 refine wJ 19 ?_;intros;rw [<-HW5.o,<-HGR.o];clear HW5 HGR;have hr3:=HX.o.2.2.1;obtain⟨z0,z1,z2,z3,z4,z5⟩:=sqC6 HZ5.o;obtain⟨f0,f1,f2,f3,f4,f5⟩:=sqF6 hr3;obtain⟨y0,y1,y2,y3,y4,y5⟩:=sqC6 hr3;have HR3:=sqH hr3;have HF:=sqH (hr3.all6 (ay az q) (aA ⟨#[]⟩) (ax aC 0 0) (ax aC 0 0) (ay az 0) (ax P1 who.length k1_));clear hr3
 refine wH ?_;intros;refine bodyPost_ret (results_cell_row rfl _ _ (H+1) _ _ _ _ ww HF.o underlying47 rfl wo) rfl ?_;have e1:fliD ⟨s,co,fs⟩ ⟨kd,n,dg,D,ps⟩=(xE ⟨s,co,fs⟩ m q,⟨q, [], [], [],0,who⟩):=by
  unfold fliD;rw [if_neg (show ¬(kd=12) by have:=HK.o;omega),if_neg (show ¬(kd=13) by have:=HK.o;omega)];dsimp only;rw [HPD.o]
 rw [e1];obtain⟨⟨p',hd4⟩,hg5,hr5,hl5⟩:=HX.o;exact⟨_,_,_,rfl,zl hg5 hHw1 _ _ _ _ _ _,⟨p',(hd4.set6 hr5 (.inr rfl) hgH _ _ _ _ _ _).mono fun b h=> .inl h⟩,⟨World.ownsRow_nil _ _ _ _,World.ownsRow_nil _ _ _ _,qu hl5 (zg hl5 hr5 ws) _ _ _ _ _ _⟩⟩
end Go.Proofs.YtaboknhfiijipaaGreat
