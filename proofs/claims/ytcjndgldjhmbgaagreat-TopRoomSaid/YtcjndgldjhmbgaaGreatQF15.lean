/- Lemmas, as stated. -/
import Derived.Test.YtcjndgldjhmbgaaGreatQF14
set_option linter.unusedVariables false
set_option linter.unusedSimpArgs false
set_option maxRecDepth 100000
set_option maxHeartbeats 16000000
open Go.Proofs.Tryz
open Go.Proofs.Tryz renaming prog->zZZ
open Go.Value renaming slice->aw,int->ax,string->az
open Go.IntKind renaming i64->ay
open Go.Obj renaming cells->aA
open Option renaming none->aB,some->aC
open And renaming intro->aD
namespace Go.Proofs.YtcjndgldjhmbgaaGreat
open Go.RowKit Go.Maps
variable {l:LoP} {b' base g gR n:Nat} {v vo:Value} {w w':World} {xs:af} {N:ai}
theorem YB {fs:List FlP} {k:ac} {i:Nat} (hi:i<fs.length):xF (fs.take (i+1)) k=(xF (fs.take i) k||fs[i].key==k):=by
 unfold xF;rw [List.take_succ_eq_append_getElem hi,List.any_append];simp
theorem z2v (p:LoW) (m:LoP) (kd n:Nat) (dg D:ac) (ps:List PartP) (A:ae) (c:Nat) (A':ae) (c':Nat) (w:World) (hr:RdLo w p m) :
  Calls zZZ 132 #[loV p m,orV kd n dg D ps A c A' c'] w fun e w'=>e= .returned (.bool (xF m.fs dg))/\Below w.heap.size w w':=by
 obtain⟨X,cX,Y,dY,G,ng,F,cF⟩:=p;obtain⟨s,co,fs⟩:=m;obtain⟨w0,hw0,hP,hO,hbx⟩:=zn w 33 55 [aw X s.aE.length cX,aw Y s.aF.length dY,ax ay s.aH,ax ay s.aG,ax ay co.aJ,aw G co.aI.length ng,az ⟨co.at_.toArray⟩,aw F fs.length cF] [ax ay kd,ax ay n,az ⟨dg.toArray⟩,aw A D.length c,aw A' ps.length c'];have HR:=sqH (fun W (h:Below w0.heap.size w0 W)=>(hr.below hbx).f.below h);have hfc:(cF:Int)<=9223372036854775807:=by have h:cF<=maxLen:=hr.fm;unfold maxLen at h;omega
 have hfl:fs.length<=cF:=hr.fc;have HBX:=sqH hbx;have HPO:=sqH (show ∀W,Below w0.heap.size w0 W->Arr W (w.heap.size+1) 55 [ax ay kd,ax ay n,az ⟨dg.toArray⟩,aw A D.length c,aw A' ps.length c'] from fun W h=>hO.below h);have x7:=hP.c7;have HW0:=sqH hw0;rw [hw0]at x7;obtain⟨H,hH⟩:=wU w.heap.size
 rw [<-hH]at HPO;have HH:=sqH hH;clear hr hbx hP hO hw0 hH;go_enter func132,ntmps132
 refine wH ?_;intros;rw [<-HW0.o,<-HH.o];clear x7;go_loopg [10] fs.length (fun gn u wr=>∃i:Nat,gn=fs.length - i/\u= ax ay i/\i<=fs.length/\xF (fs.take i) dg=false/\Below w0.heap.size w0 wr)
 case atStart=>exact⟨0,rfl,rfl,Nat.zero_le _,rfl,Below.refl _ _⟩
 case round =>
  obtain⟨i,hgk,rfl,hi,hwt,hbl⟩:=hrel;obtain⟨HGK,HWT,HBL⟩:=sqJ3 hgk hwt hbl;clear hgk hwt;by_cases hlt:i<fs.length
  ·have hcc:decide (i<fs.length)=true:=decide_eq_true hlt;have hci:decide ((i:Int)<(fs.length:Int))=true:=decide_eq_true wj;obtain⟨b,off,B,cb,rfl,hbb,c0,c1,c2, -⟩:=(HR.o _ hbl).at_ i hlt;have hi0:=wX i
   have hi1:(i:Int)<(fs.length:Int):=wj;have htk:=YB (k:=dg) hlt;rw [HWT.o,Bool.false_or]at htk;have HTK:=sqH htk;clear htk;generalize fs[i]=fl at *
   obtain⟨k,ld,wt⟩:=fl;dsimp only at c0 c1 c2;obtain⟨w4,hw4⟩:=wU (wr.alloc (aA #[az ⟨k.toArray⟩,ax ay ld,aw B wt.length cb] 95))
   have hb4:Below w0.heap.size w0 w4:=by rw [hw4];exact hbl.alloc hbl.size _
   have z0:w4.cell? ⟨wr.heap.size,0,aB⟩=aC (az ⟨k.toArray⟩):=by rw [hw4];exact(Arr.new wr 95 [az ⟨k.toArray⟩,ax ay ld,aw B wt.length cb]).c0
   have y2:w4.cell? ⟨H+1,2,aB⟩=aC (az ⟨dg.toArray⟩):=(HPO.o _ hb4).c2;have HB4:=sqH hb4;have HW4:=sqH hw4;clear hb4 hbl hw4;rw [HW4.o]at z0 y2;by_cases hkd:k=dg
   ·have hke:(k==dg)=true:=by rw [hkd];exact beq_self_eq_true _
    have HKE:=sqH hkd;have hke2:(dg==dg)=true:=beq_self_eq_true _;clear hkd
    refine wH ?_;intros;go_ret;have e1:xF fs dg=true:=by
     have h:=HTK.o;dsimp only at h;rw [HKE.o,beq_self_eq_true]at h;unfold xF at h ⊢
     rw [List.any_eq_true]at h ⊢
     obtain⟨x,hx,hx2⟩:=h;exact⟨x,List.mem_of_mem_take hx,hx2⟩
    rw [e1];exact⟨rfl,HBX.o.trans ((HW4.o▸HB4.o).mono HBX.o.size)⟩
   ·have hke:(k==dg)=false:=beq_eq_false_iff_ne.2 hkd;have HKE:=sqH hkd;clear hkd
    refine wH ?_;intros;go_roundg (fs.length - (i+1))
    case measure=>exact wW HGK
    case rel=>exact⟨i+1,rfl,by go_num,wj,HTK.o.trans (beq_eq_false_iff_ne.2 HKE.o),HW4.o▸HB4.o⟩
  ·obtain rfl:i=fs.length:=by omega
   have hcc:decide (fs.length<fs.length)=false:=ws;have hci:decide ((fs.length:Int)<(fs.length:Int))=false:=ws;have hwf:=HWT.o;rw [List.take_length]at hwf;have HWF:=sqH hwf;clear hwf hbl
   refine wH ?_;intros;go_ret;rw [HWF.o];exact⟨rfl,wg HBX.o HBL.o⟩
theorem z2q (g:Nat) (p:LoW) (l:LoP) (kd n:Nat) (dg D:ac) (ps:List PartP) (A:ae) (c:Nat) (A':ae) (c':Nat) (w:World) (hL:GoodL l) (hk:hexC dg=0) (hkl:dg.length<=1000) (hn1:1<=n) (hn2:n<=1000) (hck:l.st.aG<1099511627776) (h1:kd=12) (N:ai) (hNg:N g) (hNw:∀b,N b->b<w.heap.size) (hb:DkB w g p l N) (hd:Sl w 1 A D.length c (bys D)) (hq:Sl w 3 A' ps.length c' (pcs ps)) :
  Calls zZZ 77 #[.pointer (aC ⟨g,0,aB⟩),orV kd n dg D ps A c A' c'] w (kb w g N (fliD l ⟨kd,n,dg,D,ps⟩)):=by
 have k1:((kd:Int)==12)=true:=by rw [beq_iff_eq];omega
 have HK:=sqH h1;have HPX:=sqH (aD hk (aD hkl (aD hn1 (aD hn2 hck))));clear h1 hk hkl hn1 hn2 hck;obtain⟨X,cX,Y,dY,G,ng,F,cF⟩:=p;obtain⟨s,co,fs⟩:=l;have hgl:=hb.lt;have hgw:=hb.lt;have hbw:=hb.wider (N':=fun b=>N b\/w.heap.size<=b) (fun b h=>h);obtain⟨w0,hw0,hP,hR,hbx⟩:=zn w 55 48 [ax ay kd,ax ay n,az ⟨dg.toArray⟩,aw A D.length c,aw A' ps.length c'] [ax ay 0,az ⟨#[]⟩,aw aB 0 0,aw aB 0 0,ax ay 0,aw aB 0 0];have HDK:=sqH (show ∀W,Below w0.heap.size w0 W->DkB W g ⟨X,cX,Y,dY,G,ng,F,cF⟩ ⟨s,co,fs⟩ (fun b=>N b\/w.heap.size<=b) from fun W h=>(hbw.below hbx).below h);have HBC:=sqH (show ∀W,Below w0.heap.size w0 W->wF W g (aw X s.aE.length cX) (aw Y s.aF.length dY) (ax ay s.aH) (ax ay s.aG) (ax ay co.aJ) (aw G co.aI.length ng) (az ⟨co.at_.toArray⟩) (aw F fs.length cF) from fun W h=>by
  have b:=(HDK.o W h).box;exact sqC8 b)
 have hws:=hbx.size;obtain⟨HDB,HBX,HD,HQ⟩:=sqJ4 (show ∀W,Below w.heap.size w W->DkB W g ⟨X,cX,Y,dY,G,ng,F,cF⟩ ⟨s,co,fs⟩ (fun b=>N b\/w.heap.size<=b) from fun W h=>hbw.below h) hbx (hd.below hbx) (hq.below hbx);obtain⟨H,hH⟩:=wU w.heap.size
 rw [<-hH]at hP hR hgl;have hHw:w.heap.size<=H:=wj;have hHw1:w.heap.size<=H+1:=wj;have hgH:g≠H+1:=wj;have hHl:H+1<w0.heap.size:=hR.lt;obtain⟨HP,HR,HL,HNW⟩:=sqJ4 (show ∀W,Below w0.heap.size w0 W->Arr W H 55 (orC kd n dg D ps A c A' c') from fun W h=>hP.below h) (show ∀W,Below w0.heap.size w0 W->Arr W (H+1) 48 Kw from fun W h=>hR.below h) hL hNw;obtain⟨x0,x1,x2,x3,x4⟩:=sqC5 hP;have HW0:=sqH hw0;have HH:=sqH hH;rw [hw0,hH]at x0 x1 x2 x3 x4;clear hb hbw hbx hd hq hP hR hL hw0 hH hNw;go_enter func77,ntmps77
 refine wJ 2 ?_;intros;rw [<-HW0.o,<-HH.o];clear x0 x1 x2 x3 x4;have HPB:=sqH (fun W (h:Below w0.heap.size w0 W)=>U9 ⟨X,cX,Y,dY,G,ng,F,cF⟩ ⟨s,co,fs⟩ dg (n:Int) W HL.o (HDK.o W h).rd HPX.o.1 HPX.o.2.1 (by have:=HPX.o.2.2.1;omega) (by have:=HPX.o.2.2.2.1;omega) HPX.o.2.2.2.2);generalize hpb:jL ⟨s,co,fs⟩ dg (n:Int)=r at HPB;obtain⟨m,p2,lead,q⟩:=r;dsimp only at HPB;have HPD:=sqH hpb;clear hpb;have HSB:=sqH (show ∀W,Below w0.heap.size w0 W->(wF W g (aw X s.aE.length cX) (aw Y s.aF.length dY) (ax ay s.aH) (ax ay s.aG) (ax ay co.aJ) (aw G co.aI.length ng) (az ⟨co.at_.toArray⟩) (aw F fs.length cF))/\W.cell? ⟨H,2,aB⟩=aC (az ⟨dg.toArray⟩)/\W.cell? ⟨H,1,aB⟩=aC (ax ay n) from fun W h=>⟨HBC.o W h,(HP.o W h).c2,(HP.o W h).c1⟩)
 iterate 1 (first | go_values | go_skip | go_guarded | go_step | go_upon | go_back)
 apply zE;intro REST;apply zE;intro Rb1;refine ze [15] (S:=(fun w'=>(wF w' g (aw X s.aE.length cX) (aw Y s.aF.length dY) (ax ay s.aH) (ax ay s.aG) (ax ay co.aJ) (aw G co.aI.length ng) (az ⟨co.at_.toArray⟩) (aw F fs.length cF))/\w'.cell? ⟨H,2,aB⟩=aC (az ⟨dg.toArray⟩)/\w'.cell? ⟨H,1,aB⟩=aC (ax ay n))) wm ?_ (fun hHeld=> ?_)
 ·exact HSB.o _ (((wh w0)).drew)
 have hB:=((wh w0)).drew;generalize w0.drew=wn0 at *
 refine wP 0 ?_;refine wP 1 ?_;refine wP 2 ?_;refine wO 3 ?_;refine wP 4 ?_;refine wO 5 ?_;refine wP 6 ?_;refine wO 7 ?_;refine za (rs:= [8,14]) wm ws ?_;refine z8.cons (o:=_) rfl (fun K hK=> ?_) ?_
 ·
  go_simp;refine(HPB.o wn0 hB).mono ?_;rintro e5 w5 ⟨v1,v2,v3,v4,vp,rfl,ho5,hp5,hb5⟩;obtain⟨⟨A1,c1,B1,d1,G1,n1,F1,jf⟩,rfl,rfl,rfl,rfl, -⟩:=ho5.rd;obtain⟨P1,k1_,rfl, -, -⟩:=Rd.of_own' hp5;dsimp only;refine zR hK ?_ (fun W=>Below w0.heap.size w0 W/\OwSt W w.heap.size (aw A1 m.st.aE.length c1) (aw B1 m.st.aF.length d1) m.st (fun b=>(N b\/b=H+1))/\W.ownsRow w.heap.size 9 1 (aw G1 m.co.aI.length n1) m.co.aI.length (strs m.co.aI)/\W.ownsRow w.heap.size 51 3 (aw P1 p2.length k1_) p2.length (pcs p2)/\FlsO W w.heap.size (aw F1 m.fs.length jf) m.fs) (fun W=>True) ?_ ?_ (fun wn1 hHeld2 hF _=> ?_)
  ·exact HSB.o _ ((wg hB hb5))
  ·exact⟨wg hB hb5,(ho5.s.lower (base':=w.heap.size) (by have:=hB.size;omega)).mono (N':=(fun b=>(N b\/b=H+1))) (fun b hb=>by have:=hB.size;rcases hb with hb | hb;(have:=HNW.o b hb;omega);omega),zb ho5.c (by have:=hB.size;omega),zb hp5 (by have:=hB.size;omega),ho5.f.lower (by have:=hB.size;omega)⟩
  ·trivial
  clear hB hHeld;have hHeld:=hHeld2;clear hHeld2;obtain⟨hB,ho,hc,hl,hf⟩:=hF;clear hb5 ho5 hp5;clear hK K
  refine wP 9 ?_;refine wP 10 ?_;refine wP 11 ?_;refine wP 12 ?_;refine wP 13 ?_;refine wT 14 fun K hK=>?_;have hba:=wi wn1 (aA #[aw aB 0 0,aw aB 0 0,ax ay 0,ax ay 0,ax ay 0,aw aB 0 0,az ⟨#[]⟩,aw aB 0 0] 33);have hn:=Arr.new wn1 33 [aw aB 0 0,aw aB 0 0,ax ay 0,ax ay 0,ax ay 0,aw aB 0 0,az ⟨#[]⟩,aw aB 0 0];have hnl:w0.heap.size<=wn1.heap.size:=hB.size;obtain⟨g5,hge⟩:=wU wn1.heap.size
  have hN:∀b,b=g5->wn1.heap.size<=b:=fun b h=>by rw [h,hge];exact Nat.le_refl _
  rw [<-hge]at hn hnl;go_simp;rw [<-hge];clear hge;refine zR hK ?_ (fun W=>Below w0.heap.size w0 W/\Arr W g5 33 [aw aB 0 0,aw aB 0 0,ax ay 0,ax ay 0,ax ay 0,aw aB 0 0,az ⟨#[]⟩,aw aB 0 0]/\w0.heap.size<=g5/\OwSt W w.heap.size (aw A1 m.st.aE.length c1) (aw B1 m.st.aF.length d1) m.st (fun b=>(N b\/b=H+1)\/b=g5)/\W.ownsRow w.heap.size 9 1 (aw G1 m.co.aI.length n1) m.co.aI.length (strs m.co.aI)/\W.ownsRow w.heap.size 51 3 (aw P1 p2.length k1_) p2.length (pcs p2)/\FlsO W w.heap.size (aw F1 m.fs.length jf) m.fs) (fun W=>True) ?_ ?_ (fun wn2 hHeld2 hF _=> ?_)
  ·exact HSB.o _ ((wg hB hba))
  ·exact⟨wg hB hba,hn,hnl,(ho.wider (N':=(fun b=>(N b\/b=H+1)\/b=g5)) (fun b hb=>hb.elim (fun hb=> .inl hb) (fun hb=> .inr (hN _ hb)))).below hba,zc hc hba,zc hl hba,hf.below hba⟩
  ·trivial
  clear hf hl hc ho hB hHeld;have hHeld:=hHeld2;clear hHeld2;obtain⟨hB,h5,h5l,ho,hc,hl,hf⟩:=hF;clear hba hn hnl hN;clear hK K
  try simp only [sqP]
  have hall:=aD hB (aD h5 (aD h5l (aD ho (aD hc (aD hl (aD hf hHeld))))));clear hHeld hf hl hc ho h5l h5 hB;generalize wn2=wz at hall ⊢
  revert hall;revert wz;revert g5;revert k1_;revert P1;revert jf;revert F1;revert n1;revert G1;revert d1;revert B1;revert c1;revert A1;exact Rb1.o
 refine z8.cons (o:=_) rfl (fun K hK=> ?_) ?_
 ·
  have hba:=wi wn0 (aA #[aw aB 0 0,aw aB 0 0,ax ay 0,ax ay 0,ax ay 0,aw aB 0 0,az ⟨#[]⟩,aw aB 0 0] 33);have hn:=Arr.new wn0 33 [aw aB 0 0,aw aB 0 0,ax ay 0,ax ay 0,ax ay 0,aw aB 0 0,az ⟨#[]⟩,aw aB 0 0];have hnl:w0.heap.size<=wn0.heap.size:=hB.size;obtain⟨g5,hge⟩:=wU wn0.heap.size
  have hN:∀b,b=g5->wn0.heap.size<=b:=fun b h=>by rw [h,hge];exact Nat.le_refl _
  rw [<-hge]at hn hnl;go_simp;rw [<-hge];clear hge;refine zR hK ?_ (fun W=>Below w0.heap.size w0 W/\Arr W g5 33 [aw aB 0 0,aw aB 0 0,ax ay 0,ax ay 0,ax ay 0,aw aB 0 0,az ⟨#[]⟩,aw aB 0 0]/\w0.heap.size<=g5) (fun W=>True) ?_ ?_ (fun wn3 hHeld2 hF _=> ?_)
  ·exact HSB.o _ ((wg hB hba))
  ·exact⟨wg hB hba,hn,hnl⟩
  ·trivial
  clear hB hHeld;have hHeld:=hHeld2;clear hHeld2;obtain⟨hB,h5,h5l⟩:=hF;clear hba hn hnl hN;clear hK K
  try simp only [sqP]
  refine wT 8 fun K hK=>?_;go_simp;refine(HPB.o wn3 hB).mono ?_;rintro e5 w5 ⟨v1,v2,v3,v4,vp,rfl,ho5,hp5,hb5⟩;obtain⟨⟨A1,c1,B1,d1,G1,n1,F1,jf⟩,rfl,rfl,rfl,rfl, -⟩:=ho5.rd;obtain⟨P1,k1_,rfl, -, -⟩:=Rd.of_own' hp5;dsimp only;refine zR hK ?_ (fun W=>Below w0.heap.size w0 W/\Arr W g5 33 [aw aB 0 0,aw aB 0 0,ax ay 0,ax ay 0,ax ay 0,aw aB 0 0,az ⟨#[]⟩,aw aB 0 0]/\w0.heap.size<=g5/\OwSt W w.heap.size (aw A1 m.st.aE.length c1) (aw B1 m.st.aF.length d1) m.st (fun b=>(N b\/b=H+1)\/b=g5)/\W.ownsRow w.heap.size 9 1 (aw G1 m.co.aI.length n1) m.co.aI.length (strs m.co.aI)/\W.ownsRow w.heap.size 51 3 (aw P1 p2.length k1_) p2.length (pcs p2)/\FlsO W w.heap.size (aw F1 m.fs.length jf) m.fs) (fun W=>True) ?_ ?_ (fun wn4 hHeld2 hF _=> ?_)
  ·exact HSB.o _ ((wg hB hb5))
  ·exact⟨wg hB hb5,h5.below hb5,h5l,(ho5.s.lower (base':=w.heap.size) (by have:=hB.size;omega)).mono (N':=(fun b=>(N b\/b=H+1)\/b=g5)) (fun b hb=>hb.elim (fun hb=>by have:=hB.size;rcases hb with hb | hb;(have:=HNW.o b hb;omega);omega) (fun hb=>(by rw [hb];exact h5.lt))),zb ho5.c (by have:=hB.size;omega),zb hp5 (by have:=hB.size;omega),ho5.f.lower (by have:=hB.size;omega)⟩
  ·trivial
  clear h5l h5 hB hHeld;have hHeld:=hHeld2;clear hHeld2;obtain⟨hB,h5,h5l,ho,hc,hl,hf⟩:=hF;clear hb5 ho5 hp5;clear hK K
  refine wP 9 ?_;refine wP 10 ?_;refine wP 11 ?_;refine wP 12 ?_;refine wP 13 ?_;have hall:=aD hB (aD h5 (aD h5l (aD ho (aD hc (aD hl (aD hf hHeld))))));clear hHeld hf hl hc ho h5l h5 hB;generalize wn4=wz at hall ⊢
  revert hall;revert wz;revert g5;revert k1_;revert P1;revert jf;revert F1;revert n1;revert G1;revert d1;revert B1;revert c1;revert A1;exact Rb1.o
 exact z8.nil;intro A1 c1 B1 d1 G1 n1 F1 jf P1 k1_ g5 wRb1 hall;obtain⟨hB,h5,h5l,ho,hc,hl,hf,hHeld⟩:=hall;refine za (rs:= [15]) wm ws ?_;refine z8.store (o:=_) rfl wu (fun K hK=> ?_) ?_
 ·
  have hqho:=ho.nb h5 wo wo;have hqhc:=zf hc h5 wo;have hqhl:=zf hl h5 wo;obtain⟨z0,f0,z1,f1,z2,f2,z3,f3,z4,f4,z5,f5,z6,f6,z7,f7⟩:=wc h5;go_simp;clear z0 f0 z1 f1 z2 f2 z3 f3 z4 f4 z5 f5 z6 f6 z7 f7;refine vt hK (fun W=>Below w0.heap.size w0 W/\Arr W g5 33 [(aw A1 m.st.aE.length c1),(aw B1 m.st.aF.length d1),ax ay m.st.aH,ax ay m.st.aG,ax ay m.co.aJ,(aw G1 m.co.aI.length n1),az ⟨m.co.at_.toArray⟩,(aw F1 m.fs.length jf)]/\w0.heap.size<=g5/\OwSt W w.heap.size (aw A1 m.st.aE.length c1) (aw B1 m.st.aF.length d1) m.st (fun b=>(N b\/b=H+1)\/b=g5)/\W.ownsRow w.heap.size 9 1 (aw G1 m.co.aI.length n1) m.co.aI.length (strs m.co.aI)/\W.ownsRow w.heap.size 51 3 (aw P1 p2.length k1_) p2.length (pcs p2)/\FlsO W w.heap.size (aw F1 m.fs.length jf) m.fs) (fun W=>True) ?_ ?_ (fun wn5 hF _=> ?_)
  ·exact⟨((((((((hB).setCell (p:=⟨g5,0,aB⟩) h5l _).setCell (p:=⟨g5,1,aB⟩) h5l _).setCell (p:=⟨g5,2,aB⟩) h5l _).setCell (p:=⟨g5,3,aB⟩) h5l _).setCell (p:=⟨g5,4,aB⟩) h5l _).setCell (p:=⟨g5,5,aB⟩) h5l _).setCell (p:=⟨g5,6,aB⟩) h5l _).setCell (p:=⟨g5,7,aB⟩) h5l _,h5.all8 _ _ _ _ _ _ _ _,h5l,ho.set8N (.inr rfl) hqho.1 hqho.2 _ _ _ _ _ _ _ _,q7 hc hqhc _ _ _ _ _ _ _ _,q7 hl hqhl _ _ _ _ _ _ _ _,hf.set8 h5 wo wo _ _ _ _ _ _ _ _⟩
  ·trivial
  clear hf hl hc ho h5l h5 hB hHeld;obtain⟨hB,h5,h5l,ho,hc,hl,hf⟩:=hF;clear hqho hqhc hqhl;clear hK K
  refine wP 16 ?_;refine wP 17 ?_;refine wP 18 ?_;refine zp wm ?_ _
  try dsimp only [Exit.then]
  have hall:=aD hB (aD h5 (aD h5l (aD ho (aD hc (aD hl hf)))));clear hf hl hc ho h5l h5 hB;generalize wn5=wz at hall ⊢
  revert hall;revert wz;revert g5;revert k1_;revert P1;revert jf;revert F1;revert n1;revert G1;revert d1;revert B1;revert c1;revert A1;exact REST.o
 exact z8.nil;intro A1 c1 B1 d1 G1 n1 F1 jf P1 k1_ g5 w3 hall;obtain⟨hB,h5,h5l,ho,hc,hl,hf⟩:=hall;have hol:OwLo w3 w.heap.size (aw A1 m.st.aE.length c1) (aw B1 m.st.aF.length d1) (aw G1 m.co.aI.length n1) (aw F1 m.fs.length jf) m (fun b=>N b\/b=H+1):=⟨ho.mono fun b hb=> .inl hb,hc,hf⟩
 have holw:=hol.wider (N':=fun b=>N b\/b=H+1\/w3.heap.size<=b) (fun b h=>h.elim (fun h=> .inl (.inl h)) (fun h=>h.elim (fun h=> .inl (.inr h)) .inr));have hgw3:g+1<=w.heap.size:=hgw;have HKP:=sqH (jE g ⟨X,cX,Y,dY,G,ng,F,cF⟩ ⟨s,co,fs⟩ _ _ _ _ m q w3 (fun b=>N b\/b=H+1\/w3.heap.size<=b) (.inl hNg) ((HDK.o _ hB).mono fun b hb=>hb.imp id fun h=>by(have:=hB.size;rcases h with h | h<;>omega)) (fun _=>holw.lower hgw3));obtain⟨a0,a1,a2,a3,a4,a5,a6,a7⟩:=sqC8 h5;obtain⟨HB,HOL,H5,HLR⟩:=sqJ4 hB hol h5 hl;have hg5w:w0.heap.size<=g5:=h5l;have hg5l:g5<w3.heap.size:=h5.lt;have hws3:w.heap.size<=w3.heap.size:=Nat.le_trans hws hB.size;clear hB h5 h5l ho hc hl hf HPB HSB hol holw
 refine wH ?_;intros;refine((HKP.o)).mono ?_;rintro e_ w4 ⟨rfl,hg4,hd4⟩;dsimp only;clear a0 a1 a2 a3 a4 a5 a6 a7 HKP;obtain⟨w5,hw5⟩:=wU (w4.alloc (aA #[ax ay q,az ⟨#[]⟩,aw aB 0 0,aw P1 p2.length k1_,ax ay 0,aw aB 0 0] 48))
 have hb5:Below w4.heap.size w4 w5:=by rw [hw5];exact(Below.refl _ _).alloc ab _
 have hz5:Arr w5 w4.heap.size 48 [ax ay q,az ⟨#[]⟩,aw aB 0 0,aw P1 p2.length k1_,ax ay 0,aw aB 0 0]:=by rw [hw5];exact Arr.new w4 48 _
 have hg35:=zP hg4 hb5;have hws4:w3.heap.size<=w4.heap.size:=hg4.size;obtain⟨gr,hgr⟩:=wU w4.heap.size
 rw [<-hgr]at hz5 hws4;have hgrl:gr<w5.heap.size:=hz5.lt;obtain⟨HX,HO5,HZ5,HW5,HGR⟩:=sqJ5 (aD (hd4.imp fun _ h=>h.below hb5) (aD (zP (zQ (HBX.o.trans (HB.o.mono hws)) hg4) hb5) (aD (((HR.o _ HB.o).grown hg4 aa).below hb5) (ki HLR.o hg35 hgw)))) (aD ((HOL.o.grownE hg35 hgw (.inl hNg))) (aD (H5.o.grown hg35 aa) (((HP.o _ HB.o).grown hg35 aa)))) hz5 hw5 hgr;clear hd4 hb5 hz5 hg4 hg35 hw5 hgr
 refine wJ 5 ?_;intros;rw [<-HW5.o,<-HGR.o];clear HW5 HGR;by_cases hq0:q=0
 rotate_left
 ·have k2:((q:Int) != 0)=true:=by rw [bne_iff_ne];omega
  have HQ0:=sqH hq0;have hr3:=HX.o.2.2.1;obtain⟨z0,z1,z2,z3,z4,z5⟩:=sqC6 HZ5.o;clear hq0;obtain⟨f0,f1,f2,f3,f4,f5⟩:=sqF6 hr3;obtain⟨y0,y1,y2,y3,y4,y5⟩:=sqC6 hr3;have HR3:=sqH hr3;have HF:=sqH (hr3.all6 (ax ay q) (az ⟨#[]⟩) (aw aB 0 0) (aw P1 p2.length k1_) (ax ay 0) (aw aB 0 0));clear hr3
  refine wH ?_;intros;refine bodyPost_ret (results_cell_row rfl _ _ (H+1) _ _ _ _ wu HF.o underlying48 rfl wm) rfl ?_;have e1:fliD ⟨s,co,fs⟩ ⟨kd,n,dg,D,ps⟩=(xI ⟨s,co,fs⟩ m q,⟨q, [], [],p2,0, []⟩):=by
   unfold fliD;rw [if_pos (show kd=12 from HK.o)];dsimp only;rw [HPD.o];dsimp only;rw [if_pos HQ0.o]
  rw [e1];obtain⟨⟨p',hd4⟩,hg5,hr5,hl5⟩:=HX.o;exact⟨_,_,_,rfl,zl hg5 hHw1 _ _ _ _ _ _,⟨p',(hd4.set6 hr5 (.inr (.inl rfl)) hgH _ _ _ _ _ _).mono fun b h=> .inl h⟩,⟨World.ownsRow_nil _ _ _ _,qB hl5 (zf hl5 hr5 wo) _ _ _ _ _ _,World.ownsRow_nil _ _ _ _⟩⟩
 have k2:((q:Int) != 0)=false:=by rw [hq0];rfl
 have HQ0:=sqH hq0;clear hq0;cases lead with
 | true =>
  have hr3:=HX.o.2.2.1;have hr3':=hr3.other (k:=4) (g':=gr) (show H+1≠gr by omega) (ax ay 1);have hz6:=HZ5.o.set (k:=4) ws (ax ay 1);have HX6:=sqH (aD (HX.o.1.imp fun _ h=>h.set HZ5.o (.inr (.inr hws4)) (show g≠gr by omega) (ax ay 1) (k:=4)) (aD (zt (k:=4) (u:= ax ay 1) HX.o.2.1 (show w.heap.size<=gr by omega)) (aD hr3' (zd (k:=4) (u:= ax ay 1) HX.o.2.2.2 (zf HX.o.2.2.2 HZ5.o wo)))));have HZ6:=sqH hz6;have z4:=HZ5.o.c4;have q4:=HZ5.o.frozen 4;clear hr3 hr3' hz6 HX
  refine wJ 10 ?_;intros;generalize w5.setCell ⟨gr,4,aB⟩ (ax ay 1)=w6 at *
  clear z4 q4;have HX:=HX6;have hr3:=HX.o.2.2.1;have hz6:Arr w6 gr 48 [ax ay q,az ⟨#[]⟩,aw aB 0 0,aw P1 p2.length k1_,ax ay 1,aw aB 0 0]:=HZ6.o;obtain⟨z0,z1,z2,z3,z4,z5⟩:=sqC6 hz6;clear hz6;obtain⟨f0,f1,f2,f3,f4,f5⟩:=sqF6 hr3;obtain⟨y0,y1,y2,y3,y4,y5⟩:=sqC6 hr3;have HR3:=sqH hr3;have HF:=sqH (hr3.all6 (ax ay q) (az ⟨#[]⟩) (aw aB 0 0) (aw P1 p2.length k1_) (ax ay 1) (aw aB 0 0));clear hr3
  refine wH ?_;intros;refine bodyPost_ret (results_cell_row rfl _ _ (H+1) _ _ _ _ wu HF.o underlying48 rfl wm) rfl ?_;have e1:fliD ⟨s,co,fs⟩ ⟨kd,n,dg,D,ps⟩=(xI ⟨s,co,fs⟩ m q,⟨q, [], [],p2,1, []⟩):=by
   unfold fliD;rw [if_pos (show kd=12 from HK.o)];dsimp only;rw [HPD.o];dsimp only;rw [if_neg (fun h=>h HQ0.o),if_pos rfl]
  rw [e1];obtain⟨⟨p',hd4⟩,hg5,hr5,hl5⟩:=HX.o;exact⟨_,_,_,rfl,zl hg5 hHw1 _ _ _ _ _ _,⟨p',(hd4.set6 hr5 (.inr (.inl rfl)) hgH _ _ _ _ _ _).mono fun b h=> .inl h⟩,⟨World.ownsRow_nil _ _ _ _,qB hl5 (zf hl5 hr5 wo) _ _ _ _ _ _,World.ownsRow_nil _ _ _ _⟩⟩
 | false =>
  have HWT:=sqH (z2v ⟨A1,c1,B1,d1,G1,n1,F1,jf⟩ m kd n dg D ps A c A' c' w5 (OwLo.rdAt (p:=⟨A1,c1,B1,d1,G1,n1,F1,jf⟩) HO5.o.1));obtain⟨a0,a1,a2,a3,a4,a5,a6,a7⟩:=sqC8 HO5.o.2.1;obtain⟨o0,o1,o2,o3,o4⟩:=sqC5 HO5.o.2.2;generalize hwv:xF m.fs dg=bw at HWT;have HWV:=sqH hwv;clear hwv
  refine wH ?_;intros;refine wV HWT.o fun w6 hb6=>?_;dsimp only;clear a0 a1 a2 a3 a4 a5 a6 a7 o0 o1 o2 o3 o4 HWT;have HX6:=sqH (aD (HX.o.1.imp fun _ h=>h.below hb6) (aD (zP HX.o.2.1 hb6) (aD (HX.o.2.2.1.below hb6) (zc HX.o.2.2.2 hb6))));have HZ6:=sqH (HZ5.o.below hb6);clear hb6 HX HZ5 HO5;cases bw with
  | false =>
   have HX:=HX6;have hr3:=HX.o.2.2.1;have hz6:=HZ6.o;obtain⟨z0,z1,z2,z3,z4,z5⟩:=sqC6 hz6;clear hz6;obtain⟨f0,f1,f2,f3,f4,f5⟩:=sqF6 hr3;obtain⟨y0,y1,y2,y3,y4,y5⟩:=sqC6 hr3;have HR3:=sqH hr3;have HF:=sqH (hr3.all6 (ax ay q) (az ⟨#[]⟩) (aw aB 0 0) (aw P1 p2.length k1_) (ax ay 0) (aw aB 0 0));clear hr3
   refine wH ?_;intros;refine bodyPost_ret (results_cell_row rfl _ _ (H+1) _ _ _ _ wu HF.o underlying48 rfl wm) rfl ?_;have e1:fliD ⟨s,co,fs⟩ ⟨kd,n,dg,D,ps⟩=(xI ⟨s,co,fs⟩ m q,⟨q, [], [],p2,0, []⟩):=by
    unfold fliD;rw [if_pos (show kd=12 from HK.o)];dsimp only;rw [HPD.o];dsimp only;rw [if_neg (fun h=>h HQ0.o),if_neg wo,HWV.o];rfl
   rw [e1];obtain⟨⟨p',hd4⟩,hg5,hr5,hl5⟩:=HX.o;exact⟨_,_,_,rfl,zl hg5 hHw1 _ _ _ _ _ _,⟨p',(hd4.set6 hr5 (.inr (.inl rfl)) hgH _ _ _ _ _ _).mono fun b h=> .inl h⟩,⟨World.ownsRow_nil _ _ _ _,qB hl5 (zf hl5 hr5 wo) _ _ _ _ _ _,World.ownsRow_nil _ _ _ _⟩⟩
  | true =>
   have hr3:=HX6.o.2.2.1;have hr3':=hr3.other (k:=4) (g':=gr) (show H+1≠gr by omega) (ax ay 2);have hz6:=HZ6.o.set (k:=4) ws (ax ay 2);have HX:=sqH (aD (HX6.o.1.imp fun _ h=>h.set HZ6.o (.inr (.inr hws4)) (show g≠gr by omega) (ax ay 2) (k:=4)) (aD (zt (k:=4) (u:= ax ay 2) HX6.o.2.1 (show w.heap.size<=gr by omega)) (aD hr3' (zd (k:=4) (u:= ax ay 2) HX6.o.2.2.2 (zf HX6.o.2.2.2 HZ6.o wo)))));have HZ7:=sqH hz6;have z4:=HZ6.o.c4;have q4:=HZ6.o.frozen 4;clear hr3 hr3' hz6 HX6 HZ6
   refine wJ 10 ?_;intros;generalize w6.setCell ⟨gr,4,aB⟩ (ax ay 2)=w7 at *
   clear z4 q4;have hr3:=HX.o.2.2.1;have hz6:Arr w7 gr 48 [ax ay q,az ⟨#[]⟩,aw aB 0 0,aw P1 p2.length k1_,ax ay 2,aw aB 0 0]:=HZ7.o;obtain⟨z0,z1,z2,z3,z4,z5⟩:=sqC6 hz6;clear hz6;obtain⟨f0,f1,f2,f3,f4,f5⟩:=sqF6 hr3;obtain⟨y0,y1,y2,y3,y4,y5⟩:=sqC6 hr3;have HR3:=sqH hr3;have HF:=sqH (hr3.all6 (ax ay q) (az ⟨#[]⟩) (aw aB 0 0) (aw P1 p2.length k1_) (ax ay 2) (aw aB 0 0));clear hr3
   refine wH ?_;intros;refine bodyPost_ret (results_cell_row rfl _ _ (H+1) _ _ _ _ wu HF.o underlying48 rfl wm) rfl ?_;have e1:fliD ⟨s,co,fs⟩ ⟨kd,n,dg,D,ps⟩=(xI ⟨s,co,fs⟩ m q,⟨q, [], [],p2,2, []⟩):=by
    unfold fliD;rw [if_pos (show kd=12 from HK.o)];dsimp only;rw [HPD.o];dsimp only;rw [if_neg (fun h=>h HQ0.o),if_neg wo,HWV.o];rfl
   rw [e1];obtain⟨⟨p',hd4⟩,hg5,hr5,hl5⟩:=HX.o;exact⟨_,_,_,rfl,zl hg5 hHw1 _ _ _ _ _ _,⟨p',(hd4.set6 hr5 (.inr (.inl rfl)) hgH _ _ _ _ _ _).mono fun b h=> .inl h⟩,⟨World.ownsRow_nil _ _ _ _,qB hl5 (zf hl5 hr5 wo) _ _ _ _ _ _,World.ownsRow_nil _ _ _ _⟩⟩
theorem z2r (g:Nat) (p:LoW) (l:LoP) (kd n:Nat) (dg D:ac) (ps:List PartP) (A:ae) (c:Nat) (A':ae) (c':Nat) (w:World) (hL:GoodL l) (hk:hexC dg=0) (hpz:chk ps=0) (hck:l.st.aG<1099511627776) (hlen:l.st.aF.length<10) (h1:kd=13) (N:ai) (hNg:N g) (hNw:∀b,N b->b<w.heap.size) (hb:DkB w g p l N) (hd:Sl w 1 A D.length c (bys D)) (hq:Sl w 3 A' ps.length c' (pcs ps)) :
  Calls zZZ 77 #[.pointer (aC ⟨g,0,aB⟩),orV kd n dg D ps A c A' c'] w (kb w g N (fliD l ⟨kd,n,dg,D,ps⟩)):=by
 have k1:((kd:Int)==12)=false:=by rw [beq_eq_false_iff_ne];omega
 have k2:((kd:Int)==13)=true:=by rw [beq_iff_eq];omega
 have HK:=sqH h1;have HPX:=sqH (aD hk (aD hpz (aD hck hlen)));clear h1 hk hpz hck hlen;obtain⟨X,cX,Y,dY,G,ng,F,cF⟩:=p;obtain⟨s,co,fs⟩:=l;have hgl:=hb.lt;have hgw:=hb.lt;have hbw:=hb.wider (N':=fun b=>N b\/w.heap.size<=b) (fun b h=>h);obtain⟨w0,hw0,hP,hR,hbx⟩:=zn w 55 48 [ax ay kd,ax ay n,az ⟨dg.toArray⟩,aw A D.length c,aw A' ps.length c'] [ax ay 0,az ⟨#[]⟩,aw aB 0 0,aw aB 0 0,ax ay 0,aw aB 0 0];have HDK:=sqH (show ∀W,Below w0.heap.size w0 W->DkB W g ⟨X,cX,Y,dY,G,ng,F,cF⟩ ⟨s,co,fs⟩ (fun b=>N b\/w.heap.size<=b) from fun W h=>(hbw.below hbx).below h);have HBC:=sqH (show ∀W,Below w0.heap.size w0 W->wF W g (aw X s.aE.length cX) (aw Y s.aF.length dY) (ax ay s.aH) (ax ay s.aG) (ax ay co.aJ) (aw G co.aI.length ng) (az ⟨co.at_.toArray⟩) (aw F fs.length cF) from fun W h=>by
  have b:=(HDK.o W h).box;exact sqC8 b)
 have hws:=hbx.size;obtain⟨HDB,HBX,HD,HQ⟩:=sqJ4 (show ∀W,Below w.heap.size w W->DkB W g ⟨X,cX,Y,dY,G,ng,F,cF⟩ ⟨s,co,fs⟩ (fun b=>N b\/w.heap.size<=b) from fun W h=>hbw.below h) hbx (hd.below hbx) (hq.below hbx);obtain⟨H,hH⟩:=wU w.heap.size
 rw [<-hH]at hP hR hgl;have hHw:w.heap.size<=H:=wj;have hHw1:w.heap.size<=H+1:=wj;have hgH:g≠H+1:=wj;have hHl:H+1<w0.heap.size:=hR.lt;obtain⟨HP,HR,HL,HNW⟩:=sqJ4 (show ∀W,Below w0.heap.size w0 W->Arr W H 55 (orC kd n dg D ps A c A' c') from fun W h=>hP.below h) (show ∀W,Below w0.heap.size w0 W->Arr W (H+1) 48 Kw from fun W h=>hR.below h) hL hNw;obtain⟨x0,x1,x2,x3,x4⟩:=sqC5 hP;have HW0:=sqH hw0;have HH:=sqH hH;rw [hw0,hH]at x0 x1 x2 x3 x4;clear hb hbw hbx hd hq hP hR hL hw0 hH hNw;go_enter func77,ntmps77
 refine wJ 11 ?_;intros;rw [<-HW0.o,<-HH.o];clear x0 x1 x2 x3 x4;obtain⟨w1,hw1⟩:=wU (w0.alloc (aA #[aw aB 0 0,aw aB 0 0,ax ay 0,ax ay 0,ax ay 0,aw aB 0 0,az ⟨#[]⟩,aw aB 0 0] 33))
 have hb1:Below w0.heap.size w0 w1:=by rw [hw1];exact(Below.refl _ _).alloc ab _
 obtain⟨g5,hg5⟩:=wU w0.heap.size
 have h50:Arr w1 g5 33 [aw aB 0 0,aw aB 0 0,ax ay 0,ax ay 0,ax ay 0,aw aB 0 0,az ⟨#[]⟩,aw aB 0 0]:=by rw [hw1,hg5];exact Arr.new w0 33 _
 have HBX1:=sqH (HBX.o.trans (hb1.mono hws));have hws1:w.heap.size<=w1.heap.size:=Nat.le_trans hws hb1.size;have hg5l:g5<w1.heap.size:=h50.lt;have hg5w:w0.heap.size<=g5:=wj;have HDW:=sqH (show ∀W,Below w1.heap.size w1 W->DkB W g ⟨X,cX,Y,dY,G,ng,F,cF⟩ ⟨s,co,fs⟩ (fun b=>N b\/w.heap.size<=b) from fun W h=>HDK.o W (wg hb1 h));have HPB:=sqH (fun W (h:Below w1.heap.size w1 W)=>YQ ⟨X,cX,Y,dY,G,ng,F,cF⟩ ⟨s,co,fs⟩ dg ps A' c' W HL.o (HDW.o W h).rd HPX.o.1 HPX.o.2.1 HPX.o.2.2.1 HPX.o.2.2.2 (HQ.o.below (wg hb1 h)));generalize hpb:kL ⟨s,co,fs⟩ dg ps=r at HPB;obtain⟨m,who,q⟩:=r;dsimp only at HPB;have HPD:=sqH hpb;clear hpb;obtain⟨HSB,HR1,HH5,HW1,HG5,HPO⟩:=sqJ6 (show ∀W,Below w1.heap.size w1 W->(wF W g (aw X s.aE.length cX) (aw Y s.aF.length dY) (ax ay s.aH) (ax ay s.aG) (ax ay co.aJ) (aw G co.aI.length ng) (az ⟨co.at_.toArray⟩) (aw F fs.length cF))/\W.cell? ⟨H,2,aB⟩=aC (az ⟨dg.toArray⟩)/\W.cell? ⟨H,4,aB⟩=aC (aw A' ps.length c') from fun W h=>⟨HBC.o W (wg hb1 h),(HP.o W (wg hb1 h)).c2,(HP.o W (wg hb1 h)).c4⟩) ((HR.o _ hb1)) h50 hw1 hg5 (HP.o _ hb1);clear hb1 hg5 h50 hw1;have o0:=HPO.o.c0;rw [HW1.o]at o0
 refine wJ 15 ?_;intros;rw [<-HW1.o,<-HG5.o];have h50:=HH5.o;clear o0 HW1 HG5 HH5;apply zE;intro REST;refine ze [13] (S:=(fun w'=>(wF w' g (aw X s.aE.length cX) (aw Y s.aF.length dY) (ax ay s.aH) (ax ay s.aG) (ax ay co.aJ) (aw G co.aI.length ng) (az ⟨co.at_.toArray⟩) (aw F fs.length cF))/\w'.cell? ⟨H,2,aB⟩=aC (az ⟨dg.toArray⟩)/\w'.cell? ⟨H,4,aB⟩=aC (aw A' ps.length c'))) wm ?_ (fun hHeld=> ?_)
 ·exact HSB.o _ (((wh w1)).drew)
 have hB:=((wh w1)).drew;have h5:=h50.drew;have hW:=HBX1.o.drew;have hRr:=HR1.o.drew;generalize w1.drew=wn0 at *
 refine wP 0 ?_;refine wP 1 ?_;refine wP 2 ?_;refine wO 3 ?_;refine wP 4 ?_;refine wO 5 ?_;refine wP 6 ?_;refine wO 7 ?_;refine za (rs:= [8]) wm ws ?_;refine z8.cons (o:=_) rfl (fun K hK=> ?_) ?_
 ·
  go_simp;refine(HPB.o wn0 hB).mono ?_;rintro e5 w5 ⟨v1,v2,v3,v4,wv,rfl,ho5,hp5,hb5⟩;obtain⟨⟨A1,c1,B1,d1,G1,n1,F1,jf⟩,rfl,rfl,rfl,rfl, -⟩:=ho5.rd;obtain⟨P1,k1_,rfl, -, -⟩:=Rd.of_own' hp5;dsimp only;refine zR hK ?_ (fun W=>Below w1.heap.size w1 W/\Arr W g5 33 [aw aB 0 0,aw aB 0 0,ax ay 0,ax ay 0,ax ay 0,aw aB 0 0,az ⟨#[]⟩,aw aB 0 0]/\OwSt W w.heap.size (aw A1 m.st.aE.length c1) (aw B1 m.st.aF.length d1) m.st (fun b=>(N b\/b=H+1)\/b=g5)/\W.ownsRow w.heap.size 9 1 (aw G1 m.co.aI.length n1) m.co.aI.length (strs m.co.aI)/\W.ownsRow w.heap.size 3 1 (aw P1 who.length k1_) who.length (ins who)/\FlsO W w.heap.size (aw F1 m.fs.length jf) m.fs/\Below w.heap.size w W/\Arr W (H+1) 48 [ax ay 0,az ⟨#[]⟩,aw aB 0 0,aw aB 0 0,ax ay 0,aw aB 0 0]) (fun W=>True) ?_ ?_ (fun wn1 hHeld2 hF _=> ?_)
  ·exact HSB.o _ ((wg hB hb5))
  ·exact⟨wg hB hb5,h5.below hb5,(ho5.s.lower (base':=w.heap.size) (by have:=hB.size;omega)).mono (N':=(fun b=>(N b\/b=H+1)\/b=g5)) (fun b hb=>hb.elim (fun hb=>by have:=hB.size;rcases hb with hb | hb;(have:=HNW.o b hb;omega);omega) (fun hb=>(by rw [hb];exact h5.lt))),zb ho5.c (by have:=hB.size;omega),zb hp5 (by have:=hB.size;omega),ho5.f.lower (by have:=hB.size;omega),wg hW hb5,hRr.below hb5⟩
  ·trivial
  clear hRr hW h5 hB hHeld;have hHeld:=hHeld2;clear hHeld2;obtain⟨hB,h5,ho,hc,hl,hf,hW,hRr⟩:=hF;clear hb5 ho5 hp5;clear hK K
  refine wP 9 ?_;refine wP 10 ?_;refine wP 11 ?_;refine wP 12 ?_;refine wS 13 fun K hK=>?_;have hqho:=ho.nb h5 wo wo;have hqhc:=zf hc h5 wo;have hqhl:=zf hl h5 wo;obtain⟨z0,f0,z1,f1,z2,f2,z3,f3,z4,f4,z5,f5,z6,f6,z7,f7⟩:=wc h5;go_simp;clear z0 f0 z1 f1 z2 f2 z3 f3 z4 f4 z5 f5 z6 f6 z7 f7;refine vt hK (fun W=>Arr W g5 33 [(aw A1 m.st.aE.length c1),(aw B1 m.st.aF.length d1),ax ay m.st.aH,ax ay m.st.aG,ax ay m.co.aJ,(aw G1 m.co.aI.length n1),az ⟨m.co.at_.toArray⟩,(aw F1 m.fs.length jf)]/\OwSt W w.heap.size (aw A1 m.st.aE.length c1) (aw B1 m.st.aF.length d1) m.st (fun b=>(N b\/b=H+1)\/b=g5)/\W.ownsRow w.heap.size 9 1 (aw G1 m.co.aI.length n1) m.co.aI.length (strs m.co.aI)/\W.ownsRow w.heap.size 3 1 (aw P1 who.length k1_) who.length (ins who)/\FlsO W w.heap.size (aw F1 m.fs.length jf) m.fs/\Below w.heap.size w W/\Arr W (H+1) 48 [ax ay 0,az ⟨#[]⟩,aw aB 0 0,aw aB 0 0,ax ay 0,aw aB 0 0]) (fun W=>True) ?_ ?_ (fun wn2 hF _=> ?_)
  ·exact⟨h5.all8 _ _ _ _ _ _ _ _,ho.set8N (.inr rfl) hqho.1 hqho.2 _ _ _ _ _ _ _ _,q7 hc hqhc _ _ _ _ _ _ _ _,q7 hl hqhl _ _ _ _ _ _ _ _,hf.set8 h5 wo wo _ _ _ _ _ _ _ _,zO hW wj _ _ _ _ _ _ _ _,KC hRr (show H+1≠g5 by omega) _ _ _ _ _ _ _ _⟩
  ·trivial
  clear hRr hW hf hl hc ho h5 hB hHeld;obtain⟨h5,ho,hc,hl,hf,hW,hRr⟩:=hF;clear hqho hqhc hqhl;clear hK K
  refine wP 14 ?_;refine wP 15 ?_;refine zp wm ?_ _
  try dsimp only [Exit.then]
  have hall:=aD h5 (aD ho (aD hc (aD hl (aD hf (aD hW hRr)))));clear hRr hW hf hl hc ho h5;generalize wn2=wz at hall ⊢
  revert hall;revert wz;revert k1_;revert P1;revert jf;revert F1;revert n1;revert G1;revert d1;revert B1;revert c1;revert A1;exact REST.o
 exact z8.nil;intro A1 c1 B1 d1 G1 n1 F1 jf P1 k1_ w3 hall;obtain⟨h5,ho,hc,hl,hf,hW,hRr⟩:=hall;have hol:OwLo w3 w.heap.size (aw A1 m.st.aE.length c1) (aw B1 m.st.aF.length d1) (aw G1 m.co.aI.length n1) (aw F1 m.fs.length jf) m (fun b=>N b\/b=H+1):=⟨ho.mono fun b hb=> .inl hb,hc,hf⟩
 have hgw3:g+1<=w.heap.size:=hgw;have HKP:=sqH (jE g ⟨X,cX,Y,dY,G,ng,F,cF⟩ ⟨s,co,fs⟩ _ _ _ _ m q w3 (fun b=>N b\/b=H+1) (.inl hNg) ((HDB.o _ hW).mono fun b hb=>hb.imp id fun h=>wj) (fun _=>hol.lower hgw3));obtain⟨a0,a1,a2,a3,a4,a5,a6,a7⟩:=sqC8 h5;obtain⟨HW3,HRR,HLR⟩:=sqJ3 hW hRr hl;clear h5 ho hc hl hf hW hRr HPB HSB hol
 refine wH ?_;intros;refine((HKP.o)).mono ?_;rintro e_ w4 ⟨rfl,hg4,hd4⟩;dsimp only;clear a0 a1 a2 a3 a4 a5 a6 a7 HKP;obtain⟨w5,hw5⟩:=wU (w4.alloc (aA #[ax ay q,az ⟨#[]⟩,aw aB 0 0,aw aB 0 0,ax ay 0,aw P1 who.length k1_] 48))
 have hb5:Below w4.heap.size w4 w5:=by rw [hw5];exact(Below.refl _ _).alloc ab _
 have hz5:Arr w5 w4.heap.size 48 [ax ay q,az ⟨#[]⟩,aw aB 0 0,aw aB 0 0,ax ay 0,aw P1 who.length k1_]:=by rw [hw5];exact Arr.new w4 48 _
 have hg35:=zP hg4 hb5;obtain⟨gr,hgr⟩:=wU w4.heap.size
 rw [<-hgr]at hz5;obtain⟨HX,HZ5,HW5,HGR⟩:=sqJ4 (aD (hd4.imp fun _ h=>h.below hb5) (aD (zP (zQ HW3.o hg4) hb5) (aD ((HRR.o.grown hg4 aa).below hb5) (ki HLR.o hg35 hgw)))) hz5 hw5 hgr;clear hd4 hb5 hz5 hg4 hg35 hw5 hgr
 refine wJ 19 ?_;intros;rw [<-HW5.o,<-HGR.o];clear HW5 HGR;have hr3:=HX.o.2.2.1;obtain⟨z0,z1,z2,z3,z4,z5⟩:=sqC6 HZ5.o;obtain⟨f0,f1,f2,f3,f4,f5⟩:=sqF6 hr3;obtain⟨y0,y1,y2,y3,y4,y5⟩:=sqC6 hr3;have HR3:=sqH hr3;have HF:=sqH (hr3.all6 (ax ay q) (az ⟨#[]⟩) (aw aB 0 0) (aw aB 0 0) (ax ay 0) (aw P1 who.length k1_));clear hr3
 refine wH ?_;intros;refine bodyPost_ret (results_cell_row rfl _ _ (H+1) _ _ _ _ wu HF.o underlying48 rfl wm) rfl ?_;have e1:fliD ⟨s,co,fs⟩ ⟨kd,n,dg,D,ps⟩=(xI ⟨s,co,fs⟩ m q,⟨q, [], [], [],0,who⟩):=by
  unfold fliD;rw [if_neg (show ¬(kd=12) by have:=HK.o;omega),if_pos (show kd=13 from HK.o)];dsimp only;rw [HPD.o]
 rw [e1];obtain⟨⟨p',hd4⟩,hg5,hr5,hl5⟩:=HX.o;exact⟨_,_,_,rfl,zl hg5 hHw1 _ _ _ _ _ _,⟨p',(hd4.set6 hr5 (.inr rfl) hgH _ _ _ _ _ _).mono fun b h=> .inl h⟩,⟨World.ownsRow_nil _ _ _ _,World.ownsRow_nil _ _ _ _,qB hl5 (zf hl5 hr5 wo) _ _ _ _ _ _⟩⟩
theorem z2s (g:Nat) (p:LoW) (l:LoP) (kd n:Nat) (dg D:ac) (ps:List PartP) (A:ae) (c:Nat) (A':ae) (c':Nat) (w:World) (hL:GoodL l) (h1:kd=14) (N:ai) (hNg:N g) (hNw:∀b,N b->b<w.heap.size) (hb:DkB w g p l N) (hd:Sl w 1 A D.length c (bys D)) (hq:Sl w 3 A' ps.length c' (pcs ps)) :
  Calls zZZ 77 #[.pointer (aC ⟨g,0,aB⟩),orV kd n dg D ps A c A' c'] w (kb w g N (fliD l ⟨kd,n,dg,D,ps⟩)):=by
 have k1:((kd:Int)==12)=false:=by rw [beq_eq_false_iff_ne];omega
 have k2:((kd:Int)==13)=false:=by rw [beq_eq_false_iff_ne];omega
 have HK:=sqH h1;clear h1;obtain⟨X,cX,Y,dY,G,ng,F,cF⟩:=p;obtain⟨s,co,fs⟩:=l;have hgl:=hb.lt;have hgw:=hb.lt;have hbw:=hb.wider (N':=fun b=>N b\/w.heap.size<=b) (fun b h=>h);obtain⟨w0,hw0,hP,hR,hbx⟩:=zn w 55 48 [ax ay kd,ax ay n,az ⟨dg.toArray⟩,aw A D.length c,aw A' ps.length c'] [ax ay 0,az ⟨#[]⟩,aw aB 0 0,aw aB 0 0,ax ay 0,aw aB 0 0];have HDK:=sqH (show ∀W,Below w0.heap.size w0 W->DkB W g ⟨X,cX,Y,dY,G,ng,F,cF⟩ ⟨s,co,fs⟩ (fun b=>N b\/w.heap.size<=b) from fun W h=>(hbw.below hbx).below h);have HBC:=sqH (show ∀W,Below w0.heap.size w0 W->wF W g (aw X s.aE.length cX) (aw Y s.aF.length dY) (ax ay s.aH) (ax ay s.aG) (ax ay co.aJ) (aw G co.aI.length ng) (az ⟨co.at_.toArray⟩) (aw F fs.length cF) from fun W h=>by
  have b:=(HDK.o W h).box;exact sqC8 b)
 have hws:=hbx.size;obtain⟨HDB,HBX,HD,HQ⟩:=sqJ4 (show ∀W,Below w.heap.size w W->DkB W g ⟨X,cX,Y,dY,G,ng,F,cF⟩ ⟨s,co,fs⟩ (fun b=>N b\/w.heap.size<=b) from fun W h=>hbw.below h) hbx (hd.below hbx) (hq.below hbx);obtain⟨H,hH⟩:=wU w.heap.size
 rw [<-hH]at hP hR hgl;have hHw:w.heap.size<=H:=wj;have hHw1:w.heap.size<=H+1:=wj;have hgH:g≠H+1:=wj;have hHl:H+1<w0.heap.size:=hR.lt;obtain⟨HP,HR,HL,HNW⟩:=sqJ4 (show ∀W,Below w0.heap.size w0 W->Arr W H 55 (orC kd n dg D ps A c A' c') from fun W h=>hP.below h) (show ∀W,Below w0.heap.size w0 W->Arr W (H+1) 48 Kw from fun W h=>hR.below h) hL hNw;obtain⟨x0,x1,x2,x3,x4⟩:=sqC5 hP;have HW0:=sqH hw0;have HH:=sqH hH;rw [hw0,hH]at x0 x1 x2 x3 x4;clear hb hbw hbx hd hq hP hR hL hw0 hH hNw;go_enter func77,ntmps77
 refine wJ 11 ?_;intros;rw [<-HW0.o,<-HH.o];clear x0 x1 x2 x3 x4;obtain⟨w1,hw1⟩:=wU (w0.alloc (aA #[aw aB 0 0,aw aB 0 0,ax ay 0,ax ay 0,ax ay 0,aw aB 0 0,az ⟨#[]⟩,aw aB 0 0] 33))
 have hb1:Below w0.heap.size w0 w1:=by rw [hw1];exact(Below.refl _ _).alloc ab _
 obtain⟨g5,hg5⟩:=wU w0.heap.size
 have h50:Arr w1 g5 33 [aw aB 0 0,aw aB 0 0,ax ay 0,ax ay 0,ax ay 0,aw aB 0 0,az ⟨#[]⟩,aw aB 0 0]:=by rw [hw1,hg5];exact Arr.new w0 33 _
 have HBX1:=sqH (HBX.o.trans (hb1.mono hws));have hws1:w.heap.size<=w1.heap.size:=Nat.le_trans hws hb1.size;have hg5l:g5<w1.heap.size:=h50.lt;have hg5w:w0.heap.size<=g5:=wj;have HDW:=sqH (show ∀W,Below w1.heap.size w1 W->DkB W g ⟨X,cX,Y,dY,G,ng,F,cF⟩ ⟨s,co,fs⟩ (fun b=>N b\/w.heap.size<=b) from fun W h=>HDK.o W (wg hb1 h));have HPB:=sqH (fun W (h:Below w1.heap.size w1 W)=>Qf ⟨X,cX,Y,dY,G,ng,F,cF⟩ ⟨s,co,fs⟩ dg W HL.o (HDW.o W h).rd);generalize hpb:yY ⟨s,co,fs⟩ dg=r at HPB;obtain⟨m,who,q⟩:=r;dsimp only at HPB;have HPD:=sqH hpb;clear hpb;obtain⟨HSB,HR1,HH5,HW1,HG5,HPO⟩:=sqJ6 (show ∀W,Below w1.heap.size w1 W->(wF W g (aw X s.aE.length cX) (aw Y s.aF.length dY) (ax ay s.aH) (ax ay s.aG) (ax ay co.aJ) (aw G co.aI.length ng) (az ⟨co.at_.toArray⟩) (aw F fs.length cF))/\W.cell? ⟨H,2,aB⟩=aC (az ⟨dg.toArray⟩) from fun W h=>⟨HBC.o W (wg hb1 h),(HP.o W (wg hb1 h)).c2⟩) ((HR.o _ hb1)) h50 hw1 hg5 (HP.o _ hb1);clear hb1 hg5 h50 hw1;have o0:=HPO.o.c0;rw [HW1.o]at o0
 refine wJ 16 ?_;intros;rw [<-HW1.o,<-HG5.o];have h50:=HH5.o;clear o0 HW1 HG5 HH5;apply zE;intro REST;refine ze [11] (S:=(fun w'=>(wF w' g (aw X s.aE.length cX) (aw Y s.aF.length dY) (ax ay s.aH) (ax ay s.aG) (ax ay co.aJ) (aw G co.aI.length ng) (az ⟨co.at_.toArray⟩) (aw F fs.length cF))/\w'.cell? ⟨H,2,aB⟩=aC (az ⟨dg.toArray⟩))) wm ?_ (fun hHeld=> ?_)
 ·exact HSB.o _ (((wh w1)).drew)
 have hB:=((wh w1)).drew;have h5:=h50.drew;have hW:=HBX1.o.drew;have hRr:=HR1.o.drew;generalize w1.drew=wn0 at *
 refine wP 0 ?_;refine wP 1 ?_;refine wP 2 ?_;refine wO 3 ?_;refine wP 4 ?_;refine wO 5 ?_;refine za (rs:= [6]) wm ws ?_;refine z8.cons (o:=_) rfl (fun K hK=> ?_) ?_
 ·
  go_simp;refine(HPB.o wn0 hB).mono ?_;rintro e5 w5 ⟨v1,v2,v3,v4,wv,rfl,ho5,hp5,hb5⟩;obtain⟨⟨A1,c1,B1,d1,G1,n1,F1,jf⟩,rfl,rfl,rfl,rfl, -⟩:=ho5.rd;obtain⟨P1,k1_,rfl, -, -⟩:=Rd.of_own' hp5;dsimp only;refine zR hK ?_ (fun W=>Below w1.heap.size w1 W/\Arr W g5 33 [aw aB 0 0,aw aB 0 0,ax ay 0,ax ay 0,ax ay 0,aw aB 0 0,az ⟨#[]⟩,aw aB 0 0]/\OwSt W w.heap.size (aw A1 m.st.aE.length c1) (aw B1 m.st.aF.length d1) m.st (fun b=>(N b\/b=H+1)\/b=g5)/\W.ownsRow w.heap.size 9 1 (aw G1 m.co.aI.length n1) m.co.aI.length (strs m.co.aI)/\W.ownsRow w.heap.size 3 1 (aw P1 who.length k1_) who.length (ins who)/\FlsO W w.heap.size (aw F1 m.fs.length jf) m.fs/\Below w.heap.size w W/\Arr W (H+1) 48 [ax ay 0,az ⟨#[]⟩,aw aB 0 0,aw aB 0 0,ax ay 0,aw aB 0 0]) (fun W=>True) ?_ ?_ (fun wn1 hHeld2 hF _=> ?_)
  ·exact HSB.o _ ((wg hB hb5))
  ·exact⟨wg hB hb5,h5.below hb5,(ho5.s.lower (base':=w.heap.size) (by have:=hB.size;omega)).mono (N':=(fun b=>(N b\/b=H+1)\/b=g5)) (fun b hb=>hb.elim (fun hb=>by have:=hB.size;rcases hb with hb | hb;(have:=HNW.o b hb;omega);omega) (fun hb=>(by rw [hb];exact h5.lt))),zb ho5.c (by have:=hB.size;omega),zb hp5 (by have:=hB.size;omega),ho5.f.lower (by have:=hB.size;omega),wg hW hb5,hRr.below hb5⟩
  ·trivial
  clear hRr hW h5 hB hHeld;have hHeld:=hHeld2;clear hHeld2;obtain⟨hB,h5,ho,hc,hl,hf,hW,hRr⟩:=hF;clear hb5 ho5 hp5;clear hK K
  refine wP 7 ?_;refine wP 8 ?_;refine wP 9 ?_;refine wP 10 ?_;refine wS 11 fun K hK=>?_;have hqho:=ho.nb h5 wo wo;have hqhc:=zf hc h5 wo;have hqhl:=zf hl h5 wo;obtain⟨z0,f0,z1,f1,z2,f2,z3,f3,z4,f4,z5,f5,z6,f6,z7,f7⟩:=wc h5;go_simp;clear z0 f0 z1 f1 z2 f2 z3 f3 z4 f4 z5 f5 z6 f6 z7 f7;refine vt hK (fun W=>Arr W g5 33 [(aw A1 m.st.aE.length c1),(aw B1 m.st.aF.length d1),ax ay m.st.aH,ax ay m.st.aG,ax ay m.co.aJ,(aw G1 m.co.aI.length n1),az ⟨m.co.at_.toArray⟩,(aw F1 m.fs.length jf)]/\OwSt W w.heap.size (aw A1 m.st.aE.length c1) (aw B1 m.st.aF.length d1) m.st (fun b=>(N b\/b=H+1)\/b=g5)/\W.ownsRow w.heap.size 9 1 (aw G1 m.co.aI.length n1) m.co.aI.length (strs m.co.aI)/\W.ownsRow w.heap.size 3 1 (aw P1 who.length k1_) who.length (ins who)/\FlsO W w.heap.size (aw F1 m.fs.length jf) m.fs/\Below w.heap.size w W/\Arr W (H+1) 48 [ax ay 0,az ⟨#[]⟩,aw aB 0 0,aw aB 0 0,ax ay 0,aw aB 0 0]) (fun W=>True) ?_ ?_ (fun wn2 hF _=> ?_)
  ·exact⟨h5.all8 _ _ _ _ _ _ _ _,ho.set8N (.inr rfl) hqho.1 hqho.2 _ _ _ _ _ _ _ _,q7 hc hqhc _ _ _ _ _ _ _ _,q7 hl hqhl _ _ _ _ _ _ _ _,hf.set8 h5 wo wo _ _ _ _ _ _ _ _,zO hW wj _ _ _ _ _ _ _ _,KC hRr (show H+1≠g5 by omega) _ _ _ _ _ _ _ _⟩
  ·trivial
  clear hRr hW hf hl hc ho h5 hB hHeld;obtain⟨h5,ho,hc,hl,hf,hW,hRr⟩:=hF;clear hqho hqhc hqhl;clear hK K
  refine wP 12 ?_;refine wP 13 ?_;refine zp wm ?_ _
  try dsimp only [Exit.then]
  have hall:=aD h5 (aD ho (aD hc (aD hl (aD hf (aD hW hRr)))));clear hRr hW hf hl hc ho h5;generalize wn2=wz at hall ⊢
  revert hall;revert wz;revert k1_;revert P1;revert jf;revert F1;revert n1;revert G1;revert d1;revert B1;revert c1;revert A1;exact REST.o
 exact z8.nil;intro A1 c1 B1 d1 G1 n1 F1 jf P1 k1_ w3 hall;obtain⟨h5,ho,hc,hl,hf,hW,hRr⟩:=hall;have hol:OwLo w3 w.heap.size (aw A1 m.st.aE.length c1) (aw B1 m.st.aF.length d1) (aw G1 m.co.aI.length n1) (aw F1 m.fs.length jf) m (fun b=>N b\/b=H+1):=⟨ho.mono fun b hb=> .inl hb,hc,hf⟩
 have hgw3:g+1<=w.heap.size:=hgw;have HKP:=sqH (jE g ⟨X,cX,Y,dY,G,ng,F,cF⟩ ⟨s,co,fs⟩ _ _ _ _ m q w3 (fun b=>N b\/b=H+1) (.inl hNg) ((HDB.o _ hW).mono fun b hb=>hb.imp id fun h=>wj) (fun _=>hol.lower hgw3));obtain⟨a0,a1,a2,a3,a4,a5,a6,a7⟩:=sqC8 h5;obtain⟨HW3,HRR,HLR⟩:=sqJ3 hW hRr hl;clear h5 ho hc hl hf hW hRr HPB HSB hol
 refine wH ?_;intros;refine((HKP.o)).mono ?_;rintro e_ w4 ⟨rfl,hg4,hd4⟩;dsimp only;clear a0 a1 a2 a3 a4 a5 a6 a7 HKP;obtain⟨w5,hw5⟩:=wU (w4.alloc (aA #[ax ay q,az ⟨#[]⟩,aw aB 0 0,aw aB 0 0,ax ay 0,aw P1 who.length k1_] 48))
 have hb5:Below w4.heap.size w4 w5:=by rw [hw5];exact(Below.refl _ _).alloc ab _
 have hz5:Arr w5 w4.heap.size 48 [ax ay q,az ⟨#[]⟩,aw aB 0 0,aw aB 0 0,ax ay 0,aw P1 who.length k1_]:=by rw [hw5];exact Arr.new w4 48 _
 have hg35:=zP hg4 hb5;obtain⟨gr,hgr⟩:=wU w4.heap.size
 rw [<-hgr]at hz5;obtain⟨HX,HZ5,HW5,HGR⟩:=sqJ4 (aD (hd4.imp fun _ h=>h.below hb5) (aD (zP (zQ HW3.o hg4) hb5) (aD ((HRR.o.grown hg4 aa).below hb5) (ki HLR.o hg35 hgw)))) hz5 hw5 hgr;clear hd4 hb5 hz5 hg4 hg35 hw5 hgr
 refine wJ 19 ?_;intros;rw [<-HW5.o,<-HGR.o];clear HW5 HGR;have hr3:=HX.o.2.2.1;obtain⟨z0,z1,z2,z3,z4,z5⟩:=sqC6 HZ5.o;obtain⟨f0,f1,f2,f3,f4,f5⟩:=sqF6 hr3;obtain⟨y0,y1,y2,y3,y4,y5⟩:=sqC6 hr3;have HR3:=sqH hr3;have HF:=sqH (hr3.all6 (ax ay q) (az ⟨#[]⟩) (aw aB 0 0) (aw aB 0 0) (ax ay 0) (aw P1 who.length k1_));clear hr3
 refine wH ?_;intros;refine bodyPost_ret (results_cell_row rfl _ _ (H+1) _ _ _ _ wu HF.o underlying48 rfl wm) rfl ?_;have e1:fliD ⟨s,co,fs⟩ ⟨kd,n,dg,D,ps⟩=(xI ⟨s,co,fs⟩ m q,⟨q, [], [], [],0,who⟩):=by
  unfold fliD;rw [if_neg (show ¬(kd=12) by have:=HK.o;omega),if_neg (show ¬(kd=13) by have:=HK.o;omega)];dsimp only;rw [HPD.o]
 rw [e1];obtain⟨⟨p',hd4⟩,hg5,hr5,hl5⟩:=HX.o;exact⟨_,_,_,rfl,zl hg5 hHw1 _ _ _ _ _ _,⟨p',(hd4.set6 hr5 (.inr rfl) hgH _ _ _ _ _ _).mono fun b h=> .inl h⟩,⟨World.ownsRow_nil _ _ _ _,World.ownsRow_nil _ _ _ _,qB hl5 (zf hl5 hr5 wo) _ _ _ _ _ _⟩⟩
theorem z4h (g:Nat) (p:LoW) (l:LoP) (kd n:Nat) (dg D:ac) (ps:List PartP) (A:ae) (c:Nat) (A':ae) (c':Nat) (w:World) (hL:GoodL l) (hk:hexC dg=0) (hpz:chk ps=0) (hck:l.st.aG<1099511627776) (hlen:l.st.aF.length<10) (h1:kd=5) (N:ai) (hNg:N g) (hNw:∀b,N b->b<w.heap.size) (hb:DkB w g p l N) (hd:Sl w 1 A D.length c (bys D)) (hq:Sl w 3 A' ps.length c' (pcs ps)) :
  Calls Tryz.prog 75 #[.pointer (aC ⟨g,0,aB⟩),orV kd n dg D ps A c A' c'] w (kb w g N (entD l ⟨kd,n,dg,D,ps⟩)):=by
 have k1:((kd:Int)==5)=true:=by rw [beq_iff_eq];omega
 have HK:=sqH h1;have HPX:=sqH (aD hk (aD hpz (aD hck hlen)));clear h1 hk hpz hck hlen;obtain⟨X,cX,Y,dY,G,ng,F,cF⟩:=p;obtain⟨s,co,fs⟩:=l;have hgl:=hb.lt;have hgw:=hb.lt;have hbw:=hb.wider (N':=fun b=>N b\/w.heap.size<=b) (fun b h=>h);obtain⟨w0,hw0,hP,hR,hbx⟩:=zn w 55 48 [ax ay kd,ax ay n,az ⟨dg.toArray⟩,aw A D.length c,aw A' ps.length c'] [ax ay 0,az ⟨#[]⟩,aw aB 0 0,aw aB 0 0,ax ay 0,aw aB 0 0];have HDK:=sqH (show ∀W,Below w0.heap.size w0 W->DkB W g ⟨X,cX,Y,dY,G,ng,F,cF⟩ ⟨s,co,fs⟩ (fun b=>N b\/w.heap.size<=b) from fun W h=>(hbw.below hbx).below h);have HBC:=sqH (show ∀W,Below w0.heap.size w0 W->wF W g (aw X s.aE.length cX) (aw Y s.aF.length dY) (ax ay s.aH) (ax ay s.aG) (ax ay co.aJ) (aw G co.aI.length ng) (az ⟨co.at_.toArray⟩) (aw F fs.length cF) from fun W h=>by
  have b:=(HDK.o W h).box;exact sqC8 b)
 have hws:=hbx.size;obtain⟨HBX,HD,HQ⟩:=sqJ3 hbx (hd.below hbx) (hq.below hbx);obtain⟨H,hH⟩:=wU w.heap.size
 rw [<-hH]at hP hR hgl;have hHw:w.heap.size<=H:=wj;have hHw1:w.heap.size<=H+1:=wj;have hgH:g≠H+1:=wj;have hHl:H+1<w0.heap.size:=hR.lt;obtain⟨HP,HR,HL,HNW⟩:=sqJ4 (show ∀W,Below w0.heap.size w0 W->Arr W H 55 (orC kd n dg D ps A c A' c') from fun W h=>hP.below h) (show ∀W,Below w0.heap.size w0 W->Arr W (H+1) 48 Kw from fun W h=>hR.below h) hL hNw;obtain⟨x0,x1,x2,x3,x4⟩:=sqC5 hP;have HW0:=sqH hw0;have HH:=sqH hH;rw [hw0,hH]at x0 x1 x2 x3 x4;clear hb hbw hbx hd hq hP hR hL hw0 hH hNw;go_enter func75,ntmps75
 refine wI 3 ?_;intros;rw [<-HW0.o,<-HH.o];clear x0 x1 x2 x3 x4;have HPB:=sqH (fun W (h:Below w0.heap.size w0 W)=>Ub ⟨X,cX,Y,dY,G,ng,F,cF⟩ ⟨s,co,fs⟩ dg ps A' c' W HL.o (HDK.o W h).rd HPX.o.1 HPX.o.2.1 HPX.o.2.2.1 HPX.o.2.2.2 (HQ.o.below h));generalize hpb:YF ⟨s,co,fs⟩ dg ps=r at HPB;obtain⟨m,q⟩:=r;dsimp only at HPB;have HPD:=sqH hpb;clear hpb;obtain⟨HSB,HSG,HKP⟩:=sqJ3 (show ∀W,Below w0.heap.size w0 W->W.cell? ⟨H,2,aB⟩=aC (az ⟨dg.toArray⟩)/\W.cell? ⟨H,4,aB⟩=aC (aw A' ps.length c') from fun W h=>⟨(HP.o W h).c2,(HP.o W h).c4⟩) (show ∀W W',Below w0.heap.size w0 W->W.grownBy W' (aC g)->W'.cell? ⟨H,2,aB⟩=aC (az ⟨dg.toArray⟩)/\W'.cell? ⟨H,4,aB⟩=aC (aw A' ps.length c') from fun W W' h h'=>⟨((HP.o W h).grown h' aa).c2,((HP.o W h).grown h' aa).c4⟩) (fun (W:World) (h:Below w0.heap.size w0 W) (v1 v2 v3 v4:Value) (m:LoP) (q:Nat) (ho:q=0->OwLo W (g+1) v1 v2 v3 v4 m (fun b=>N b\/b=H+1)) (hb:DkB W g ⟨X,cX,Y,dY,G,ng,F,cF⟩ ⟨s,co,fs⟩ (fun b=>N b\/b=H+1))=>jE g ⟨X,cX,Y,dY,G,ng,F,cF⟩ ⟨s,co,fs⟩ v1 v2 v3 v4 m q W (fun b=>N b\/b=H+1) (.inl hNg) hb ho)
 iterate 1 (first | go_values | go_skip | go_guarded | go_step | go_upon | go_back)
 apply zE;intro REST;refine ze [13] (S:=(fun w'=>w'.cell? ⟨H,2,aB⟩=aC (az ⟨dg.toArray⟩)/\w'.cell? ⟨H,4,aB⟩=aC (aw A' ps.length c'))) wm ?_ (fun hHeld=> ?_)
 ·exact HSB.o _ (Below.refl w0.heap.size w0).drew
 have hB:=(Below.refl w0.heap.size w0).drew;generalize w0.drew=wn0 at *
 refine wP 0 ?_;refine wP 1 ?_;refine wP 2 ?_;refine wP 3 ?_;refine wP 5 ?_;refine wO 6 ?_;refine wP 7 ?_;refine wO 8 ?_;refine za (rs:= [4]) wm ws ?_;refine z8.cons (o:=_) rfl (fun K hK=> ?_) ?_
 ·
  obtain⟨y0,y1,y2,y3,y4,y5,y6,y7⟩:=HBC.o _ hB;go_simp;clear y0 y1 y2 y3 y4 y5 y6 y7;refine zR hK ?_ (fun W=>Below w0.heap.size w0 W) (fun W=>True) ?_ ?_ (fun wn1 hHeld2 hF _=> ?_)
  ·exact HSB.o _ hB
  ·exact hB
  ·trivial
  clear hB hHeld;have hHeld:=hHeld2;clear hHeld2;have hB:=hF;clear hK K
  try simp only [sqP]
  refine wT 9 fun K hK=>?_;go_simp;refine(HPB.o wn1 hB).mono ?_;rintro e5 w5 ⟨v1,v2,v3,v4,rfl,ho5,hb5⟩;obtain⟨⟨A1,c1,B1,d1,G1,n1,F1,f1⟩,rfl,rfl,rfl,rfl, -⟩:=ho5.rd;dsimp only;refine zR hK ?_ (fun W=>Below w0.heap.size w0 W/\OwLo W (g+1) (aw A1 m.st.aE.length c1) (aw B1 m.st.aF.length d1) (aw G1 m.co.aI.length n1) (aw F1 m.fs.length f1) m (fun b=>N b\/b=H+1)) (fun W=>True) ?_ ?_ (fun wn2 hHeld2 hF _=> ?_)
  ·exact HSB.o _ (wg hB hb5)
  ·exact⟨wg hB hb5,ho5.at_ (by have:=hB.size;omega) (fun b hb=>by have:=hB.size;rcases hb with hb | hb;(have:=HNW.o b hb;omega);omega)⟩
  ·trivial
  clear hB hHeld;have hHeld:=hHeld2;clear hHeld2;obtain⟨hB,ho⟩:=hF;clear hb5 ho5;clear hK K
  refine wP 10 ?_;refine wP 11 ?_;refine wT 12 fun K hK=>?_;go_simp;refine(HKP.o wn2 hB _ _ _ _ m q (fun _=>ho) ((HDK.o _ hB).mono (fun b hb=>hb.imp id (fun h=>wj)))).mono ?_;rintro e5 w5 ⟨rfl,hg5,hd5⟩;dsimp only;refine zR hK ?_ (fun W=>w.grownBy W (aC g)/\(∃p2,DkB W g p2 (xI ⟨s,co,fs⟩ m q) (fun b=>N b\/b=H+1))/\Arr W (H+1) 48 [ax ay 0,az ⟨#[]⟩,aw aB 0 0,aw aB 0 0,ax ay 0,aw aB 0 0]) (fun W=>True) ?_ ?_ (fun wn3 hHeld2 hF _=> ?_)
  ·exact HSG.o _ _ hB hg5
  ·exact⟨zQ (HBX.o.trans (hB.mono wj)) hg5,hd5,(HR.o _ hB).grown hg5 aa⟩
  ·trivial
  clear ho hB hHeld;have hHeld:=hHeld2;clear hHeld2;obtain⟨hKg,hD,hR⟩:=hF;clear hg5 hd5;clear hK K
  try simp only [sqP]
  refine wS 13 fun K hK=>?_;obtain⟨z0,f0,z1,f1,z2,f2,z3,f3,z4,f4,z5,f5⟩:=we hR;go_simp;clear z0 f0 z1 f1 z2 f2 z3 f3 z4 f4 z5 f5;refine vt hK (fun W=>w.grownBy W (aC g)/\(∃p2,DkB W g p2 (xI ⟨s,co,fs⟩ m q) (fun b=>N b\/b=H+1))/\Arr W (H+1) 48 [ax ay q,az ⟨#[]⟩,aw aB 0 0,aw aB 0 0,ax ay 0,aw aB 0 0]) (fun W=>True) ?_ ?_ (fun wn4 hF _=> ?_)
  ·exact⟨zl hKg wj _ _ _ _ _ _,hD.imp fun _ h=>h.set6 hR (.inr rfl) wj _ _ _ _ _ _,hR.all6 _ _ _ _ _ _⟩
  ·trivial
  clear hR hD hKg hHeld;obtain⟨hKg,hD,hR⟩:=hF;clear hK K
  try simp only [sqP]
  refine zp wm ?_ _
  try dsimp only [Exit.then]
  have hall:=aD hKg (aD hD hR);clear hR hD hKg;generalize wn4=wz at hall ⊢
  revert hall;revert wz;revert f1;revert F1;revert n1;revert G1;revert d1;revert B1;revert c1;revert A1;exact REST.o
 exact z8.nil;intro A1 c1 B1 d1 G1 n1 F1 f1 w3 hall;obtain⟨hKg,hD,hR⟩:=hall;have HX:=sqH (aD hD hKg);have HF:=sqH hR;clear hD hKg hR
 refine wH ?_;intros;refine bodyPost_ret (results_cell_row rfl _ _ (H+1) _ _ _ _ wu HF.o underlying48 rfl wm) rfl ?_;have e1:entD ⟨s,co,fs⟩ ⟨kd,n,dg,D,ps⟩=(xI ⟨s,co,fs⟩ m q,Yq q):=by
  unfold entD;rw [if_pos (show kd=5 from HK.o)];dsimp only;rw [HPD.o]
 rw [e1];obtain⟨⟨p2,hD⟩,hK⟩:=HX.o;exact⟨_,_,_,rfl,hK,⟨p2,hD.mono fun b h=> .inl h⟩,.e_ q⟩
theorem z4i (g:Nat) (p:LoW) (l:LoP) (kd n:Nat) (dg D:ac) (ps:List PartP) (A:ae) (c:Nat) (A':ae) (c':Nat) (w:World) (hL:GoodL l) (hck:l.st.aG<1099511627776) (h1:kd=6) (N:ai) (hNg:N g) (hNw:∀b,N b->b<w.heap.size) (hb:DkB w g p l N) (hd:Sl w 1 A D.length c (bys D)) (hq:Sl w 3 A' ps.length c' (pcs ps)) :
  Calls Tryz.prog 75 #[.pointer (aC ⟨g,0,aB⟩),orV kd n dg D ps A c A' c'] w (kb w g N (entD l ⟨kd,n,dg,D,ps⟩)):=by
 have k1:((kd:Int)==5)=false:=by rw [beq_eq_false_iff_ne];omega
 have k2:((kd:Int)==6)=true:=by rw [beq_iff_eq];omega
 have HK:=sqH h1;have HPX:=sqH hck;clear h1 hck;obtain⟨X,cX,Y,dY,G,ng,F,cF⟩:=p;obtain⟨s,co,fs⟩:=l;have hgl:=hb.lt;have hgw:=hb.lt;have hbw:=hb.wider (N':=fun b=>N b\/w.heap.size<=b) (fun b h=>h);obtain⟨w0,hw0,hP,hR,hbx⟩:=zn w 55 48 [ax ay kd,ax ay n,az ⟨dg.toArray⟩,aw A D.length c,aw A' ps.length c'] [ax ay 0,az ⟨#[]⟩,aw aB 0 0,aw aB 0 0,ax ay 0,aw aB 0 0];have HDK:=sqH (show ∀W,Below w0.heap.size w0 W->DkB W g ⟨X,cX,Y,dY,G,ng,F,cF⟩ ⟨s,co,fs⟩ (fun b=>N b\/w.heap.size<=b) from fun W h=>(hbw.below hbx).below h);have HBC:=sqH (show ∀W,Below w0.heap.size w0 W->wF W g (aw X s.aE.length cX) (aw Y s.aF.length dY) (ax ay s.aH) (ax ay s.aG) (ax ay co.aJ) (aw G co.aI.length ng) (az ⟨co.at_.toArray⟩) (aw F fs.length cF) from fun W h=>by
  have b:=(HDK.o W h).box;exact sqC8 b)
 have hws:=hbx.size;obtain⟨HBX,HD,HQ⟩:=sqJ3 hbx (hd.below hbx) (hq.below hbx);obtain⟨H,hH⟩:=wU w.heap.size
 rw [<-hH]at hP hR hgl;have hHw:w.heap.size<=H:=wj;have hHw1:w.heap.size<=H+1:=wj;have hgH:g≠H+1:=wj;have hHl:H+1<w0.heap.size:=hR.lt;obtain⟨HP,HR,HL,HNW⟩:=sqJ4 (show ∀W,Below w0.heap.size w0 W->Arr W H 55 (orC kd n dg D ps A c A' c') from fun W h=>hP.below h) (show ∀W,Below w0.heap.size w0 W->Arr W (H+1) 48 Kw from fun W h=>hR.below h) hL hNw;obtain⟨x0,x1,x2,x3,x4⟩:=sqC5 hP;have HW0:=sqH hw0;have HH:=sqH hH;rw [hw0,hH]at x0 x1 x2 x3 x4;clear hb hbw hbx hd hq hP hR hL hw0 hH hNw;go_enter func75,ntmps75
 refine wI 5 ?_;intros;rw [<-HW0.o,<-HH.o];clear x0 x1 x2 x3 x4;have HPB:=sqH (fun W (h:Below w0.heap.size w0 W)=>z5b X cX Y dY s W dg HL.o.s (HDK.o W h).rd.s HPX.o);generalize hpb:gtP s dg=r at HPB;obtain⟨t,p2,q⟩:=r;dsimp only at HPB;have HPD:=sqH hpb;clear hpb;have HSB:=sqH (show ∀W,Below w0.heap.size w0 W->(wD W g (aw X s.aE.length cX) (aw Y s.aF.length dY) (ax ay s.aH) (ax ay s.aG))/\W.cell? ⟨H,2,aB⟩=aC (az ⟨dg.toArray⟩) from fun W h=>by
  obtain⟨y0,y1,y2,y3,_⟩:=HBC.o W h;exact⟨⟨y0,y1,y2,y3⟩,(HP.o W h).c2⟩)
 iterate 1 (first | go_values | go_skip | go_guarded | go_step | go_upon | go_back)
 apply zE;intro REST;apply zE;intro Rb1;refine ze [13] (S:=(fun w'=>(wD w' g (aw X s.aE.length cX) (aw Y s.aF.length dY) (ax ay s.aH) (ax ay s.aG))/\w'.cell? ⟨H,2,aB⟩=aC (az ⟨dg.toArray⟩))) wm ?_ (fun hHeld=> ?_)
 ·exact HSB.o _ (((wh w0)).drew)
 have hB:=((wh w0)).drew;generalize w0.drew=wn0 at *
 refine wP 0 ?_;refine wP 1 ?_;refine wP 2 ?_;refine wP 3 ?_;refine wO 4 ?_;refine wP 5 ?_;refine wO 6 ?_;refine za (rs:= [7,12]) wm ws ?_;refine z8.cons (o:=_) rfl (fun K hK=> ?_) ?_
 ·
  go_simp;refine(HPB.o wn0 hB).mono ?_;rintro e5 w5 ⟨v1,v2,vp,rfl,ho5,hp5,hb5⟩;obtain⟨A1,c1,B1,d1,rfl,rfl, -⟩:=ho5.rows;obtain⟨P1,k1_,rfl, -, -⟩:=Rd.of_own' hp5;dsimp only;refine zR hK ?_ (fun W=>Below w0.heap.size w0 W/\OwSt W w.heap.size (aw A1 t.aE.length c1) (aw B1 t.aF.length d1) t (fun b=>(N b\/b=H+1))/\W.ownsRow w.heap.size 51 3 (aw P1 p2.length k1_) p2.length (pcs p2)) (fun W=>True) ?_ ?_ (fun wn1 hHeld2 hF _=> ?_)
  ·exact HSB.o _ ((wg hB hb5))
  ·exact⟨wg hB hb5,(ho5.lower (base':=w.heap.size) (by have:=hB.size;omega)).mono (N':=(fun b=>(N b\/b=H+1))) (fun b hb=>by have:=hB.size;rcases hb with hb | hb;(have:=HNW.o b hb;omega);omega),zb hp5 (by have:=hB.size;omega)⟩
  ·trivial
  clear hB hHeld;have hHeld:=hHeld2;clear hHeld2;obtain⟨hB,ho,hl⟩:=hF;clear hb5 ho5 hp5;clear hK K
  refine wP 8 ?_;refine wP 9 ?_;refine wP 10 ?_;refine wP 11 ?_;refine wT 12 fun K hK=>?_;have hba:=wi wn1 (aA #[aw aB 0 0,aw aB 0 0,ax ay 0,ax ay 0] 27);have hn:=Arr.new wn1 27 [aw aB 0 0,aw aB 0 0,ax ay 0,ax ay 0];have hnl:w0.heap.size<=wn1.heap.size:=hB.size;obtain⟨g5,hge⟩:=wU wn1.heap.size
  have hN:∀b,b=g5->wn1.heap.size<=b:=fun b h=>by rw [h,hge];exact Nat.le_refl _
  rw [<-hge]at hn hnl;go_simp;rw [<-hge];clear hge;refine zR hK ?_ (fun W=>Below w0.heap.size w0 W/\Arr W g5 27 [aw aB 0 0,aw aB 0 0,ax ay 0,ax ay 0]/\w0.heap.size<=g5/\OwSt W w.heap.size (aw A1 t.aE.length c1) (aw B1 t.aF.length d1) t (fun b=>(N b\/b=H+1)\/b=g5)/\W.ownsRow w.heap.size 51 3 (aw P1 p2.length k1_) p2.length (pcs p2)) (fun W=>True) ?_ ?_ (fun wn2 hHeld2 hF _=> ?_)
  ·exact HSB.o _ ((wg hB hba))
  ·exact⟨wg hB hba,hn,hnl,(ho.wider (N':=(fun b=>(N b\/b=H+1)\/b=g5)) (fun b hb=>hb.elim (fun hb=> .inl hb) (fun hb=> .inr (hN _ hb)))).below hba,zc hl hba⟩
  ·trivial
  clear hl ho hB hHeld;have hHeld:=hHeld2;clear hHeld2;obtain⟨hB,h5,h5l,ho,hl⟩:=hF;clear hba hn hnl hN;clear hK K
  try simp only [sqP]
  have hall:=aD hB (aD h5 (aD h5l (aD ho (aD hl hHeld))));clear hHeld hl ho h5l h5 hB;generalize wn2=wz at hall ⊢
  revert hall;revert wz;revert g5;revert k1_;revert P1;revert d1;revert B1;revert c1;revert A1;exact Rb1.o
 refine z8.cons (o:=_) rfl (fun K hK=> ?_) ?_
 ·
  have hba:=wi wn0 (aA #[aw aB 0 0,aw aB 0 0,ax ay 0,ax ay 0] 27);have hn:=Arr.new wn0 27 [aw aB 0 0,aw aB 0 0,ax ay 0,ax ay 0];have hnl:w0.heap.size<=wn0.heap.size:=hB.size;obtain⟨g5,hge⟩:=wU wn0.heap.size
  have hN:∀b,b=g5->wn0.heap.size<=b:=fun b h=>by rw [h,hge];exact Nat.le_refl _
  rw [<-hge]at hn hnl;go_simp;rw [<-hge];clear hge;refine zR hK ?_ (fun W=>Below w0.heap.size w0 W/\Arr W g5 27 [aw aB 0 0,aw aB 0 0,ax ay 0,ax ay 0]/\w0.heap.size<=g5) (fun W=>True) ?_ ?_ (fun wn3 hHeld2 hF _=> ?_)
  ·exact HSB.o _ ((wg hB hba))
  ·exact⟨wg hB hba,hn,hnl⟩
  ·trivial
  clear hB hHeld;have hHeld:=hHeld2;clear hHeld2;obtain⟨hB,h5,h5l⟩:=hF;clear hba hn hnl hN;clear hK K
  try simp only [sqP]
  refine wT 7 fun K hK=>?_;go_simp;refine(HPB.o wn3 hB).mono ?_;rintro e5 w5 ⟨v1,v2,vp,rfl,ho5,hp5,hb5⟩;obtain⟨A1,c1,B1,d1,rfl,rfl, -⟩:=ho5.rows;obtain⟨P1,k1_,rfl, -, -⟩:=Rd.of_own' hp5;dsimp only;refine zR hK ?_ (fun W=>Below w0.heap.size w0 W/\Arr W g5 27 [aw aB 0 0,aw aB 0 0,ax ay 0,ax ay 0]/\w0.heap.size<=g5/\OwSt W w.heap.size (aw A1 t.aE.length c1) (aw B1 t.aF.length d1) t (fun b=>(N b\/b=H+1)\/b=g5)/\W.ownsRow w.heap.size 51 3 (aw P1 p2.length k1_) p2.length (pcs p2)) (fun W=>True) ?_ ?_ (fun wn4 hHeld2 hF _=> ?_)
  ·exact HSB.o _ ((wg hB hb5))
  ·exact⟨wg hB hb5,h5.below hb5,h5l,(ho5.lower (base':=w.heap.size) (by have:=hB.size;omega)).mono (N':=(fun b=>(N b\/b=H+1)\/b=g5)) (fun b hb=>hb.elim (fun hb=>by have:=hB.size;rcases hb with hb | hb;(have:=HNW.o b hb;omega);omega) (fun hb=>(by rw [hb];exact h5.lt))),zb hp5 (by have:=hB.size;omega)⟩
  ·trivial
  clear h5l h5 hB hHeld;have hHeld:=hHeld2;clear hHeld2;obtain⟨hB,h5,h5l,ho,hl⟩:=hF;clear hb5 ho5 hp5;clear hK K
  refine wP 8 ?_;refine wP 9 ?_;refine wP 10 ?_;refine wP 11 ?_;have hall:=aD hB (aD h5 (aD h5l (aD ho (aD hl hHeld))));clear hHeld hl ho h5l h5 hB;generalize wn4=wz at hall ⊢
  revert hall;revert wz;revert g5;revert k1_;revert P1;revert d1;revert B1;revert c1;revert A1;exact Rb1.o
 exact z8.nil;intro A1 c1 B1 d1 P1 k1_ g5 wRb1 hall;obtain⟨hB,h5,h5l,ho,hl,hHeld⟩:=hall;refine za (rs:= [13]) wm ws ?_;refine z8.store (o:=_) rfl wu (fun K hK=> ?_) ?_
 ·
  have hqho:=ho.nb h5 wo wo;have hqhl:=zf hl h5 wo;obtain⟨z0,f0,z1,f1,z2,f2,z3,f3⟩:=wY h5;go_simp;clear z0 f0 z1 f1 z2 f2 z3 f3;refine vt hK (fun W=>Below w0.heap.size w0 W/\Arr W g5 27 [(aw A1 t.aE.length c1),(aw B1 t.aF.length d1),ax ay t.aH,ax ay t.aG]/\w0.heap.size<=g5/\OwSt W w.heap.size (aw A1 t.aE.length c1) (aw B1 t.aF.length d1) t (fun b=>(N b\/b=H+1)\/b=g5)/\W.ownsRow w.heap.size 51 3 (aw P1 p2.length k1_) p2.length (pcs p2)) (fun W=>True) ?_ ?_ (fun wn5 hF _=> ?_)
  ·exact⟨((((hB).setCell (p:=⟨g5,0,aB⟩) h5l _).setCell (p:=⟨g5,1,aB⟩) h5l _).setCell (p:=⟨g5,2,aB⟩) h5l _).setCell (p:=⟨g5,3,aB⟩) h5l _,h5.all4 _ _ _ _,h5l,ho.set4N (.inr rfl) hqho.1 hqho.2 _ _ _ _,qA hl hqhl _ _ _ _⟩
  ·trivial
  clear hl ho h5l h5 hB hHeld;obtain⟨hB,h5,h5l,ho,hl⟩:=hF;clear hqho hqhl;clear hK K
  refine wP 14 ?_;refine wP 15 ?_;refine zp wm ?_ _
  try dsimp only [Exit.then]
  have hall:=aD hB (aD h5 (aD h5l (aD ho hl)));clear hl ho h5l h5 hB;generalize wn5=wz at hall ⊢
  revert hall;revert wz;revert g5;revert k1_;revert P1;revert d1;revert B1;revert c1;revert A1;exact REST.o
 exact z8.nil;intro A1 c1 B1 d1 P1 k1_ g5 w3 hall;obtain⟨hB,h5,h5l,ho,hl⟩:=hall;have HSB:=sqH (show ∀W,Below w3.heap.size w3 W->wD W g5 (aw A1 t.aE.length c1) (aw B1 t.aF.length d1) (ax ay t.aH) (ax ay t.aG) from fun W h=>sqC4 (h5.below h));have HSG:=sqH (show ∀W W',Below w3.heap.size w3 W->W.grownBy W' (aC g)->wD W' g5 (aw A1 t.aE.length c1) (aw B1 t.aF.length d1) (ax ay t.aH) (ax ay t.aG) from fun W W' h h'=>by
  have h6:=(h5.below h).grown h' aa;exact sqC4 h6)
 have HSK:=sqH (show ∀W W':World,(wD W g5 (aw A1 t.aE.length c1) (aw B1 t.aF.length d1) (ax ay t.aH) (ax ay t.aG))->Below W.heap.size W W'->wD W' g5 (aw A1 t.aE.length c1) (aw B1 t.aF.length d1) (ax ay t.aH) (ax ay t.aG) from fun W W' h h'=>by have h2:=q6 h' aB;exact⟨h2.cell h.1 ws,h2.cell h.2.1 ws,h2.cell h.2.2.1 ws,h2.cell h.2.2.2 ws⟩);have hot:=(ho.wider (N':=(fun b=>N b\/b=H+1\/w3.heap.size<=b)) (fun b hb=>hb.elim (fun h=> .inl (.inl (.inl h))) (fun h=>h.elim (fun h=> .inl (.inl (.inr h))) (fun h=> .inr h)))).lower (base':=g+1) wj;have HKP:=sqH (fun (W:World) (h:Below w3.heap.size w3 W)=>KL g ⟨X,cX,Y,dY,G,ng,F,cF⟩ ⟨s,co,fs⟩ _ _ (aw G co.aI.length ng) t co q W (fun b=>N b\/b=H+1\/w3.heap.size<=b) (.inl hNg) ((HDK.o _ (wg hB h)).mono fun b hb=>hb.imp id fun h=>by(have:=hB.size;rcases h with h | h<;>omega)) (fun _=>⟨hot.below h,zc (HDK.o _ hB).own.c h⟩));have HBX3:=sqH (HBX.o.trans (hB.mono hws));have hws3:w.heap.size<=w3.heap.size:=Nat.le_trans hws hB.size;have hHl3:H+1<w3.heap.size:=Nat.lt_of_lt_of_le hHl hB.size;have hgl3:g<w3.heap.size:=wj;have hg5l:g5<w3.heap.size:=h5.lt;replace HR:=z2i HR hB;replace HBC:=z2i HBC hB;clear hot h5 ho hB;have hl0:=hl;clear hl h5l HPB
 refine wI 6 ?_;intros;iterate 1 (first | go_values | go_skip | go_guarded | go_step | go_upon | go_back)
 apply zE;intro REST2;apply zE;intro Rc1;apply zE;intro Rc2;refine ze [10] (S:=(fun w'=>wD w' g5 (aw A1 t.aE.length c1) (aw B1 t.aF.length d1) (ax ay t.aH) (ax ay t.aG))) wm ?_ (fun hHeld=> ?_)
 ·exact HSB.o _ (Below.refl w3.heap.size w3).drew
 have hB:=(Below.refl w3.heap.size w3).drew;have hl:=zc hl0 (Below.refl w3.heap.size w3).drew;generalize w3.drew=wn0 at *
 refine wP 0 ?_;refine wO 1 ?_;refine wP 2 ?_;refine wP 3 ?_;refine wP 4 ?_;refine wP 5 ?_;refine wP 7 ?_;refine za (rs:= [6,9]) wm ws ?_;refine z8.cons (o:=_) rfl (fun K hK=> ?_) ?_
 ·
  obtain⟨y0,y1,y2,y3,y4,y5,y6,y7⟩:=HBC.o _ hB;go_simp;clear y0 y1 y2 y3 y4 y5 y6 y7;refine zR hK ?_ (fun W=>Below w3.heap.size w3 W/\W.ownsRow w.heap.size 51 3 (aw P1 p2.length k1_) p2.length (pcs p2)) (fun W=>True) ?_ ?_ (fun wn1 hHeld2 hF _=> ?_)
  ·exact HSB.o _ hB
  ·exact⟨hB,hl⟩
  ·trivial
  clear hl hB hHeld;have hHeld:=hHeld2;clear hHeld2;obtain⟨hB,hl⟩:=hF;clear hK K
  try simp only [sqP]
  refine za (rs:= [8,9]) wm ws ?_;refine z8.cons (o:=_) rfl (fun K hK=> ?_) ?_
  ·
   go_simp;refine(HKP.o wn1 hB).mono ?_;rintro e5 w5 ⟨rfl,hg5,hd5⟩;dsimp only;refine zR hK ?_ (fun W=>w.grownBy W (aC g)/\(∃p2,DkB W g p2 (zJ ⟨s,co,fs⟩ t co q) (fun b=>N b\/b=H+1\/w3.heap.size<=b))/\Arr W (H+1) 48 [ax ay 0,az ⟨#[]⟩,aw aB 0 0,aw aB 0 0,ax ay 0,aw aB 0 0]/\w3.heap.size<=W.heap.size/\W.ownsRow w.heap.size 51 3 (aw P1 p2.length k1_) p2.length (pcs p2)) (fun W=>True) ?_ ?_ (fun wn2 hHeld2 hF _=> ?_)
   ·exact HSG.o _ _ hB hg5
   ·exact⟨zQ (HBX3.o.trans (hB.mono wj)) hg5,hd5,(HR.o _ hB).grown hg5 aa,Nat.le_trans hB.size hg5.size,ki hl hg5 hgw⟩
   ·trivial
   clear hl hB hHeld;have hHeld:=hHeld2;clear hHeld2;obtain⟨hKg,hD,hR,hKl,hl⟩:=hF;clear hg5 hd5;clear hK K
   try simp only [sqP]
   refine wT 9 fun K hK=>?_;have hba:=wi wn2 (aA #[ax ay 0,az ⟨#[]⟩,aw aB 0 0,aw aB 0 0,ax ay 0,aw aB 0 0] 48);have hn:=Arr.new wn2 48 [ax ay 0,az ⟨#[]⟩,aw aB 0 0,aw aB 0 0,ax ay 0,aw aB 0 0];have hnl:w3.heap.size<=wn2.heap.size:=hKl;obtain⟨ga,hge⟩:=wU wn2.heap.size
   rw [<-hge]at hn hnl;go_simp;rw [<-hge];clear hge;refine zR hK ?_ (fun W=>w.grownBy W (aC g)/\(∃p2,DkB W g p2 (zJ ⟨s,co,fs⟩ t co q) (fun b=>N b\/b=H+1\/w3.heap.size<=b))/\Arr W (H+1) 48 [ax ay 0,az ⟨#[]⟩,aw aB 0 0,aw aB 0 0,ax ay 0,aw aB 0 0]/\Arr W ga 48 [ax ay 0,az ⟨#[]⟩,aw aB 0 0,aw aB 0 0,ax ay 0,aw aB 0 0]/\w3.heap.size<=ga/\W.ownsRow w.heap.size 51 3 (aw P1 p2.length k1_) p2.length (pcs p2)) (fun W=>True) ?_ ?_ (fun wn3 hHeld2 hF _=> ?_)
   ·exact HSK.o _ _ hHeld hba
   ·exact⟨zP hKg hba,hD.imp fun _ h=>h.below hba,hR.below hba,hn,hnl,zc hl hba⟩
   ·trivial
   clear hl hKl hR hD hKg hHeld;have hHeld:=hHeld2;clear hHeld2;obtain⟨hKg,hD,hR,hA,hAl,hl⟩:=hF;clear hba hn hnl;clear hK K
   try simp only [sqP]
   have hall:=aD hKg (aD hD (aD hR (aD hA (aD hAl (aD hl hHeld)))));clear hHeld hl hAl hA hR hD hKg;generalize wn3=wz at hall ⊢
   revert hall;revert wz;revert ga;exact Rc1.o
  refine z8.cons (o:=_) rfl (fun K hK=> ?_) ?_
  ·
   have hba:=wi wn1 (aA #[ax ay 0,az ⟨#[]⟩,aw aB 0 0,aw aB 0 0,ax ay 0,aw aB 0 0] 48);have hn:=Arr.new wn1 48 [ax ay 0,az ⟨#[]⟩,aw aB 0 0,aw aB 0 0,ax ay 0,aw aB 0 0];have hnl:w3.heap.size<=wn1.heap.size:=hB.size;obtain⟨ga,hge⟩:=wU wn1.heap.size
   rw [<-hge]at hn hnl;go_simp;rw [<-hge];clear hge;refine zR hK ?_ (fun W=>Below w3.heap.size w3 W/\Arr W ga 48 [ax ay 0,az ⟨#[]⟩,aw aB 0 0,aw aB 0 0,ax ay 0,aw aB 0 0]/\w3.heap.size<=ga/\W.ownsRow w.heap.size 51 3 (aw P1 p2.length k1_) p2.length (pcs p2)) (fun W=>True) ?_ ?_ (fun wn4 hHeld2 hF _=> ?_)
   ·exact HSB.o _ (wg hB hba)
   ·exact⟨wg hB hba,hn,hnl,zc hl hba⟩
   ·trivial
   clear hl hB hHeld;have hHeld:=hHeld2;clear hHeld2;obtain⟨hB,hA,hAl,hl⟩:=hF;clear hba hn hnl;clear hK K
   try simp only [sqP]
   have hall:=aD hB (aD hA (aD hAl (aD hl hHeld)));clear hHeld hl hAl hA hB;generalize wn4=wz at hall ⊢
   revert hall;revert wz;revert ga;exact Rc2.o
  exact z8.nil
 refine z8.cons (o:=_) rfl (fun K hK=> ?_) ?_
 ·
  have hba:=wi wn0 (aA #[ax ay 0,az ⟨#[]⟩,aw aB 0 0,aw aB 0 0,ax ay 0,aw aB 0 0] 48);have hn:=Arr.new wn0 48 [ax ay 0,az ⟨#[]⟩,aw aB 0 0,aw aB 0 0,ax ay 0,aw aB 0 0];have hnl:w3.heap.size<=wn0.heap.size:=hB.size;obtain⟨ga,hge⟩:=wU wn0.heap.size
  rw [<-hge]at hn hnl;go_simp;rw [<-hge];clear hge;refine zR hK ?_ (fun W=>Below w3.heap.size w3 W/\Arr W ga 48 [ax ay 0,az ⟨#[]⟩,aw aB 0 0,aw aB 0 0,ax ay 0,aw aB 0 0]/\w3.heap.size<=ga/\W.ownsRow w.heap.size 51 3 (aw P1 p2.length k1_) p2.length (pcs p2)) (fun W=>True) ?_ ?_ (fun wn5 hHeld2 hF _=> ?_)
  ·exact HSB.o _ (wg hB hba)
  ·exact⟨wg hB hba,hn,hnl,zc hl hba⟩
  ·trivial
  clear hl hB hHeld;have hHeld:=hHeld2;clear hHeld2;obtain⟨hB,hA,hAl,hl⟩:=hF;clear hba hn hnl;clear hK K
  try simp only [sqP]
  refine wT 6 fun K hK=>?_;obtain⟨y0,y1,y2,y3,y4,y5,y6,y7⟩:=HBC.o _ hB;go_simp;clear y0 y1 y2 y3 y4 y5 y6 y7;refine zR hK ?_ (fun W=>Below w3.heap.size w3 W/\Arr W ga 48 [ax ay 0,az ⟨#[]⟩,aw aB 0 0,aw aB 0 0,ax ay 0,aw aB 0 0]/\w3.heap.size<=ga/\W.ownsRow w.heap.size 51 3 (aw P1 p2.length k1_) p2.length (pcs p2)) (fun W=>True) ?_ ?_ (fun wn6 hHeld2 hF _=> ?_)
  ·exact HSB.o _ hB
  ·exact⟨hB,hA,hAl,hl⟩
  ·trivial
  clear hl hAl hA hB hHeld;have hHeld:=hHeld2;clear hHeld2;obtain⟨hB,hA,hAl,hl⟩:=hF;clear hK K
  try simp only [sqP]
  have hall:=aD hB (aD hA (aD hAl (aD hl hHeld)));clear hHeld hl hAl hA hB;generalize wn6=wz at hall ⊢
  revert hall;revert wz;revert ga;exact Rc2.o
 exact z8.nil;intro ga wRc2 hall;obtain⟨hB,hA,hAl,hl,hHeld⟩:=hall;refine za (rs:= [8]) wm ws ?_;refine z8.cons (o:=_) rfl (fun K hK=> ?_) ?_
 ·
  go_simp;refine(HKP.o wRc2 hB).mono ?_;rintro e5 w5 ⟨rfl,hg5,hd5⟩;dsimp only;refine zR hK ?_ (fun W=>w.grownBy W (aC g)/\(∃p2,DkB W g p2 (zJ ⟨s,co,fs⟩ t co q) (fun b=>N b\/b=H+1\/w3.heap.size<=b))/\Arr W (H+1) 48 [ax ay 0,az ⟨#[]⟩,aw aB 0 0,aw aB 0 0,ax ay 0,aw aB 0 0]/\Arr W ga 48 [ax ay 0,az ⟨#[]⟩,aw aB 0 0,aw aB 0 0,ax ay 0,aw aB 0 0]/\w3.heap.size<=ga/\W.ownsRow w.heap.size 51 3 (aw P1 p2.length k1_) p2.length (pcs p2)) (fun W=>True) ?_ ?_ (fun wn7 hHeld2 hF _=> ?_)
  ·exact HSG.o _ _ hB hg5
  ·exact⟨zQ (HBX3.o.trans (hB.mono wj)) hg5,hd5,(HR.o _ hB).grown hg5 aa,hA.grown hg5 aa,hAl,ki hl hg5 hgw⟩
  ·trivial
  clear hl hAl hA hB hHeld;have hHeld:=hHeld2;clear hHeld2;obtain⟨hKg,hD,hR,hA,hAl,hl⟩:=hF;clear hg5 hd5;clear hK K
  try simp only [sqP]
  have hall:=aD hKg (aD hD (aD hR (aD hA (aD hAl (aD hl hHeld)))));clear hHeld hl hAl hA hR hD hKg;generalize wn7=wz at hall ⊢
  revert hall;revert wz;revert ga;exact Rc1.o
 exact z8.nil;intro ga wRc1 hall;obtain⟨hKg,hD,hR,hA,hAl,hl,hHeld⟩:=hall;refine za (rs:= [10]) wm ws ?_;refine z8.store (o:=_) rfl wu (fun K hK=> ?_) ?_
 ·
  obtain⟨z0,f0,z1,f1,z2,f2,z3,f3,z4,f4,z5,f5⟩:=we hA;go_simp;clear z0 f0 z1 f1 z2 f2 z3 f3 z4 f4 z5 f5;refine vt hK (fun W=>w.grownBy W (aC g)/\(∃p2,DkB W g p2 (zJ ⟨s,co,fs⟩ t co q) (fun b=>N b\/b=H+1\/w3.heap.size<=b))/\Arr W (H+1) 48 [ax ay 0,az ⟨#[]⟩,aw aB 0 0,aw aB 0 0,ax ay 0,aw aB 0 0]/\Arr W ga 48 [ax ay q,az ⟨#[]⟩,aw aB 0 0,aw aB 0 0,ax ay 0,aw aB 0 0]/\w3.heap.size<=ga/\W.ownsRow w.heap.size 51 3 (aw P1 p2.length k1_) p2.length (pcs p2)) (fun W=>True) ?_ ?_ (fun wn8 hF _=> ?_)
  ·exact⟨zl hKg wj _ _ _ _ _ _,hD.imp fun _ h=>h.set6 hA (.inr (.inr hAl)) wj _ _ _ _ _ _,((((((hR.other wj _).other wj _).other wj _).other wj _).other wj _).other wj _),hA.all6 _ _ _ _ _ _,hAl,qB hl (zf hl hA wo) _ _ _ _ _ _⟩
  ·trivial
  clear hl hAl hA hR hD hKg hHeld;obtain⟨hKg,hD,hR,hA,hAl,hl⟩:=hF;clear hK K
  try simp only [sqP]
  refine zp wm ?_ _
  try dsimp only [Exit.then]
  have hall:=aD hKg (aD hD (aD hR (aD hA (aD hAl hl))));clear hl hAl hA hR hD hKg;generalize wn8=wz at hall ⊢
  revert hall;revert wz;revert ga;exact REST2.o
 exact z8.nil;intro ga w4 hall;obtain⟨hKg,hD,hR,hA,hAl,hl⟩:=hall;have hA3:=hA.set (k:=3) ws (aw P1 p2.length k1_);have hR5:=hR.other (k:=3) (g':=ga) (show H+1≠ga by omega) (aw P1 p2.length k1_);have hl5:=zd (k:=3) (u:= aw P1 p2.length k1_) hl (zf hl hA wo);obtain⟨HL5,HX,HA3⟩:=sqJ3 hl5 (aD (hD.imp fun _ h=>h.set hA (.inr (.inr hAl)) (show g≠ga by omega) (aw P1 p2.length k1_) (k:=3)) (aD (zt (k:=3) (u:= aw P1 p2.length k1_) hKg (show w.heap.size<=ga by omega)) hR5)) hA3;have c3:=hA.c3;have q3:=hA.frozen 3;clear hA3 hR5 hl5 hl hl0 hA hR hD hKg hAl
 refine wJ 8 ?_;intros;generalize w4.setCell ⟨ga,3,aB⟩ (aw P1 p2.length k1_)=w5 at *
 have hr3:=HX.o.2.2;have hz5:Arr w5 ga 48 [ax ay q,az ⟨#[]⟩,aw aB 0 0,aw P1 p2.length k1_,ax ay 0,aw aB 0 0]:=HA3.o;clear c3 q3;obtain⟨z0,z1,z2,z3,z4,z5⟩:=sqC6 hz5;clear hz5;obtain⟨f0,f1,f2,f3,f4,f5⟩:=sqF6 hr3;obtain⟨y0,y1,y2,y3,y4,y5⟩:=sqC6 hr3;have HR3:=sqH hr3;have HF:=sqH (hr3.all6 (ax ay q) (az ⟨#[]⟩) (aw aB 0 0) (aw P1 p2.length k1_) (ax ay 0) (aw aB 0 0));clear hr3
 refine wH ?_;intros;refine bodyPost_ret (results_cell_row rfl _ _ (H+1) _ _ _ _ wu HF.o underlying48 rfl wm) rfl ?_;have e1:entD ⟨s,co,fs⟩ ⟨kd,n,dg,D,ps⟩=(zJ ⟨s,co,fs⟩ t co q,⟨q, [], [],p2,0, []⟩):=by
  unfold entD;rw [if_neg (show ¬(kd=5) by have:=HK.o;omega),if_pos (show kd=6 from HK.o)];dsimp only;rw [HPD.o]
 rw [e1];obtain⟨⟨p',hd4⟩,hg5,hr5⟩:=HX.o;exact⟨_,_,_,rfl,zl hg5 hHw1 _ _ _ _ _ _,⟨p',(hd4.set6 hr5 (.inr (.inl rfl)) hgH _ _ _ _ _ _).mono fun b h=> .inl h⟩,⟨World.ownsRow_nil _ _ _ _,qB HL5.o (zf HL5.o hr5 wo) _ _ _ _ _ _,World.ownsRow_nil _ _ _ _⟩⟩
theorem z4j (g:Nat) (p:LoW) (l:LoP) (kd n:Nat) (dg D:ac) (ps:List PartP) (A:ae) (c:Nat) (A':ae) (c':Nat) (w:World) (hL:GoodL l) (h1:kd=7\/kd=8) (N:ai) (hNg:N g) (hNw:∀b,N b->b<w.heap.size) (hb:DkB w g p l N) (hd:Sl w 1 A D.length c (bys D)) (hq:Sl w 3 A' ps.length c' (pcs ps)) :
  Calls Tryz.prog 75 #[.pointer (aC ⟨g,0,aB⟩),orV kd n dg D ps A c A' c'] w (kb w g N (entD l ⟨kd,n,dg,D,ps⟩)):=by
 have k1:((kd:Int)==5)=false:=by rw [beq_eq_false_iff_ne];omega
 have k2:((kd:Int)==6)=false:=by rw [beq_eq_false_iff_ne];omega
 have k3:((kd:Int)==7)=decide (kd=7):=by rw [Bool.eq_iff_iff,beq_iff_eq,decide_eq_true_iff];omega
 have HK:=sqH h1;have HK3:=sqH k3;clear h1 k3;obtain⟨X,cX,Y,dY,G,ng,F,cF⟩:=p;obtain⟨s,co,fs⟩:=l;have hgl:=hb.lt;have hgw:=hb.lt;have hbw:=hb.wider (N':=fun b=>N b\/w.heap.size<=b) (fun b h=>h);obtain⟨w0,hw0,hP,hR,hbx⟩:=zn w 55 48 [ax ay kd,ax ay n,az ⟨dg.toArray⟩,aw A D.length c,aw A' ps.length c'] [ax ay 0,az ⟨#[]⟩,aw aB 0 0,aw aB 0 0,ax ay 0,aw aB 0 0];have HDK:=sqH (show ∀W,Below w0.heap.size w0 W->DkB W g ⟨X,cX,Y,dY,G,ng,F,cF⟩ ⟨s,co,fs⟩ (fun b=>N b\/w.heap.size<=b) from fun W h=>(hbw.below hbx).below h);have HBC:=sqH (show ∀W,Below w0.heap.size w0 W->wF W g (aw X s.aE.length cX) (aw Y s.aF.length dY) (ax ay s.aH) (ax ay s.aG) (ax ay co.aJ) (aw G co.aI.length ng) (az ⟨co.at_.toArray⟩) (aw F fs.length cF) from fun W h=>by
  have b:=(HDK.o W h).box;exact sqC8 b)
 have hws:=hbx.size;obtain⟨HBX,HD,HQ⟩:=sqJ3 hbx (hd.below hbx) (hq.below hbx);obtain⟨H,hH⟩:=wU w.heap.size
 rw [<-hH]at hP hR hgl;have hHw:w.heap.size<=H:=wj;have hHw1:w.heap.size<=H+1:=wj;have hgH:g≠H+1:=wj;have hHl:H+1<w0.heap.size:=hR.lt;obtain⟨HP,HR,HL,HNW⟩:=sqJ4 (show ∀W,Below w0.heap.size w0 W->Arr W H 55 (orC kd n dg D ps A c A' c') from fun W h=>hP.below h) (show ∀W,Below w0.heap.size w0 W->Arr W (H+1) 48 Kw from fun W h=>hR.below h) hL hNw;obtain⟨x0,x1,x2,x3,x4⟩:=sqC5 hP;have HW0:=sqH hw0;have HH:=sqH hH;rw [hw0,hH]at x0 x1 x2 x3 x4;clear hb hbw hbx hd hq hP hR hL hw0 hH hNw;go_enter func75,ntmps75
 refine wI 9 ?_;intros;rw [<-HW0.o,<-HH.o];clear x0 x1 x2 x3 x4;have HPB:=sqH (fun W (h:Below w0.heap.size w0 W)=>z4k X cX Y dY s W dg (decide (kd=7)) HL.o.s (HDK.o W h).rd.s);rw [<-HK3.o]at HPB;generalize hpb:heP s dg ((kd:Int)==7)=r at HPB;obtain⟨t,q⟩:=r;dsimp only at HPB;have HPD:=sqH hpb;clear hpb;have HSB:=sqH (show ∀W,Below w0.heap.size w0 W->(wD W g (aw X s.aE.length cX) (aw Y s.aF.length dY) (ax ay s.aH) (ax ay s.aG))/\W.cell? ⟨H,2,aB⟩=aC (az ⟨dg.toArray⟩)/\W.cell? ⟨H,0,aB⟩=aC (ax ay kd) from fun W h=>by
  obtain⟨y0,y1,y2,y3,_⟩:=HBC.o W h;exact⟨⟨y0,y1,y2,y3⟩,(HP.o W h).c2,(HP.o W h).c0⟩)
 iterate 1 (first | go_values | go_skip | go_guarded | go_step | go_upon | go_back)
 apply zE;intro REST;apply zE;intro Rb1;refine ze [15] (S:=(fun w'=>(wD w' g (aw X s.aE.length cX) (aw Y s.aF.length dY) (ax ay s.aH) (ax ay s.aG))/\w'.cell? ⟨H,2,aB⟩=aC (az ⟨dg.toArray⟩)/\w'.cell? ⟨H,0,aB⟩=aC (ax ay kd))) wm ?_ (fun hHeld=> ?_)
 ·exact HSB.o _ (((wh w0)).drew)
 have hB:=((wh w0)).drew;generalize w0.drew=wn0 at *
 refine wP 0 ?_;refine wP 1 ?_;refine wP 2 ?_;refine wP 3 ?_;refine wO 4 ?_;refine wP 5 ?_;refine wO 6 ?_;refine wP 7 ?_;refine wO 8 ?_;refine wP 9 ?_;refine za (rs:= [10,14]) wm ws ?_;refine z8.cons (o:=_) rfl (fun K hK=> ?_) ?_
 ·
  go_simp;refine(HPB.o wn0 hB).mono ?_;rintro e5 w5 ⟨v1,v2,rfl,ho5,hb5⟩;obtain⟨A1,c1,B1,d1,rfl,rfl, -⟩:=ho5.rows;dsimp only;refine zR hK ?_ (fun W=>Below w0.heap.size w0 W/\OwSt W w.heap.size (aw A1 t.aE.length c1) (aw B1 t.aF.length d1) t (fun b=>(N b\/b=H+1))) (fun W=>True) ?_ ?_ (fun wn1 hHeld2 hF _=> ?_)
  ·exact HSB.o _ ((wg hB hb5))
  ·exact⟨wg hB hb5,(ho5.lower (base':=w.heap.size) (by have:=hB.size;omega)).mono (N':=(fun b=>(N b\/b=H+1))) (fun b hb=>by have:=hB.size;rcases hb with hb | hb;(have:=HNW.o b hb;omega);omega)⟩
  ·trivial
  clear hB hHeld;have hHeld:=hHeld2;clear hHeld2;obtain⟨hB,ho⟩:=hF;clear hb5 ho5;clear hK K
  refine wP 11 ?_;refine wP 12 ?_;refine wP 13 ?_;refine wT 14 fun K hK=>?_;have hba:=wi wn1 (aA #[aw aB 0 0,aw aB 0 0,ax ay 0,ax ay 0] 27);have hn:=Arr.new wn1 27 [aw aB 0 0,aw aB 0 0,ax ay 0,ax ay 0];have hnl:w0.heap.size<=wn1.heap.size:=hB.size;obtain⟨g5,hge⟩:=wU wn1.heap.size
  have hN:∀b,b=g5->wn1.heap.size<=b:=fun b h=>by rw [h,hge];exact Nat.le_refl _
  rw [<-hge]at hn hnl;go_simp;rw [<-hge];clear hge;refine zR hK ?_ (fun W=>Below w0.heap.size w0 W/\Arr W g5 27 [aw aB 0 0,aw aB 0 0,ax ay 0,ax ay 0]/\w0.heap.size<=g5/\OwSt W w.heap.size (aw A1 t.aE.length c1) (aw B1 t.aF.length d1) t (fun b=>(N b\/b=H+1)\/b=g5)) (fun W=>True) ?_ ?_ (fun wn2 hHeld2 hF _=> ?_)
  ·exact HSB.o _ ((wg hB hba))
  ·exact⟨wg hB hba,hn,hnl,(ho.wider (N':=(fun b=>(N b\/b=H+1)\/b=g5)) (fun b hb=>hb.elim (fun hb=> .inl hb) (fun hb=> .inr (hN _ hb)))).below hba⟩
  ·trivial
  clear ho hB hHeld;have hHeld:=hHeld2;clear hHeld2;obtain⟨hB,h5,h5l,ho⟩:=hF;clear hba hn hnl hN;clear hK K
  try simp only [sqP]
  have hall:=aD hB (aD h5 (aD h5l (aD ho hHeld)));clear hHeld ho h5l h5 hB;generalize wn2=wz at hall ⊢
  revert hall;revert wz;revert g5;revert d1;revert B1;revert c1;revert A1;exact Rb1.o
 refine z8.cons (o:=_) rfl (fun K hK=> ?_) ?_
 ·
  have hba:=wi wn0 (aA #[aw aB 0 0,aw aB 0 0,ax ay 0,ax ay 0] 27);have hn:=Arr.new wn0 27 [aw aB 0 0,aw aB 0 0,ax ay 0,ax ay 0];have hnl:w0.heap.size<=wn0.heap.size:=hB.size;obtain⟨g5,hge⟩:=wU wn0.heap.size
  have hN:∀b,b=g5->wn0.heap.size<=b:=fun b h=>by rw [h,hge];exact Nat.le_refl _
  rw [<-hge]at hn hnl;go_simp;rw [<-hge];clear hge;refine zR hK ?_ (fun W=>Below w0.heap.size w0 W/\Arr W g5 27 [aw aB 0 0,aw aB 0 0,ax ay 0,ax ay 0]/\w0.heap.size<=g5) (fun W=>True) ?_ ?_ (fun wn3 hHeld2 hF _=> ?_)
  ·exact HSB.o _ ((wg hB hba))
  ·exact⟨wg hB hba,hn,hnl⟩
  ·trivial
  clear hB hHeld;have hHeld:=hHeld2;clear hHeld2;obtain⟨hB,h5,h5l⟩:=hF;clear hba hn hnl hN;clear hK K
  try simp only [sqP]
  refine wT 10 fun K hK=>?_;go_simp;refine(HPB.o wn3 hB).mono ?_;rintro e5 w5 ⟨v1,v2,rfl,ho5,hb5⟩;obtain⟨A1,c1,B1,d1,rfl,rfl, -⟩:=ho5.rows;dsimp only;refine zR hK ?_ (fun W=>Below w0.heap.size w0 W/\Arr W g5 27 [aw aB 0 0,aw aB 0 0,ax ay 0,ax ay 0]/\w0.heap.size<=g5/\OwSt W w.heap.size (aw A1 t.aE.length c1) (aw B1 t.aF.length d1) t (fun b=>(N b\/b=H+1)\/b=g5)) (fun W=>True) ?_ ?_ (fun wn4 hHeld2 hF _=> ?_)
  ·exact HSB.o _ ((wg hB hb5))
  ·exact⟨wg hB hb5,h5.below hb5,h5l,(ho5.lower (base':=w.heap.size) (by have:=hB.size;omega)).mono (N':=(fun b=>(N b\/b=H+1)\/b=g5)) (fun b hb=>hb.elim (fun hb=>by have:=hB.size;rcases hb with hb | hb;(have:=HNW.o b hb;omega);omega) (fun hb=>(by rw [hb];exact h5.lt)))⟩
  ·trivial
  clear h5l h5 hB hHeld;have hHeld:=hHeld2;clear hHeld2;obtain⟨hB,h5,h5l,ho⟩:=hF;clear hb5 ho5;clear hK K
  refine wP 11 ?_;refine wP 12 ?_;refine wP 13 ?_;have hall:=aD hB (aD h5 (aD h5l (aD ho hHeld)));clear hHeld ho h5l h5 hB;generalize wn4=wz at hall ⊢
  revert hall;revert wz;revert g5;revert d1;revert B1;revert c1;revert A1;exact Rb1.o
 exact z8.nil;intro A1 c1 B1 d1 g5 wRb1 hall;obtain⟨hB,h5,h5l,ho,hHeld⟩:=hall;refine za (rs:= [15]) wm ws ?_;refine z8.store (o:=_) rfl wu (fun K hK=> ?_) ?_
 ·
  have hqho:=ho.nb h5 wo wo;obtain⟨z0,f0,z1,f1,z2,f2,z3,f3⟩:=wY h5;go_simp;clear z0 f0 z1 f1 z2 f2 z3 f3;refine vt hK (fun W=>Below w0.heap.size w0 W/\Arr W g5 27 [(aw A1 t.aE.length c1),(aw B1 t.aF.length d1),ax ay t.aH,ax ay t.aG]/\w0.heap.size<=g5/\OwSt W w.heap.size (aw A1 t.aE.length c1) (aw B1 t.aF.length d1) t (fun b=>(N b\/b=H+1)\/b=g5)) (fun W=>True) ?_ ?_ (fun wn5 hF _=> ?_)
  ·exact⟨((((hB).setCell (p:=⟨g5,0,aB⟩) h5l _).setCell (p:=⟨g5,1,aB⟩) h5l _).setCell (p:=⟨g5,2,aB⟩) h5l _).setCell (p:=⟨g5,3,aB⟩) h5l _,h5.all4 _ _ _ _,h5l,ho.set4N (.inr rfl) hqho.1 hqho.2 _ _ _ _⟩
  ·trivial
  clear ho h5l h5 hB hHeld;obtain⟨hB,h5,h5l,ho⟩:=hF;clear hqho;clear hK K
  refine wP 16 ?_;refine zp wm ?_ _
  try dsimp only [Exit.then]
  have hall:=aD hB (aD h5 (aD h5l ho));clear ho h5l h5 hB;generalize wn5=wz at hall ⊢
  revert hall;revert wz;revert g5;revert d1;revert B1;revert c1;revert A1;exact REST.o
 exact z8.nil;intro A1 c1 B1 d1 g5 w3 hall;obtain⟨hB,h5,h5l,ho⟩:=hall;have HSB:=sqH (show ∀W,Below w3.heap.size w3 W->wD W g5 (aw A1 t.aE.length c1) (aw B1 t.aF.length d1) (ax ay t.aH) (ax ay t.aG) from fun W h=>sqC4 (h5.below h));have HSG:=sqH (show ∀W W',Below w3.heap.size w3 W->W.grownBy W' (aC g)->wD W' g5 (aw A1 t.aE.length c1) (aw B1 t.aF.length d1) (ax ay t.aH) (ax ay t.aG) from fun W W' h h'=>by
  have h6:=(h5.below h).grown h' aa;exact sqC4 h6)
 have HSK:=sqH (show ∀W W':World,(wD W g5 (aw A1 t.aE.length c1) (aw B1 t.aF.length d1) (ax ay t.aH) (ax ay t.aG))->Below W.heap.size W W'->wD W' g5 (aw A1 t.aE.length c1) (aw B1 t.aF.length d1) (ax ay t.aH) (ax ay t.aG) from fun W W' h h'=>by have h2:=q6 h' aB;exact⟨h2.cell h.1 ws,h2.cell h.2.1 ws,h2.cell h.2.2.1 ws,h2.cell h.2.2.2 ws⟩);have hot:=(ho.wider (N':=(fun b=>N b\/b=H+1)) (fun b hb=> .inl (.inl hb))).lower (base':=g+1) wj;have HKP:=sqH (fun (W:World) (h:Below w3.heap.size w3 W)=>KL g ⟨X,cX,Y,dY,G,ng,F,cF⟩ ⟨s,co,fs⟩ _ _ (aw G co.aI.length ng) t co q W (fun b=>N b\/b=H+1) (.inl hNg) ((HDK.o _ (wg hB h)).mono fun b hb=>hb.imp id fun h=>wj) (fun _=>⟨hot.below h,zc (HDK.o _ hB).own.c h⟩));have HBX3:=sqH (HBX.o.trans (hB.mono hws));have hws3:w.heap.size<=w3.heap.size:=Nat.le_trans hws hB.size;have hHl3:H+1<w3.heap.size:=Nat.lt_of_lt_of_le hHl hB.size;have hgl3:g<w3.heap.size:=wj;have hg5l:g5<w3.heap.size:=h5.lt;replace HR:=z2i HR hB;replace HBC:=z2i HBC hB;clear hot h5 ho hB;clear h5l HPB
 refine wI 10 ?_;intros;iterate 1 (first | go_values | go_skip | go_guarded | go_step | go_upon | go_back)
 apply zE;intro REST2;refine ze [9] (S:=(fun w'=>wD w' g5 (aw A1 t.aE.length c1) (aw B1 t.aF.length d1) (ax ay t.aH) (ax ay t.aG))) wm ?_ (fun hHeld=> ?_)
 ·exact HSB.o _ (Below.refl w3.heap.size w3).drew
 have hB:=(Below.refl w3.heap.size w3).drew;generalize w3.drew=wn0 at *
 refine wP 0 ?_;refine wO 1 ?_;refine wP 2 ?_;refine wP 3 ?_;refine wP 4 ?_;refine wP 5 ?_;refine wP 7 ?_;refine za (rs:= [6]) wm ws ?_;refine z8.cons (o:=_) rfl (fun K hK=> ?_) ?_
 ·
  obtain⟨y0,y1,y2,y3,y4,y5,y6,y7⟩:=HBC.o _ hB;go_simp;clear y0 y1 y2 y3 y4 y5 y6 y7;refine zR hK ?_ (fun W=>Below w3.heap.size w3 W) (fun W=>True) ?_ ?_ (fun wn1 hHeld2 hF _=> ?_)
  ·exact HSB.o _ hB
  ·exact hB
  ·trivial
  clear hB hHeld;have hHeld:=hHeld2;clear hHeld2;have hB:=hF;clear hK K
  try simp only [sqP]
  refine wT 8 fun K hK=>?_;go_simp;refine(HKP.o wn1 hB).mono ?_;rintro e5 w5 ⟨rfl,hg5,hd5⟩;dsimp only;refine zR hK ?_ (fun W=>w.grownBy W (aC g)/\(∃p2,DkB W g p2 (zJ ⟨s,co,fs⟩ t co q) (fun b=>N b\/b=H+1))/\Arr W (H+1) 48 [ax ay 0,az ⟨#[]⟩,aw aB 0 0,aw aB 0 0,ax ay 0,aw aB 0 0]) (fun W=>True) ?_ ?_ (fun wn2 hHeld2 hF _=> ?_)
  ·exact HSG.o _ _ hB hg5
  ·exact⟨zQ (HBX3.o.trans (hB.mono wj)) hg5,hd5,(HR.o _ hB).grown hg5 aa⟩
  ·trivial
  clear hB hHeld;have hHeld:=hHeld2;clear hHeld2;obtain⟨hKg,hD,hR⟩:=hF;clear hg5 hd5;clear hK K
  try simp only [sqP]
  refine wS 9 fun K hK=>?_;obtain⟨z0,f0,z1,f1,z2,f2,z3,f3,z4,f4,z5,f5⟩:=we hR;go_simp;clear z0 f0 z1 f1 z2 f2 z3 f3 z4 f4 z5 f5;refine vt hK (fun W=>w.grownBy W (aC g)/\(∃p2,DkB W g p2 (zJ ⟨s,co,fs⟩ t co q) (fun b=>N b\/b=H+1))/\Arr W (H+1) 48 [ax ay q,az ⟨#[]⟩,aw aB 0 0,aw aB 0 0,ax ay 0,aw aB 0 0]) (fun W=>True) ?_ ?_ (fun wn3 hF _=> ?_)
  ·exact⟨zl hKg wj _ _ _ _ _ _,hD.imp fun _ h=>h.set6 hR (.inr rfl) wj _ _ _ _ _ _,hR.all6 _ _ _ _ _ _⟩
  ·trivial
  clear hR hD hKg hHeld;obtain⟨hKg,hD,hR⟩:=hF;clear hK K
  try simp only [sqP]
  refine zp wm ?_ _
  try dsimp only [Exit.then]
  have hall:=aD hKg (aD hD hR);clear hR hD hKg;generalize wn3=wz at hall ⊢
  revert hall;revert wz;exact REST2.o
 exact z8.nil;intro w4 hall;obtain⟨hKg,hD,hR⟩:=hall;have HX:=sqH (aD hD hKg);have HF:=sqH hR;clear hD hKg hR
 refine wH ?_;intros;refine bodyPost_ret (results_cell_row rfl _ _ (H+1) _ _ _ _ wu HF.o underlying48 rfl wm) rfl ?_;have e1:entD ⟨s,co,fs⟩ ⟨kd,n,dg,D,ps⟩=(zJ ⟨s,co,fs⟩ t co q,Yq q):=by
  unfold entD;rw [if_neg (show ¬(kd=5) by have:=HK.o;omega),if_neg (show ¬(kd=6) by have:=HK.o;omega)];dsimp only;rw [<-HK3.o,HPD.o]
 rw [e1];obtain⟨⟨p2,hD⟩,hK⟩:=HX.o;exact⟨_,_,_,rfl,hK,⟨p2,hD.mono fun b h=> .inl h⟩,.e_ q⟩
theorem JF {d:ac} (h:hexC d=0):d.length=64:=by
 unfold hexC at h;split at h
 ·cases h
 ·omega
theorem z4g (g:Nat) (p:LoW) (l:LoP) (kd n:Nat) (dg D:ac) (ps:List PartP) (A:ae) (c:Nat) (A':ae) (c':Nat) (w:World) (hL:GoodL l) (h3:D.length<=300) (hk:1<=kd/\kd<=4) (N:ai) (hNg:N g) (hNw:∀b,N b->b<w.heap.size) (hb:DkB w g p l N) (hd:Sl w 1 A D.length c (bys D)) (hq:Sl w 3 A' ps.length c' (pcs ps)) :
  Calls zZZ 74 #[.pointer (aC ⟨g,0,aB⟩),orV kd n dg D ps A c A' c'] w (kb w g N (blobD l ⟨kd,n,dg,D,ps⟩)):=by
 have hc:kd=1\/kd=2\/(kd=3\/kd=4):=wj;rcases hc with h | h | h
 ·exact z2m g p l kd n dg D ps A c A' c' w hL h3 h N hNg hNw hb hd hq
 ·exact z2n g p l kd n dg D ps A c A' c' w hL h N hNg hNw hb hd hq
 ·exact z2o g p l kd n dg D ps A c A' c' w hL h N hNg hNw hb hd hq
theorem z59 (g:Nat) (p:LoW) (l:LoP) (kd n:Nat) (dg D:ac) (ps:List PartP) (A:ae) (c:Nat) (A':ae) (c':Nat) (w:World) (hL:GoodL l) (hx:hexC dg=0) (hpz:chk ps=0) (hck:l.st.aG<1099511627776) (hlen:l.st.aF.length<10) (hk:5<=kd/\kd<=8) (N:ai) (hNg:N g) (hNw:∀b,N b->b<w.heap.size) (hb:DkB w g p l N) (hd:Sl w 1 A D.length c (bys D)) (hq:Sl w 3 A' ps.length c' (pcs ps)) :
  Calls zZZ 75 #[.pointer (aC ⟨g,0,aB⟩),orV kd n dg D ps A c A' c'] w (kb w g N (entD l ⟨kd,n,dg,D,ps⟩)):=by
 have hc:kd=5\/kd=6\/(kd=7\/kd=8):=wj;rcases hc with h | h | h
 ·exact z4h g p l kd n dg D ps A c A' c' w hL hx hpz hck hlen h N hNg hNw hb hd hq
 ·exact z4i g p l kd n dg D ps A c A' c' w hL hck h N hNg hNw hb hd hq
 ·exact z4j g p l kd n dg D ps A c A' c' w hL h N hNg hNw hb hd hq
theorem z4l (g:Nat) (p:LoW) (l:LoP) (kd n:Nat) (dg D:ac) (ps:List PartP) (A:ae) (c:Nat) (A':ae) (c':Nat) (w:World) (hL:GoodL l) (h8:8*unm l.st.aE+l.co.aI.length<=1000) (hn:n<=4000) (hk:9<=kd/\kd<=11) (N:ai) (hNg:N g) (hNw:∀b,N b->b<w.heap.size) (hb:DkB w g p l N) (hd:Sl w 1 A D.length c (bys D)) (hq:Sl w 3 A' ps.length c' (pcs ps)) :
  Calls zZZ 76 #[.pointer (aC ⟨g,0,aB⟩),orV kd n dg D ps A c A' c'] w (kb w g N (roomD l ⟨kd,n,dg,D,ps⟩)):=by
 have hc:kd=9\/kd=10\/kd=11:=wj;rcases hc with h | h | h
 ·exact z2u g p l kd n dg D ps A c A' c' w hL hn h N hNg hNw hb hd hq
 ·exact z00 g p l kd n dg D ps A c A' c' w hL h N hNg hNw hb hd hq
 ·exact z01 g p l kd n dg D ps A c A' c' w hL h8 hn h N hNg hNw hb hd hq
theorem z5a (g:Nat) (p:LoW) (l:LoP) (kd n:Nat) (dg D:ac) (ps:List PartP) (A:ae) (c:Nat) (A':ae) (c':Nat) (w:World) (hL:GoodL l) (hx:hexC dg=0) (hpz:chk ps=0) (hck:l.st.aG<1099511627776) (hlen:l.st.aF.length<10) (hn1:kd=12->1<=n/\n<=1000) (hk:12<=kd/\kd<=14) (N:ai) (hNg:N g) (hNw:∀b,N b->b<w.heap.size) (hb:DkB w g p l N) (hd:Sl w 1 A D.length c (bys D)) (hq:Sl w 3 A' ps.length c' (pcs ps)) :
  Calls zZZ 77 #[.pointer (aC ⟨g,0,aB⟩),orV kd n dg D ps A c A' c'] w (kb w g N (fliD l ⟨kd,n,dg,D,ps⟩)):=by
 have hc:kd=12\/kd=13\/kd=14:=wj;rcases hc with h | h | h
 ·exact z2q g p l kd n dg D ps A c A' c' w hL hx (by have:=JF hx;omega) (hn1 h).1 (hn1 h).2 hck h N hNg hNw hb hd hq
 ·exact z2r g p l kd n dg D ps A c A' c' w hL hx hpz hck hlen h N hNg hNw hb hd hq
 ·exact z2s g p l kd n dg D ps A c A' c' w hL h N hNg hNw hb hd hq
theorem z3a {o:OrdP} (h:GoodO o):o.dig= []\/hexC o.dig=0:=by
 cases hf:(fOf o.kind).1.dig with
 | false=>exact .inl (h.d0 hf)
 | true=>exact .inr (h.d1 hf)
theorem JZ (kd n:Nat) (dg D:ac) (ps:List PartP) (A:ae) (c:Nat) (A':ae) (c':Nat) (w:World) (ho:GoodO ⟨kd,n,dg,D,ps⟩) (hq:Sl w 3 A' ps.length c' (pcs ps)) :
  Calls zZZ 61 #[orV kd n dg D ps A c A' c'] w fun e w'=>e= .returned (ax ay 0)/\Below w.heap.size w w':=by
 have hdl:dg.length<=140737488351232:=by
  rcases z3a ho with h | h
  ·have h:dg= []:=h;rw [h];simp
  ·have:=JF h;have:dg.length=64:=this;omega
 have hp8:=(zk ho.p1).1;have hpm:ps.length<=9223372036854775807:=by have:ps.length<=8:=hp8;omega
 have hok:=vI ho.p1;have hcz:chk ps=0:=ho.p1;have hn4:n<=4000:=ho.n1;have ht3:D.length<=300:=ho.t1;obtain⟨⟨fn,fd,ft,fp⟩,hff⟩:∃f,fOf kd=(f,true):=⟨(fOf kd).1,by
  have:=ho.kind;show fOf kd=_;rw [<-show(fOf kd).2=true from this]⟩
 have h1:fn=false->n=0:=fun h=>ho.n0 (by show(fOf kd).1.n=false;rw [hff];exact h);have h2:fd=false->dg= []:=fun h=>ho.d0 (by show(fOf kd).1.dig=false;rw [hff];exact h);have h3:ft=false->D.length=0:=fun h=>by rw [show D= [] from ho.t0 (by show(fOf kd).1.data=false;rw [hff];exact h)];rfl
 have h4:fp=false->ps.length=0:=fun h=>by rw [show ps= [] from ho.p0 (by show(fOf kd).1.aL=false;rw [hff];exact h)];rfl
 have h5:fd=true->hexC dg=0:=fun h=>ho.d1 (by show(fOf kd).1.dig=true;rw [hff];exact h);have hsh:(fn=false/\fd=false/\ft=true/\fp=false)\/(fn=false/\fd=true/\ft=false/\fp=false)\/(fn=false/\fd=true/\ft=false/\fp=true)\/(fn=true/\fd=false/\ft=false/\fp=false)\/(fn=false/\fd=false/\ft=false/\fp=false)\/(fn=true/\fd=true/\ft=false/\fp=false):=by
  have hz:=hff;unfold fOf at hz
  repeat' split at hz
  all_goals first | (cases hz;simp;done) | cases hz
 unfold orV;obtain⟨S,hS⟩:=wU (⟨dg.toArray⟩:ByteArray)
 have HX:=sqH (fun (h:fd=true) w'=>kB 0 (r:=0) wu (show hexC S.data.toList=0 by rw [hS];exact h5 h) w' (by rw [hS];simpa [ByteArray.size] using hdl));have e2':fd=false->S.toList.isEmpty=true:=fun h=>by rw [hS,h2 h,ByteArray.toList,ByteArray.toList.loop];simp [ByteArray.size]
 rw [<-hS];generalize hdl':D.length=dl at *
 obtain⟨w1,hw1⟩:=wU (w.alloc (.cells #[ax ay kd,ax ay n,az S,aw A dl c,aw A' ps.length c'] 55))
 have hof:=z4m kd w1;unfold z2z at hof;rw [hff]at hof;simp only [fcs]at hof;have hb1:Below w.heap.size w w1:=by rw [hw1];exact(Below.refl _ _).alloc ab _
 have hr1:Rd w1 3 A' ps.length (pcs ps):=hq.rd.below hb1;have hA1:Arr w1 w.heap.size 55 [ax ay kd,ax ay n,az S,aw A dl c,aw A' ps.length c']:=by rw [hw1];exact Arr.new w 55 _
 obtain⟨g,hg⟩:=wU w.heap.size
 rw [<-hg]at hA1;have HAF:=sqH (show ∀w2,Below w1.heap.size w1 w2->∃w3,w3=w2.alloc (.cells #[.bool fn,.bool fd,.bool ft,.bool fp] 113)/\Below w.heap.size w w3/\Arr w3 g 55 [ax ay kd,ax ay n,az S,aw A dl c,aw A' ps.length c']/\Rd w3 3 A' ps.length (pcs ps) from fun w2 h =>
  have hb:=wg hb1 h
  ⟨_,rfl,hb.alloc hb.size _,(hA1.below h).alloc _,(hr1.below h).alloc _⟩)
 have HCK:=sqH (fun w' (hw:Rd w' 3 A' ps.length (pcs ps))=>xg A' ps.length c' ps w' rfl hq.cap hpm hok hw);rw [hcz]at HCK;have f0:=hA1.c0;rw [hw1]at f0;obtain⟨HOF,HW1,HG⟩:=sqJ3 hof hw1 hg;have e5:decide ((n:Int)<0)=false:=decide_eq_false wj;have e6:decide ((4000:Int)<(n:Int))=false:=decide_eq_false wj;have e8:decide ((300:Int)<(dl:Int))=false:=decide_eq_false wj;have e9:decide (300<dl)=false:=decide_eq_false wj;clear hof hff hS hok hcz hw1 hb1 hr1 hg hp8 hpm hdl hn4 hdl' h2 h5 ho hq;rcases hsh with ⟨rfl,rfl,rfl,rfl⟩ | ⟨rfl,rfl,rfl,rfl⟩ | ⟨rfl,rfl,rfl,rfl⟩ | ⟨rfl,rfl,rfl,rfl⟩ | ⟨rfl,rfl,rfl,rfl⟩ | ⟨rfl,rfl,rfl,rfl⟩
 all_goals (
  first | (have e1:((n:Int) != 0)=false:=by rw [h1 rfl];rfl) | skip
  first | (have e2:=e2' rfl) | skip
  first | (have e3:decide ((0:Int)<(dl:Int))=false:=decide_eq_false (by have:=h3 rfl;omega)) | skip
  first | (have e3':decide (0<dl)=false:=decide_eq_false (by have:=h3 rfl;omega)) | skip
  first | (have e4:decide ((0:Int)<(ps.length:Int))=false:=decide_eq_false (by have:=h4 rfl;omega)) | skip
  first | (have e4':decide (0<ps.length)=false:=decide_eq_false (by have:=h4 rfl;omega)) | skip
  clear h1 h3 h4 e2';go_enter func61,ntmps61
  refine wH ?_;intros;rw [<-HW1.o];simp only [<-HG.o];clear f0 hA1;refine wV HOF.o fun w2 hb2=>?_;dsimp only;obtain⟨w3,hw3,hB3,hA3,hr3⟩:=HAF.o w2 hb2;have f1:=hA3.c1;have f2:=hA3.c2;have f3:=hA3.c3;have f4:=hA3.c4;rw [hw3]at f1 f2 f3 f4;have HW3:=sqH hw3;have HB3:=sqH hB3;clear hb2 hw3 hB3
  refine wH ?_;intros;rw [<-HW3.o]at f1 f2 f3 f4 ⊢
  first
  | (refine(HCK.o w3 hr3).mono ?_;rintro e_ w5 ⟨rfl,hb5⟩;dsimp only;clear f1 f2 f3 f4 hA3 hr3;refine wH ?_;intros;go_ret;exact⟨rfl,wg HB3.o hb5⟩)
  | (refine(HX.o rfl w3).mono ?_;rintro e_ w4 ⟨rfl,hb4⟩;dsimp only;clear f1 f2 f3 f4;have hA4:=hA3.below hb4;have hr4:=hr3.below hb4;have f3:=hA4.c3;have f4:=hA4.c4;have HB4:=sqH (wg HB3.o hb4);clear hA3 hr3 hA4 hb4;refine wH ?_;intros;refine wV (HCK.o w4 hr4) fun w5 hb5=>?_;dsimp only;clear f3 f4 hr4;refine wH ?_;intros;go_ret;exact⟨rfl,wg HB4.o hb5⟩))
theorem z2t (g:Nat) (p:LoW) (l:LoP) (kd n:Nat) (dg D:ac) (ps:List PartP) (A:ae) (c:Nat) (A':ae) (c':Nat) (w:World) (m:Nat) (hi:LInv m l) (hm:m<=78) (ho:GoodD ⟨kd,n,dg,D,ps⟩) (N:ai) (hNg:N g) (hNw:∀b,N b->b<w.heap.size) (hb:DkB w g p l N) (hd:Sl w 1 A D.length c (bys D)) (hq:Sl w 3 A' ps.length c' (pcs ps)) :
  Calls zZZ 39 #[.pointer (aC ⟨g,0,aB⟩),orV kd n dg D ps A c A' c'] w (kb w g N (qt l ⟨kd,n,dg,D,ps⟩)):=by
 have hL:=hi.good hm;have hck:l.st.aG<1099511627776:=by have:=hi.b.ck;omega
 have hlen:l.st.aF.length<10:=by have:=hi.b.e7;omega
 have h8:8*unm l.st.aE+l.co.aI.length<=1000:=by have:=hi.b.gr;omega
 have hk14:1<=kd/\kd<=14:=z3e ho.g.kind;have hx:(5<=kd/\kd<=8)\/12<=kd->hexC dg=0:=fun h=>by
  obtain⟨j,_,e⟩:=ho.k7 h;rw [show dg=keyS j from e];exact zq _
 have HC:=sqH (aD hck (aD hlen (aD h8 (aD hk14 (aD hx ho)))));clear hi hck hlen h8 hk14 hx;have HGO:=sqH ho;clear ho;obtain⟨X,cX,Y,dY,G,ng,F,cF⟩:=p;obtain⟨s,co,fs⟩:=l;have hgl:=hb.lt;have hgw:=hb.lt;have hbw:=hb.wider (N':=fun b=>N b\/w.heap.size<=b) (fun b h=>h);obtain⟨w0,hw0,hP,hR,hbx⟩:=zn w 55 48 [ax ay kd,ax ay n,az ⟨dg.toArray⟩,aw A D.length c,aw A' ps.length c'] [ax ay 0,az ⟨#[]⟩,aw aB 0 0,aw aB 0 0,ax ay 0,aw aB 0 0];have HDK:=sqH (show ∀W,Below w0.heap.size w0 W->DkB W g ⟨X,cX,Y,dY,G,ng,F,cF⟩ ⟨s,co,fs⟩ (fun b=>N b\/w.heap.size<=b) from fun W h=>(hbw.below hbx).below h);have HBC:=sqH (show ∀W,Below w0.heap.size w0 W->wF W g (aw X s.aE.length cX) (aw Y s.aF.length dY) (ax ay s.aH) (ax ay s.aG) (ax ay co.aJ) (aw G co.aI.length ng) (az ⟨co.at_.toArray⟩) (aw F fs.length cF) from fun W h=>by
  have b:=(HDK.o W h).box;exact sqC8 b)
 have hws:=hbx.size;obtain⟨HBX,HD,HQ⟩:=sqJ3 hbx (hd.below hbx) (hq.below hbx);obtain⟨H,hH⟩:=wU w.heap.size
 rw [<-hH]at hP hR hgl;have hHw:w.heap.size<=H:=wj;have hHw1:w.heap.size<=H+1:=wj;have hgH:g≠H+1:=wj;have hHl:H+1<w0.heap.size:=hR.lt;obtain⟨HP,HR,HL,HNW⟩:=sqJ4 (show ∀W,Below w0.heap.size w0 W->Arr W H 55 (orC kd n dg D ps A c A' c') from fun W h=>hP.below h) (show ∀W,Below w0.heap.size w0 W->Arr W (H+1) 48 Kw from fun W h=>hR.below h) hL hNw;obtain⟨x0,x1,x2,x3,x4⟩:=sqC5 hP;have HW0:=sqH hw0;have HH:=sqH hH;rw [hw0,hH]at x0 x1 x2 x3 x4;clear hb hbw hbx hd hq hP hR hL hw0 hH hNw;go_enter func39,ntmps39
 refine wH ?_;intros;rw [<-HW0.o,<-HH.o];clear x0 x1 x2 x3 x4;refine wV ((JZ kd n dg D ps A c A' c' w0 HGO.o.g HQ.o)) fun w1 hb1=>?_;dsimp only;have HNW1:=sqH (show ∀b,(N b\/b=H+1)->b<w1.heap.size from fun b hb=>by have:=hb1.size;rcases hb with hb | hb;(have:=HNW.o b hb;omega);omega);have hb0:=(HDK.o _ hb1).mono (N':=fun b=>N b\/b=H+1) (fun b hb=>hb.imp id fun h=>wj);by_cases h4:kd<=4
 ·have c4:decide ((kd:Int)<=4)=true:=decide_eq_true wj;have c4':decide (kd<=4)=true:=decide_eq_true h4;have HK:=sqH h4;clear h4;have HM:=sqH (z4g g _ ⟨s,co,fs⟩ kd n dg D ps A c A' c' w1 HL.o HGO.o.g.t1 (by have:=HC.o.2.2.2.1;have:=HK.o;omega) (fun b=>N b\/b=H+1) (.inl hNg) HNW1.o hb0 (HD.o.below hb1) (HQ.o.below hb1));obtain⟨o0,o1,o2,o3,o4⟩:=sqC5 (HP.o w1 hb1);have HB:=sqH hb1;clear hb1
  refine wH ?_;intros;refine(HM.o).mono ?_;rintro e_ w2 ⟨dv,pv,wv,rfl,hg2,hd2,hra⟩;dsimp only;obtain⟨P1,q1,rfl, -, -⟩:=Rd.of_own' hra.d;obtain⟨P2,q2,rfl, -, -⟩:=Rd.of_own' hra.p;obtain⟨P3,q3,rfl, -, -⟩:=Rd.of_own' hra.w;have hr3:=(HR.o _ HB.o).grown hg2 aa;have HX:=sqH (aD hd2 (aD (zQ (HBX.o.trans (HB.o.mono hws)) hg2) (aD hr3 hra)));clear o0 o1 o2 o3 o4 hg2 hd2 hra HM;have e1:qt ⟨s,co,fs⟩ ⟨kd,n,dg,D,ps⟩=blobD ⟨s,co,fs⟩ ⟨kd,n,dg,D,ps⟩:=(by unfold qt;rw [if_pos HK.o])
  have HE1:=sqH e1;clear e1;generalize hrr:blobD ⟨s,co,fs⟩ ⟨kd,n,dg,D,ps⟩=r at *
  obtain⟨l2,r⟩:=r;dsimp only at HX hr3 ⊢
  clear hrr;obtain⟨f0,f1,f2,f3,f4,f5⟩:=sqF6 hr3;obtain⟨y0,y1,y2,y3,y4,y5⟩:=sqC6 hr3;have HR3:=sqH hr3;have HF:=sqH (hr3.all6 (ax ay r.err) (az ⟨r.dig.toArray⟩) (aw P1 r.data.length q1) (aw P2 r.aL.length q2) (ax ay r.n) (aw P3 r.who.length q3));clear hr3
  refine wH ?_;intros;refine bodyPost_ret (results_cell_row rfl _ _ (H+1) _ _ _ _ wu HF.o underlying48 rfl wm) rfl ?_;rw [HE1.o];obtain⟨⟨p',hd4⟩,hg5,hr5,hra⟩:=HX.o;have hs1:w.heap.size<=w1.heap.size:=Nat.le_trans hws HB.o.size;have hra2:RepAt w2 w.heap.size r (aw P1 r.data.length q1) (aw P2 r.aL.length q2) (aw P3 r.who.length q3):=⟨zb hra.d hs1,zb hra.p hs1,zb hra.w hs1⟩
  exact⟨_,_,_,rfl,zl hg5 hHw1 _ _ _ _ _ _,⟨p',(hd4.set6 hr5 (.inr rfl) hgH _ _ _ _ _ _).mono fun b h=> .inl h⟩,hra2.set6 hr5 _ _ _ _ _ _⟩
 ·have c4:decide ((kd:Int)<=4)=false:=decide_eq_false wj;have c4':decide (kd<=4)=false:=decide_eq_false h4;by_cases h5:kd<=8
  ·have c8:decide ((kd:Int)<=8)=true:=decide_eq_true wj;have HK:=sqH (aD h4 h5);clear h4 h5;have HM:=sqH (z59 g _ ⟨s,co,fs⟩ kd n dg D ps A c A' c' w1 HL.o (HC.o.2.2.2.2.1 (wW HK)) HGO.o.g.p1 HC.o.1 HC.o.2.1 (wW HK) (fun b=>N b\/b=H+1) (.inl hNg) HNW1.o hb0 (HD.o.below hb1) (HQ.o.below hb1));obtain⟨o0,o1,o2,o3,o4⟩:=sqC5 (HP.o w1 hb1);have HB:=sqH hb1;clear hb1
   refine wH ?_;intros;refine(HM.o).mono ?_;rintro e_ w2 ⟨dv,pv,wv,rfl,hg2,hd2,hra⟩;dsimp only;obtain⟨P1,q1,rfl, -, -⟩:=Rd.of_own' hra.d;obtain⟨P2,q2,rfl, -, -⟩:=Rd.of_own' hra.p;obtain⟨P3,q3,rfl, -, -⟩:=Rd.of_own' hra.w;have hr3:=(HR.o _ HB.o).grown hg2 aa;have HX:=sqH (aD hd2 (aD (zQ (HBX.o.trans (HB.o.mono hws)) hg2) (aD hr3 hra)));clear o0 o1 o2 o3 o4 hg2 hd2 hra HM;have e1:qt ⟨s,co,fs⟩ ⟨kd,n,dg,D,ps⟩=entD ⟨s,co,fs⟩ ⟨kd,n,dg,D,ps⟩:=(by unfold qt;rw [if_neg HK.o.1,if_pos HK.o.2])
   have HE1:=sqH e1;clear e1;generalize hrr:entD ⟨s,co,fs⟩ ⟨kd,n,dg,D,ps⟩=r at *
   obtain⟨l2,r⟩:=r;dsimp only at HX hr3 ⊢
   clear hrr;obtain⟨f0,f1,f2,f3,f4,f5⟩:=sqF6 hr3;obtain⟨y0,y1,y2,y3,y4,y5⟩:=sqC6 hr3;have HR3:=sqH hr3;have HF:=sqH (hr3.all6 (ax ay r.err) (az ⟨r.dig.toArray⟩) (aw P1 r.data.length q1) (aw P2 r.aL.length q2) (ax ay r.n) (aw P3 r.who.length q3));clear hr3
   refine wH ?_;intros;refine bodyPost_ret (results_cell_row rfl _ _ (H+1) _ _ _ _ wu HF.o underlying48 rfl wm) rfl ?_;rw [HE1.o];obtain⟨⟨p',hd4⟩,hg5,hr5,hra⟩:=HX.o;have hs1:w.heap.size<=w1.heap.size:=Nat.le_trans hws HB.o.size;have hra2:RepAt w2 w.heap.size r (aw P1 r.data.length q1) (aw P2 r.aL.length q2) (aw P3 r.who.length q3):=⟨zb hra.d hs1,zb hra.p hs1,zb hra.w hs1⟩
   exact⟨_,_,_,rfl,zl hg5 hHw1 _ _ _ _ _ _,⟨p',(hd4.set6 hr5 (.inr rfl) hgH _ _ _ _ _ _).mono fun b h=> .inl h⟩,hra2.set6 hr5 _ _ _ _ _ _⟩
  ·have c8:decide ((kd:Int)<=8)=false:=decide_eq_false wj;by_cases h11:kd<=11
   ·have c11:decide ((kd:Int)<=11)=true:=decide_eq_true wj;have HK:=sqH (aD h4 (aD h5 h11));clear h4 h5 h11;have HM:=sqH (z4l g _ ⟨s,co,fs⟩ kd n dg D ps A c A' c' w1 HL.o HC.o.2.2.1 HGO.o.g.n1 (wW HK) (fun b=>N b\/b=H+1) (.inl hNg) HNW1.o hb0 (HD.o.below hb1) (HQ.o.below hb1));obtain⟨o0,o1,o2,o3,o4⟩:=sqC5 (HP.o w1 hb1);have HB:=sqH hb1;clear hb1
    refine wH ?_;intros;refine(HM.o).mono ?_;rintro e_ w2 ⟨dv,pv,wv,rfl,hg2,hd2,hra⟩;dsimp only;obtain⟨P1,q1,rfl, -, -⟩:=Rd.of_own' hra.d;obtain⟨P2,q2,rfl, -, -⟩:=Rd.of_own' hra.p;obtain⟨P3,q3,rfl, -, -⟩:=Rd.of_own' hra.w;have hr3:=(HR.o _ HB.o).grown hg2 aa;have HX:=sqH (aD hd2 (aD (zQ (HBX.o.trans (HB.o.mono hws)) hg2) (aD hr3 hra)));clear o0 o1 o2 o3 o4 hg2 hd2 hra HM;have e1:qt ⟨s,co,fs⟩ ⟨kd,n,dg,D,ps⟩=roomD ⟨s,co,fs⟩ ⟨kd,n,dg,D,ps⟩:=(by unfold qt;rw [if_neg HK.o.1,if_neg HK.o.2.1,if_pos HK.o.2.2])
    have HE1:=sqH e1;clear e1;generalize hrr:roomD ⟨s,co,fs⟩ ⟨kd,n,dg,D,ps⟩=r at *
    obtain⟨l2,r⟩:=r;dsimp only at HX hr3 ⊢
    clear hrr;obtain⟨f0,f1,f2,f3,f4,f5⟩:=sqF6 hr3;obtain⟨y0,y1,y2,y3,y4,y5⟩:=sqC6 hr3;have HR3:=sqH hr3;have HF:=sqH (hr3.all6 (ax ay r.err) (az ⟨r.dig.toArray⟩) (aw P1 r.data.length q1) (aw P2 r.aL.length q2) (ax ay r.n) (aw P3 r.who.length q3));clear hr3
    refine wH ?_;intros;refine bodyPost_ret (results_cell_row rfl _ _ (H+1) _ _ _ _ wu HF.o underlying48 rfl wm) rfl ?_;rw [HE1.o];obtain⟨⟨p',hd4⟩,hg5,hr5,hra⟩:=HX.o;have hs1:w.heap.size<=w1.heap.size:=Nat.le_trans hws HB.o.size;have hra2:RepAt w2 w.heap.size r (aw P1 r.data.length q1) (aw P2 r.aL.length q2) (aw P3 r.who.length q3):=⟨zb hra.d hs1,zb hra.p hs1,zb hra.w hs1⟩
    exact⟨_,_,_,rfl,zl hg5 hHw1 _ _ _ _ _ _,⟨p',(hd4.set6 hr5 (.inr rfl) hgH _ _ _ _ _ _).mono fun b h=> .inl h⟩,hra2.set6 hr5 _ _ _ _ _ _⟩
   ·have c11:decide ((kd:Int)<=11)=false:=decide_eq_false wj;have HK:=sqH (aD h4 (aD h5 h11));clear h4 h5 h11;have HM:=sqH (z5a g _ ⟨s,co,fs⟩ kd n dg D ps A c A' c' w1 HL.o (HC.o.2.2.2.2.1 (wW HK)) HGO.o.g.p1 HC.o.1 HC.o.2.1 HGO.o.ask (by have:=HK.o;have:=HC.o.2.2.2.1;omega) (fun b=>N b\/b=H+1) (.inl hNg) HNW1.o hb0 (HD.o.below hb1) (HQ.o.below hb1));obtain⟨o0,o1,o2,o3,o4⟩:=sqC5 (HP.o w1 hb1);have HB:=sqH hb1;clear hb1
    refine wH ?_;intros;refine(HM.o).mono ?_;rintro e_ w2 ⟨dv,pv,wv,rfl,hg2,hd2,hra⟩;dsimp only;obtain⟨P1,q1,rfl, -, -⟩:=Rd.of_own' hra.d;obtain⟨P2,q2,rfl, -, -⟩:=Rd.of_own' hra.p;obtain⟨P3,q3,rfl, -, -⟩:=Rd.of_own' hra.w;have hr3:=(HR.o _ HB.o).grown hg2 aa;have HX:=sqH (aD hd2 (aD (zQ (HBX.o.trans (HB.o.mono hws)) hg2) (aD hr3 hra)));clear o0 o1 o2 o3 o4 hg2 hd2 hra HM;have e1:qt ⟨s,co,fs⟩ ⟨kd,n,dg,D,ps⟩=fliD ⟨s,co,fs⟩ ⟨kd,n,dg,D,ps⟩:=(by unfold qt;rw [if_neg HK.o.1,if_neg HK.o.2.1,if_neg HK.o.2.2])
    have HE1:=sqH e1;clear e1;generalize hrr:fliD ⟨s,co,fs⟩ ⟨kd,n,dg,D,ps⟩=r at *
    obtain⟨l2,r⟩:=r;dsimp only at HX hr3 ⊢
    clear hrr;obtain⟨f0,f1,f2,f3,f4,f5⟩:=sqF6 hr3;obtain⟨y0,y1,y2,y3,y4,y5⟩:=sqC6 hr3;have HR3:=sqH hr3;have HF:=sqH (hr3.all6 (ax ay r.err) (az ⟨r.dig.toArray⟩) (aw P1 r.data.length q1) (aw P2 r.aL.length q2) (ax ay r.n) (aw P3 r.who.length q3));clear hr3
    refine wH ?_;intros;refine bodyPost_ret (results_cell_row rfl _ _ (H+1) _ _ _ _ wu HF.o underlying48 rfl wm) rfl ?_;rw [HE1.o];obtain⟨⟨p',hd4⟩,hg5,hr5,hra⟩:=HX.o;have hs1:w.heap.size<=w1.heap.size:=Nat.le_trans hws HB.o.size;have hra2:RepAt w2 w.heap.size r (aw P1 r.data.length q1) (aw P2 r.aL.length q2) (aw P3 r.who.length q3):=⟨zb hra.d hs1,zb hra.p hs1,zb hra.w hs1⟩
    exact⟨_,_,_,rfl,zl hg5 hHw1 _ _ _ _ _ _,⟨p',(hd4.set6 hr5 (.inr rfl) hgH _ _ _ _ _ _).mono fun b h=> .inl h⟩,hra2.set6 hr5 _ _ _ _ _ _⟩
theorem RwX.set1R {k:Nat} {rs:List RepP} {u:Value} (h:RwX Uq 48 w base v rs (fun b=>b<=g)) (hg:gR<=g) (hA:Arr w gR 33 xs):RwX Uq 48 (w.setCell ⟨gR,k,aB⟩ u) base v rs (fun b=>b<=g):=by
 obtain⟨ys,hy⟩:=h.own_m;exact h.other (zT w gR k u) (fun b e=>by cases e;exact zf hy hA wo) (fun b e=>by cases e;exact hg)
theorem RwX.set8R {rs:List RepP} {x0 x1 x2 x3 x4 x5 x6 x7:Value} (h:RwX Uq 48 w base v rs (fun b=>b<=g)) (hg:gR<=g) (hA:Arr w gR 33 [x0,x1,x2,x3,x4,x5,x6,x7]) (u0 u1 u2 u3 u4 u5 u6 u7:Value):RwX Uq 48 (JP w gR u0 u1 u2 u3 u4 u5 u6 u7) base v rs (fun b=>b<=g):=by
 have a0:=hA.set (k:=0) ws u0;have a1:=a0.set (k:=1) ws u1;have a2:=a1.set (k:=2) ws u2;have a3:=a2.set (k:=3) ws u3;have a4:=a3.set (k:=4) ws u4;have a5:=a4.set (k:=5) ws u5;have a6:=a5.set (k:=6) ws u6;exact(((((((h.set1R hg hA).set1R hg a0).set1R hg a1).set1R hg a2).set1R hg a3).set1R hg a4).set1R hg a5).set1R hg a6
theorem vv {P:Program} {fn:Func} {p u z:Tmp} {ty:TypeId} (h:fn.results=#[.tmp u,.cell p ty,.tmp z]) (tmps:Array Value) (w:World) (g:Nat) (t:TypeId) (cs:Array Value) (fr:Nat×Nat) (d:TypeDesc)
  (hp:tmps.getD p undef= .pointer (aC ⟨g,0,aB⟩)) (hg:w.heap[g]?=aC (.cells cs t fr))
  (hu:P.underlying ty=aC d) (hd:(match d with | .struct _ | .array _ _=>true | _=>false)=true) (hi:(P.info? ty).map (·.size)=aC cs.size) :
  (results fn tmps).run P w= .ok (.tuple #[tmps.getD u undef,.agg cs,tmps.getD z undef]) w:=by
 have hp':tmps[p]?.getD undef= .pointer (aC ⟨g,0,aB⟩):=by simpa using hp
 simp [results,h,hp',asAddr,run_loadVar_row w g t ty cs fr d hg hu hd hi]
theorem OwLo.grownR {v1 v2 v3 v4:Value} (h:OwLo w base v1 v2 v3 v4 l N) (hx:w.ownsRow b' 48 6 vo n xs) (hg:w.grownBy w' vo.ownBlock) (hN:∀b,vo.ownBlock=aC b->N b):OwLo w' base v1 v2 v3 v4 l N:=by
 obtain⟨xs1,hx1⟩:=h.s.b.own_m;obtain⟨xs2,hx2⟩:=h.s.e.own_m;have kp:∀ {e:TypeId} {size m:Nat} {v:Value} {ys:af},w.ownsRow base e size v m ys->e≠48->w'.ownsRow base e size v m ys:=fun ho hne=>ho.kept hg (by
  rename_i v ys;cases hb:v.ownBlock with
  | none=>exact .inl rfl
  | some b=>exact .inr (fun e=>uv ho hx hne b hb e.symm))
 refine⟨⟨h.s.b.other hg (fun b e1 e2=>uv hx1 hx wo b e2 e1) (fun b e=> .inl (hN b e)),h.s.e.other hg (fun b e1 e2=>uv hx2 hx wo b e2 e1) (fun b e=> .inl (hN b e)),h.s.ne⟩,kp h.c wo,?_⟩;obtain⟨As,h1,h2,h3,h4⟩:=h.f;exact⟨As,h1,kp h2 wo,fun k p a hp ha=>⟨kp (h3 k p a hp ha).1 wo,(h3 k p a hp ha).2⟩,h4⟩
theorem DkB.grownR {p:LoW} (h:DkB w g p l N) (hx:w.ownsRow b' 48 6 vo n xs) (hg:w.grownBy w' vo.ownBlock) (hN:∀b,vo.ownBlock=aC b->N b):DkB w' g p l N :=
 ⟨h.box.grown hg (zf hx h.box wo),h.own.grownR hx hg hN⟩
theorem z02 (aH:Nat) (A:ae) (n c:Nat) (os:List OrdP) (w:World) (hroom:aH<=4000) (hl:os.length=n) (hn:n<=79) (hc:n<=c) (hm:c<=maxLen) (hgo:∀o∈os,GoodD o) (hr:Rw OrdS w A os) :
  Calls zZZ 12 #[ax ay aH,aw A n c] w fun e w'=>∃vr v1 v2 v3 v4,e= .returned (.tuple #[vr,Yk v1 v2 v3 v4 (qI (lo0 aH) os).1,ax ay 0])/\RwX Uq 48 w' w.heap.size vr (qI (lo0 aH) os).2 (fun b=>b<w.heap.size)/\OwLo w' w.heap.size v1 v2 v3 v4 (qI (lo0 aH) os).1 (fun b=>b<w.heap.size)/\Below w.heap.size w w':=by
 obtain⟨w1,hw1,hR,hB,hbx⟩:=zn w 33 82 [aw aB 0 0,aw aB 0 0,ax ay 0,ax ay 0,ax ay 0,aw aB 0 0,az ⟨#[]⟩,aw aB 0 0] [aw aB 0 0,aw aB 0 0,ax ay aH,ax ay 0,ax ay 0,aw aB 0 0,az ⟨#[]⟩,aw aB 0 0];have hr0:decide ((aH:Int)<0)=false:=decide_eq_false wj;have hr1:decide ((aH:Int)>4000)=false:=decide_eq_false wj;have hr2:decide ((4000:Int)<(aH:Int))=false:=decide_eq_false wj;have hr3:decide (4000<aH)=false:=decide_eq_false wj;have hn0:decide ((n:Int)>80)=false:=decide_eq_false wj;have hn1:decide ((80:Int)<(n:Int))=false:=decide_eq_false wj;have hn2:decide (80<n)=false:=decide_eq_false wj;obtain⟨gR,hgR⟩:=wU w.heap.size
 obtain⟨g,hg⟩:=wU (w.heap.size+1)
 rw [<-hg]at hB;rw [<-hgR]at hR;have hgg:g=gR+1:=wj;have hgl:g<w1.heap.size:=hB.lt;have hDB0:DkB w1 g ⟨aB,0,aB,0,aB,0,aB,0⟩ (lo0 aH) (fun b=>b<=g\/(aw aB 0 0).ownBlock=aC b):=⟨hB,⟨⟨RwX.nil_ (World.ownsRow_nil _ _ _ _),RwX.nil_ (World.ownsRow_nil _ _ _ _),fun g h=>by cases h⟩,World.ownsRow_nil _ _ _ _,FlsO.nil_ _ _ _ (World.ownsRow_nil _ _ _ _)⟩⟩
 obtain⟨HDB0,HL,HGO,HRD,HW1,HBX,HGR,HGG⟩:=sqJ8 hDB0 hl hgo hr hw1 hbx hgR hg;have HR:=sqH hR;have hn63:n<=79:=hn;clear hl hgo hr hw1 hbx hgR hg hR hB hDB0 hm;go_enter func12,ntmps12
 refine wH ?_;intros;rw [<-HW1.o];simp only [<-HGR.o];rw [<-hgg];have hgR1:gR<g:=wj;have hgR2:∀b,b<w.heap.size->b<=g:=fun b h=>by have:=HGR.o;omega
 clear hgg;clear hr0 hr1 hr2 hr3 hn0 hn1 hn2;go_loopg [8,32] n (fun gn vo vi wr=>∃(i:Nat) (p:LoW),gn=n - i/\vi= ax ay i/\i<=n/\Below w.heap.size w wr/\DkB wr g p (qI (lo0 aH) (os.take i)).1 (fun b=>b<=g\/vo.ownBlock=aC b)/\RwX Uq 48 wr w.heap.size vo (qI (lo0 aH) (os.take i)).2 (fun b=>b<=g)/\Arr wr gR 33 [aw aB 0 0,aw aB 0 0,ax ay 0,ax ay 0,ax ay 0,aw aB 0 0,az ⟨#[]⟩,aw aB 0 0])
 case atStart=>exact⟨0,_,rfl,rfl,Nat.zero_le _,HBX.o,HDB0.o,RwX.nil_ (World.ownsRow_nil _ _ _ _),HR.o⟩
 case round =>
  obtain⟨i,p,hgk,rfl,hi,hbel,hdb,hrx,hra⟩:=hrel;obtain⟨HGK,HBE,HDB,HRX,HRA⟩:=sqJ5 hgk hbel hdb hrx hra;have hwr:w.heap.size<=wr.heap.size:=hbel.size;have hgr:g<wr.heap.size:=hdb.lt;have HINV:=sqH (show LInv i (qI (lo0 aH) (os.take i)).1 from by
   have h:=(LInv.zero hroom).run (os:=os.take i) (by rw [List.length_take];omega) (fun o ho=>HGO.o o (List.mem_of_mem_take ho));rw [List.length_take,HL.o,Nat.min_eq_left hi,Nat.zero_add]at h;exact h)
  clear hgk hdb hrx hra;by_cases hlt:i<n
  rotate_left
  ·obtain rfl:i=n:=by omega
   have hcc:decide (i<i)=false:=ws;have hci:decide ((i:Int)<(i:Int))=false:=ws;have hot:os.take i=os:=List.take_of_length_le (by rw [HL.o];exact Nat.le_refl _);have hdb:=HDB.o;have hrx:=HRX.o;rw [hot]at hdb hrx;clear HINV hot HDB HRX;obtain⟨lr,hlr⟩:=wU (qI (lo0 aH) os)
   rw [<-hlr]at hdb hrx;have HLR:=sqH hlr;clear hlr;obtain⟨l,rs⟩:=lr;dsimp only at hdb hrx;obtain⟨X,cX,Y,dY,G,ng,F,cF⟩:=p;have hra:=HRA.o;have hbb:Arr wr g 82 [aw X l.st.aE.length cX,aw Y l.st.aF.length dY,ax ay l.st.aH,ax ay l.st.aG,ax ay l.co.aJ,aw G l.co.aI.length ng,az ⟨l.co.at_.toArray⟩,aw F l.fs.length cF]:=hdb.box;obtain⟨HF,HO8,HB8,HR8⟩:=sqJ4 (hra.all8 (aw X l.st.aE.length cX) (aw Y l.st.aF.length dY) (ax ay l.st.aH) (ax ay l.st.aG) (ax ay l.co.aJ) (aw G l.co.aI.length ng) (az ⟨l.co.at_.toArray⟩) (aw F l.fs.length cF)) (OwLo.set8 (hdb.own.mono (N':=fun b=>b<=g) (fun b h=> .inl h)) hra (show gR<=g by omega) (aw X l.st.aE.length cX) (aw Y l.st.aF.length dY) (ax ay l.st.aH) (ax ay l.st.aG) (ax ay l.co.aJ) (aw G l.co.aI.length ng) (az ⟨l.co.at_.toArray⟩) (aw F l.fs.length cF)) (zO HBE.o (show w.heap.size<=gR by have:=HGR.o;omega) (aw X l.st.aE.length cX) (aw Y l.st.aF.length dY) (ax ay l.st.aH) (ax ay l.st.aG) (ax ay l.co.aJ) (aw G l.co.aI.length ng) (az ⟨l.co.at_.toArray⟩) (aw F l.fs.length cF)) (RwX.set8R hrx (show gR<=g by omega) hra (aw X l.st.aE.length cX) (aw Y l.st.aF.length dY) (ax ay l.st.aH) (ax ay l.st.aG) (ax ay l.co.aJ) (aw G l.co.aI.length ng) (az ⟨l.co.at_.toArray⟩) (aw F l.fs.length cF));obtain⟨d0,d1,d2,d3,d4,d5,d6,d7⟩:=sqC8 hbb;obtain⟨y0,y1,y2,y3,y4,y5,y6,y7⟩:=sqC8 hra;obtain⟨f0,f1,f2,f3,f4,f5,f6,f7⟩:=sqF8 hra;have n1':¬(g=gR):=wj;have hno:∀b,(b<=g)->b<wr.heap.size:=fun b h=>by omega
   clear hbel hdb hrx hra hbb HDB0
   refine wH ?_;intros;go_region
   all_goals (try dsimp only [Exit.then])
   refine wH ?_;intros;refine bodyPost_ret (vv rfl _ _ gR _ _ _ _ wu (Arr.drew HF.o) underlying33 rfl wm) rfl ?_;rw [<-HLR.o];exact⟨u8,_,_,_,_,rfl,(HR8.o.below (Below.refl _ _).drew).wider (fun b hb=> .inl (hgR2 b hb)),((HO8.o.below (Below.refl _ _).drew).lower (show w.heap.size<=g+1 by have:=HGR.o;omega)).mono (fun b hb=>hgR2 b hb),HB8.o.drew⟩
  ·have hcc:decide (i<n)=true:=decide_eq_true hlt;have hci:decide ((i:Int)<(n:Int))=true:=decide_eq_true wj;have hi0:=wX i
   have hi1:(i:Int)<(n:Int):=wj;have hil:i<os.length:=by rw [HL.o];exact hlt
   obtain⟨b,off,B,cB,B',cB',rfl,hbw,c0,c1,c2,c3,c4,hs,hs'⟩:=(HRD.o.below hbel).ord_at i hil;have hgo:=HGO.o os[i] (List.getElem_mem hil);have hrs:=Q2 (lo0 aH) (os.take i) os[i];rw [<-List.take_succ_eq_append_getElem hil]at hrs;have hrl:(qI (lo0 aH) (os.take i)).2.length=i:=by rw [Z4,List.length_take];omega
   generalize os[i]=o at *
   obtain⟨kd,no,dg,D,ps⟩:=o;dsimp only at c0 c1 c2 c3 c4 hs hs';have HRS:=sqH hrs;obtain⟨w4,hw4⟩:=wU (wr.alloc (.cells #[ax ay kd,ax ay no,az ⟨dg.toArray⟩,aw B D.length cB,aw B' ps.length cB'] 55))
   have hb4:Below wr.heap.size wr w4:=by rw [hw4];exact(Below.refl _ _).alloc ab _
   have hO4:Arr w4 wr.heap.size 55 [ax ay kd,ax ay no,az ⟨dg.toArray⟩,aw B D.length cB,aw B' ps.length cB']:=by rw [hw4];exact Arr.new wr 55 _
   have hws4:=hb4.size;have HDO:=sqH (z2t g p _ kd no dg D ps B cB B' cB' w4 i HINV.o wj hgo (fun b=>b<=g\/u8.ownBlock=aC b) (.inl ab) (fun b hb=>by rcases hb with hb | hb;omega;(have:=(HRX.o.rwo.blk hb).2;omega)) (HDB.o.below hb4) (hs.below hb4) (hs'.below hb4));obtain⟨o0,o1,o2,o3,o4⟩:=sqC5 hO4;rw [hw4]at o0 o1 o2 o3 o4;have HB4:=sqH hb4;have HW4:=sqH hw4;clear hb4 hw4 hO4 hs hs' hgo hrs hbel HDB0
   refine wH ?_;intros;rw [<-HW4.o];refine(HDO.o).mono ?_;rintro e_ w5 ⟨dv,pv,wv,rfl,hg5,⟨p',hd5⟩,hra⟩;dsimp only;clear c0 c1 c2 c3 c4 o0 o1 o2 o3 o4 HDO;generalize hst:qt (qI (lo0 aH) (List.take i os)).1 ⟨kd,no,dg,D,ps⟩=lr2 at *
   have hrs:=HRS.o;obtain⟨l2,r⟩:=lr2;dsimp only at hd5 hra hrs ⊢
   have HRS2:=sqH hrs;obtain⟨P1,q1,rfl,hs1,hl1⟩:=vQ hra.d;obtain⟨P2,q2,rfl,hs2,hl2⟩:=vQ hra.p;obtain⟨P3,q3,rfl,hs3,hl3⟩:=vQ hra.w;have hrx4:=HRX.o.below HB4.o;obtain⟨ys,hys⟩:=hrx4.own_m;have hrx5:=hrx4.other hg5 (fun b e=>by cases e;exact zf hys (HDB.o.below HB4.o).box wo) (fun b e=>by cases e;exact Nat.le_refl _);obtain⟨xs,hxs,hop⟩:=hrx5.open_;have hhop:=hop r (yQ r P1 q1 P2 q2 P3 q3) w5;have hle:∀b,(u8.ownBlock=aC b\/b<=g)->¬leads b (yQ r P1 q1 P2 q2 P3 q3):=fun b hb hl=>by
    have hbl:b<w4.heap.size:=by
     rcases hb with hb | hb
     ·have:=(HRX.o.rwo.blk hb).2;omega
     ·omega
    obtain⟨a,e1 | e1 | e1,rfl⟩:=Kx hl
    ·have:=hl1 a e1;omega
    ·have:=hl2 a e1;omega
    ·have:=hl3 a e1;omega
   have HOP:=sqH (fun (w2:World) (v2:Value) h1 h2 h3=>hhop w2 v2 (Below.refl _ _) ⟨P1,q1,P2,q2,P3,q3,rfl,hs1,hs2,hs3⟩ hle h1 h2 h3);have hws5:w4.heap.size<=w5.heap.size:=hg5.size;have hB5:=yz (HBE.o.trans (HB4.o.mono hwr)) hg5 (show w.heap.size<=g by have:=HGG.o;omega) wj;obtain⟨HB5,HX5,HA5,HD5,HBK⟩:=sqJ5 hB5 hxs ((HRA.o.below HB4.o).grown hg5 aa) (hd5.wider (N':=fun b=>b<=g\/u8.ownBlock=aC b\/w5.heap.size<=b) (fun b h=>h.elim (fun h=> .inl (.inl h)) (fun h=>h.elim (fun h=> .inl (.inr h)) .inr))) (show ∀k,u8.ownBlock=aC k->w.heap.size<=k from fun k hk=>(hrx5.rwo.blk hk).1);clear hst hrs hd5 hra hg5 hrx4 hys hrx5 hxs hop hhop hle hs1 hs2 hs3 hl1 hl2 hl3 hB5
   refine wH ?_;intros;refine zg rfl (.tmp 36) (.tmp 40) rfl z4o wu HX5.o (us:= [ax ay r.err,az ⟨r.dig.toArray⟩,aw P1 r.data.length q1,aw P2 r.aL.length q2,ax ay r.n,aw P3 r.who.length q3]) wu rfl (JM r P1 q1 P2 q2 P3 q3) (by show((qI (lo0 aH) (List.take i os)).2.length+1)*104<=140737488355328;rw [hrl];omega) wj ?_;intro v9 w9 ho9 hg9 hv9;have HN:=sqH (HOP.o w9 v9 ho9 hg9 hv9);have HD9:=sqH ((HD5.o.grownR HX5.o hg9 (fun b e=> .inr (.inl e))).mono (N':=fun b=>b<=g\/v9.ownBlock=aC b) (fun b h=>h.imp id (fun e=>by
    rcases hv9 with e2 | ⟨g2,e2,h2⟩
    ·exact .inl (e2▸e)
    ·rw [e2]at e;cases e;exact .inr h2)))
   have HA9:=sqH (HA5.o.grown hg9 (zf HX5.o HA5.o wo));have HB9:=sqH (HB5.o.grown hg9 wj HBK.o);clear ho9 hg9 hv9
   refine wH ?_;intros;go_roundg (n - (i+1))
   case measure=>exact wW HGK
   case rel=>exact⟨i+1,p',rfl,by go_num,wj,HB9.o,by rw [HRS2.o];exact HD9.o,by rw [HRS2.o];exact HN.o,HA9.o⟩
abbrev kH:ac:= [97,98,99]
abbrev xS:OrdP:=⟨1,0, [],kH, []⟩
theorem Kt:putB [] kH= [⟨shaS kH,kH,0,false⟩]:=by
 unfold putB srt;exact List.mergeSort_singleton _
theorem UQ (aH:Nat) (h3:3<=aH) (h:aH<=4000):Fits ⟨[], [],aH,0⟩ kH :=
 ⟨(LInv.zero h).b.g,wo,.inl (by show(0:Nat)<24;decide),by show usd (putB [] kH)<=aH;rw [Kt];simpa [usd] using h3⟩
theorem Vm (aH:Nat) (h3:3<=aH) (h:aH<=4000):qt (lo0 aH) xS=(⟨⟨[⟨shaS kH,kH,0,false⟩], [],aH,0⟩,⟨0, [], []⟩, []⟩,⟨0,shaS kH, [], [],0, []⟩):=by
 have hf:pbP ⟨[], [],aH,0⟩ ⟨0, [], []⟩ kH=(⟨[⟨shaS kH,kH,0,false⟩], [],aH,0⟩,⟨0, [], []⟩,shaS kH,0):=by
  unfold pbP;rw [if_pos (UQ aH h3 h),UT rfl];unfold zH;rw [Kt]
 unfold qt;rw [if_pos wo];unfold blobD;rw [if_pos rfl];show(zJ (lo0 aH) (pbP ⟨[], [],aH,0⟩ ⟨0, [], []⟩ kH).1 _ _,_)=_;show(zJ (lo0 aH) (pbP ⟨[], [],aH,0⟩ ⟨0, [], []⟩ kH).1 (pbP ⟨[], [],aH,0⟩ ⟨0, [], []⟩ kH).2.1 (pbP ⟨[], [],aH,0⟩ ⟨0, [], []⟩ kH).2.2.2,(⟨(pbP ⟨[], [],aH,0⟩ ⟨0, [], []⟩ kH).2.2.2,(pbP ⟨[], [],aH,0⟩ ⟨0, [], []⟩ kH).2.2.1, [], [],0, []⟩:RepP))=_;rw [hf];rfl
abbrev stA (aH:Nat):StoP:=⟨[⟨shaS kH,kH,0,false⟩], [],aH,0⟩
theorem jI (w:World):kN (w.alloc (.cells #[ax .u8 97,ax .u8 98,ax .u8 99] 5 (3,4))) w.heap.size (aC ⟨w.heap.size,0,aB⟩) 3 kH:=⟨w.heap.size, [],(3,4),rfl,Nat.le_refl _,World.alloc_heap_new w _,rfl,by simp [maxLen],.inr ab⟩
theorem Rw.of_cells {α:Type} {S:Shp α} {e:TypeId} {l:List α} (ps:Cel α) (h1:ps.map (·.1)=l) (h2:qK S w ps) (hA:Arr w g e (cls ps)) (hl:l.length=n):Rw S w (aC ⟨g,0,aB⟩) l :=
 ⟨ps,h1,h2,Rd.of_arr hA (by rw [<-h1,List.length_map];exact vZ ps h2.lens) (by rw [List.take_of_length_le];rw [<-h1,List.length_map,vZ ps h2.lens];exact Nat.le_refl _)⟩
end Go.Proofs.YtcjndgldjhmbgaaGreat
