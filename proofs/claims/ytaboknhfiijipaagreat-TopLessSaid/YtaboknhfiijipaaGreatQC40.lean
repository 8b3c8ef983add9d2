/- Lemmas, as stated. -/
import Derived.Deep.CutRange
import Derived.Test.YtaboknhfiijipaaGreatQC24
import Derived.Test.YtaboknhfiijipaaGreatQC37
set_option linter.unusedVariables false
set_option linter.unusedSimpArgs false
set_option maxRecDepth 100000
set_option maxHeartbeats 16000000
open Go.Value renaming slice->aB,int->aC,string->aE
open Go.IntKind renaming i64->aD
open And renaming intro->aI
namespace Go.Proofs.YtaboknhfiijipaaGreat
open Go.RowKit Go.Maps
variable {g:Nat} {w:World}
theorem z0t (n:Int) (m:Nat) (M:Int) (hM:M=m) (w:World) (h0: -9223372036854775808<=n) (h1:n<=9223372036854775807) (hm:0<m) (hm2:m<=9223372036854775807) :
  Calls Tryz.prog 15 #[.int .i64 n,.int .i64 M] w fun e w'=>e= .returned (.int .i64 (pk n m:Nat))/\w=w':=by
 have HP:=sqH (qf n m M hM w h0 h1 hm hm2);clear hM hm hm2;generalize pk n m=q at *
 go_enter Tryz.func15,Tryz.ntmps15;go_wp2_with fail;refine HP.o.mono ?_;rintro e_ _ ⟨rfl,rfl⟩;dsimp only;go_wp2_with fail;go_ret;exact⟨rfl,rfl⟩
abbrev z4r (w:World) (g:Nat) (u0 u1 u2 u3 u4 u5 u6:Value):World:=((jD w g u0 u1 u2 u3).setCell ⟨g,4,none⟩ u4).setCell ⟨g,5,none⟩ u5 |>.setCell ⟨g,6,none⟩ u6
theorem JM {B:Nat} {w0:World} (h:Below B w0 w) (hg:B<=g) (u0 u1 u2 u3 u4 u5 u6:Value):Below B w0 (z4r w g u0 u1 u2 u3 u4 u5 u6) :=
 ((((((h.setCell (p:=⟨g,0,none⟩) hg u0).setCell (p:=⟨g,1,none⟩) hg u1).setCell (p:=⟨g,2,none⟩) hg u2).setCell (p:=⟨g,3,none⟩) hg u3).setCell (p:=⟨g,4,none⟩) hg u4).setCell (p:=⟨g,5,none⟩) hg u5).setCell (p:=⟨g,6,none⟩) hg u6
theorem z3v {N:an} {t:StoP} {c:ColP} {A1 B1 G1:ak} {c1 d1 n1:Nat} {x0 x1 x2 x3 x4 x5 x6 x7:Value} (hA:Arr w g 40 [x0,x1,x2,x3,x4,x5,x6,x7]) (hs:OwSt w (g+1) (aB A1 t.aJ.length c1) (aB B1 t.aK.length d1) t N) (hN:N g) (hc:w.ownsRow (g+1) 9 1 (aB G1 c.aN.length n1) c.aN.length (strs c.aN)) (u2 u3 u4 u6:Value) :
  Arr (z4r w g (aB A1 t.aJ.length c1) (aB B1 t.aK.length d1) u2 u3 u4 (aB G1 c.aN.length n1) u6) g 40 [aB A1 t.aJ.length c1,aB B1 t.aK.length d1,u2,u3,u4,aB G1 c.aN.length n1,u6,x7]/\RdSt (z4r w g (aB A1 t.aJ.length c1) (aB B1 t.aK.length d1) u2 u3 u4 (aB G1 c.aN.length n1) u6) A1 c1 B1 d1 t/\RdC (z4r w g (aB A1 t.aJ.length c1) (aB B1 t.aK.length d1) u2 u3 u4 (aB G1 c.aN.length n1) u6) G1 n1 c:=by
 have hg7:=(zl (k:=6) (u:=u6) (zl (k:=5) (u:= aB G1 c.aN.length n1) (zl (k:=4) (u:=u4) (zl (k:=3) (u:=u3) (zl (k:=2) (u:=u2) (zl (k:=1) (u:= aB B1 t.aK.length d1) (zl (k:=0) (u:= aB A1 t.aJ.length c1) (World.grownBy.refl w (some g)))))))))
 refine⟨Arr.fst7 hA _ _ _ _ _ _ _,?_,?_⟩
 ·obtain⟨_,_,_,_,e1,e2,hr⟩:=(hs.grownE hg7 (Nat.lt_succ_self g) hN).rows;cases e1;cases e2;exact hr
 ·obtain⟨_,_,e1,h⟩:=RdC.of_own (c:=c) (qT hc hg7 (Nat.lt_succ_self g));cases e1;exact h
theorem Zy (A:ak) (n c:Nat) (l:List RawP) (z:Int) (w:World) (hl:l.length=n) (hc:n<=c) (hm:c<=maxLen) (hok:∀r∈l,RawOk r) (hr:Rd w 4 A n (rcs l)) (hz0: -9223372036854775808<=z) (hz1:z<=9223372036854775807) :
  Calls Tryz.prog 5 #[aB A n c,aC aD z] w fun e w'=>e= .returned (.bool true)/\Below w.heap.size w w':=by
 have HPK:=sqH (fun W=>z0t z 60 60 rfl W hz0 hz1 ww ww);have hpl:=yx z (m:=60) ww;have HOR:=sqH (Zt A n c l 60 60 rfl ww w hl hc hm hok hr);generalize pk z 60=many at *
 have hmn:many<=60:=ww;clear hl hc hm hok hr hz0 hz1 hpl;go_enter Tryz.func5,Tryz.ntmps5;go_wp2_with fail;refine HOR.o.mono ?_;rintro e_ w1 ⟨v,os,rfl,hos,hgo,hol,hb1⟩;dsimp only;obtain⟨B,d,rfl,hd1,hd2,hrw⟩:=hos.rows;have HB1:=sqH hb1;have hinv:=(LInv.zero (aM:=1500) ww).run (os:=os) ww hgo;have hgl:=hinv.good ww;have hg8:8*unm (yr (lo0 1500) os).1.st.aJ+(yr (lo0 1500) os).1.co.aN.length<=1000:=by have:=hinv.b.gr;omega
 have hru:=z4y 1500 B os.length d os w1 ww rfl ww hd1 hd2 hgo hrw;clear hinv;generalize yr (lo0 1500) os=lr at *
 obtain⟨lo,rs⟩:=lr;dsimp only at hru hgl hg8;have HRU:=sqH hru;have HGL:=sqH (aI hgl hg8);clear hgo hos hb1 hrw HOR hru hgl hg8;go_wp2_with fail;refine HRU.o.mono ?_;rintro e_ w2 ⟨vr,v1,v2,v3,v4,rfl, -,hol2,hb2⟩;dsimp only;obtain⟨⟨X,cX,Y,dY,G,ng,F,cF⟩,rfl,rfl,rfl,rfl,hlo⟩:=hol2.rd;obtain⟨w3,hw3⟩:=wY (w2.alloc (.cells #[aB X lo.st.aJ.length cX,aB Y lo.st.aK.length dY,aC aD lo.st.aM,aC aD lo.st.aL,aC aD lo.co.aO,aB G lo.co.aN.length ng,aE ⟨lo.co.at_.toArray⟩,aB F lo.fs.length cF] 40))
 obtain⟨g3,hg3⟩:=wY w2.heap.size
 have hA3:Arr w3 g3 40 [aB X lo.st.aJ.length cX,aB Y lo.st.aK.length dY,aC aD lo.st.aM,aC aD lo.st.aL,aC aD lo.co.aO,aB G lo.co.aN.length ng,aE ⟨lo.co.at_.toArray⟩,aB F lo.fs.length cF]:=by rw [hw3,hg3];exact Arr.new w2 40 _
 have hb3:Below w2.heap.size w2 w3:=by rw [hw3];exact(Below.refl _ _).alloc ai _
 have hb13:=wo hb2 hb3;obtain⟨HWK,HW3,HG3,HF3,HB2,HK⟩:=sqJ6 (Kb w3) hw3 hg3 (aI (hlo.f) (aI hlo.fc hlo.fm)) (aI (wo HB1.o hb2) hb3) (show ∀W,Below w3.heap.size w3 W->Arr W g3 40 [aB X lo.st.aJ.length cX,aB Y lo.st.aK.length dY,aC aD lo.st.aM,aC aD lo.st.aL,aC aD lo.co.aO,aB G lo.co.aN.length ng,aE ⟨lo.co.at_.toArray⟩,aB F lo.fs.length cF]/\RdSt W X cX Y dY lo.st/\RdC W G ng lo.co from fun W h=>⟨hA3.below h,(hlo.below hb3).s.below h,(hlo.below hb3).c.below h⟩);clear hw3 hg3 hA3 hb3 hb13 hol2 hb2 hlo HRU HB1;go_wp2_with fail;rw [<-HW3.o,<-HG3.o];refine wZ HWK.o fun w4 hb4=>?_;dsimp only;have hk:=HK.o w4 hb4;have HK4:=sqH hk;have hx:=hk.1;obtain⟨x0,x1,x2,x3,x4,x5,x6,x7⟩:=sqC8 hx;have HB4:=sqH (HB2.o.2.trans (hb4.mono HB2.o.2.size));clear hk hx hb4 HWK HW3 HK;go_upto_if 32 with (fail)
 go_cut [8,9,10] from 33 (fun e8 e9 e10 wc=>∃(X0:ak) (cX0:Nat) (Y0:ak) (dY0:Nat) (G0:ak) (ng0:Nat) (s0:StoP) (c0:ColP),LessI lo.st s0 c0/\Below w2.heap.size w2 wc/\Arr wc g3 40 [aB X0 s0.aJ.length cX0,aB Y0 s0.aK.length dY0,aC aD s0.aM,aC aD s0.aL,aC aD c0.aO,aB G0 c0.aN.length ng0,aE ⟨c0.at_.toArray⟩,aB F lo.fs.length cF]/\RdSt wc X0 cX0 Y0 dY0 s0/\RdC wc G0 ng0 c0)
 case first =>
  by_cases hph:lo.co.aO=0
  ·have hp:((lo.co.aO:Int)==0)=true:=by rw [hph];rfl
   have hbg:=jR X cX Y dY lo.st w4 HGL.o.1.s HK4.o.2.1;have HBG:=sqH hbg;clear hbg hph;go_wp2_with fail;clear x0 x1 x2 x3 x4 x5 x6 x7;refine HBG.o.mono ?_;rintro e_ w5 ⟨v5,v6,v7,rfl,ho5,hl5,hb5⟩;dsimp only;obtain⟨X5,c5,Y5,d5,e1,e2,_⟩:=ho5.rows;obtain⟨G5,n5,e3, -⟩:=RdC.of_own (c:=j9 lo.st) hl5;subst e1 e2 e3;have HLI:=sqH (LessI.beg HGL.o.1.s);have hgb:(yS lo.st).aM=lo.st.aM/\(yS lo.st).aL=lo.st.aL:=⟨rfl,rfl⟩
   generalize yS lo.st=s0 at *
   generalize j9 lo.st=c0 at *
   obtain⟨w6,hw6,h6,h7,hb6⟩:=zI w5 34 37 [aB X5 s0.aJ.length c5,aB Y5 s0.aK.length d5,aC aD lo.st.aM,aC aD lo.st.aL] [aC aD c0.aO,aB G5 c0.aN.length n5,aE ⟨c0.at_.toArray⟩];have hb46:=wo hb5 hb6;have hg34:g3<w4.heap.size:=HK4.o.1.lt;have hA6:=HK4.o.1.below hb46;have hst:=z3v (N:=fun b=>b=g3) hA6 (((ho5.below hb6).lower (base':=g3+1) ww).mono (N':=fun b=>b=g3) (fun b h=>by rw [h];exact hg34)) rfl (zb (zc hl5 hb6) ww) (aC aD lo.st.aM) (aC aD lo.st.aL) (aC aD c0.aO) (aE ⟨c0.at_.toArray⟩);have hbl:=JM (wo HB4.o hb46) (show w2.heap.size<=g3 by rw [HG3.o];exact Nat.le_refl _) (aB X5 s0.aJ.length c5) (aB Y5 s0.aK.length d5) (aC aD lo.st.aM) (aC aD lo.st.aL) (aC aD c0.aO) (aB G5 c0.aN.length n5) (aE ⟨c0.at_.toArray⟩);have HST:=sqH (aI hst hbl);obtain⟨g6,hg6⟩:=wY w5.heap.size
   rw [<-hg6]at h6 h7;have hg56:w4.heap.size<=g6:=by rw [hg6];exact hb5.size
   obtain⟨x0,x1,x2,x3,x4,x5,x6,x7⟩:=sqC8 hA6;obtain⟨f0,f1,f2,f3,f4,f5,f6⟩:=sqF7 hA6;have s0':=h6.c0;have s1:=h6.c1;have s2:=h6.c2;have s3:=h6.c3;obtain⟨t0,t1,t2⟩:=sqC3 h7;have n1:¬(g6=g3):=ww;have n2:¬(g6+1=g3):=ww;have HW6:=sqH hw6;have HG6:=sqH hg6;clear hw6 h6 h7 hb6 hb46 hg34 hA6 hst hbl hg6 hg56 hl5 ho5 hb5 HBG
   refine wM 8 ?_;intros;rw [<-HG6.o,<-HW6.o];go_region
   all_goals (try dsimp only [Exit.then])
   clear x0 x1 x2 x3 x4 x5 x6 x7 f0 f1 f2 f3 f4 f5 f6 s0' s1 s2 s3 t0 t1 t2;go_wp2_with fail;go_meet
   case rel =>
    obtain⟨⟨k1,k2,k3⟩,k4⟩:=HST.o;rw [<-hgb.1,<-hgb.2] at *
    exact⟨X5,c5,Y5,d5,G5,n5,s0,c0,HLI.o,k4.drew,k1.drew,k2.below (Below.refl _ _).drew,k3.below (Below.refl _ _).drew⟩
  ·have hp:((lo.co.aO:Int)==0)=false:=by rw [beq_eq_false_iff_ne];omega
   go_wp2_with fail;go_meet
   case rel=>exact⟨X,cX,Y,dY,G,ng,lo.st,lo.co,⟨HGL.o.1.s,HGL.o.1.c,HGL.o.2,rfl,rfl,rfl,rfl⟩,HB4.o,HK4.o.1,HK4.o.2.1,HK4.o.2.2⟩
 case rest =>
  obtain⟨X0,cX0,Y0,dY0,G0,ng0,s0,c0,hli,hbc,hA,hrs,hrc⟩:=hcut;clear x0 x1 x2 x3 x4 x5 x6 x7 HK4 HB4;have hx:=hA;obtain⟨x0,x1,x2,x3,x4,x5,x6,x7⟩:=sqC8 hx;obtain⟨g11,hg11⟩:=wY wc.heap.size
  obtain⟨w5,hw5⟩:=wY (wc.alloc (.cells #[aB X0 s0.aJ.length cX0,aB Y0 s0.aK.length dY0,aC aD s0.aM,aC aD s0.aL,aC aD c0.aO,aB G0 c0.aN.length ng0,aE ⟨c0.at_.toArray⟩,aB F lo.fs.length cF] 40))
  have hA5:Arr w5 g11 40 [aB X0 s0.aJ.length cX0,aB Y0 s0.aK.length dY0,aC aD s0.aM,aC aD s0.aL,aC aD c0.aO,aB G0 c0.aN.length ng0,aE ⟨c0.at_.toArray⟩,aB F lo.fs.length cF]:=by rw [hw5,hg11];exact Arr.new wc 40 _
  have hb5:Below wc.heap.size wc w5:=by rw [hw5];exact(Below.refl _ _).alloc ai _
  obtain⟨HX,HBC,HL0,HA5,HB5,HW5,HG11⟩:=sqJ7 (show ∀W,Below wc.heap.size wc W->Arr W g3 40 [aB X0 s0.aJ.length cX0,aB Y0 s0.aK.length dY0,aC aD s0.aM,aC aD s0.aL,aC aD c0.aO,aB G0 c0.aN.length ng0,aE ⟨c0.at_.toArray⟩,aB F lo.fs.length cF]/\RdSt W X0 cX0 Y0 dY0 s0/\RdC W G0 ng0 c0/\Fls W F lo.fs/\lo.fs.length<=cF/\cF<=maxLen from fun W h=>⟨hA.below h,hrs.below h,hrc.below h,HF3.o.1.below (wo hbc h),HF3.o.2⟩) (HB2.o.1.trans (hbc.mono HB2.o.1.size)) hli hA5 hb5 hw5 hg11;clear hli hbc hA hrs hrc hx hw5 hg11 hA5 hb5 HB2 HF3 HG3;go_wp2_with fail;rw [<-HW5.o,<-HG11.o];clear x0 x1 x2 x3 x4 x5 x6 x7;refine((HPK.o w5)).mono ?_;rintro e_ _ ⟨rfl,rfl⟩;dsimp only;clear HW5 HPK;go_wp2_with fail;go_loopg [12,13,14,15,49] many (fun gn u12 u13 u14 u15 vi wr=>∃(k:Nat) (X:ak) (cX:Nat) (Y:ak) (dY:Nat) (G:ak) (ng:Nat) (t:StoP) (c2:ColP),gn=many - k/\vi= aC aD k/\k<=many/\LessI lo.st t c2/\Arr wr g11 40 [aB X t.aJ.length cX,aB Y t.aK.length dY,aC aD t.aM,aC aD t.aL,aC aD c2.aO,aB G c2.aN.length ng,aE ⟨c2.at_.toArray⟩,aB F lo.fs.length cF]/\RdSt wr X cX Y dY t/\RdC wr G ng c2/\Below wc.heap.size wc wr)
  case atStart=>exact⟨0,X0,cX0,Y0,dY0,G0,ng0,s0,c0,rfl,rfl,Nat.zero_le _,HL0.o,HA5.o,(HX.o _ HB5.o).2.1,(HX.o _ HB5.o).2.2.1,HB5.o⟩
  case round =>
   obtain⟨k,X,cX,Y,dY,G,ng,t,c2,hgk,rfl,hk,hli,har,hrs,hrc,hbr⟩:=hrel;obtain⟨HGK,HLI,HAR,HRT,HBR⟩:=sqJ5 hgk hli har (aI hrs hrc) hbr;clear hgk hli har hrs hrc hbr;by_cases hlt:k<many
   rotate_left
   ·obtain rfl:k=many:=by omega
    have hcc:decide (k<k)=false:=ac;have hcd:decide ((k:Int)<(k:Int))=false:=ac;have hxr:=HX.o wr HBR.o;have hli:=HLI.o;have hl0:=HL0.o;have hel:((s0.aK.length:Int)==(t.aK.length:Int))=true:=by rw [hl0.e,hli.e];simp
    obtain⟨HSB,HEC,HAX⟩:=sqJ3 (show ∀w',Below wr.heap.size wr w'->(wJ w' g3 (aB X0 s0.aJ.length cX0) (aB Y0 s0.aK.length dY0) (aC aD s0.aM) (aC aD s0.aL) (aC aD c0.aO) (aB G0 c0.aN.length ng0) (aE ⟨c0.at_.toArray⟩) (aB F lo.fs.length cF))/\(wJ w' g11 (aB X t.aJ.length cX) (aB Y t.aK.length dY) (aC aD t.aM) (aC aD t.aL) (aC aD c2.aO) (aB G c2.aN.length ng) (aE ⟨c2.at_.toArray⟩) (aB F lo.fs.length cF)) from fun w' h=>⟨sqC8 ((HX.o wr HBR.o).1.below h),sqC8 (HAR.o.below h)⟩) (fun W (h:Below wr.heap.size wr W)=>vG ⟨X,cX,Y,dY,G,ng,F,cF⟩ ⟨t,c2,lo.fs⟩ W (hli.loft HGL.o.1) ⟨HRT.o.1.below h,HRT.o.2.below h,hxr.2.2.2.1.below h,hxr.2.2.2.2.1,hxr.2.2.2.2.2⟩) (fun W (h:Below wr.heap.size wr W)=>xl X0 Y0 cX0 dY0 s0 (s0.aM:Int) (s0.aL:Int) W (GoodS.rts hl0.g) (hxr.2.1.below h));have hay:=fun W (h:Below wr.heap.size wr W)=>xl X Y cX dY t (t.aM:Int) (t.aL:Int) W (GoodS.rts hli.g) (HRT.o.1.below h);rw [hli.r,<-hl0.r]at hay;have HAY:=sqH hay;have hlb:s0.aJ.length<=24:=hl0.g.b.len;have HLB:=sqH (show ∀n:Nat,n<=s0.aJ.length->n<=1000000000 from fun n h=>ww);clear hxr hli hl0 hay hlb;go_wp2_with fail;refine wp_region_held_drew (S:=(fun w'=>(wJ w' g3 (aB X0 s0.aJ.length cX0) (aB Y0 s0.aK.length dY0) (aC aD s0.aM) (aC aD s0.aL) (aC aD c0.aO) (aB G0 c0.aN.length ng0) (aE ⟨c0.at_.toArray⟩) (aB F lo.fs.length cF))/\(wJ w' g11 (aB X t.aJ.length cX) (aB Y t.aK.length dY) (aC aD t.aM) (aC aD t.aL) (aC aD c2.aO) (aB G c2.aN.length ng) (aE ⟨c2.at_.toArray⟩) (aB F lo.fs.length cF)))) aa ?_ (fun hHeld=> ?_)
    ·exact HSB.o _ (Below.refl _ wr).drew
    have hB:=(Below.refl wr.heap.size wr).drew;generalize wr.drew=wn0 at *
    refine wQ 0 ?_;refine wU 1 fun K hK=>?_;go_simp;refine(HEC.o wn0 hB).mono ?_;rintro e5 w5 ⟨rfl,hb5⟩;dsimp only;refine wF hK (HSB.o _ (hB.trans (Below.mono (show Below wn0.heap.size wn0 _ from by(first | exact hb5 | exact Below.refl _ _)) hB.size))) (Below wn0.heap.size wn0) (by first | exact hb5 | exact Below.refl _ _) fun wn1 hHeld hst=> ?_;have hB:=wo hB hst;clear hst;clear hK K
    refine wQ 2 ?_;refine wQ 3 ?_;refine wQ 4 ?_;refine wQ 5 ?_;refine wQ 7 ?_;refine wQ 8 ?_;refine wU 6 fun K hK=>?_;go_simp;refine(HAX.o wn1 hB).mono ?_;rintro e5 w5 ⟨v16,L,rfl,hL,hLl,ho6,hb5⟩;obtain⟨A6,c6,rfl, -,hr6⟩:=Rd.of_own' ho6;clear ho6;dsimp only;refine qF hK (HSB.o _ (hB.trans (Below.mono (show Below wn1.heap.size wn1 _ from by(first | exact hb5 | exact Below.refl _ _)) hB.size))) (Below wn1.heap.size wn1) (fun W=>Rd W 1 A6 L.length (strs L)) (by first | exact hb5 | exact Below.refl _ _) hr6 fun wn2 hHeld hst hnew=> ?_;have hB:=wo hB hst;have hr6:=hnew;clear hst;clear hK K
    try simp only [sqP]
    refine wU 9 fun K hK=>?_;go_simp;refine(HAY.o wn2 hB).mono ?_;rintro e5 w5 ⟨v17,L',rfl,hL', -,ho9,hb5⟩;obtain rfl:L=L':=hL.uniq hL';obtain⟨A9,c9,rfl, -,hr9⟩:=Rd.of_own' ho9;have hL24:L.length<=1000000000:=HLB.o _ hLl;clear ho9 hL' hL hLl;dsimp only;refine qF hK (HSB.o _ (hB.trans (Below.mono (show Below wn2.heap.size wn2 _ from by(first | exact hb5 | exact Below.refl _ _)) hB.size))) (Below wn2.heap.size wn2) (fun W=>Rd W 1 A6 L.length (strs L)/\Rd W 1 A9 L.length (strs L)) (by first | exact hb5 | exact Below.refl _ _) ⟨hr6.below hb5,hr9⟩ fun wn3 hHeld hst hnew=> ?_;have hB:=wo hB hst;have hrr:=hnew;clear hst;clear hK K
    try simp only [sqP]
    refine wU 10 fun K hK=>?_;go_simp;refine(JH A6 A9 c6 c9 L L wn3 hL24 hL24 hrr.1 hrr.2).mono ?_;rintro e5 w5 ⟨he5,hb5⟩;rw [decide_eq_true rfl]at he5;subst he5;dsimp only;refine wF hK (HSB.o _ (hB.trans (Below.mono (show Below wn3.heap.size wn3 _ from by(first | exact hb5 | exact Below.refl _ _)) hB.size))) (Below wn3.heap.size wn3) (by first | exact hb5 | exact Below.refl _ _) fun wn4 hHeld hst=> ?_;have hB:=wo hB hst;clear hst;clear hK K
    refine wQ 11 ?_;refine wQ 12 ?_;refine wQ 13 ?_;refine wQ 14 ?_;refine wQ 15 ?_;refine wQ 16 ?_;refine wQ 17 ?_;refine wQ 18 ?_;refine wQ 19 ?_;refine wQ 20 ?_;refine wQ 21 ?_;refine wQ 22 ?_;refine wQ 23 ?_;refine wpAnyH_done aa ?_ _
    try dsimp only [Exit.then]
    clear hHeld;have HB14:=sqH (HBC.o.trans ((wo HBR.o hB).mono HBC.o.size));clear hB;go_wp2_with fail;go_ret;exact⟨rfl,HB14.o⟩
   have hcc:decide (k<many)=true:=decide_eq_true hlt;have hcd:decide ((k:Int)<(many:Int))=true:=decide_eq_true ww;have hx:=HAR.o;obtain⟨x0,x1,x2,x3,x4,x5,x6,x7⟩:=sqC8 hx;clear hx;by_cases hph:c2.aO=0
   ·have HT0:=sqH (UD X cX Y dY t G ng c2 wr HLI.o.g HRT.o.1 hph (by have:=HLI.o.gl;omega) HLI.o.gc HRT.o.2);clear hph;go_wp2_with fail;clear x0 x1 x2 x3 x4 x5 x6 x7;refine wZ HT0.o fun w6 hb6=>?_;dsimp only;obtain⟨w7,hw7,h7,h8,hb7⟩:=zI w6 34 37 [aB none 0 0,aB none 0 0,aC aD 0,aC aD 0] [aC aD 0,aB none 0 0,aE ⟨#[]⟩];have hb67:=wo hb6 hb7;obtain⟨HBN,HRN,HAN,HW7⟩:=sqJ4 (wo HBR.o hb67) (aI (HRT.o.1.below hb67) (HRT.o.2.below hb67)) (HAR.o.below hb67) hw7;clear hw7 h7 h8 hb7 hb6 hb67 HT0 HBR HRT HAR;have HBR:=HBN;have HRT:=HRN;have HAR:=HAN;clear HBN HRN HAN
    refine wM 18 ?_;intros;rw [<-HW7.o];clear HW7;generalize w7=wr at *
    have hxr:=HX.o wr HBR.o;have hli:=HLI.o;have hl0:=HL0.o;have hel:((s0.aK.length:Int)==(t.aK.length:Int))=true:=by rw [hl0.e,hli.e];simp
    obtain⟨HSB,HEC,HAX⟩:=sqJ3 (show ∀w',Below wr.heap.size wr w'->(wJ w' g3 (aB X0 s0.aJ.length cX0) (aB Y0 s0.aK.length dY0) (aC aD s0.aM) (aC aD s0.aL) (aC aD c0.aO) (aB G0 c0.aN.length ng0) (aE ⟨c0.at_.toArray⟩) (aB F lo.fs.length cF))/\(wJ w' g11 (aB X t.aJ.length cX) (aB Y t.aK.length dY) (aC aD t.aM) (aC aD t.aL) (aC aD c2.aO) (aB G c2.aN.length ng) (aE ⟨c2.at_.toArray⟩) (aB F lo.fs.length cF)) from fun w' h=>⟨sqC8 ((HX.o wr HBR.o).1.below h),sqC8 (HAR.o.below h)⟩) (fun W (h:Below wr.heap.size wr W)=>vG ⟨X,cX,Y,dY,G,ng,F,cF⟩ ⟨t,c2,lo.fs⟩ W (hli.loft HGL.o.1) ⟨HRT.o.1.below h,HRT.o.2.below h,hxr.2.2.2.1.below h,hxr.2.2.2.2.1,hxr.2.2.2.2.2⟩) (fun W (h:Below wr.heap.size wr W)=>xl X0 Y0 cX0 dY0 s0 (s0.aM:Int) (s0.aL:Int) W (GoodS.rts hl0.g) (hxr.2.1.below h));have hay:=fun W (h:Below wr.heap.size wr W)=>xl X Y cX dY t (t.aM:Int) (t.aL:Int) W (GoodS.rts hli.g) (HRT.o.1.below h);rw [hli.r,<-hl0.r]at hay;have HAY:=sqH hay;have hlb:s0.aJ.length<=24:=hl0.g.b.len;have HLB:=sqH (show ∀n:Nat,n<=s0.aJ.length->n<=1000000000 from fun n h=>ww);clear hxr hli hl0 hay hlb;go_wp2_with fail;refine wp_region_held_drew (S:=(fun w'=>(wJ w' g3 (aB X0 s0.aJ.length cX0) (aB Y0 s0.aK.length dY0) (aC aD s0.aM) (aC aD s0.aL) (aC aD c0.aO) (aB G0 c0.aN.length ng0) (aE ⟨c0.at_.toArray⟩) (aB F lo.fs.length cF))/\(wJ w' g11 (aB X t.aJ.length cX) (aB Y t.aK.length dY) (aC aD t.aM) (aC aD t.aL) (aC aD c2.aO) (aB G c2.aN.length ng) (aE ⟨c2.at_.toArray⟩) (aB F lo.fs.length cF)))) aa ?_ (fun hHeld=> ?_)
    ·exact HSB.o _ (Below.refl _ wr).drew
    have hB:=(Below.refl wr.heap.size wr).drew;generalize wr.drew=wn0 at *
    refine wQ 0 ?_;refine wU 1 fun K hK=>?_;go_simp;refine(HEC.o wn0 hB).mono ?_;rintro e5 w5 ⟨rfl,hb5⟩;dsimp only;refine wF hK (HSB.o _ (hB.trans (Below.mono (show Below wn0.heap.size wn0 _ from by(first | exact hb5 | exact Below.refl _ _)) hB.size))) (Below wn0.heap.size wn0) (by first | exact hb5 | exact Below.refl _ _) fun wn1 hHeld hst=> ?_;have hB:=wo hB hst;clear hst;clear hK K
    refine wQ 2 ?_;refine wQ 3 ?_;refine wQ 4 ?_;refine wQ 5 ?_;refine wQ 7 ?_;refine wQ 8 ?_;refine wU 6 fun K hK=>?_;go_simp;refine(HAX.o wn1 hB).mono ?_;rintro e5 w5 ⟨v16,L,rfl,hL,hLl,ho6,hb5⟩;obtain⟨A6,c6,rfl, -,hr6⟩:=Rd.of_own' ho6;clear ho6;dsimp only;refine qF hK (HSB.o _ (hB.trans (Below.mono (show Below wn1.heap.size wn1 _ from by(first | exact hb5 | exact Below.refl _ _)) hB.size))) (Below wn1.heap.size wn1) (fun W=>Rd W 1 A6 L.length (strs L)) (by first | exact hb5 | exact Below.refl _ _) hr6 fun wn2 hHeld hst hnew=> ?_;have hB:=wo hB hst;have hr6:=hnew;clear hst;clear hK K
    try simp only [sqP]
    refine wU 9 fun K hK=>?_;go_simp;refine(HAY.o wn2 hB).mono ?_;rintro e5 w5 ⟨v17,L',rfl,hL', -,ho9,hb5⟩;obtain rfl:L=L':=hL.uniq hL';obtain⟨A9,c9,rfl, -,hr9⟩:=Rd.of_own' ho9;have hL24:L.length<=1000000000:=HLB.o _ hLl;clear ho9 hL' hL hLl;dsimp only;refine qF hK (HSB.o _ (hB.trans (Below.mono (show Below wn2.heap.size wn2 _ from by(first | exact hb5 | exact Below.refl _ _)) hB.size))) (Below wn2.heap.size wn2) (fun W=>Rd W 1 A6 L.length (strs L)/\Rd W 1 A9 L.length (strs L)) (by first | exact hb5 | exact Below.refl _ _) ⟨hr6.below hb5,hr9⟩ fun wn3 hHeld hst hnew=> ?_;have hB:=wo hB hst;have hrr:=hnew;clear hst;clear hK K
    try simp only [sqP]
    refine wU 10 fun K hK=>?_;go_simp;refine(JH A6 A9 c6 c9 L L wn3 hL24 hL24 hrr.1 hrr.2).mono ?_;rintro e5 w5 ⟨he5,hb5⟩;rw [decide_eq_true rfl]at he5;subst he5;dsimp only;refine wF hK (HSB.o _ (hB.trans (Below.mono (show Below wn3.heap.size wn3 _ from by(first | exact hb5 | exact Below.refl _ _)) hB.size))) (Below wn3.heap.size wn3) (by first | exact hb5 | exact Below.refl _ _) fun wn4 hHeld hst=> ?_;have hB:=wo hB hst;clear hst;clear hK K
    refine wQ 11 ?_;refine wQ 12 ?_;refine wQ 13 ?_;refine wQ 14 ?_;refine wQ 15 ?_;refine wQ 16 ?_;refine wQ 17 ?_;refine wQ 18 ?_;refine wQ 19 ?_;refine wQ 20 ?_;refine wQ 21 ?_;refine wQ 22 ?_;refine wQ 23 ?_;refine wpAnyH_done aa ?_ _
    try dsimp only [Exit.then]
    clear hHeld;have HB14:=sqH (HBC.o.trans ((wo HBR.o hB).mono HBC.o.size));clear hB;go_wp2_with fail;go_ret;exact⟨rfl,HB14.o⟩
   have HP:=sqH (show c2.aO=1\/c2.aO=2 by have:=HLI.o.gc.ph;omega);have hct:=jS X cX Y dY t G ng c2 wr HLI.o.g HRT.o.1 HP.o (by have:=HLI.o.gl;omega) HLI.o.gc HRT.o.2;have hln:=HLI.o.tick hph;have hrm:(zu t c2).1.aM=t.aM/\(zu t c2).1.aL=t.aL:=⟨(uR t c2).1,(uR t c2).2.1⟩
   generalize (zu t c2).1=t' at *
   generalize (zu t c2).2.1=c' at *
   generalize (zu t c2).2.2=dd at *
   obtain⟨HCT,HLN,HRM⟩:=sqJ3 hct hln hrm;clear hct hln hrm hph;go_wp2_with fail;clear x0 x1 x2 x3 x4 x5 x6 x7;refine HCT.o.mono ?_;rintro e_ w6 ⟨v5,v6,v7,rfl,ho5,hl5,hb5⟩;dsimp only;obtain⟨X5,c5,Y5,d5,e1,e2,_⟩:=ho5.rows;obtain⟨G5,n5,e3, -⟩:=RdC.of_own (c:=c') hl5;subst e1 e2 e3;obtain⟨w7,hw7,h6,h7,hb6⟩:=zI w6 34 37 [aB X5 t'.aJ.length c5,aB Y5 t'.aK.length d5,aC aD t.aM,aC aD t.aL] [aC aD c'.aO,aB G5 c'.aN.length n5,aE ⟨c'.at_.toArray⟩];have hb46:=wo hb5 hb6;have hg34:g11<wr.heap.size:=HAR.o.lt;have hA6:=HAR.o.below hb46;have hst:=z3v (N:=fun b=>b=g11) hA6 (((ho5.below hb6).lower (base':=g11+1) ww).mono (N':=fun b=>b=g11) (fun b h=>by rw [h];exact hg34)) rfl (zb (zc hl5 hb6) ww) (aC aD t.aM) (aC aD t.aL) (aC aD c'.aO) (aE ⟨c'.at_.toArray⟩);have hbl:=JM (wo HBR.o hb46) (show wc.heap.size<=g11 by rw [HG11.o];exact Nat.le_refl _) (aB X5 t'.aJ.length c5) (aB Y5 t'.aK.length d5) (aC aD t.aM) (aC aD t.aL) (aC aD c'.aO) (aB G5 c'.aN.length n5) (aE ⟨c'.at_.toArray⟩);have HST:=sqH (aI hst hbl);obtain⟨g6,hg6⟩:=wY w6.heap.size
   rw [<-hg6]at h6 h7;have hg56:wr.heap.size<=g6:=by rw [hg6];exact hb5.size
   obtain⟨x0,x1,x2,x3,x4,x5,x6,x7⟩:=sqC8 hA6;obtain⟨f0,f1,f2,f3,f4,f5,f6⟩:=sqF7 hA6;have s0':=h6.c0;have s1:=h6.c1;have s2:=h6.c2;have s3:=h6.c3;obtain⟨t0,t1,t2⟩:=sqC3 h7;have n1:¬(g6=g11):=ww;have n2:¬(g6+1=g11):=ww;have HW7:=sqH hw7;have HG6:=sqH hg6;clear hw7 h6 h7 hb6 hb46 hg34 hA6 hst hbl hg6 hg56 hl5 ho5 hb5 HCT
   refine wM 16 ?_;intros;rw [<-HG6.o,<-HW7.o];go_region
   all_goals (try dsimp only [Exit.then])
   clear x0 x1 x2 x3 x4 x5 x6 x7 f0 f1 f2 f3 f4 f5 f6 s0' s1 s2 s3 t0 t1 t2;go_wp2_with fail;go_roundg (many - (k+1))
   case measure=>exact we HGK
   case rel =>
    obtain⟨⟨k1,k2,k3⟩,k4⟩:=HST.o;rw [<-HRM.o.1,<-HRM.o.2] at *
    exact⟨k+1,X5,c5,Y5,d5,G5,n5,t',c',rfl,by go_num,ww,HLN.o,k1.drew,k2.below (Below.refl _ _).drew,k3.below (Below.refl _ _).drew,k4.drew⟩
end Go.Proofs.YtaboknhfiijipaaGreat
