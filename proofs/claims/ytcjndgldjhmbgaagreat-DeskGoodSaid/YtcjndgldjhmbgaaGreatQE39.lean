/- Lemmas, as stated. -/
import Derived.Test.YtcjndgldjhmbgaaGreatQE35
set_option linter.unusedVariables false
set_option linter.unusedSimpArgs false
set_option maxRecDepth 100000
set_option maxHeartbeats 8000000
open Go.Value renaming slice->aw,int->ax
namespace Go.Proofs.YtcjndgldjhmbgaaGreat
open Go.RowKit Go.Maps
theorem OwLo.open_ {w:World} {base:Nat} {v1 v2 v3 v4:Value} {l:LoP} {N:ai} (h:OwLo w base v1 v2 v3 v4 l N):∃p:LoW,v1= aw p.X l.st.aE.length p.cX/\v2= aw p.Y l.st.aF.length p.dY/\v3= aw p.G l.co.aI.length p.ng/\v4= aw p.F l.fs.length p.cF/\RdLo w p l:=h.rd
theorem z1l {aH:Nat} {os:List OrdP} (h:aH<=4000) (ho:∀o∈os,GoodD o) (hl:os.length<=78):GoodL (qP (lo0 aH) os).1:=by
 have h1:=(LInv.zero h).run (os:=os) wj ho;exact h1.good wj
theorem jF (A:ae) (n c:Nat) (l:List RawP) (z:Int) (w:World) (hl:l.length=n) (hc:n<=c) (hm:c<=maxLen) (hok:∀r∈l,RawOk r) (hr:Rd w 4 A n (rcs l)) (hz0: -9223372036854775808<=z) (hz1:z<=9223372036854775807) :
  Calls Tryz.prog 3 #[aw A n c,ax .i64 z] w fun e w'=>e= .returned (.bool true)/\Below w.heap.size w w':=by
 have HPK:=sqH (zY z 4001 4001 rfl w hz0 hz1 wj wj);have hpl:=yh z (m:=4001) wj;have HOR:=sqH (xe A n c l 60 60 rfl wj w hl hc hm hok hr);generalize pk z 4001=aH at *
 have HRM:=sqH (show aH<=4000 by omega);clear hl hc hm hok hr hz0 hz1 hpl;go_enter Tryz.func3,Tryz.ntmps3
 refine wH ?_;intros
 refine HPK.o.mono ?_;rintro e_ _ ⟨rfl,rfl⟩;dsimp only;clear HPK
 refine wH ?_;intros
 refine HOR.o.mono ?_;rintro e_ w1 ⟨v,os,rfl,hos,hgo,hol,hb1⟩;dsimp only;obtain⟨B,d,rfl,hd1,hd2,hrw⟩:=hos.rows;obtain⟨HRU,HGL,HB1⟩:=sqJ3 (Jl aH B os.length d os w1 HRM.o rfl wj hd1 hd2 hgo hrw) (z1l HRM.o hgo wj) hb1;clear hos hgo hol hb1 hd1 hd2 hrw HOR;generalize qP (lo0 aH) os=lr at *
 obtain⟨lo,rs⟩:=lr;dsimp only at HRU HGL
 refine wH ?_;intros
 refine HRU.o.mono ?_;rintro e_ w2 ⟨vr,v1,v2,v3,v4,rfl,hrx,hol,hb2⟩;dsimp only;obtain⟨Ar,cr,rfl,hcr,hcm,hRr⟩:=hrx.rwo.rows;obtain⟨⟨X,cX,Y,dY,G,ng,F,cF⟩,rfl,rfl,rfl,rfl,hlo⟩:=hol.rd;have HB2:=sqH (wg HB1.o hb2);have HLO:=sqH hlo;clear hrx hol hb2 hRr hcr hcm HRU HB1 hlo;obtain⟨w3,hw3⟩:=wU (w2.alloc (.cells #[aw X lo.st.aE.length cX,aw Y lo.st.aF.length dY,ax .i64 lo.st.aH,ax .i64 lo.st.aG,ax .i64 lo.co.aJ,aw G lo.co.aI.length ng,.string ⟨lo.co.at_.toArray⟩,aw F lo.fs.length cF] 33))
 obtain⟨g3,hg3⟩:=wU w2.heap.size
 have hA3:Arr w3 g3 33 [aw X lo.st.aE.length cX,aw Y lo.st.aF.length dY,ax .i64 lo.st.aH,ax .i64 lo.st.aG,ax .i64 lo.co.aJ,aw G lo.co.aI.length ng,.string ⟨lo.co.at_.toArray⟩,aw F lo.fs.length cF]:=by rw [hw3,hg3];exact Arr.new w2 33 _
 have hb3:Below w2.heap.size w2 w3:=by rw [hw3];exact(Below.refl _ _).alloc ab _
 obtain⟨HSV,HA3,HB3,HW3,HG3⟩:=sqJ5 (xh w3) hA3 hb3 hw3 hg3;clear hw3 hg3 hA3 hb3
 refine wH ?_;intros
 rw [<-HW3.o,<-HG3.o];refine wV HSV.o fun w4 hb4=>?_;dsimp only;obtain⟨x0,x1,x2,x3,x4,x5,x6,x7⟩:=sqC8 (HA3.o.below hb4);have hb24:=wg HB3.o hb4;have HEX:=sqH (vQ ⟨X,cX,Y,dY,G,ng,F,cF⟩ lo w4 HGL.o (HLO.o.below hb24));have HB4:=sqH (wg HB2.o hb24);clear hb4 hb24 HSV
 refine wH ?_;intros
 refine wV HEX.o fun w5 hb5=>?_;dsimp only;clear x0 x1 x2 x3 x4 x5 x6 x7;have HB5:=sqH (wg HB4.o hb5);clear hb5
 refine wH ?_;intros
 go_ret;exact⟨rfl,HB5.o⟩
end Go.Proofs.YtcjndgldjhmbgaaGreat
