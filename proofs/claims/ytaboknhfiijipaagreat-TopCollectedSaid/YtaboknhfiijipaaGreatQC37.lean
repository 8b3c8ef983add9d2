/- Lemmas, as stated. -/
import Derived.Test.YtaboknhfiijipaaGreatQC34
import Derived.Test.YtaboknhfiijipaaGreatQC35
import Derived.Test.YtaboknhfiijipaaGreatQC36
set_option linter.unusedVariables false
set_option linter.unusedSimpArgs false
set_option maxRecDepth 100000
set_option maxHeartbeats 16000000
open Go.Proofs.Tryz
open Go.Proofs.Tryz renaming prog->zZZ
open Go.Value renaming slice->aB,int->aC,string->aE
open Go.IntKind renaming i64->aD
open Go.Obj renaming cells->aF
open Option renaming none->aG,some->aH
open And renaming intro->aI
namespace Go.Proofs.YtaboknhfiijipaaGreat
open Go.RowKit Go.Maps
variable {l:LoP} {b' base g gR n:Nat} {v vo:Value} {w w':World} {xs:al} {N:an}
theorem JR {d:aj} (h:hexC d=0):d.length=64:=by
 unfold hexC at h;split at h
 ·cases h
 ·omega
theorem z4s (g:Nat) (p:LoW) (l:LoP) (kd n:Nat) (dg D:aj) (ps:List PartP) (A:ak) (c:Nat) (A':ak) (c':Nat) (w:World) (hL:GoodL l) (h3:D.length<=300) (hk:1<=kd/\kd<=4) (N:an) (hNg:N g) (hNw:∀b,N b->b<w.heap.size) (hb:DkB w g p l N) (hd:Sl w 1 A D.length c (bys D)) (hq:Sl w 3 A' ps.length c' (pcs ps)) :
  Calls zZZ 66 #[.pointer (aH ⟨g,0,aG⟩),orV kd n dg D ps A c A' c'] w (kb w g N (blobD l ⟨kd,n,dg,D,ps⟩)):=by
 have hc:kd=1\/kd=2\/(kd=3\/kd=4):=ww;rcases hc with h | h | h
 ·exact z2y g p l kd n dg D ps A c A' c' w hL h3 h N hNg hNw hb hd hq
 ·exact z2z g p l kd n dg D ps A c A' c' w hL h N hNg hNw hb hd hq
 ·exact z30 g p l kd n dg D ps A c A' c' w hL h N hNg hNw hb hd hq
theorem z5n (g:Nat) (p:LoW) (l:LoP) (kd n:Nat) (dg D:aj) (ps:List PartP) (A:ak) (c:Nat) (A':ak) (c':Nat) (w:World) (hL:GoodL l) (hx:hexC dg=0) (hpz:chk ps=0) (hck:l.st.aL<1099511627776) (hlen:l.st.aK.length<10) (hk:5<=kd/\kd<=8) (N:an) (hNg:N g) (hNw:∀b,N b->b<w.heap.size) (hb:DkB w g p l N) (hd:Sl w 1 A D.length c (bys D)) (hq:Sl w 3 A' ps.length c' (pcs ps)) :
  Calls zZZ 67 #[.pointer (aH ⟨g,0,aG⟩),orV kd n dg D ps A c A' c'] w (kb w g N (entD l ⟨kd,n,dg,D,ps⟩)):=by
 have hc:kd=5\/kd=6\/(kd=7\/kd=8):=ww;rcases hc with h | h | h
 ·exact z4t g p l kd n dg D ps A c A' c' w hL hx hpz hck hlen h N hNg hNw hb hd hq
 ·exact z4u g p l kd n dg D ps A c A' c' w hL hck h N hNg hNw hb hd hq
 ·exact z4v g p l kd n dg D ps A c A' c' w hL h N hNg hNw hb hd hq
theorem z4x (g:Nat) (p:LoW) (l:LoP) (kd n:Nat) (dg D:aj) (ps:List PartP) (A:ak) (c:Nat) (A':ak) (c':Nat) (w:World) (hL:GoodL l) (h8:8*unm l.st.aJ+l.co.aN.length<=1000) (hn:n<=4000) (hk:9<=kd/\kd<=11) (N:an) (hNg:N g) (hNw:∀b,N b->b<w.heap.size) (hb:DkB w g p l N) (hd:Sl w 1 A D.length c (bys D)) (hq:Sl w 3 A' ps.length c' (pcs ps)) :
  Calls zZZ 68 #[.pointer (aH ⟨g,0,aG⟩),orV kd n dg D ps A c A' c'] w (kb w g N (roomD l ⟨kd,n,dg,D,ps⟩)):=by
 have hc:kd=9\/kd=10\/kd=11:=ww;rcases hc with h | h | h
 ·exact z3c g p l kd n dg D ps A c A' c' w hL hn h N hNg hNw hb hd hq
 ·exact z0e g p l kd n dg D ps A c A' c' w hL h N hNg hNw hb hd hq
 ·exact z0f g p l kd n dg D ps A c A' c' w hL h8 hn h N hNg hNw hb hd hq
theorem z5o (g:Nat) (p:LoW) (l:LoP) (kd n:Nat) (dg D:aj) (ps:List PartP) (A:ak) (c:Nat) (A':ak) (c':Nat) (w:World) (hL:GoodL l) (hx:hexC dg=0) (hpz:chk ps=0) (hck:l.st.aL<1099511627776) (hlen:l.st.aK.length<10) (hn1:kd=12->1<=n/\n<=1000) (hk:12<=kd/\kd<=14) (N:an) (hNg:N g) (hNw:∀b,N b->b<w.heap.size) (hb:DkB w g p l N) (hd:Sl w 1 A D.length c (bys D)) (hq:Sl w 3 A' ps.length c' (pcs ps)) :
  Calls zZZ 69 #[.pointer (aH ⟨g,0,aG⟩),orV kd n dg D ps A c A' c'] w (kb w g N (fliD l ⟨kd,n,dg,D,ps⟩)):=by
 have hc:kd=12\/kd=13\/kd=14:=ww;rcases hc with h | h | h
 ·exact z38 g p l kd n dg D ps A c A' c' w hL hx (by have:=JR hx;omega) (hn1 h).1 (hn1 h).2 hck h N hNg hNw hb hd hq
 ·exact z39 g p l kd n dg D ps A c A' c' w hL hx hpz hck hlen h N hNg hNw hb hd hq
 ·exact z3a g p l kd n dg D ps A c A' c' w hL h N hNg hNw hb hd hq
theorem z3l {o:OrdP} (h:GoodO o):o.dig= []\/hexC o.dig=0:=by
 cases hf:(fOf o.kind).1.dig with
 | false=>exact .inl (h.d0 hf)
 | true=>exact .inr (h.d1 hf)
theorem z0d (kd n:Nat) (dg D:aj) (ps:List PartP) (A:ak) (c:Nat) (A':ak) (c':Nat) (w:World) (ho:GoodO ⟨kd,n,dg,D,ps⟩) (hq:Sl w 3 A' ps.length c' (pcs ps)) :
  Calls zZZ 47 #[orV kd n dg D ps A c A' c'] w fun e w'=>e= .returned (aC aD 0)/\Below w.heap.size w w':=by
 have hdl:dg.length<=140737488351232:=by
  rcases z3l ho with h | h
  ·have h:dg= []:=h;rw [h];simp
  ·have:=JR h;have:dg.length=64:=this;omega
 have hp8:=(zj ho.p1).1;have hpm:ps.length<=9223372036854775807:=by have:ps.length<=8:=hp8;omega
 have hok:=ug ho.p1;have hcz:chk ps=0:=ho.p1;have hn4:n<=4000:=ho.n1;have ht3:D.length<=300:=ho.t1;obtain⟨⟨fn,fd,ft,fp⟩,hff⟩:∃f,fOf kd=(f,true):=⟨(fOf kd).1,by
  have:=ho.kind;show fOf kd=_;rw [<-show(fOf kd).2=true from this]⟩
 have h1:fn=false->n=0:=fun h=>ho.n0 (by show(fOf kd).1.n=false;rw [hff];exact h);have h2:fd=false->dg= []:=fun h=>ho.d0 (by show(fOf kd).1.dig=false;rw [hff];exact h);have h3:ft=false->D.length=0:=fun h=>by rw [show D= [] from ho.t0 (by show(fOf kd).1.data=false;rw [hff];exact h)];rfl
 have h4:fp=false->ps.length=0:=fun h=>by rw [show ps= [] from ho.p0 (by show(fOf kd).1.aQ=false;rw [hff];exact h)];rfl
 have h5:fd=true->hexC dg=0:=fun h=>ho.d1 (by show(fOf kd).1.dig=true;rw [hff];exact h);have hsh:(fn=false/\fd=false/\ft=true/\fp=false)\/(fn=false/\fd=true/\ft=false/\fp=false)\/(fn=false/\fd=true/\ft=false/\fp=true)\/(fn=true/\fd=false/\ft=false/\fp=false)\/(fn=false/\fd=false/\ft=false/\fp=false)\/(fn=true/\fd=true/\ft=false/\fp=false):=by
  have hz:=hff;unfold fOf at hz
  repeat' split at hz
  all_goals first | (cases hz;simp;done) | cases hz
 unfold orV;obtain⟨S,hS⟩:=wY (⟨dg.toArray⟩:ByteArray)
 have HX:=sqH (fun (h:fd=true) w'=>kE 0 (r:=0) ae (show hexC S.data.toList=0 by rw [hS];exact h5 h) w' (by rw [hS];simpa [ByteArray.size] using hdl));have e2':fd=false->S.toList.isEmpty=true:=fun h=>by rw [hS,h2 h,ByteArray.toList,ByteArray.toList.loop];simp [ByteArray.size]
 rw [<-hS];generalize hdl':D.length=dl at *
 obtain⟨w1,hw1⟩:=wY (w.alloc (aF #[aC aD kd,aC aD n,aE S,aB A dl c,aB A' ps.length c'] 29))
 have hof:=z4z kd w1;unfold z3g at hof;rw [hff]at hof;simp only [fcs]at hof;have hb1:Below w.heap.size w w1:=by rw [hw1];exact(Below.refl _ _).alloc ai _
 have hr1:Rd w1 3 A' ps.length (pcs ps):=hq.rd.below hb1;have hA1:Arr w1 w.heap.size 29 [aC aD kd,aC aD n,aE S,aB A dl c,aB A' ps.length c']:=by rw [hw1];exact Arr.new w 29 _
 obtain⟨g,hg⟩:=wY w.heap.size
 rw [<-hg]at hA1;have HAF:=sqH (show ∀w2,Below w1.heap.size w1 w2->∃w3,w3=w2.alloc (aF #[.bool fn,.bool fd,.bool ft,.bool fp] 105)/\Below w.heap.size w w3/\Arr w3 g 29 [aC aD kd,aC aD n,aE S,aB A dl c,aB A' ps.length c']/\Rd w3 3 A' ps.length (pcs ps) from fun w2 h =>
  have hb:=wo hb1 h
  ⟨_,rfl,hb.alloc hb.size _,(hA1.below h).alloc _,(hr1.below h).alloc _⟩)
 have HCK:=sqH (fun w' (hw:Rd w' 3 A' ps.length (pcs ps))=>xn A' ps.length c' ps w' rfl hq.cap hpm hok hw);rw [hcz]at HCK;have f0:=hA1.c0;rw [hw1]at f0;obtain⟨HOF,HW1,HG⟩:=sqJ3 hof hw1 hg;have e5:decide ((n:Int)<0)=false:=decide_eq_false ww;have e6:decide ((4000:Int)<(n:Int))=false:=decide_eq_false ww;have e8:decide ((300:Int)<(dl:Int))=false:=decide_eq_false ww;have e9:decide (300<dl)=false:=decide_eq_false ww;clear hof hff hS hok hcz hw1 hb1 hr1 hg hp8 hpm hdl hn4 hdl' h2 h5 ho hq;rcases hsh with ⟨rfl,rfl,rfl,rfl⟩ | ⟨rfl,rfl,rfl,rfl⟩ | ⟨rfl,rfl,rfl,rfl⟩ | ⟨rfl,rfl,rfl,rfl⟩ | ⟨rfl,rfl,rfl,rfl⟩ | ⟨rfl,rfl,rfl,rfl⟩
 all_goals (
  first | (have e1:((n:Int) != 0)=false:=by rw [h1 rfl];rfl) | skip
  first | (have e2:=e2' rfl) | skip
  first | (have e3:decide ((0:Int)<(dl:Int))=false:=decide_eq_false (by have:=h3 rfl;omega)) | skip
  first | (have e3':decide (0<dl)=false:=decide_eq_false (by have:=h3 rfl;omega)) | skip
  first | (have e4:decide ((0:Int)<(ps.length:Int))=false:=decide_eq_false (by have:=h4 rfl;omega)) | skip
  first | (have e4':decide (0<ps.length)=false:=decide_eq_false (by have:=h4 rfl;omega)) | skip
  clear h1 h3 h4 e2';go_enter func47,ntmps47
  refine wL ?_;intros;rw [<-HW1.o];simp only [<-HG.o];clear f0 hA1;refine wZ HOF.o fun w2 hb2=>?_;dsimp only;obtain⟨w3,hw3,hB3,hA3,hr3⟩:=HAF.o w2 hb2;have f1:=hA3.c1;have f2:=hA3.c2;have f3:=hA3.c3;have f4:=hA3.c4;rw [hw3]at f1 f2 f3 f4;have HW3:=sqH hw3;have HB3:=sqH hB3;clear hb2 hw3 hB3
  refine wL ?_;intros;rw [<-HW3.o]at f1 f2 f3 f4 ⊢
  first
  | (
    refine wZ (HCK.o w3 hr3) fun w5 hb5=>?_;dsimp only;clear f1 f2 f3 f4 hA3 hr3
    refine wL ?_;intros;go_ret;exact⟨rfl,wo HB3.o hb5⟩)
  | (
    refine wZ (HX.o rfl w3) fun w4 hb4=>?_;dsimp only;clear f1 f2 f3 f4;have hA4:=hA3.below hb4;have hr4:=hr3.below hb4;have f3:=hA4.c3;have f4:=hA4.c4;have HB4:=sqH (wo HB3.o hb4);clear hA3 hr3 hA4 hb4
    refine wL ?_;intros;refine wZ (HCK.o w4 hr4) fun w5 hb5=>?_;dsimp only;clear f3 f4 hr4
    refine wL ?_;intros;go_ret;exact⟨rfl,wo HB4.o hb5⟩))
theorem z3b (g:Nat) (p:LoW) (l:LoP) (kd n:Nat) (dg D:aj) (ps:List PartP) (A:ak) (c:Nat) (A':ak) (c':Nat) (w:World) (m:Nat) (hi:LInv m l) (hm:m<=78) (ho:GoodD ⟨kd,n,dg,D,ps⟩) (N:an) (hNg:N g) (hNw:∀b,N b->b<w.heap.size) (hb:DkB w g p l N) (hd:Sl w 1 A D.length c (bys D)) (hq:Sl w 3 A' ps.length c' (pcs ps)) :
  Calls zZZ 31 #[.pointer (aH ⟨g,0,aG⟩),orV kd n dg D ps A c A' c'] w (kb w g N (xi l ⟨kd,n,dg,D,ps⟩)):=by
 have hL:=hi.good hm;have hck:l.st.aL<1099511627776:=by have:=hi.b.ck;omega
 have hlen:l.st.aK.length<10:=by have:=hi.b.e7;omega
 have h8:8*unm l.st.aJ+l.co.aN.length<=1000:=by have:=hi.b.gr;omega
 have hk14:1<=kd/\kd<=14:=z3p ho.g.kind;have hx:(5<=kd/\kd<=8)\/12<=kd->hexC dg=0:=fun h=>by
  obtain⟨j,_,e⟩:=ho.k7 h;rw [show dg=keyS j from e];exact zr _
 have HC:=sqH (aI hck (aI hlen (aI h8 (aI hk14 (aI hx ho)))));clear hi hck hlen h8 hk14 hx;have HGO:=sqH ho;clear ho;obtain⟨X,cX,Y,dY,G,ng,F,cF⟩:=p;obtain⟨s,co,fs⟩:=l;obtain⟨w0,H,HDK,HBC,hws,HBX,HD,HQ,hHw,hHw1,hgH,hHl,hgl,hgw,HP,HR,HL,HNW,x0,x1,x2,x3,x4,HW0,HH⟩:=Yu kd n dg D ps A c A' c' hL hNw hb hd hq;clear hb hd hq hL hNw;go_enter func31,ntmps31
 refine wL ?_;intros;rw [<-HW0.o,<-HH.o];clear x0 x1 x2 x3 x4;refine wZ ((z0d kd n dg D ps A c A' c' w0 HGO.o.g HQ.o)) fun w1 hb1=>?_;dsimp only;have HNW1:=sqH (show ∀b,(N b\/b=H+1)->b<w1.heap.size from fun b hb=>by have:=hb1.size;rcases hb with hb | hb;(have:=HNW.o b hb;omega);omega);have hb0:=(HDK.o _ hb1).mono (N':=fun b=>N b\/b=H+1) (fun b hb=>hb.imp id fun h=>ww);by_cases h4:kd<=4
 ·have c4:decide ((kd:Int)<=4)=true:=decide_eq_true ww;have c4':decide (kd<=4)=true:=decide_eq_true h4;have HK:=sqH h4;clear h4;have HM:=sqH (z4s g _ ⟨s,co,fs⟩ kd n dg D ps A c A' c' w1 HL.o HGO.o.g.t1 (by have:=HC.o.2.2.2.1;have:=HK.o;omega) (fun b=>N b\/b=H+1) (.inl hNg) HNW1.o hb0 (HD.o.below hb1) (HQ.o.below hb1));obtain⟨o0,o1,o2,o3,o4⟩:=sqC5 (HP.o w1 hb1);have HB:=sqH hb1;clear hb1
  refine wL ?_;intros;refine(HM.o).mono ?_;rintro e_ w2 ⟨dv,pv,wv,rfl,hg2,hd2,hra⟩;dsimp only;obtain⟨P1,q1,rfl, -, -⟩:=Rd.of_own' hra.d;obtain⟨P2,q2,rfl, -, -⟩:=Rd.of_own' hra.p;obtain⟨P3,q3,rfl, -, -⟩:=Rd.of_own' hra.w;have hr3:=(HR.o _ HB.o).grown hg2 ag;have HX:=sqH (aI hd2 (aI (zS (HBX.o.trans (HB.o.mono hws)) hg2) (aI hr3 hra)));clear o0 o1 o2 o3 o4 hg2 hd2 hra HM;have e1:xi ⟨s,co,fs⟩ ⟨kd,n,dg,D,ps⟩=blobD ⟨s,co,fs⟩ ⟨kd,n,dg,D,ps⟩:=(by unfold xi;rw [if_pos HK.o])
  have HE1:=sqH e1;clear e1;generalize hrr:blobD ⟨s,co,fs⟩ ⟨kd,n,dg,D,ps⟩=r at *
  obtain⟨l2,r⟩:=r;dsimp only at HX hr3 ⊢
  clear hrr;obtain⟨f0,f1,f2,f3,f4,f5⟩:=sqF6 hr3;obtain⟨y0,y1,y2,y3,y4,y5⟩:=sqC6 hr3;have HR3:=sqH hr3;have HF:=sqH (hr3.all6 (aC aD r.err) (aE ⟨r.dig.toArray⟩) (aB P1 r.data.length q1) (aB P2 r.aQ.length q2) (aC aD r.n) (aB P3 r.who.length q3));clear hr3
  refine wL ?_;intros;refine bodyPost_ret (results_cell_row rfl _ _ (H+1) _ _ _ _ ae HF.o underlying47 rfl aa) rfl ?_;rw [HE1.o];obtain⟨⟨p',hd4⟩,hg5,hr5,hra⟩:=HX.o;have hs1:w.heap.size<=w1.heap.size:=Nat.le_trans hws HB.o.size;have hra2:RepAt w2 w.heap.size r (aB P1 r.data.length q1) (aB P2 r.aQ.length q2) (aB P3 r.who.length q3):=⟨zb hra.d hs1,zb hra.p hs1,zb hra.w hs1⟩
  exact⟨_,_,_,rfl,zm hg5 hHw1 _ _ _ _ _ _,⟨p',(hd4.set6 hr5 (.inr rfl) hgH _ _ _ _ _ _).mono fun b h=> .inl h⟩,hra2.set6 hr5 _ _ _ _ _ _⟩
 ·have c4:decide ((kd:Int)<=4)=false:=decide_eq_false ww;have c4':decide (kd<=4)=false:=decide_eq_false h4;by_cases h5:kd<=8
  ·have c8:decide ((kd:Int)<=8)=true:=decide_eq_true ww;have HK:=sqH (aI h4 h5);clear h4 h5;have HM:=sqH (z5n g _ ⟨s,co,fs⟩ kd n dg D ps A c A' c' w1 HL.o (HC.o.2.2.2.2.1 (we HK)) HGO.o.g.p1 HC.o.1 HC.o.2.1 (we HK) (fun b=>N b\/b=H+1) (.inl hNg) HNW1.o hb0 (HD.o.below hb1) (HQ.o.below hb1));obtain⟨o0,o1,o2,o3,o4⟩:=sqC5 (HP.o w1 hb1);have HB:=sqH hb1;clear hb1
   refine wL ?_;intros;refine(HM.o).mono ?_;rintro e_ w2 ⟨dv,pv,wv,rfl,hg2,hd2,hra⟩;dsimp only;obtain⟨P1,q1,rfl, -, -⟩:=Rd.of_own' hra.d;obtain⟨P2,q2,rfl, -, -⟩:=Rd.of_own' hra.p;obtain⟨P3,q3,rfl, -, -⟩:=Rd.of_own' hra.w;have hr3:=(HR.o _ HB.o).grown hg2 ag;have HX:=sqH (aI hd2 (aI (zS (HBX.o.trans (HB.o.mono hws)) hg2) (aI hr3 hra)));clear o0 o1 o2 o3 o4 hg2 hd2 hra HM;have e1:xi ⟨s,co,fs⟩ ⟨kd,n,dg,D,ps⟩=entD ⟨s,co,fs⟩ ⟨kd,n,dg,D,ps⟩:=(by unfold xi;rw [if_neg HK.o.1,if_pos HK.o.2])
   have HE1:=sqH e1;clear e1;generalize hrr:entD ⟨s,co,fs⟩ ⟨kd,n,dg,D,ps⟩=r at *
   obtain⟨l2,r⟩:=r;dsimp only at HX hr3 ⊢
   clear hrr;obtain⟨f0,f1,f2,f3,f4,f5⟩:=sqF6 hr3;obtain⟨y0,y1,y2,y3,y4,y5⟩:=sqC6 hr3;have HR3:=sqH hr3;have HF:=sqH (hr3.all6 (aC aD r.err) (aE ⟨r.dig.toArray⟩) (aB P1 r.data.length q1) (aB P2 r.aQ.length q2) (aC aD r.n) (aB P3 r.who.length q3));clear hr3
   refine wL ?_;intros;refine bodyPost_ret (results_cell_row rfl _ _ (H+1) _ _ _ _ ae HF.o underlying47 rfl aa) rfl ?_;rw [HE1.o];obtain⟨⟨p',hd4⟩,hg5,hr5,hra⟩:=HX.o;have hs1:w.heap.size<=w1.heap.size:=Nat.le_trans hws HB.o.size;have hra2:RepAt w2 w.heap.size r (aB P1 r.data.length q1) (aB P2 r.aQ.length q2) (aB P3 r.who.length q3):=⟨zb hra.d hs1,zb hra.p hs1,zb hra.w hs1⟩
   exact⟨_,_,_,rfl,zm hg5 hHw1 _ _ _ _ _ _,⟨p',(hd4.set6 hr5 (.inr rfl) hgH _ _ _ _ _ _).mono fun b h=> .inl h⟩,hra2.set6 hr5 _ _ _ _ _ _⟩
  ·have c8:decide ((kd:Int)<=8)=false:=decide_eq_false ww;by_cases h11:kd<=11
   ·have c11:decide ((kd:Int)<=11)=true:=decide_eq_true ww;have HK:=sqH (aI h4 (aI h5 h11));clear h4 h5 h11;have HM:=sqH (z4x g _ ⟨s,co,fs⟩ kd n dg D ps A c A' c' w1 HL.o HC.o.2.2.1 HGO.o.g.n1 (we HK) (fun b=>N b\/b=H+1) (.inl hNg) HNW1.o hb0 (HD.o.below hb1) (HQ.o.below hb1));obtain⟨o0,o1,o2,o3,o4⟩:=sqC5 (HP.o w1 hb1);have HB:=sqH hb1;clear hb1
    refine wL ?_;intros;refine(HM.o).mono ?_;rintro e_ w2 ⟨dv,pv,wv,rfl,hg2,hd2,hra⟩;dsimp only;obtain⟨P1,q1,rfl, -, -⟩:=Rd.of_own' hra.d;obtain⟨P2,q2,rfl, -, -⟩:=Rd.of_own' hra.p;obtain⟨P3,q3,rfl, -, -⟩:=Rd.of_own' hra.w;have hr3:=(HR.o _ HB.o).grown hg2 ag;have HX:=sqH (aI hd2 (aI (zS (HBX.o.trans (HB.o.mono hws)) hg2) (aI hr3 hra)));clear o0 o1 o2 o3 o4 hg2 hd2 hra HM;have e1:xi ⟨s,co,fs⟩ ⟨kd,n,dg,D,ps⟩=roomD ⟨s,co,fs⟩ ⟨kd,n,dg,D,ps⟩:=(by unfold xi;rw [if_neg HK.o.1,if_neg HK.o.2.1,if_pos HK.o.2.2])
    have HE1:=sqH e1;clear e1;generalize hrr:roomD ⟨s,co,fs⟩ ⟨kd,n,dg,D,ps⟩=r at *
    obtain⟨l2,r⟩:=r;dsimp only at HX hr3 ⊢
    clear hrr;obtain⟨f0,f1,f2,f3,f4,f5⟩:=sqF6 hr3;obtain⟨y0,y1,y2,y3,y4,y5⟩:=sqC6 hr3;have HR3:=sqH hr3;have HF:=sqH (hr3.all6 (aC aD r.err) (aE ⟨r.dig.toArray⟩) (aB P1 r.data.length q1) (aB P2 r.aQ.length q2) (aC aD r.n) (aB P3 r.who.length q3));clear hr3
    refine wL ?_;intros;refine bodyPost_ret (results_cell_row rfl _ _ (H+1) _ _ _ _ ae HF.o underlying47 rfl aa) rfl ?_;rw [HE1.o];obtain⟨⟨p',hd4⟩,hg5,hr5,hra⟩:=HX.o;have hs1:w.heap.size<=w1.heap.size:=Nat.le_trans hws HB.o.size;have hra2:RepAt w2 w.heap.size r (aB P1 r.data.length q1) (aB P2 r.aQ.length q2) (aB P3 r.who.length q3):=⟨zb hra.d hs1,zb hra.p hs1,zb hra.w hs1⟩
    exact⟨_,_,_,rfl,zm hg5 hHw1 _ _ _ _ _ _,⟨p',(hd4.set6 hr5 (.inr rfl) hgH _ _ _ _ _ _).mono fun b h=> .inl h⟩,hra2.set6 hr5 _ _ _ _ _ _⟩
   ·have c11:decide ((kd:Int)<=11)=false:=decide_eq_false ww;have HK:=sqH (aI h4 (aI h5 h11));clear h4 h5 h11;have HM:=sqH (z5o g _ ⟨s,co,fs⟩ kd n dg D ps A c A' c' w1 HL.o (HC.o.2.2.2.2.1 (we HK)) HGO.o.g.p1 HC.o.1 HC.o.2.1 HGO.o.ask (by have:=HK.o;have:=HC.o.2.2.2.1;omega) (fun b=>N b\/b=H+1) (.inl hNg) HNW1.o hb0 (HD.o.below hb1) (HQ.o.below hb1));obtain⟨o0,o1,o2,o3,o4⟩:=sqC5 (HP.o w1 hb1);have HB:=sqH hb1;clear hb1
    refine wL ?_;intros;refine(HM.o).mono ?_;rintro e_ w2 ⟨dv,pv,wv,rfl,hg2,hd2,hra⟩;dsimp only;obtain⟨P1,q1,rfl, -, -⟩:=Rd.of_own' hra.d;obtain⟨P2,q2,rfl, -, -⟩:=Rd.of_own' hra.p;obtain⟨P3,q3,rfl, -, -⟩:=Rd.of_own' hra.w;have hr3:=(HR.o _ HB.o).grown hg2 ag;have HX:=sqH (aI hd2 (aI (zS (HBX.o.trans (HB.o.mono hws)) hg2) (aI hr3 hra)));clear o0 o1 o2 o3 o4 hg2 hd2 hra HM;have e1:xi ⟨s,co,fs⟩ ⟨kd,n,dg,D,ps⟩=fliD ⟨s,co,fs⟩ ⟨kd,n,dg,D,ps⟩:=(by unfold xi;rw [if_neg HK.o.1,if_neg HK.o.2.1,if_neg HK.o.2.2])
    have HE1:=sqH e1;clear e1;generalize hrr:fliD ⟨s,co,fs⟩ ⟨kd,n,dg,D,ps⟩=r at *
    obtain⟨l2,r⟩:=r;dsimp only at HX hr3 ⊢
    clear hrr;obtain⟨f0,f1,f2,f3,f4,f5⟩:=sqF6 hr3;obtain⟨y0,y1,y2,y3,y4,y5⟩:=sqC6 hr3;have HR3:=sqH hr3;have HF:=sqH (hr3.all6 (aC aD r.err) (aE ⟨r.dig.toArray⟩) (aB P1 r.data.length q1) (aB P2 r.aQ.length q2) (aC aD r.n) (aB P3 r.who.length q3));clear hr3
    refine wL ?_;intros;refine bodyPost_ret (results_cell_row rfl _ _ (H+1) _ _ _ _ ae HF.o underlying47 rfl aa) rfl ?_;rw [HE1.o];obtain⟨⟨p',hd4⟩,hg5,hr5,hra⟩:=HX.o;have hs1:w.heap.size<=w1.heap.size:=Nat.le_trans hws HB.o.size;have hra2:RepAt w2 w.heap.size r (aB P1 r.data.length q1) (aB P2 r.aQ.length q2) (aB P3 r.who.length q3):=⟨zb hra.d hs1,zb hra.p hs1,zb hra.w hs1⟩
    exact⟨_,_,_,rfl,zm hg5 hHw1 _ _ _ _ _ _,⟨p',(hd4.set6 hr5 (.inr rfl) hgH _ _ _ _ _ _).mono fun b h=> .inl h⟩,hra2.set6 hr5 _ _ _ _ _ _⟩
theorem RwX.set1R {k:Nat} {rs:List RepP} {u:Value} (h:RwX z0w 47 w base v rs (fun b=>b<=g)) (hg:gR<=g) (hA:Arr w gR 40 xs):RwX z0w 47 (w.setCell ⟨gR,k,aG⟩ u) base v rs (fun b=>b<=g):=by
 obtain⟨ys,hy⟩:=h.own_m;exact h.other (zV w gR k u) (fun b e=>by cases e;exact zf hy hA ab) (fun b e=>by cases e;exact hg)
theorem RwX.set8R {rs:List RepP} {x0 x1 x2 x3 x4 x5 x6 x7:Value} (h:RwX z0w 47 w base v rs (fun b=>b<=g)) (hg:gR<=g) (hA:Arr w gR 40 [x0,x1,x2,x3,x4,x5,x6,x7]) (u0 u1 u2 u3 u4 u5 u6 u7:Value):RwX z0w 47 (z02 w gR u0 u1 u2 u3 u4 u5 u6 u7) base v rs (fun b=>b<=g):=by
 have a0:=hA.set (k:=0) ac u0;have a1:=a0.set (k:=1) ac u1;have a2:=a1.set (k:=2) ac u2;have a3:=a2.set (k:=3) ac u3;have a4:=a3.set (k:=4) ac u4;have a5:=a4.set (k:=5) ac u5;have a6:=a5.set (k:=6) ac u6;exact(((((((h.set1R hg hA).set1R hg a0).set1R hg a1).set1R hg a2).set1R hg a3).set1R hg a4).set1R hg a5).set1R hg a6
theorem vQ {P:Program} {fn:Func} {p u z:Tmp} {ty:TypeId} (h:fn.results=#[.tmp u,.cell p ty,.tmp z]) (tmps:Array Value) (w:World) (g:Nat) (t:TypeId) (cs:Array Value) (fr:Nat×Nat) (d:TypeDesc)
  (hp:tmps.getD p undef= .pointer (aH ⟨g,0,aG⟩)) (hg:w.heap[g]?=aH (.cells cs t fr))
  (hu:P.underlying ty=aH d) (hd:(match d with | .struct _ | .array _ _=>true | _=>false)=true) (hi:(P.info? ty).map (·.size)=aH cs.size) :
  (results fn tmps).run P w= .ok (.tuple #[tmps.getD u undef,.agg cs,tmps.getD z undef]) w:=by
 have hp':tmps[p]?.getD undef= .pointer (aH ⟨g,0,aG⟩):=by simpa using hp
 simp [results,h,hp',asAddr,run_loadVar_row w g t ty cs fr d hg hu hd hi]
theorem OwLo.grownR {v1 v2 v3 v4:Value} (h:OwLo w base v1 v2 v3 v4 l N) (hx:w.ownsRow b' 47 6 vo n xs) (hg:w.grownBy w' vo.ownBlock) (hN:∀b,vo.ownBlock=aH b->N b):OwLo w' base v1 v2 v3 v4 l N:=by
 obtain⟨xs1,hx1⟩:=h.s.b.own_m;obtain⟨xs2,hx2⟩:=h.s.e.own_m;have kp:∀ {e:TypeId} {size m:Nat} {v:Value} {ys:al},w.ownsRow base e size v m ys->e≠47->w'.ownsRow base e size v m ys:=fun ho hne=>ho.kept hg (by
  rename_i v ys;cases hb:v.ownBlock with
  | none=>exact .inl rfl
  | some b=>exact .inr (fun e=>uK ho hx hne b hb e.symm))
 refine⟨⟨h.s.b.other hg (fun b e1 e2=>uK hx1 hx ab b e2 e1) (fun b e=> .inl (hN b e)),h.s.e.other hg (fun b e1 e2=>uK hx2 hx ab b e2 e1) (fun b e=> .inl (hN b e)),h.s.ne⟩,kp h.c ab,?_⟩;obtain⟨As,h1,h2,h3,h4⟩:=h.f;exact⟨As,h1,kp h2 ab,fun k p a hp ha=>⟨kp (h3 k p a hp ha).1 ab,(h3 k p a hp ha).2⟩,h4⟩
theorem DkB.grownR {p:LoW} (h:DkB w g p l N) (hx:w.ownsRow b' 47 6 vo n xs) (hg:w.grownBy w' vo.ownBlock) (hN:∀b,vo.ownBlock=aH b->N b):DkB w' g p l N :=
 ⟨h.box.grown hg (zf hx h.box ab),h.own.grownR hx hg hN⟩
theorem z4y (aM:Nat) (A:ak) (n c:Nat) (os:List OrdP) (w:World) (hroom:aM<=4000) (hl:os.length=n) (hn:n<=79) (hc:n<=c) (hm:c<=maxLen) (hgo:∀o∈os,GoodD o) (hr:Rw OrdS w A os) :
  Calls zZZ 10 #[aC aD aM,aB A n c] w fun e w'=>∃vr v1 v2 v3 v4,e= .returned (.tuple #[vr,Yz v1 v2 v3 v4 (yr (lo0 aM) os).1,aC aD 0])/\RwX z0w 47 w' w.heap.size vr (yr (lo0 aM) os).2 (fun b=>b<w.heap.size)/\OwLo w' w.heap.size v1 v2 v3 v4 (yr (lo0 aM) os).1 (fun b=>b<w.heap.size)/\Below w.heap.size w w':=by
 obtain⟨w1,hw1,hR,hB,hbx⟩:=zI w 40 82 [aB aG 0 0,aB aG 0 0,aC aD 0,aC aD 0,aC aD 0,aB aG 0 0,aE ⟨#[]⟩,aB aG 0 0] [aB aG 0 0,aB aG 0 0,aC aD aM,aC aD 0,aC aD 0,aB aG 0 0,aE ⟨#[]⟩,aB aG 0 0];have hr0:decide ((aM:Int)<0)=false:=decide_eq_false ww;have hr1:decide ((aM:Int)>4000)=false:=decide_eq_false ww;have hr2:decide ((4000:Int)<(aM:Int))=false:=decide_eq_false ww;have hr3:decide (4000<aM)=false:=decide_eq_false ww;have hn0:decide ((n:Int)>80)=false:=decide_eq_false ww;have hn1:decide ((80:Int)<(n:Int))=false:=decide_eq_false ww;have hn2:decide (80<n)=false:=decide_eq_false ww;obtain⟨gR,hgR⟩:=wY w.heap.size
 obtain⟨g,hg⟩:=wY (w.heap.size+1)
 rw [<-hg]at hB;rw [<-hgR]at hR;have hgg:g=gR+1:=ww;have hgl:g<w1.heap.size:=hB.lt;have hDB0:DkB w1 g ⟨aG,0,aG,0,aG,0,aG,0⟩ (lo0 aM) (fun b=>b<=g\/(aB aG 0 0).ownBlock=aH b):=⟨hB,⟨⟨RwX.nil_ (World.ownsRow_nil _ _ _ _),RwX.nil_ (World.ownsRow_nil _ _ _ _),fun g h=>by cases h⟩,World.ownsRow_nil _ _ _ _,FlsO.nil_ _ _ _ (World.ownsRow_nil _ _ _ _)⟩⟩
 obtain⟨HDB0,HL,HGO,HRD,HW1,HBX,HGR,HGG⟩:=sqJ8 hDB0 hl hgo hr hw1 hbx hgR hg;have HR:=sqH hR;have hn63:n<=79:=hn;clear hl hgo hr hw1 hbx hgR hg hR hB hDB0 hm;go_enter func10,ntmps10
 refine wL ?_;intros;rw [<-HW1.o];simp only [<-HGR.o];rw [<-hgg];have hgR1:gR<g:=ww;have hgR2:∀b,b<w.heap.size->b<=g:=fun b h=>by have:=HGR.o;omega
 clear hgg;clear hr0 hr1 hr2 hr3 hn0 hn1 hn2;go_loopg [8,32] n (fun gn vo vi wr=>∃(i:Nat) (p:LoW),gn=n - i/\vi= aC aD i/\i<=n/\Below w.heap.size w wr/\DkB wr g p (yr (lo0 aM) (os.take i)).1 (fun b=>b<=g\/vo.ownBlock=aH b)/\RwX z0w 47 wr w.heap.size vo (yr (lo0 aM) (os.take i)).2 (fun b=>b<=g)/\Arr wr gR 40 [aB aG 0 0,aB aG 0 0,aC aD 0,aC aD 0,aC aD 0,aB aG 0 0,aE ⟨#[]⟩,aB aG 0 0])
 case atStart=>exact⟨0,_,rfl,rfl,Nat.zero_le _,HBX.o,HDB0.o,RwX.nil_ (World.ownsRow_nil _ _ _ _),HR.o⟩
 case round =>
  obtain⟨i,p,hgk,rfl,hi,hbel,hdb,hrx,hra⟩:=hrel;obtain⟨HGK,HBE,HDB,HRX,HRA⟩:=sqJ5 hgk hbel hdb hrx hra;have hwr:w.heap.size<=wr.heap.size:=hbel.size;have hgr:g<wr.heap.size:=hdb.lt;have HINV:=sqH (show LInv i (yr (lo0 aM) (os.take i)).1 from by
   have h:=(LInv.zero hroom).run (os:=os.take i) (by rw [List.length_take];omega) (fun o ho=>HGO.o o (List.mem_of_mem_take ho));rw [List.length_take,HL.o,Nat.min_eq_left hi,Nat.zero_add]at h;exact h)
  clear hgk hdb hrx hra;by_cases hlt:i<n
  rotate_left
  ·obtain rfl:i=n:=by omega
   have hcc:decide (i<i)=false:=ac;have hci:decide ((i:Int)<(i:Int))=false:=ac;have hot:os.take i=os:=List.take_of_length_le (by rw [HL.o];exact Nat.le_refl _);have hdb:=HDB.o;have hrx:=HRX.o;rw [hot]at hdb hrx;clear HINV hot HDB HRX;obtain⟨lr,hlr⟩:=wY (yr (lo0 aM) os)
   rw [<-hlr]at hdb hrx;have HLR:=sqH hlr;clear hlr;obtain⟨l,rs⟩:=lr;dsimp only at hdb hrx;obtain⟨X,cX,Y,dY,G,ng,F,cF⟩:=p;have hra:=HRA.o;have hbb:Arr wr g 82 [aB X l.st.aJ.length cX,aB Y l.st.aK.length dY,aC aD l.st.aM,aC aD l.st.aL,aC aD l.co.aO,aB G l.co.aN.length ng,aE ⟨l.co.at_.toArray⟩,aB F l.fs.length cF]:=hdb.box;obtain⟨HF,HO8,HB8,HR8⟩:=sqJ4 (hra.all8 (aB X l.st.aJ.length cX) (aB Y l.st.aK.length dY) (aC aD l.st.aM) (aC aD l.st.aL) (aC aD l.co.aO) (aB G l.co.aN.length ng) (aE ⟨l.co.at_.toArray⟩) (aB F l.fs.length cF)) (OwLo.set8 (hdb.own.mono (N':=fun b=>b<=g) (fun b h=> .inl h)) hra (show gR<=g by omega) (aB X l.st.aJ.length cX) (aB Y l.st.aK.length dY) (aC aD l.st.aM) (aC aD l.st.aL) (aC aD l.co.aO) (aB G l.co.aN.length ng) (aE ⟨l.co.at_.toArray⟩) (aB F l.fs.length cF)) (zQ HBE.o (show w.heap.size<=gR by have:=HGR.o;omega) (aB X l.st.aJ.length cX) (aB Y l.st.aK.length dY) (aC aD l.st.aM) (aC aD l.st.aL) (aC aD l.co.aO) (aB G l.co.aN.length ng) (aE ⟨l.co.at_.toArray⟩) (aB F l.fs.length cF)) (RwX.set8R hrx (show gR<=g by omega) hra (aB X l.st.aJ.length cX) (aB Y l.st.aK.length dY) (aC aD l.st.aM) (aC aD l.st.aL) (aC aD l.co.aO) (aB G l.co.aN.length ng) (aE ⟨l.co.at_.toArray⟩) (aB F l.fs.length cF));obtain⟨d0,d1,d2,d3,d4,d5,d6,d7⟩:=sqC8 hbb;obtain⟨y0,y1,y2,y3,y4,y5,y6,y7⟩:=sqC8 hra;obtain⟨f0,f1,f2,f3,f4,f5,f6,f7⟩:=sqF8 hra;have n1':¬(g=gR):=ww;have hno:∀b,(b<=g)->b<wr.heap.size:=fun b h=>by omega
   clear hbel hdb hrx hra hbb HDB0
   refine wL ?_;intros;go_region
   all_goals (try dsimp only [Exit.then])
   refine wL ?_;intros;refine bodyPost_ret (vQ rfl _ _ gR _ _ _ _ ae (Arr.drew HF.o) underlying40 rfl aa) rfl ?_;rw [<-HLR.o];exact⟨u8,_,_,_,_,rfl,(HR8.o.below (Below.refl _ _).drew).wider (fun b hb=> .inl (hgR2 b hb)),((HO8.o.below (Below.refl _ _).drew).lower (show w.heap.size<=g+1 by have:=HGR.o;omega)).mono (fun b hb=>hgR2 b hb),HB8.o.drew⟩
  ·have hcc:decide (i<n)=true:=decide_eq_true hlt;have hci:decide ((i:Int)<(n:Int))=true:=decide_eq_true ww;have hi0:=wg i
   have hi1:(i:Int)<(n:Int):=ww;have hil:i<os.length:=by rw [HL.o];exact hlt
   obtain⟨b,off,B,cB,B',cB',rfl,hbw,c0,c1,c2,c3,c4,hs,hs'⟩:=(HRD.o.below hbel).ord_at i hil;have hgo:=HGO.o os[i] (List.getElem_mem hil);have hrs:=VH (lo0 aM) (os.take i) os[i];rw [<-List.take_succ_eq_append_getElem hil]at hrs;have hrl:(yr (lo0 aM) (os.take i)).2.length=i:=by rw [KJ,List.length_take];omega
   generalize os[i]=o at *
   obtain⟨kd,no,dg,D,ps⟩:=o;dsimp only at c0 c1 c2 c3 c4 hs hs';have HRS:=sqH hrs;obtain⟨w4,hw4⟩:=wY (wr.alloc (aF #[aC aD kd,aC aD no,aE ⟨dg.toArray⟩,aB B D.length cB,aB B' ps.length cB'] 29))
   have hb4:Below wr.heap.size wr w4:=by rw [hw4];exact(Below.refl _ _).alloc ai _
   have hO4:Arr w4 wr.heap.size 29 [aC aD kd,aC aD no,aE ⟨dg.toArray⟩,aB B D.length cB,aB B' ps.length cB']:=by rw [hw4];exact Arr.new wr 29 _
   have hws4:=hb4.size;have HDO:=sqH (z3b g p _ kd no dg D ps B cB B' cB' w4 i HINV.o ww hgo (fun b=>b<=g\/u8.ownBlock=aH b) (.inl ai) (fun b hb=>by rcases hb with hb | hb;omega;(have:=(HRX.o.rwo.blk hb).2;omega)) (HDB.o.below hb4) (hs.below hb4) (hs'.below hb4));obtain⟨o0,o1,o2,o3,o4⟩:=sqC5 hO4;rw [hw4]at o0 o1 o2 o3 o4;have HB4:=sqH hb4;have HW4:=sqH hw4;clear hb4 hw4 hO4 hs hs' hgo hrs hbel HDB0
   refine wL ?_;intros;rw [<-HW4.o];refine(HDO.o).mono ?_;rintro e_ w5 ⟨dv,pv,wv,rfl,hg5,⟨p',hd5⟩,hra⟩;dsimp only;clear c0 c1 c2 c3 c4 o0 o1 o2 o3 o4 HDO;generalize hst:xi (yr (lo0 aM) (List.take i os)).1 ⟨kd,no,dg,D,ps⟩=lr2 at *
   have hrs:=HRS.o;obtain⟨l2,r⟩:=lr2;dsimp only at hd5 hra hrs ⊢
   have HRS2:=sqH hrs;obtain⟨P1,q1,rfl,hs1,hl1⟩:=un hra.d;obtain⟨P2,q2,rfl,hs2,hl2⟩:=un hra.p;obtain⟨P3,q3,rfl,hs3,hl3⟩:=un hra.w;have hrx4:=HRX.o.below HB4.o;obtain⟨ys,hys⟩:=hrx4.own_m;have hrx5:=hrx4.other hg5 (fun b e=>by cases e;exact zf hys (HDB.o.below HB4.o).box ab) (fun b e=>by cases e;exact Nat.le_refl _);obtain⟨xs,hxs,hop⟩:=hrx5.open_;have hhop:=hop r (yT r P1 q1 P2 q2 P3 q3) w5;have hle:∀b,(u8.ownBlock=aH b\/b<=g)->¬leads b (yT r P1 q1 P2 q2 P3 q3):=fun b hb hl=>by
    have hbl:b<w4.heap.size:=by
     rcases hb with hb | hb
     ·have:=(HRX.o.rwo.blk hb).2;omega
     ·omega
    obtain⟨a,e1 | e1 | e1,rfl⟩:=KF hl
    ·have:=hl1 a e1;omega
    ·have:=hl2 a e1;omega
    ·have:=hl3 a e1;omega
   have HOP:=sqH (fun (w2:World) (v2:Value) h1 h2 h3=>hhop w2 v2 (Below.refl _ _) ⟨P1,q1,P2,q2,P3,q3,rfl,hs1,hs2,hs3⟩ hle h1 h2 h3);have hws5:w4.heap.size<=w5.heap.size:=hg5.size;have hB5:=yB (HBE.o.trans (HB4.o.mono hwr)) hg5 (show w.heap.size<=g by have:=HGG.o;omega) ww;obtain⟨HB5,HX5,HA5,HD5,HBK⟩:=sqJ5 hB5 hxs ((HRA.o.below HB4.o).grown hg5 ag) (hd5.wider (N':=fun b=>b<=g\/u8.ownBlock=aH b\/w5.heap.size<=b) (fun b h=>h.elim (fun h=> .inl (.inl h)) (fun h=>h.elim (fun h=> .inl (.inr h)) .inr))) (show ∀k,u8.ownBlock=aH k->w.heap.size<=k from fun k hk=>(hrx5.rwo.blk hk).1);clear hst hrs hd5 hra hg5 hrx4 hys hrx5 hxs hop hhop hle hs1 hs2 hs3 hl1 hl2 hl3 hB5
   refine wL ?_;intros;refine zh rfl (.tmp 36) (.tmp 40) rfl z52 ae HX5.o (us:= [aC aD r.err,aE ⟨r.dig.toArray⟩,aB P1 r.data.length q1,aB P2 r.aQ.length q2,aC aD r.n,aB P3 r.who.length q3]) ae rfl (JZ r P1 q1 P2 q2 P3 q3) (by show((yr (lo0 aM) (List.take i os)).2.length+1)*104<=140737488355328;rw [hrl];omega) ww ?_;intro v9 w9 ho9 hg9 hv9;have HN:=sqH (HOP.o w9 v9 ho9 hg9 hv9);have HD9:=sqH ((HD5.o.grownR HX5.o hg9 (fun b e=> .inr (.inl e))).mono (N':=fun b=>b<=g\/v9.ownBlock=aH b) (fun b h=>h.imp id (fun e=>by
    rcases hv9 with e2 | ⟨g2,e2,h2⟩
    ·exact .inl (e2▸e)
    ·rw [e2]at e;cases e;exact .inr h2)))
   have HA9:=sqH (HA5.o.grown hg9 (zf HX5.o HA5.o ab));have HB9:=sqH (HB5.o.grown hg9 ww HBK.o);clear ho9 hg9 hv9
   refine wL ?_;intros;go_roundg (n - (i+1))
   case measure=>exact we HGK
   case rel=>exact⟨i+1,p',rfl,by go_num,ww,HB9.o,by rw [HRS2.o];exact HD9.o,by rw [HRS2.o];exact HN.o,HA9.o⟩
abbrev yX:aj:= [97,98,99]
abbrev QO:OrdP:=⟨1,0, [],yX, []⟩
theorem KB:putB [] yX= [⟨shaS yX,yX,0,false⟩]:=by
 unfold putB srt;exact List.mergeSort_singleton _
theorem J2 (aM:Nat) (h3:3<=aM) (h:aM<=4000):Fits ⟨[], [],aM,0⟩ yX :=
 ⟨(LInv.zero h).b.g,ab,.inl (by show(0:Nat)<24;decide),by show usd (putB [] yX)<=aM;rw [KB];simpa [usd] using h3⟩
theorem z21 (aM:Nat) (h3:3<=aM) (h:aM<=4000):xi (lo0 aM) QO=(⟨⟨[⟨shaS yX,yX,0,false⟩], [],aM,0⟩,⟨0, [], []⟩, []⟩,⟨0,shaS yX, [], [],0, []⟩):=by
 have hf:pbP ⟨[], [],aM,0⟩ ⟨0, [], []⟩ yX=(⟨[⟨shaS yX,yX,0,false⟩], [],aM,0⟩,⟨0, [], []⟩,shaS yX,0):=by
  unfold pbP;rw [if_pos (J2 aM h3 h),J6 rfl];unfold zK;rw [KB]
 unfold xi;rw [if_pos ab];unfold blobD;rw [if_pos rfl];show(zM (lo0 aM) (pbP ⟨[], [],aM,0⟩ ⟨0, [], []⟩ yX).1 _ _,_)=_;show(zM (lo0 aM) (pbP ⟨[], [],aM,0⟩ ⟨0, [], []⟩ yX).1 (pbP ⟨[], [],aM,0⟩ ⟨0, [], []⟩ yX).2.1 (pbP ⟨[], [],aM,0⟩ ⟨0, [], []⟩ yX).2.2.2,(⟨(pbP ⟨[], [],aM,0⟩ ⟨0, [], []⟩ yX).2.2.2,(pbP ⟨[], [],aM,0⟩ ⟨0, [], []⟩ yX).2.2.1, [], [],0, []⟩:RepP))=_;rw [hf];rfl
abbrev stA (aM:Nat):StoP:=⟨[⟨shaS yX,yX,0,false⟩], [],aM,0⟩
theorem Xw (w:World):yb (w.alloc (aF #[aC .u8 97,aC .u8 98,aC .u8 99] 5 (3,4))) w.heap.size (aH ⟨w.heap.size,0,aG⟩) 3 yX:=⟨w.heap.size, [],(3,4),rfl,Nat.le_refl _,World.alloc_heap_new w _,rfl,by simp [maxLen],.inr ai⟩
theorem Rw.of_cells {α:Type} {S:Shp α} {e:TypeId} {l:List α} (ps:Cel α) (h1:ps.map (·.1)=l) (h2:qO S w ps) (hA:Arr w g e (cls ps)) (hl:l.length=n):Rw S w (aH ⟨g,0,aG⟩) l :=
 ⟨ps,h1,h2,Rd.of_arr hA (by rw [<-h1,List.length_map];exact uw ps h2.lens) (by rw [List.take_of_length_le];rw [<-h1,List.length_map,uw ps h2.lens];exact Nat.le_refl _)⟩
abbrev wkP:PartP:=⟨[97],shaS yX,3⟩
abbrev wk2:OrdP:=⟨12,1,keyS 2, [], []⟩
abbrev wk3:OrdP:=⟨13,0,keyS 2, [], [wkP]⟩
abbrev wk4:OrdP:=⟨6,0,keyS 2, [], []⟩
abbrev stW:StoP:=⟨[⟨shaS yX,yX,0,false⟩], [⟨keyS 2, [wkP],0,1⟩],50,1⟩
theorem z4e:xi ⟨stA 50,⟨0, [], []⟩, []⟩ wk2=(⟨stA 50,⟨0, [], []⟩, [⟨keyS 2,1, []⟩]⟩,⟨0, [], [], [],1, []⟩):=by
 unfold xi;rw [if_neg ab,if_neg ab,if_neg ab];unfold fliD;rw [if_pos rfl];rfl
theorem z2t:qP (stA 50).aJ [wkP]=0:=by
 unfold qP;simp [List.findIdx?_cons];rfl
theorem z4i:xL (stA 50) (keyS 2) [wkP]=stW:=by
 unfold xL xf;simp [srt]
theorem z2q:qQ (stA 50) ⟨0, [], []⟩ (keyS 2) [wkP]=(stW,⟨0, [], []⟩,0):=by
 unfold qQ;rw [if_pos z2t,z4i,J6 rfl]
theorem z4g:xh [⟨keyS 2,1, []⟩] (keyS 2)=([], [1],0):=by
 unfold xh;rw [show fnd 0 [(⟨keyS 2,1, []⟩:FlP)] (keyS 2)=aH 0 by simp [fnd]];rfl
theorem z2r:xi ⟨stA 50,⟨0, [], []⟩, [⟨keyS 2,1, []⟩]⟩ wk3=(⟨stW,⟨0, [], []⟩, []⟩,⟨0, [], [], [],0, [1]⟩):=by
 unfold xi;rw [if_neg ab,if_neg ab,if_neg ab];unfold fliD;rw [if_neg ab,if_pos rfl];have h:kW ⟨stA 50,⟨0, [], []⟩, [⟨keyS 2,1, []⟩]⟩ (keyS 2) [wkP]=(⟨stW,⟨0, [], []⟩, []⟩, [1],0):=by
  unfold kW;dsimp only;rw [z4g,z2q];rfl
 show(vM _ (kW ⟨stA 50,⟨0, [], []⟩, [⟨keyS 2,1, []⟩]⟩ (keyS 2) [wkP]).1 (kW ⟨stA 50,⟨0, [], []⟩, [⟨keyS 2,1, []⟩]⟩ (keyS 2) [wkP]).2.2,(⟨(kW ⟨stA 50,⟨0, [], []⟩, [⟨keyS 2,1, []⟩]⟩ (keyS 2) [wkP]).2.2, [], [], [],0,(kW ⟨stA 50,⟨0, [], []⟩, [⟨keyS 2,1, []⟩]⟩ (keyS 2) [wkP]).2.1⟩:RepP))=_;rw [h];rfl
theorem z4h:∃x:EntP,xi ⟨stW,⟨0, [], []⟩, []⟩ wk4=(⟨⟨stW.aJ, [x],50,2⟩,⟨0, [], []⟩, []⟩,⟨0, [], [], [wkP],0, []⟩):=by
 refine⟨⟨keyS 2, [wkP],0,2⟩,?_⟩;have h:atE stW (keyS 2)=aH (0,⟨keyS 2, [wkP],0,1⟩):=by
  unfold atE;simp [List.findIdx?_cons]
 unfold xi;rw [if_neg ab,if_pos ab];unfold entD;rw [if_neg ab,if_pos rfl];unfold gtP;dsimp only;rw [h];rfl
theorem z4j:∃x:EntP,∃r0 r1 r2:RepP,yr (lo0 50) [QO,wk2,wk3,wk4]=(⟨⟨stW.aJ, [x],50,2⟩,⟨0, [], []⟩, []⟩, [r0,r1,r2,⟨0, [], [], [wkP],0, []⟩]):=by
 obtain⟨x,hx⟩:=z4h;refine⟨x,⟨0,shaS yX, [], [],0, []⟩,⟨0, [], [], [],1, []⟩,⟨0, [], [], [],0, [1]⟩,?_⟩;unfold yr;rw [z21 50 ab ab];dsimp only;unfold yr;rw [z4e];dsimp only;unfold yr;rw [z2r];dsimp only;unfold yr;rw [hx];rfl
theorem z4f:chk [wkP]=0:=by
 have h:hexC (shaS yX)=0:=zr _;unfold chk;rw [if_neg ab,k6];dsimp only;rw [if_neg ab];simp [h,yt]
theorem z2s:∀o∈ [QO,wk2,wk3,wk4],GoodD o:=by
 intro o ho;simp only [List.mem_cons,List.not_mem_nil,or_false]at ho;rcases ho with rfl | rfl | rfl | rfl
 ·exact ZQ (k:=1) (f:=⟨false,false,true,false⟩) rfl (fun _=>rfl) (fun _=>rfl) (fun h=>by cases h) (fun _=>rfl) ww (fun h=>by cases h) ab rfl
 ·exact ZQ (k:=12) (f:=⟨true,true,false,false⟩) rfl (fun h=>by cases h) (fun h=>by cases h) (fun _=>rfl) (fun _=>rfl) ww (fun _=>zr _) ab rfl (h5:=fun _=>⟨2,ab,rfl⟩)
 ·exact ZQ (k:=13) (f:=⟨false,true,false,true⟩) rfl (fun _=>rfl) (fun h=>by cases h) (fun _=>rfl) (fun h=>by cases h) ww (fun _=>zr _) ab z4f (h5:=fun _=>⟨2,ab,rfl⟩)
 ·exact ZQ (k:=6) (f:=⟨false,true,false,false⟩) rfl (fun _=>rfl) (fun h=>by cases h) (fun _=>rfl) (fun _=>rfl) ww (fun _=>zr _) ab rfl (h5:=fun _=>⟨2,ab,rfl⟩)
theorem Kb (w:World):Calls zZZ 11 #[] w fun e w'=>e= .returned (.bool true)/\Below w.heap.size w w':=by
 obtain⟨w1,hw1⟩:=wY (w.alloc (aF #[aC .u8 97,aC .u8 98,aC .u8 99] 5 (3,4)))
 have z1:yb w1 w.heap.size (aH ⟨w.heap.size,0,aG⟩) 3 yX:=by rw [hw1];exact Xw w
 have hb1:Below w.heap.size w w1:=by rw [hw1];exact(Below.refl _ _).alloc ai _
 obtain⟨HD,HK,HB1,HW1⟩:=sqJ4 (yA (aH ⟨w.heap.size,0,aG⟩) 3 3 yX w1 rfl ai ab z1.sl.1.rd) (fun W=>JI 2 W ab ab) hb1 hw1;have hkc:=fun (w:World) (C:Array Value) (n c:Nat)=>Lib.run_convert_bytes_const (P:=zZZ) w 26 5 C n c underlying26 underlying5;clear z1 hb1 hw1;go_enter func11,ntmps11;go_wp2_with fail;rw [<-HW1.o];refine wZ HD.o fun w2 hb2=>?_;dsimp only;obtain⟨w3,hw3⟩:=wY (w2.alloc (aF #[aC .u8 97,aC .u8 98,aC .u8 99] 5 (3,4)))
 have z3:yb w3 w2.heap.size (aH ⟨w2.heap.size,0,aG⟩) 3 yX:=by rw [hw3];exact Xw w2
 have hb3:Below w2.heap.size w2 w3:=by rw [hw3];exact(Below.refl _ _).alloc ai _
 obtain⟨HB3,HS3,HW3⟩:=sqJ3 ((wo HB1.o hb2).trans (hb3.mono (wo HB1.o hb2).size)) z3.sl.1 hw3;clear hb2 hw3 z3 hb3 HD HB1 HW1;go_wp2_with fail;rw [<-HW3.o];refine wZ ((HK.o w3)) fun w4 hb4=>?_;dsimp only;go_wp2_with fail;refine wZ ((HK.o w4)) fun w5 hb5=>?_;dsimp only;rw [show keyS (pk 2 7)=keyS 2 from rfl];obtain⟨w6,hw6⟩:=wY (w5.alloc (aF #[aE ⟨#[97]⟩,aE ⟨(shaS yX).toArray⟩,aC aD 3] 85))
 have hA6:Arr w6 w5.heap.size 85 (pcs [wkP]):=by rw [hw6];exact Arr.new w5 85 (pcs [wkP])
 have hb6:Below w5.heap.size w5 w6:=by rw [hw6];exact(Below.refl _ _).alloc ai _
 have hs6:Sl w6 3 (aH ⟨w5.heap.size,0,aG⟩) 1 1 (pcs [wkP]):=⟨Rd.of_arr hA6 rfl ae,Nat.le_refl _,ab,fun a e=>by cases e;exact hA6.lt⟩
 have hb45:=wo hb4 hb5;have hb46:=wo hb45 hb6;obtain⟨HB6,HS6,HT6,HW6,HK6⟩:=sqJ5 (wo HB3.o hb46) hs6 (HS3.o.below hb46) hw6 (HK.o w6);clear hb4 hb5 hb45 hb46 hw6 hA6 hb6 hs6 HB3 HS3 HW3 HK;go_wp2_with fail;rw [<-HW6.o];refine wZ HK6.o fun w7 hb7=>?_;dsimp only;rw [show keyS (pk 2 7)=keyS 2 from rfl];obtain⟨w8,hw8⟩:=wY (w7.alloc (aF #[aC aD 1,aC aD 0,aE ⟨#[]⟩,aB (aH ⟨w2.heap.size,0,aG⟩) 3 3,aB aG 0 0,aC aD 12,aC aD 1,aE ⟨(keyS 2).toArray⟩,aB aG 0 0,aB aG 0 0,aC aD 13,aC aD 0,aE ⟨(keyS 2).toArray⟩,aB aG 0 0,aB (aH ⟨w5.heap.size,0,aG⟩) 1 1,aC aD 6,aC aD 0,aE ⟨(keyS 2).toArray⟩,aB aG 0 0,aB aG 0 0] 29))
 have hA8:Arr w8 w7.heap.size 29 [aC aD 1,aC aD 0,aE ⟨#[]⟩,aB (aH ⟨w2.heap.size,0,aG⟩) 3 3,aB aG 0 0,aC aD 12,aC aD 1,aE ⟨(keyS 2).toArray⟩,aB aG 0 0,aB aG 0 0,aC aD 13,aC aD 0,aE ⟨(keyS 2).toArray⟩,aB aG 0 0,aB (aH ⟨w5.heap.size,0,aG⟩) 1 1,aC aD 6,aC aD 0,aE ⟨(keyS 2).toArray⟩,aB aG 0 0,aB aG 0 0]:=by rw [hw8];exact Arr.new w7 29 _
 have hb8:Below w7.heap.size w7 w8:=by rw [hw8];exact(Below.refl _ _).alloc ai _
 have hb68:=wo hb7 hb8;have hT8:=HT6.o.below hb68;have hS8:=HS6.o.below hb68;have hrw:Rw OrdS w8 (aH ⟨w7.heap.size,0,aG⟩) [QO,wk2,wk3,wk4]:=Rw.of_cells (n:=4) [(QO,xI QO (aH ⟨w2.heap.size,0,aG⟩) 3 aG 0),(wk2,xI wk2 aG 0 aG 0),(wk3,xI wk3 aG 0 (aH ⟨w5.heap.size,0,aG⟩) 1),(wk4,xI wk4 aG 0 aG 0)] rfl (fun p hp=>by
  simp only [List.mem_cons,List.not_mem_nil,or_false]at hp;rcases hp with rfl | rfl | rfl | rfl
  ·exact⟨_,_,_,_,rfl,hT8,Sl.nil_ _ _⟩
  ·exact⟨_,_,_,_,rfl,Sl.nil_ _ _,Sl.nil_ _ _⟩
  ·exact⟨_,_,_,_,rfl,Sl.nil_ _ _,hS8⟩
  ·exact⟨_,_,_,_,rfl,Sl.nil_ _ _,Sl.nil_ _ _⟩) hA8 rfl
 have hru:=z4y 50 (aH ⟨w7.heap.size,0,aG⟩) 4 4 [QO,wk2,wk3,wk4] w8 ab rfl ab ai ab z2s hrw;obtain⟨x,r0,r1,r2,hrr⟩:=z4j;rw [hrr]at hru;dsimp only at hru;obtain⟨HRU,HW8,HB8⟩:=sqJ3 hru hw8 (wo HB6.o hb68);clear hw8 hA8 hb7 hb8 hb68 hT8 hS8 hrw hru hrr HB6 HS6 HT6 HW6 HK6;go_wp2_with fail;rw [<-HW8.o];refine HRU.o.mono ?_;rintro e_ w9 ⟨vr,v1,v2,v3,v4,rfl,hrx,hol,hb9⟩;dsimp only;obtain⟨Ar,cr,rfl,hcr,hcm,hRr⟩:=hrx.rwo.rows;obtain⟨⟨X,cX,Y,dY,G,ng,F,cF⟩,rfl,rfl,rfl,rfl, -⟩:=hol.rd;obtain⟨b1,o1,B1,c1,B1',c1',C1,d1,hAr,hbw,e0, -, -,e3, -, -, -,hs2, -⟩:=hRr.rep_at 3 (by show 3<4;decide);subst hAr;have HB9:=sqH (wo HB8.o hb9);simp only [List.getElem_cons_succ,List.getElem_cons_zero]at e0 e3 hs2;obtain⟨b2,o2,rfl,hbq,hq⟩:=hs2.rd.2 ab;have q1:=hq 1 _ rfl;have hb0:=World.size_alloc;clear hrx hol hb9 hRr hcr hcm HRU HB8 HW8 hs2 hq hb0;go_wp2_with fail;go_ret;exact⟨rfl,HB9.o.alloc HB9.o.size _⟩
end Go.Proofs.YtaboknhfiijipaaGreat
