/- Lemmas, as stated. -/
import Derived.Maps.Range
import Derived.Test.YtaboknhfiijipaaGreatQO29
import Derived.Test.YtaboknhfiijipaaGreatQO30
import Derived.Test.YtaboknhfiijipaaGreatQO31
set_option linter.unusedVariables false
set_option linter.unusedSimpArgs false
set_option maxRecDepth 100000
set_option maxHeartbeats 16000000
open Go.Proofs.Tryz
open Go.Proofs.Tryz renaming prog->zZZ
open Go.Value renaming slice->aA,int->aB,string->aD
open Go.IntKind renaming i64->aC
open Go.Obj renaming cells->aE
open Option renaming none->aF,some->aG
open And renaming intro->aH
namespace Go.Proofs.YtaboknhfiijipaaGreat
open Go.RowKit Go.Maps
variable {fs:List FlP} {l:LoP} {b' base g gR i n:Nat} {o:OrdP} {v vo:Value} {w w':World} {k:ai} {xs:ak} {N:am}
theorem UY {d:ai} (h:hexC d=0):d.length=64:=by
 unfold hexC at h;split at h
 ·cases h
 ·omega
theorem z3c (g:Nat) (p:LoW) (l:LoP) (kd n:Nat) (dg D:ai) (ps:List PartP) (A:aj) (c:Nat) (A':aj) (c':Nat) (w:World) (hL:GoodL l) (h3:D.length<=300) (hk:1<=kd/\kd<=4) (N:am) (hNg:N g) (hNw:∀b,N b->b<w.heap.size) (hb:DkB w g p l N) (hd:Sl w 1 A D.length c (bys D)) (hq:Sl w 3 A' ps.length c' (pcs ps)) :
  Calls zZZ 66 #[.pointer (aG ⟨g,0,aF⟩),orV kd n dg D ps A c A' c'] w (k8 w g N (blobD l ⟨kd,n,dg,D,ps⟩)):=by
 have hc:kd=1\/kd=2\/(kd=3\/kd=4):=wu;rcases hc with h | h | h
 ·exact z1g g p l kd n dg D ps A c A' c' w hL h3 h N hNg hNw hb hd hq
 ·exact z1h g p l kd n dg D ps A c A' c' w hL h N hNg hNw hb hd hq
 ·exact z1i g p l kd n dg D ps A c A' c' w hL h N hNg hNw hb hd hq
theorem z47 (g:Nat) (p:LoW) (l:LoP) (kd n:Nat) (dg D:ai) (ps:List PartP) (A:aj) (c:Nat) (A':aj) (c':Nat) (w:World) (hL:GoodL l) (hx:hexC dg=0) (hpz:chk ps=0) (hck:l.st.aK<1099511627776) (hlen:l.st.aJ.length<10) (hk:5<=kd/\kd<=8) (N:am) (hNg:N g) (hNw:∀b,N b->b<w.heap.size) (hb:DkB w g p l N) (hd:Sl w 1 A D.length c (bys D)) (hq:Sl w 3 A' ps.length c' (pcs ps)) :
  Calls zZZ 67 #[.pointer (aG ⟨g,0,aF⟩),orV kd n dg D ps A c A' c'] w (k8 w g N (entD l ⟨kd,n,dg,D,ps⟩)):=by
 have hc:kd=5\/kd=6\/(kd=7\/kd=8):=wu;rcases hc with h | h | h
 ·exact z3d g p l kd n dg D ps A c A' c' w hL hx hpz hck hlen h N hNg hNw hb hd hq
 ·exact z3e g p l kd n dg D ps A c A' c' w hL hck h N hNg hNw hb hd hq
 ·exact z3f g p l kd n dg D ps A c A' c' w hL h N hNg hNw hb hd hq
theorem z3h (g:Nat) (p:LoW) (l:LoP) (kd n:Nat) (dg D:ai) (ps:List PartP) (A:aj) (c:Nat) (A':aj) (c':Nat) (w:World) (hL:GoodL l) (h8:8*unm l.st.aI+l.co.aM.length<=1000) (hn:n<=4000) (hk:9<=kd/\kd<=11) (N:am) (hNg:N g) (hNw:∀b,N b->b<w.heap.size) (hb:DkB w g p l N) (hd:Sl w 1 A D.length c (bys D)) (hq:Sl w 3 A' ps.length c' (pcs ps)) :
  Calls zZZ 68 #[.pointer (aG ⟨g,0,aF⟩),orV kd n dg D ps A c A' c'] w (k8 w g N (roomD l ⟨kd,n,dg,D,ps⟩)):=by
 have hc:kd=9\/kd=10\/kd=11:=wu;rcases hc with h | h | h
 ·exact z1o g p l kd n dg D ps A c A' c' w hL hn h N hNg hNw hb hd hq
 ·exact Jo g p l kd n dg D ps A c A' c' w hL h N hNg hNw hb hd hq
 ·exact Jp g p l kd n dg D ps A c A' c' w hL h8 hn h N hNg hNw hb hd hq
theorem z48 (g:Nat) (p:LoW) (l:LoP) (kd n:Nat) (dg D:ai) (ps:List PartP) (A:aj) (c:Nat) (A':aj) (c':Nat) (w:World) (hL:GoodL l) (hx:hexC dg=0) (hpz:chk ps=0) (hck:l.st.aK<1099511627776) (hlen:l.st.aJ.length<10) (hn1:kd=12->1<=n/\n<=1000) (hk:12<=kd/\kd<=14) (N:am) (hNg:N g) (hNw:∀b,N b->b<w.heap.size) (hb:DkB w g p l N) (hd:Sl w 1 A D.length c (bys D)) (hq:Sl w 3 A' ps.length c' (pcs ps)) :
  Calls zZZ 69 #[.pointer (aG ⟨g,0,aF⟩),orV kd n dg D ps A c A' c'] w (k8 w g N (fliD l ⟨kd,n,dg,D,ps⟩)):=by
 have hc:kd=12\/kd=13\/kd=14:=wu;rcases hc with h | h | h
 ·exact z1k g p l kd n dg D ps A c A' c' w hL hx (by have:=UY hx;omega) (hn1 h).1 (hn1 h).2 hck h N hNg hNw hb hd hq
 ·exact z1l g p l kd n dg D ps A c A' c' w hL hx hpz hck hlen h N hNg hNw hb hd hq
 ·exact z1m g p l kd n dg D ps A c A' c' w hL h N hNg hNw hb hd hq
theorem z1y (h:GoodO o):o.dig= []\/hexC o.dig=0:=by
 cases hf:(fOf o.kind).1.dig with
 | false=>exact .inl (h.d0 hf)
 | true=>exact .inr (h.d1 hf)
theorem Jn (kd n:Nat) (dg D:ai) (ps:List PartP) (A:aj) (c:Nat) (A':aj) (c':Nat) (w:World) (ho:GoodO ⟨kd,n,dg,D,ps⟩) (hqc:ps.length<=c') (hqr:Rd w 3 A' ps.length (pcs ps)) :
  Calls zZZ 47 #[orV kd n dg D ps A c A' c'] w fun e w'=>e= .returned (aB aC 0)/\Below w.heap.size w w':=by
 have hdl:dg.length<=140737488351232:=by
  rcases z1y ho with h | h
  ·have h:dg= []:=h;rw [h];simp
  ·have:=UY h;have:dg.length=64:=this;omega
 have hp8:=(zk ho.p1).1;have hpm:ps.length<=9223372036854775807:=by have:ps.length<=8:=hp8;omega
 have hok:=vE ho.p1;have hcz:chk ps=0:=ho.p1;have hn4:n<=4000:=ho.n1;have ht3:D.length<=300:=ho.t1;obtain⟨⟨fn,fd,ft,fp⟩,hff⟩:∃f,fOf kd=(f,true):=⟨(fOf kd).1,by
  have:=ho.kind;show fOf kd=_;rw [<-show(fOf kd).2=true from this]⟩
 have h1:fn=false->n=0:=fun h=>ho.n0 (by show(fOf kd).1.n=false;rw [hff];exact h);have h2:fd=false->dg= []:=fun h=>ho.d0 (by show(fOf kd).1.dig=false;rw [hff];exact h);have h3:ft=false->D.length=0:=fun h=>by rw [show D= [] from ho.t0 (by show(fOf kd).1.data=false;rw [hff];exact h)];rfl
 have h4:fp=false->ps.length=0:=fun h=>by rw [show ps= [] from ho.p0 (by show(fOf kd).1.aP=false;rw [hff];exact h)];rfl
 have h5:fd=true->hexC dg=0:=fun h=>ho.d1 (by show(fOf kd).1.dig=true;rw [hff];exact h);have hsh:(fn=false/\fd=false/\ft=true/\fp=false)\/(fn=false/\fd=true/\ft=false/\fp=false)\/(fn=false/\fd=true/\ft=false/\fp=true)\/(fn=true/\fd=false/\ft=false/\fp=false)\/(fn=false/\fd=false/\ft=false/\fp=false)\/(fn=true/\fd=true/\ft=false/\fp=false):=by
  have hz:=hff;unfold fOf at hz
  repeat' split at hz
  all_goals first | (cases hz;simp;done) | cases hz
 unfold orV;obtain⟨S,hS⟩:=wY (⟨dg.toArray⟩:ByteArray)
 have HX:=sqH (fun (h:fd=true) w'=>kz 0 (r:=0) ac (show hexC S.data.toList=0 by rw [hS];exact h5 h) w' (by rw [hS];simpa [ByteArray.size] using hdl));have e2':fd=false->S.toList.isEmpty=true:=fun h=>by rw [hS,h2 h,ByteArray.toList,ByteArray.toList.loop];simp [ByteArray.size]
 rw [<-hS];generalize hdl':D.length=dl at *
 obtain⟨w1,hw1⟩:=wY (w.alloc (aE #[aB aC kd,aB aC n,aD S,aA A dl c,aA A' ps.length c'] 29))
 have hof:=z3i kd w1;unfold z1t at hof;rw [hff]at hof;simp only [fcs]at hof;have hb1:Below w.heap.size w w1:=by rw [hw1];exact(Below.refl _ _).alloc ag _
 have hr1:Rd w1 3 A' ps.length (pcs ps):=hqr.below hb1;have hA1:Arr w1 w.heap.size 29 [aB aC kd,aB aC n,aD S,aA A dl c,aA A' ps.length c']:=by rw [hw1];exact Arr.new w 29 _
 obtain⟨g,hg⟩:=wY w.heap.size
 rw [<-hg]at hA1;have HAF:=sqH (show ∀w2,Below w1.heap.size w1 w2->∃w3,w3=w2.alloc (aE #[.bool fn,.bool fd,.bool ft,.bool fp] 105)/\Below w.heap.size w w3/\Arr w3 g 29 [aB aC kd,aB aC n,aD S,aA A dl c,aA A' ps.length c']/\Rd w3 3 A' ps.length (pcs ps) from fun w2 h =>
  have hb:=wm hb1 h
  ⟨_,rfl,hb.alloc hb.size _,(hA1.below h).alloc _,(hr1.below h).alloc _⟩)
 have HCK:=sqH (fun w' (hw:Rd w' 3 A' ps.length (pcs ps))=>xf A' ps.length c' ps w' rfl hqc hpm hok hw);rw [hcz]at HCK;have f0:=hA1.c0;rw [hw1]at f0;obtain⟨HOF,HW1,HG⟩:=sqJ3 hof hw1 hg;have e5:decide ((n:Int)<0)=false:=decide_eq_false wu;have e6:decide ((4000:Int)<(n:Int))=false:=decide_eq_false wu;have e8:decide ((300:Int)<(dl:Int))=false:=decide_eq_false wu;have e9:decide (300<dl)=false:=decide_eq_false wu;clear hof hff hS hok hcz hw1 hb1 hr1 hg hp8 hpm hdl hn4 hdl' h2 h5 ho hqr;rcases hsh with ⟨rfl,rfl,rfl,rfl⟩ | ⟨rfl,rfl,rfl,rfl⟩ | ⟨rfl,rfl,rfl,rfl⟩ | ⟨rfl,rfl,rfl,rfl⟩ | ⟨rfl,rfl,rfl,rfl⟩ | ⟨rfl,rfl,rfl,rfl⟩
 all_goals (
  first | (have e1:((n:Int) != 0)=false:=by rw [h1 rfl];rfl) | skip
  first | (have e2:=e2' rfl) | skip
  first | (have e3:decide ((0:Int)<(dl:Int))=false:=decide_eq_false (by have:=h3 rfl;omega)) | skip
  first | (have e3':decide (0<dl)=false:=decide_eq_false (by have:=h3 rfl;omega)) | skip
  first | (have e4:decide ((0:Int)<(ps.length:Int))=false:=decide_eq_false (by have:=h4 rfl;omega)) | skip
  first | (have e4':decide (0<ps.length)=false:=decide_eq_false (by have:=h4 rfl;omega)) | skip
  clear h1 h3 h4 e2';go_enter func47,ntmps47
  refine wL ?_;intros;rw [<-HW1.o];simp only [<-HG.o];clear f0 hA1;refine wZ HOF.o fun w2 hb2=>?_;dsimp only;obtain⟨w3,hw3,hB3,hA3,hr3⟩:=HAF.o w2 hb2;have f1:=hA3.c1;have f2:=hA3.c2;have f3:=hA3.c3;have f4:=hA3.c4;rw [hw3]at f1 f2 f3 f4;have HW3:=sqH hw3;have HB3:=sqH hB3;clear hb2 hw3 hB3
  refine wL ?_;intros;rw [<-HW3.o]at f1 f2 f3 f4 ⊢
  first
  | (
    refine wZ (HCK.o w3 hr3) fun w5 hb5=>?_;dsimp only;clear f1 f2 f3 f4 hA3 hr3
    refine wL ?_;intros;go_ret;exact⟨rfl,wm HB3.o hb5⟩)
  | (
    refine wZ (HX.o rfl w3) fun w4 hb4=>?_;dsimp only;clear f1 f2 f3 f4;have hA4:=hA3.below hb4;have hr4:=hr3.below hb4;have f3:=hA4.c3;have f4:=hA4.c4;have HB4:=sqH (wm HB3.o hb4);clear hA3 hr3 hA4 hb4
    refine wL ?_;intros;refine wZ (HCK.o w4 hr4) fun w5 hb5=>?_;dsimp only;clear f3 f4 hr4
    refine wL ?_;intros;go_ret;exact⟨rfl,wm HB4.o hb5⟩))
theorem z1n (g:Nat) (p:LoW) (l:LoP) (kd n:Nat) (dg D:ai) (ps:List PartP) (A:aj) (c:Nat) (A':aj) (c':Nat) (w:World) (m:Nat) (hi:LInv m l) (hm:m<=78) (ho:GoodD ⟨kd,n,dg,D,ps⟩) (N:am) (hNg:N g) (hNw:∀b,N b->b<w.heap.size) (hb:DkB w g p l N) (hd:Sl w 1 A D.length c (bys D)) (hq:Sl w 3 A' ps.length c' (pcs ps)) :
  Calls zZZ 31 #[.pointer (aG ⟨g,0,aF⟩),orV kd n dg D ps A c A' c'] w (k8 w g N (kh l ⟨kd,n,dg,D,ps⟩)):=by
 have hL:=hi.good hm;have hck:l.st.aK<1099511627776:=by have:=hi.b.ck;omega
 have hlen:l.st.aJ.length<10:=by have:=hi.b.e7;omega
 have h8:8*unm l.st.aI+l.co.aM.length<=1000:=by have:=hi.b.gr;omega
 have hk14:1<=kd/\kd<=14:=J0 ho.g.kind;have hx:(5<=kd/\kd<=8)\/12<=kd->hexC dg=0:=fun h=>by
  obtain⟨j,_,e⟩:=ho.k7 h;rw [show dg=keyS j from e];exact zy _
 have HC:=sqH (aH hck (aH hlen (aH h8 (aH hk14 (aH hx ho)))));clear hi hck hlen h8 hk14 hx;have HGO:=sqH ho;clear ho;obtain⟨X,cX,Y,dY,G,ng,F,cF⟩:=p;obtain⟨s,co,fs⟩:=l;obtain⟨w0,H,HDK,HBC,hws,HBX,HD,HQ,hHw,hHw1,hgH,hHl,hgl,hgw,HP,HR,HL,HNW,x0,x1,x2,x3,x4,HW0,HH⟩:=Kz kd n dg D ps A c A' c' hL hNw hb hd hq;clear hb hd hq hL hNw;go_enter func31,ntmps31
 refine wL ?_;intros;rw [<-HW0.o,<-HH.o];clear x0 x1 x2 x3 x4;refine wZ ((Jn kd n dg D ps A c A' c' w0 HGO.o.g HQ.o.cap HQ.o.rd)) fun w1 hb1=>?_;dsimp only;have HNW1:=sqH (show ∀b,(N b\/b=H+1)->b<w1.heap.size from fun b hb=>by have:=hb1.size;rcases hb with hb | hb;(have:=HNW.o b hb;omega);omega);have hb0:=(HDK.o _ hb1).mono (N':=fun b=>N b\/b=H+1) (fun b hb=>hb.imp id fun h=>wu);by_cases h4:kd<=4
 ·have c4:decide ((kd:Int)<=4)=true:=decide_eq_true wu;have c4':decide (kd<=4)=true:=decide_eq_true h4;have HK:=sqH h4;clear h4;have HM:=sqH (z3c g _ ⟨s,co,fs⟩ kd n dg D ps A c A' c' w1 HL.o HGO.o.g.t1 (by have:=HC.o.2.2.2.1;have:=HK.o;omega) (fun b=>N b\/b=H+1) (.inl hNg) HNW1.o hb0 (HD.o.below hb1) (HQ.o.below hb1));obtain⟨o0,o1,o2,o3,o4⟩:=sqC5 (HP.o w1 hb1);have HB:=sqH hb1;clear hb1
  refine wL ?_;intros;refine(HM.o).mono ?_;rintro e_ w2 ⟨dv,pv,wv,rfl,hg2,hd2,hra⟩;dsimp only;obtain⟨P1,q1,rfl, -, -⟩:=Rd.of_own' hra.d;obtain⟨P2,q2,rfl, -, -⟩:=Rd.of_own' hra.p;obtain⟨P3,q3,rfl, -, -⟩:=Rd.of_own' hra.w;have hr3:=(HR.o _ HB.o).grown hg2 af;have HX:=sqH (aH hd2 (aH (zP (HBX.o.trans (HB.o.mono hws)) hg2) (aH hr3 hra)));clear o0 o1 o2 o3 o4 hg2 hd2 hra HM;have e1:kh ⟨s,co,fs⟩ ⟨kd,n,dg,D,ps⟩=blobD ⟨s,co,fs⟩ ⟨kd,n,dg,D,ps⟩:=(by unfold kh;rw [if_pos HK.o])
  have HE1:=sqH e1;clear e1;generalize hrr:blobD ⟨s,co,fs⟩ ⟨kd,n,dg,D,ps⟩=r at *
  obtain⟨l2,r⟩:=r;dsimp only at HX hr3 ⊢
  clear hrr;obtain⟨f0,f1,f2,f3,f4,f5⟩:=sqF6 hr3;obtain⟨y0,y1,y2,y3,y4,y5⟩:=sqC6 hr3;have HR3:=sqH hr3;have HF:=sqH (hr3.all6 (aB aC r.err) (aD ⟨r.dig.toArray⟩) (aA P1 r.data.length q1) (aA P2 r.aP.length q2) (aB aC r.n) (aA P3 r.who.length q3));clear hr3
  refine wL ?_;intros;refine bodyPost_ret (results_cell_row rfl _ _ (H+1) _ _ _ _ ac HF.o underlying47 rfl ww) rfl ?_;rw [HE1.o];obtain⟨⟨p',hd4⟩,hg5,hr5,hra⟩:=HX.o;have hs1:w.heap.size<=w1.heap.size:=Nat.le_trans hws HB.o.size;have hra2:RepAt w2 w.heap.size r (aA P1 r.data.length q1) (aA P2 r.aP.length q2) (aA P3 r.who.length q3):=⟨zb hra.d hs1,zb hra.p hs1,zb hra.w hs1⟩
  exact⟨_,_,_,rfl,zl hg5 hHw1 _ _ _ _ _ _,⟨p',(hd4.set6 hr5 (.inr rfl) hgH _ _ _ _ _ _).mono fun b h=> .inl h⟩,hra2.set6 hr5 _ _ _ _ _ _⟩
 ·have c4:decide ((kd:Int)<=4)=false:=decide_eq_false wu;have c4':decide (kd<=4)=false:=decide_eq_false h4;by_cases h5:kd<=8
  ·have c8:decide ((kd:Int)<=8)=true:=decide_eq_true wu;have HK:=sqH (aH h4 h5);clear h4 h5;have HM:=sqH (z47 g _ ⟨s,co,fs⟩ kd n dg D ps A c A' c' w1 HL.o (HC.o.2.2.2.2.1 (wc HK)) HGO.o.g.p1 HC.o.1 HC.o.2.1 (wc HK) (fun b=>N b\/b=H+1) (.inl hNg) HNW1.o hb0 (HD.o.below hb1) (HQ.o.below hb1));obtain⟨o0,o1,o2,o3,o4⟩:=sqC5 (HP.o w1 hb1);have HB:=sqH hb1;clear hb1
   refine wL ?_;intros;refine(HM.o).mono ?_;rintro e_ w2 ⟨dv,pv,wv,rfl,hg2,hd2,hra⟩;dsimp only;obtain⟨P1,q1,rfl, -, -⟩:=Rd.of_own' hra.d;obtain⟨P2,q2,rfl, -, -⟩:=Rd.of_own' hra.p;obtain⟨P3,q3,rfl, -, -⟩:=Rd.of_own' hra.w;have hr3:=(HR.o _ HB.o).grown hg2 af;have HX:=sqH (aH hd2 (aH (zP (HBX.o.trans (HB.o.mono hws)) hg2) (aH hr3 hra)));clear o0 o1 o2 o3 o4 hg2 hd2 hra HM;have e1:kh ⟨s,co,fs⟩ ⟨kd,n,dg,D,ps⟩=entD ⟨s,co,fs⟩ ⟨kd,n,dg,D,ps⟩:=(by unfold kh;rw [if_neg HK.o.1,if_pos HK.o.2])
   have HE1:=sqH e1;clear e1;generalize hrr:entD ⟨s,co,fs⟩ ⟨kd,n,dg,D,ps⟩=r at *
   obtain⟨l2,r⟩:=r;dsimp only at HX hr3 ⊢
   clear hrr;obtain⟨f0,f1,f2,f3,f4,f5⟩:=sqF6 hr3;obtain⟨y0,y1,y2,y3,y4,y5⟩:=sqC6 hr3;have HR3:=sqH hr3;have HF:=sqH (hr3.all6 (aB aC r.err) (aD ⟨r.dig.toArray⟩) (aA P1 r.data.length q1) (aA P2 r.aP.length q2) (aB aC r.n) (aA P3 r.who.length q3));clear hr3
   refine wL ?_;intros;refine bodyPost_ret (results_cell_row rfl _ _ (H+1) _ _ _ _ ac HF.o underlying47 rfl ww) rfl ?_;rw [HE1.o];obtain⟨⟨p',hd4⟩,hg5,hr5,hra⟩:=HX.o;have hs1:w.heap.size<=w1.heap.size:=Nat.le_trans hws HB.o.size;have hra2:RepAt w2 w.heap.size r (aA P1 r.data.length q1) (aA P2 r.aP.length q2) (aA P3 r.who.length q3):=⟨zb hra.d hs1,zb hra.p hs1,zb hra.w hs1⟩
   exact⟨_,_,_,rfl,zl hg5 hHw1 _ _ _ _ _ _,⟨p',(hd4.set6 hr5 (.inr rfl) hgH _ _ _ _ _ _).mono fun b h=> .inl h⟩,hra2.set6 hr5 _ _ _ _ _ _⟩
  ·have c8:decide ((kd:Int)<=8)=false:=decide_eq_false wu;by_cases h11:kd<=11
   ·have c11:decide ((kd:Int)<=11)=true:=decide_eq_true wu;have HK:=sqH (aH h4 (aH h5 h11));clear h4 h5 h11;have HM:=sqH (z3h g _ ⟨s,co,fs⟩ kd n dg D ps A c A' c' w1 HL.o HC.o.2.2.1 HGO.o.g.n1 (wc HK) (fun b=>N b\/b=H+1) (.inl hNg) HNW1.o hb0 (HD.o.below hb1) (HQ.o.below hb1));obtain⟨o0,o1,o2,o3,o4⟩:=sqC5 (HP.o w1 hb1);have HB:=sqH hb1;clear hb1
    refine wL ?_;intros;refine(HM.o).mono ?_;rintro e_ w2 ⟨dv,pv,wv,rfl,hg2,hd2,hra⟩;dsimp only;obtain⟨P1,q1,rfl, -, -⟩:=Rd.of_own' hra.d;obtain⟨P2,q2,rfl, -, -⟩:=Rd.of_own' hra.p;obtain⟨P3,q3,rfl, -, -⟩:=Rd.of_own' hra.w;have hr3:=(HR.o _ HB.o).grown hg2 af;have HX:=sqH (aH hd2 (aH (zP (HBX.o.trans (HB.o.mono hws)) hg2) (aH hr3 hra)));clear o0 o1 o2 o3 o4 hg2 hd2 hra HM;have e1:kh ⟨s,co,fs⟩ ⟨kd,n,dg,D,ps⟩=roomD ⟨s,co,fs⟩ ⟨kd,n,dg,D,ps⟩:=(by unfold kh;rw [if_neg HK.o.1,if_neg HK.o.2.1,if_pos HK.o.2.2])
    have HE1:=sqH e1;clear e1;generalize hrr:roomD ⟨s,co,fs⟩ ⟨kd,n,dg,D,ps⟩=r at *
    obtain⟨l2,r⟩:=r;dsimp only at HX hr3 ⊢
    clear hrr;obtain⟨f0,f1,f2,f3,f4,f5⟩:=sqF6 hr3;obtain⟨y0,y1,y2,y3,y4,y5⟩:=sqC6 hr3;have HR3:=sqH hr3;have HF:=sqH (hr3.all6 (aB aC r.err) (aD ⟨r.dig.toArray⟩) (aA P1 r.data.length q1) (aA P2 r.aP.length q2) (aB aC r.n) (aA P3 r.who.length q3));clear hr3
    refine wL ?_;intros;refine bodyPost_ret (results_cell_row rfl _ _ (H+1) _ _ _ _ ac HF.o underlying47 rfl ww) rfl ?_;rw [HE1.o];obtain⟨⟨p',hd4⟩,hg5,hr5,hra⟩:=HX.o;have hs1:w.heap.size<=w1.heap.size:=Nat.le_trans hws HB.o.size;have hra2:RepAt w2 w.heap.size r (aA P1 r.data.length q1) (aA P2 r.aP.length q2) (aA P3 r.who.length q3):=⟨zb hra.d hs1,zb hra.p hs1,zb hra.w hs1⟩
    exact⟨_,_,_,rfl,zl hg5 hHw1 _ _ _ _ _ _,⟨p',(hd4.set6 hr5 (.inr rfl) hgH _ _ _ _ _ _).mono fun b h=> .inl h⟩,hra2.set6 hr5 _ _ _ _ _ _⟩
   ·have c11:decide ((kd:Int)<=11)=false:=decide_eq_false wu;have HK:=sqH (aH h4 (aH h5 h11));clear h4 h5 h11;have HM:=sqH (z48 g _ ⟨s,co,fs⟩ kd n dg D ps A c A' c' w1 HL.o (HC.o.2.2.2.2.1 (wc HK)) HGO.o.g.p1 HC.o.1 HC.o.2.1 HGO.o.ask (by have:=HK.o;have:=HC.o.2.2.2.1;omega) (fun b=>N b\/b=H+1) (.inl hNg) HNW1.o hb0 (HD.o.below hb1) (HQ.o.below hb1));obtain⟨o0,o1,o2,o3,o4⟩:=sqC5 (HP.o w1 hb1);have HB:=sqH hb1;clear hb1
    refine wL ?_;intros;refine(HM.o).mono ?_;rintro e_ w2 ⟨dv,pv,wv,rfl,hg2,hd2,hra⟩;dsimp only;obtain⟨P1,q1,rfl, -, -⟩:=Rd.of_own' hra.d;obtain⟨P2,q2,rfl, -, -⟩:=Rd.of_own' hra.p;obtain⟨P3,q3,rfl, -, -⟩:=Rd.of_own' hra.w;have hr3:=(HR.o _ HB.o).grown hg2 af;have HX:=sqH (aH hd2 (aH (zP (HBX.o.trans (HB.o.mono hws)) hg2) (aH hr3 hra)));clear o0 o1 o2 o3 o4 hg2 hd2 hra HM;have e1:kh ⟨s,co,fs⟩ ⟨kd,n,dg,D,ps⟩=fliD ⟨s,co,fs⟩ ⟨kd,n,dg,D,ps⟩:=(by unfold kh;rw [if_neg HK.o.1,if_neg HK.o.2.1,if_neg HK.o.2.2])
    have HE1:=sqH e1;clear e1;generalize hrr:fliD ⟨s,co,fs⟩ ⟨kd,n,dg,D,ps⟩=r at *
    obtain⟨l2,r⟩:=r;dsimp only at HX hr3 ⊢
    clear hrr;obtain⟨f0,f1,f2,f3,f4,f5⟩:=sqF6 hr3;obtain⟨y0,y1,y2,y3,y4,y5⟩:=sqC6 hr3;have HR3:=sqH hr3;have HF:=sqH (hr3.all6 (aB aC r.err) (aD ⟨r.dig.toArray⟩) (aA P1 r.data.length q1) (aA P2 r.aP.length q2) (aB aC r.n) (aA P3 r.who.length q3));clear hr3
    refine wL ?_;intros;refine bodyPost_ret (results_cell_row rfl _ _ (H+1) _ _ _ _ ac HF.o underlying47 rfl ww) rfl ?_;rw [HE1.o];obtain⟨⟨p',hd4⟩,hg5,hr5,hra⟩:=HX.o;have hs1:w.heap.size<=w1.heap.size:=Nat.le_trans hws HB.o.size;have hra2:RepAt w2 w.heap.size r (aA P1 r.data.length q1) (aA P2 r.aP.length q2) (aA P3 r.who.length q3):=⟨zb hra.d hs1,zb hra.p hs1,zb hra.w hs1⟩
    exact⟨_,_,_,rfl,zl hg5 hHw1 _ _ _ _ _ _,⟨p',(hd4.set6 hr5 (.inr rfl) hgH _ _ _ _ _ _).mono fun b h=> .inl h⟩,hra2.set6 hr5 _ _ _ _ _ _⟩
theorem RwX.set1R {k:Nat} {rs:List RepP} {u:Value} (h:RwX JF 47 w base v rs (fun b=>b<=g)) (hg:gR<=g) (hA:Arr w gR 40 xs):RwX JF 47 (w.setCell ⟨gR,k,aF⟩ u) base v rs (fun b=>b<=g):=by
 obtain⟨ys,hy⟩:=h.own_m;exact h.other (zU w gR k u) (fun b e=>by cases e;exact zf hy hA aa) (fun b e=>by cases e;exact hg)
theorem RwX.set8R {rs:List RepP} {x0 x1 x2 x3 x4 x5 x6 x7:Value} (h:RwX JF 47 w base v rs (fun b=>b<=g)) (hg:gR<=g) (hA:Arr w gR 40 [x0,x1,x2,x3,x4,x5,x6,x7]) (u0 u1 u2 u3 u4 u5 u6 u7:Value):RwX JF 47 (Jd w gR u0 u1 u2 u3 u4 u5 u6 u7) base v rs (fun b=>b<=g):=by
 have a0:=hA.set (k:=0) ab u0;have a1:=a0.set (k:=1) ab u1;have a2:=a1.set (k:=2) ab u2;have a3:=a2.set (k:=3) ab u3;have a4:=a3.set (k:=4) ab u4;have a5:=a4.set (k:=5) ab u5;have a6:=a5.set (k:=6) ab u6;exact(((((((h.set1R hg hA).set1R hg a0).set1R hg a1).set1R hg a2).set1R hg a3).set1R hg a4).set1R hg a5).set1R hg a6
theorem vq {P:Program} {fn:Func} {p u z:Tmp} {ty:TypeId} (h:fn.results=#[.tmp u,.cell p ty,.tmp z]) (tmps:Array Value) (w:World) (g:Nat) (t:TypeId) (cs:Array Value) (fr:Nat×Nat) (d:TypeDesc)
  (hp:tmps.getD p undef= .pointer (aG ⟨g,0,aF⟩)) (hg:w.heap[g]?=aG (.cells cs t fr))
  (hu:P.underlying ty=aG d) (hd:(match d with | .struct _ | .array _ _=>true | _=>false)=true) (hi:(P.info? ty).map (·.size)=aG cs.size) :
  (results fn tmps).run P w= .ok (.tuple #[tmps.getD u undef,.agg cs,tmps.getD z undef]) w:=by
 have hp':tmps[p]?.getD undef= .pointer (aG ⟨g,0,aF⟩):=by simpa using hp
 simp [results,h,hp',asAddr,run_loadVar_row w g t ty cs fr d hg hu hd hi]
theorem OwLo.grownR {v1 v2 v3 v4:Value} (h:OwLo w base v1 v2 v3 v4 l N) (hx:w.ownsRow b' 47 6 vo n xs) (hg:w.grownBy w' vo.ownBlock) (hN:∀b,vo.ownBlock=aG b->N b):OwLo w' base v1 v2 v3 v4 l N:=by
 obtain⟨xs1,hx1⟩:=h.s.b.own_m;obtain⟨xs2,hx2⟩:=h.s.e.own_m;have kp:∀ {e:TypeId} {size m:Nat} {v:Value} {ys:ak},w.ownsRow base e size v m ys->e≠47->w'.ownsRow base e size v m ys:=fun ho hne=>ho.kept hg (by
  rename_i v ys;cases hb:v.ownBlock with
  | none=>exact .inl rfl
  | some b=>exact .inr (fun e=>uo ho hx hne b hb e.symm))
 refine⟨⟨h.s.b.other hg (fun b e1 e2=>uo hx1 hx aa b e2 e1) (fun b e=> .inl (hN b e)),h.s.e.other hg (fun b e1 e2=>uo hx2 hx aa b e2 e1) (fun b e=> .inl (hN b e)),h.s.ne⟩,kp h.c aa,?_⟩;obtain⟨As,h1,h2,h3,h4⟩:=h.f;exact⟨As,h1,kp h2 aa,fun k p a hp ha=>⟨kp (h3 k p a hp ha).1 aa,(h3 k p a hp ha).2⟩,h4⟩
theorem DkB.grownR {p:LoW} (h:DkB w g p l N) (hx:w.ownsRow b' 47 6 vo n xs) (hg:w.grownBy w' vo.ownBlock) (hN:∀b,vo.ownBlock=aG b->N b):DkB w' g p l N :=
 ⟨h.box.grown hg (zf hx h.box aa),h.own.grownR hx hg hN⟩
theorem z3v (aL:Nat) (A:aj) (n c:Nat) (os:List OrdP) (w:World) (hroom:aL<=4000) (hl:os.length=n) (hn:n<=79) (hc:n<=c) (hm:c<=maxLen) (hgo:∀o∈os,GoodD o) (hr:Rw OrdS w A os) :
  Calls zZZ 10 #[aB aC aL,aA A n c] w fun e w'=>∃vr v1 v2 v3 v4,e= .returned (.tuple #[vr,KF v1 v2 v3 v4 (k6 (lo0 aL) os).1,aB aC 0])/\RwX JF 47 w' w.heap.size vr (k6 (lo0 aL) os).2 (fun b=>b<w.heap.size)/\OwLo w' w.heap.size v1 v2 v3 v4 (k6 (lo0 aL) os).1 (fun b=>b<w.heap.size)/\Below w.heap.size w w':=by
 obtain⟨w1,hw1,hR,hB,hbx⟩:=zL w 40 82 [aA aF 0 0,aA aF 0 0,aB aC 0,aB aC 0,aB aC 0,aA aF 0 0,aD ⟨#[]⟩,aA aF 0 0] [aA aF 0 0,aA aF 0 0,aB aC aL,aB aC 0,aB aC 0,aA aF 0 0,aD ⟨#[]⟩,aA aF 0 0];have hr0:decide ((aL:Int)<0)=false:=decide_eq_false wu;have hr1:decide ((aL:Int)>4000)=false:=decide_eq_false wu;have hr2:decide ((4000:Int)<(aL:Int))=false:=decide_eq_false wu;have hr3:decide (4000<aL)=false:=decide_eq_false wu;have hn0:decide ((n:Int)>80)=false:=decide_eq_false wu;have hn1:decide ((80:Int)<(n:Int))=false:=decide_eq_false wu;have hn2:decide (80<n)=false:=decide_eq_false wu;obtain⟨gR,hgR⟩:=wY w.heap.size
 obtain⟨g,hg⟩:=wY (w.heap.size+1)
 rw [<-hg]at hB;rw [<-hgR]at hR;have hgg:g=gR+1:=wu;have hgl:g<w1.heap.size:=hB.lt;have hDB0:DkB w1 g ⟨aF,0,aF,0,aF,0,aF,0⟩ (lo0 aL) (fun b=>b<=g\/(aA aF 0 0).ownBlock=aG b):=⟨hB,⟨⟨RwX.nil_ (World.ownsRow_nil _ _ _ _),RwX.nil_ (World.ownsRow_nil _ _ _ _),fun g h=>by cases h⟩,World.ownsRow_nil _ _ _ _,FlsO.nil_ _ _ _ (World.ownsRow_nil _ _ _ _)⟩⟩
 obtain⟨HDB0,HL,HGO,HRD,HW1,HBX,HGR,HGG⟩:=sqJ8 hDB0 hl hgo hr hw1 hbx hgR hg;have HR:=sqH hR;have hn63:n<=79:=hn;clear hl hgo hr hw1 hbx hgR hg hR hB hDB0 hm;go_enter func10,ntmps10
 refine wL ?_;intros;rw [<-HW1.o];simp only [<-HGR.o];rw [<-hgg];have hgR1:gR<g:=wu;have hgR2:∀b,b<w.heap.size->b<=g:=fun b h=>by have:=HGR.o;omega
 clear hgg;clear hr0 hr1 hr2 hr3 hn0 hn1 hn2;go_loopg [8,32] n (fun gn vo vi wr=>∃(i:Nat) (p:LoW),gn=n - i/\vi= aB aC i/\i<=n/\Below w.heap.size w wr/\DkB wr g p (k6 (lo0 aL) (os.take i)).1 (fun b=>b<=g\/vo.ownBlock=aG b)/\RwX JF 47 wr w.heap.size vo (k6 (lo0 aL) (os.take i)).2 (fun b=>b<=g)/\Arr wr gR 40 [aA aF 0 0,aA aF 0 0,aB aC 0,aB aC 0,aB aC 0,aA aF 0 0,aD ⟨#[]⟩,aA aF 0 0])
 case atStart=>exact⟨0,_,rfl,rfl,Nat.zero_le _,HBX.o,HDB0.o,RwX.nil_ (World.ownsRow_nil _ _ _ _),HR.o⟩
 case round =>
  obtain⟨i,p,hgk,rfl,hi,hbel,hdb,hrx,hra⟩:=hrel;obtain⟨HGK,HBE,HDB,HRX,HRA⟩:=sqJ5 hgk hbel hdb hrx hra;have hwr:w.heap.size<=wr.heap.size:=hbel.size;have hgr:g<wr.heap.size:=hdb.lt;have HINV:=sqH (show LInv i (k6 (lo0 aL) (os.take i)).1 from by
   have h:=(LInv.zero hroom).run (os:=os.take i) (by rw [List.length_take];omega) (fun o ho=>HGO.o o (List.mem_of_mem_take ho));rw [List.length_take,HL.o,Nat.min_eq_left hi,Nat.zero_add]at h;exact h)
  clear hgk hdb hrx hra;by_cases hlt:i<n
  rotate_left
  ·obtain rfl:i=n:=by omega
   have hcc:decide (i<i)=false:=ab;have hci:decide ((i:Int)<(i:Int))=false:=ab;have hot:os.take i=os:=List.take_of_length_le (by rw [HL.o];exact Nat.le_refl _);have hdb:=HDB.o;have hrx:=HRX.o;rw [hot]at hdb hrx;clear HINV hot HDB HRX;obtain⟨lr,hlr⟩:=wY (k6 (lo0 aL) os)
   rw [<-hlr]at hdb hrx;have HLR:=sqH hlr;clear hlr;obtain⟨l,rs⟩:=lr;dsimp only at hdb hrx;obtain⟨X,cX,Y,dY,G,ng,F,cF⟩:=p;have hra:=HRA.o;have hbb:Arr wr g 82 [aA X l.st.aI.length cX,aA Y l.st.aJ.length dY,aB aC l.st.aL,aB aC l.st.aK,aB aC l.co.aN,aA G l.co.aM.length ng,aD ⟨l.co.at_.toArray⟩,aA F l.fs.length cF]:=hdb.box;obtain⟨HF,HO8,HB8,HR8⟩:=sqJ4 (hra.all8 (aA X l.st.aI.length cX) (aA Y l.st.aJ.length dY) (aB aC l.st.aL) (aB aC l.st.aK) (aB aC l.co.aN) (aA G l.co.aM.length ng) (aD ⟨l.co.at_.toArray⟩) (aA F l.fs.length cF)) (OwLo.set8 (hdb.own.mono (N':=fun b=>b<=g) (fun b h=> .inl h)) hra (show gR<=g by omega) (aA X l.st.aI.length cX) (aA Y l.st.aJ.length dY) (aB aC l.st.aL) (aB aC l.st.aK) (aB aC l.co.aN) (aA G l.co.aM.length ng) (aD ⟨l.co.at_.toArray⟩) (aA F l.fs.length cF)) (zN HBE.o (show w.heap.size<=gR by have:=HGR.o;omega) (aA X l.st.aI.length cX) (aA Y l.st.aJ.length dY) (aB aC l.st.aL) (aB aC l.st.aK) (aB aC l.co.aN) (aA G l.co.aM.length ng) (aD ⟨l.co.at_.toArray⟩) (aA F l.fs.length cF)) (RwX.set8R hrx (show gR<=g by omega) hra (aA X l.st.aI.length cX) (aA Y l.st.aJ.length dY) (aB aC l.st.aL) (aB aC l.st.aK) (aB aC l.co.aN) (aA G l.co.aM.length ng) (aD ⟨l.co.at_.toArray⟩) (aA F l.fs.length cF));obtain⟨d0,d1,d2,d3,d4,d5,d6,d7⟩:=sqC8 hbb;obtain⟨y0,y1,y2,y3,y4,y5,y6,y7⟩:=sqC8 hra;obtain⟨f0,f1,f2,f3,f4,f5,f6,f7⟩:=sqF8 hra;have n1':¬(g=gR):=wu;have hno:∀b,(b<=g)->b<wr.heap.size:=fun b h=>by omega
   clear hbel hdb hrx hra hbb HDB0
   refine wL ?_;intros;go_region
   all_goals (try dsimp only [Exit.then])
   refine wL ?_;intros;refine bodyPost_ret (vq rfl _ _ gR _ _ _ _ ac (Arr.drew HF.o) underlying40 rfl ww) rfl ?_;rw [<-HLR.o];exact⟨u8,_,_,_,_,rfl,(HR8.o.below (Below.refl _ _).drew).wider (fun b hb=> .inl (hgR2 b hb)),((HO8.o.below (Below.refl _ _).drew).lower (show w.heap.size<=g+1 by have:=HGR.o;omega)).mono (fun b hb=>hgR2 b hb),HB8.o.drew⟩
  ·have hcc:decide (i<n)=true:=decide_eq_true hlt;have hci:decide ((i:Int)<(n:Int))=true:=decide_eq_true wu;have hi0:=we i
   have hi1:(i:Int)<(n:Int):=wu;have hil:i<os.length:=by rw [HL.o];exact hlt
   obtain⟨b,off,B,cB,B',cB',rfl,hbw,c0,c1,c2,c3,c4,hs,hs'⟩:=(HRD.o.below hbel).ord_at i hil;have hgo:=HGO.o os[i] (List.getElem_mem hil);have hrs:=ZC (lo0 aL) (os.take i) os[i];rw [<-List.take_succ_eq_append_getElem hil]at hrs;have hrl:(k6 (lo0 aL) (os.take i)).2.length=i:=by rw [vG,List.length_take];omega
   generalize os[i]=o at *
   obtain⟨kd,no,dg,D,ps⟩:=o;dsimp only at c0 c1 c2 c3 c4 hs hs';have HRS:=sqH hrs;obtain⟨w4,hw4⟩:=wY (wr.alloc (aE #[aB aC kd,aB aC no,aD ⟨dg.toArray⟩,aA B D.length cB,aA B' ps.length cB'] 29))
   have hb4:Below wr.heap.size wr w4:=by rw [hw4];exact(Below.refl _ _).alloc ag _
   have hO4:Arr w4 wr.heap.size 29 [aB aC kd,aB aC no,aD ⟨dg.toArray⟩,aA B D.length cB,aA B' ps.length cB']:=by rw [hw4];exact Arr.new wr 29 _
   have hws4:=hb4.size;have HDO:=sqH (z1n g p _ kd no dg D ps B cB B' cB' w4 i HINV.o wu hgo (fun b=>b<=g\/u8.ownBlock=aG b) (.inl ag) (fun b hb=>by rcases hb with hb | hb;omega;(have:=(HRX.o.rwo.blk hb).2;omega)) (HDB.o.below hb4) (hs.below hb4) (hs'.below hb4));obtain⟨o0,o1,o2,o3,o4⟩:=sqC5 hO4;rw [hw4]at o0 o1 o2 o3 o4;have HB4:=sqH hb4;have HW4:=sqH hw4;clear hb4 hw4 hO4 hs hs' hgo hrs hbel HDB0
   refine wL ?_;intros;rw [<-HW4.o];refine(HDO.o).mono ?_;rintro e_ w5 ⟨dv,pv,wv,rfl,hg5,⟨p',hd5⟩,hra⟩;dsimp only;clear c0 c1 c2 c3 c4 o0 o1 o2 o3 o4 HDO;generalize hst:kh (k6 (lo0 aL) (List.take i os)).1 ⟨kd,no,dg,D,ps⟩=lr2 at *
   have hrs:=HRS.o;obtain⟨l2,r⟩:=lr2;dsimp only at hd5 hra hrs ⊢
   have HRS2:=sqH hrs;obtain⟨P1,q1,rfl,hs1,hl1⟩:=vN hra.d;obtain⟨P2,q2,rfl,hs2,hl2⟩:=vN hra.p;obtain⟨P3,q3,rfl,hs3,hl3⟩:=vN hra.w;have hrx4:=HRX.o.below HB4.o;obtain⟨ys,hys⟩:=hrx4.own_m;have hrx5:=hrx4.other hg5 (fun b e=>by cases e;exact zf hys (HDB.o.below HB4.o).box aa) (fun b e=>by cases e;exact Nat.le_refl _);obtain⟨xs,hxs,hop⟩:=hrx5.open_;have hhop:=hop r (yN r P1 q1 P2 q2 P3 q3) w5;have hle:∀b,(u8.ownBlock=aG b\/b<=g)->¬leads b (yN r P1 q1 P2 q2 P3 q3):=fun b hb hl=>by
    have hbl:b<w4.heap.size:=by
     rcases hb with hb | hb
     ·have:=(HRX.o.rwo.blk hb).2;omega
     ·omega
    obtain⟨a,e1 | e1 | e1,rfl⟩:=QW hl
    ·have:=hl1 a e1;omega
    ·have:=hl2 a e1;omega
    ·have:=hl3 a e1;omega
   have HOP:=sqH (fun (w2:World) (v2:Value) h1 h2 h3=>hhop w2 v2 (Below.refl _ _) ⟨P1,q1,P2,q2,P3,q3,rfl,hs1,hs2,hs3⟩ hle h1 h2 h3);have hws5:w4.heap.size<=w5.heap.size:=hg5.size;have hB5:=yt (HBE.o.trans (HB4.o.mono hwr)) hg5 (show w.heap.size<=g by have:=HGG.o;omega) wu;obtain⟨HB5,HX5,HA5,HD5,HBK⟩:=sqJ5 hB5 hxs ((HRA.o.below HB4.o).grown hg5 af) (hd5.wider (N':=fun b=>b<=g\/u8.ownBlock=aG b\/w5.heap.size<=b) (fun b h=>h.elim (fun h=> .inl (.inl h)) (fun h=>h.elim (fun h=> .inl (.inr h)) .inr))) (show ∀k,u8.ownBlock=aG k->w.heap.size<=k from fun k hk=>(hrx5.rwo.blk hk).1);clear hst hrs hd5 hra hg5 hrx4 hys hrx5 hxs hop hhop hle hs1 hs2 hs3 hl1 hl2 hl3 hB5
   refine wL ?_;intros;refine zh rfl (.tmp 36) (.tmp 40) rfl z3k ac HX5.o (us:= [aB aC r.err,aD ⟨r.dig.toArray⟩,aA P1 r.data.length q1,aA P2 r.aP.length q2,aB aC r.n,aA P3 r.who.length q3]) ac rfl (Ja r P1 q1 P2 q2 P3 q3) (by show((k6 (lo0 aL) (List.take i os)).2.length+1)*104<=140737488355328;rw [hrl];omega) wu ?_;intro v9 w9 ho9 hg9 hv9;have HN:=sqH (HOP.o w9 v9 ho9 hg9 hv9);have HD9:=sqH ((HD5.o.grownR HX5.o hg9 (fun b e=> .inr (.inl e))).mono (N':=fun b=>b<=g\/v9.ownBlock=aG b) (fun b h=>h.imp id (fun e=>by
    rcases hv9 with e2 | ⟨g2,e2,h2⟩
    ·exact .inl (e2▸e)
    ·rw [e2]at e;cases e;exact .inr h2)))
   have HA9:=sqH (HA5.o.grown hg9 (zf HX5.o HA5.o aa));have HB9:=sqH (HB5.o.grown hg9 wu HBK.o);clear ho9 hg9 hv9
   refine wL ?_;intros;go_roundg (n - (i+1))
   case measure=>exact wc HGK
   case rel=>exact⟨i+1,p',rfl,by go_num,wu,HB9.o,by rw [HRS2.o];exact HD9.o,by rw [HRS2.o];exact HN.o,HA9.o⟩
abbrev yR:ai:= [97,98,99]
abbrev Qa:OrdP:=⟨1,0, [],yR, []⟩
theorem QT:putB [] yR= [⟨shaS yR,yR,0,false⟩]:=by
 unfold putB srt;exact List.mergeSort_singleton _
theorem U5 (aL:Nat) (h3:3<=aL) (h:aL<=4000):Fits ⟨[], [],aL,0⟩ yR :=
 ⟨(LInv.zero h).b.g,aa,.inl (by show(0:Nat)<24;decide),by show usd (putB [] yR)<=aL;rw [QT];simpa [usd] using h3⟩
theorem z0m (aL:Nat) (h3:3<=aL) (h:aL<=4000):kh (lo0 aL) Qa=(⟨⟨[⟨shaS yR,yR,0,false⟩], [],aL,0⟩,⟨0, [], []⟩, []⟩,⟨0,shaS yR, [], [],0, []⟩):=by
 have hf:pbP ⟨[], [],aL,0⟩ ⟨0, [], []⟩ yR=(⟨[⟨shaS yR,yR,0,false⟩], [],aL,0⟩,⟨0, [], []⟩,shaS yR,0):=by
  unfold pbP;rw [if_pos (U5 aL h3 h),U8 rfl];unfold zH;rw [QT]
 unfold kh;rw [if_pos aa];unfold blobD;rw [if_pos rfl];show(zJ (lo0 aL) (pbP ⟨[], [],aL,0⟩ ⟨0, [], []⟩ yR).1 _ _,_)=_;show(zJ (lo0 aL) (pbP ⟨[], [],aL,0⟩ ⟨0, [], []⟩ yR).1 (pbP ⟨[], [],aL,0⟩ ⟨0, [], []⟩ yR).2.1 (pbP ⟨[], [],aL,0⟩ ⟨0, [], []⟩ yR).2.2.2,(⟨(pbP ⟨[], [],aL,0⟩ ⟨0, [], []⟩ yR).2.2.2,(pbP ⟨[], [],aL,0⟩ ⟨0, [], []⟩ yR).2.2.1, [], [],0, []⟩:RepP))=_;rw [hf];rfl
abbrev stA (aL:Nat):StoP:=⟨[⟨shaS yR,yR,0,false⟩], [],aL,0⟩
theorem YB (w:World):kW (w.alloc (aE #[aB .u8 97,aB .u8 98,aB .u8 99] 5 (3,4))) w.heap.size (aG ⟨w.heap.size,0,aF⟩) 3 yR:=⟨w.heap.size, [],(3,4),rfl,Nat.le_refl _,World.alloc_heap_new w _,rfl,by simp [maxLen],.inr ag⟩
theorem Rw.of_cells {α:Type} {S:Shp α} {e:TypeId} {l:List α} (ps:Cel α) (h1:ps.map (·.1)=l) (h2:qI S w ps) (hA:Arr w g e (cls ps)) (hl:l.length=n):Rw S w (aG ⟨g,0,aF⟩) l :=
 ⟨ps,h1,h2,Rd.of_arr hA (by rw [<-h1,List.length_map];exact vV ps h2.lens) (by rw [List.take_of_length_le];rw [<-h1,List.length_map,vV ps h2.lens];exact Nat.le_refl _)⟩
abbrev wkP:PartP:=⟨[97],shaS yR,3⟩
abbrev wk2:OrdP:=⟨12,1,keyS 2, [], []⟩
abbrev wk3:OrdP:=⟨13,0,keyS 2, [], [wkP]⟩
abbrev wk4:OrdP:=⟨6,0,keyS 2, [], []⟩
abbrev stW:StoP:=⟨[⟨shaS yR,yR,0,false⟩], [⟨keyS 2, [wkP],0,1⟩],50,1⟩
theorem z2u:kh ⟨stA 50,⟨0, [], []⟩, []⟩ wk2=(⟨stA 50,⟨0, [], []⟩, [⟨keyS 2,1, []⟩]⟩,⟨0, [], [], [],1, []⟩):=by
 unfold kh;rw [if_neg aa,if_neg aa,if_neg aa];unfold fliD;rw [if_pos rfl];rfl
theorem z19:qK (stA 50).aI [wkP]=0:=by
 unfold qK;simp [List.findIdx?_cons];rfl
theorem z2y:xy (stA 50) (keyS 2) [wkP]=stW:=by
 unfold xy x8;simp [srt]
theorem z16:qJ (stA 50) ⟨0, [], []⟩ (keyS 2) [wkP]=(stW,⟨0, [], []⟩,0):=by
 unfold qJ;rw [if_pos z19,z2y,U8 rfl]
theorem z2w:kX [⟨keyS 2,1, []⟩] (keyS 2)=([], [1],0):=by
 unfold kX;rw [show fnd 0 [(⟨keyS 2,1, []⟩:FlP)] (keyS 2)=aG 0 by simp [fnd]];rfl
theorem z17:kh ⟨stA 50,⟨0, [], []⟩, [⟨keyS 2,1, []⟩]⟩ wk3=(⟨stW,⟨0, [], []⟩, []⟩,⟨0, [], [], [],0, [1]⟩):=by
 unfold kh;rw [if_neg aa,if_neg aa,if_neg aa];unfold fliD;rw [if_neg aa,if_pos rfl];have h:kH ⟨stA 50,⟨0, [], []⟩, [⟨keyS 2,1, []⟩]⟩ (keyS 2) [wkP]=(⟨stW,⟨0, [], []⟩, []⟩, [1],0):=by
  unfold kH;dsimp only;rw [z2w,z16];rfl
 show(xb _ (kH ⟨stA 50,⟨0, [], []⟩, [⟨keyS 2,1, []⟩]⟩ (keyS 2) [wkP]).1 (kH ⟨stA 50,⟨0, [], []⟩, [⟨keyS 2,1, []⟩]⟩ (keyS 2) [wkP]).2.2,(⟨(kH ⟨stA 50,⟨0, [], []⟩, [⟨keyS 2,1, []⟩]⟩ (keyS 2) [wkP]).2.2, [], [], [],0,(kH ⟨stA 50,⟨0, [], []⟩, [⟨keyS 2,1, []⟩]⟩ (keyS 2) [wkP]).2.1⟩:RepP))=_;rw [h];rfl
theorem z2x:∃x:EntP,kh ⟨stW,⟨0, [], []⟩, []⟩ wk4=(⟨⟨stW.aI, [x],50,2⟩,⟨0, [], []⟩, []⟩,⟨0, [], [], [wkP],0, []⟩):=by
 refine⟨⟨keyS 2, [wkP],0,2⟩,?_⟩;have h:atE stW (keyS 2)=aG (0,⟨keyS 2, [wkP],0,1⟩):=by
  unfold atE;simp [List.findIdx?_cons]
 unfold kh;rw [if_neg aa,if_pos aa];unfold entD;rw [if_neg aa,if_pos rfl];unfold gtP;dsimp only;rw [h];rfl
theorem z2z:∃x:EntP,∃r0 r1 r2:RepP,k6 (lo0 50) [Qa,wk2,wk3,wk4]=(⟨⟨stW.aI, [x],50,2⟩,⟨0, [], []⟩, []⟩, [r0,r1,r2,⟨0, [], [], [wkP],0, []⟩]):=by
 obtain⟨x,hx⟩:=z2x;refine⟨x,⟨0,shaS yR, [], [],0, []⟩,⟨0, [], [], [],1, []⟩,⟨0, [], [], [],0, [1]⟩,?_⟩;unfold k6;rw [z0m 50 aa aa];dsimp only;unfold k6;rw [z2u];dsimp only;unfold k6;rw [z17];dsimp only;unfold k6;rw [hx];rfl
theorem z2v:chk [wkP]=0:=by
 have h:hexC (shaS yR)=0:=zy _;unfold chk;rw [if_neg aa,qX];dsimp only;rw [if_neg aa];simp [h,yn]
theorem z18:∀o∈ [Qa,wk2,wk3,wk4],GoodD o:=by
 intro o ho;simp only [List.mem_cons,List.not_mem_nil,or_false]at ho;rcases ho with rfl | rfl | rfl | rfl
 ·exact Zi (k:=1) (f:=⟨false,false,true,false⟩) rfl (fun _=>rfl) (fun _=>rfl) (fun h=>by cases h) (fun _=>rfl) wu (fun h=>by cases h) aa rfl
 ·exact Zi (k:=12) (f:=⟨true,true,false,false⟩) rfl (fun h=>by cases h) (fun h=>by cases h) (fun _=>rfl) (fun _=>rfl) wu (fun _=>zy _) aa rfl (h5:=fun _=>⟨2,aa,rfl⟩)
 ·exact Zi (k:=13) (f:=⟨false,true,false,true⟩) rfl (fun _=>rfl) (fun h=>by cases h) (fun _=>rfl) (fun h=>by cases h) wu (fun _=>zy _) aa z2v (h5:=fun _=>⟨2,aa,rfl⟩)
 ·exact Zi (k:=6) (f:=⟨false,true,false,false⟩) rfl (fun _=>rfl) (fun h=>by cases h) (fun _=>rfl) (fun _=>rfl) wu (fun _=>zy _) aa rfl (h5:=fun _=>⟨2,aa,rfl⟩)
theorem VO (w:World):Calls zZZ 11 #[] w fun e w'=>e= .returned (.bool true)/\Below w.heap.size w w':=by
 obtain⟨w1,hw1⟩:=wY (w.alloc (aE #[aB .u8 97,aB .u8 98,aB .u8 99] 5 (3,4)))
 have z1:kW w1 w.heap.size (aG ⟨w.heap.size,0,aF⟩) 3 yR:=by rw [hw1];exact YB w
 have hb1:Below w.heap.size w w1:=by rw [hw1];exact(Below.refl _ _).alloc ag _
 obtain⟨HD,HK,HB1,HW1⟩:=sqJ4 (yr (aG ⟨w.heap.size,0,aF⟩) 3 3 yR w1 rfl ag aa z1.sl.1.rd) (fun W=>UQ 2 W aa aa) hb1 hw1;have hkc:=fun (w:World) (C:Array Value) (n c:Nat)=>Lib.run_convert_bytes_const (P:=zZZ) w 26 5 C n c underlying26 underlying5;clear z1 hb1 hw1;go_enter func11,ntmps11;go_wp2_with fail;rw [<-HW1.o];refine wZ HD.o fun w2 hb2=>?_;dsimp only;obtain⟨w3,hw3⟩:=wY (w2.alloc (aE #[aB .u8 97,aB .u8 98,aB .u8 99] 5 (3,4)))
 have z3:kW w3 w2.heap.size (aG ⟨w2.heap.size,0,aF⟩) 3 yR:=by rw [hw3];exact YB w2
 have hb3:Below w2.heap.size w2 w3:=by rw [hw3];exact(Below.refl _ _).alloc ag _
 obtain⟨HB3,HS3,HW3⟩:=sqJ3 ((wm HB1.o hb2).trans (hb3.mono (wm HB1.o hb2).size)) z3.sl.1 hw3;clear hb2 hw3 z3 hb3 HD HB1 HW1;go_wp2_with fail;rw [<-HW3.o];refine wZ ((HK.o w3)) fun w4 hb4=>?_;dsimp only;go_wp2_with fail;refine wZ ((HK.o w4)) fun w5 hb5=>?_;dsimp only;rw [show keyS (pk 2 7)=keyS 2 from rfl];obtain⟨w6,hw6⟩:=wY (w5.alloc (aE #[aD ⟨#[97]⟩,aD ⟨(shaS yR).toArray⟩,aB aC 3] 85))
 have hA6:Arr w6 w5.heap.size 85 (pcs [wkP]):=by rw [hw6];exact Arr.new w5 85 (pcs [wkP])
 have hb6:Below w5.heap.size w5 w6:=by rw [hw6];exact(Below.refl _ _).alloc ag _
 have hs6:Sl w6 3 (aG ⟨w5.heap.size,0,aF⟩) 1 1 (pcs [wkP]):=⟨Rd.of_arr hA6 rfl ac,Nat.le_refl _,aa,fun a e=>by cases e;exact hA6.lt⟩
 have hb45:=wm hb4 hb5;have hb46:=wm hb45 hb6;obtain⟨HB6,HS6,HT6,HW6,HK6⟩:=sqJ5 (wm HB3.o hb46) hs6 (HS3.o.below hb46) hw6 (HK.o w6);clear hb4 hb5 hb45 hb46 hw6 hA6 hb6 hs6 HB3 HS3 HW3 HK;go_wp2_with fail;rw [<-HW6.o];refine wZ HK6.o fun w7 hb7=>?_;dsimp only;rw [show keyS (pk 2 7)=keyS 2 from rfl];obtain⟨w8,hw8⟩:=wY (w7.alloc (aE #[aB aC 1,aB aC 0,aD ⟨#[]⟩,aA (aG ⟨w2.heap.size,0,aF⟩) 3 3,aA aF 0 0,aB aC 12,aB aC 1,aD ⟨(keyS 2).toArray⟩,aA aF 0 0,aA aF 0 0,aB aC 13,aB aC 0,aD ⟨(keyS 2).toArray⟩,aA aF 0 0,aA (aG ⟨w5.heap.size,0,aF⟩) 1 1,aB aC 6,aB aC 0,aD ⟨(keyS 2).toArray⟩,aA aF 0 0,aA aF 0 0] 29))
 have hA8:Arr w8 w7.heap.size 29 [aB aC 1,aB aC 0,aD ⟨#[]⟩,aA (aG ⟨w2.heap.size,0,aF⟩) 3 3,aA aF 0 0,aB aC 12,aB aC 1,aD ⟨(keyS 2).toArray⟩,aA aF 0 0,aA aF 0 0,aB aC 13,aB aC 0,aD ⟨(keyS 2).toArray⟩,aA aF 0 0,aA (aG ⟨w5.heap.size,0,aF⟩) 1 1,aB aC 6,aB aC 0,aD ⟨(keyS 2).toArray⟩,aA aF 0 0,aA aF 0 0]:=by rw [hw8];exact Arr.new w7 29 _
 have hb8:Below w7.heap.size w7 w8:=by rw [hw8];exact(Below.refl _ _).alloc ag _
 have hb68:=wm hb7 hb8;have hT8:=HT6.o.below hb68;have hS8:=HS6.o.below hb68;have hrw:Rw OrdS w8 (aG ⟨w7.heap.size,0,aF⟩) [Qa,wk2,wk3,wk4]:=Rw.of_cells (n:=4) [(Qa,xu Qa (aG ⟨w2.heap.size,0,aF⟩) 3 aF 0),(wk2,xu wk2 aF 0 aF 0),(wk3,xu wk3 aF 0 (aG ⟨w5.heap.size,0,aF⟩) 1),(wk4,xu wk4 aF 0 aF 0)] rfl (fun p hp=>by
  simp only [List.mem_cons,List.not_mem_nil,or_false]at hp;rcases hp with rfl | rfl | rfl | rfl
  ·exact⟨_,_,_,_,rfl,hT8,Sl.nil_ _ _⟩
  ·exact⟨_,_,_,_,rfl,Sl.nil_ _ _,Sl.nil_ _ _⟩
  ·exact⟨_,_,_,_,rfl,Sl.nil_ _ _,hS8⟩
  ·exact⟨_,_,_,_,rfl,Sl.nil_ _ _,Sl.nil_ _ _⟩) hA8 rfl
 have hru:=z3v 50 (aG ⟨w7.heap.size,0,aF⟩) 4 4 [Qa,wk2,wk3,wk4] w8 aa rfl aa ag aa z18 hrw;obtain⟨x,r0,r1,r2,hrr⟩:=z2z;rw [hrr]at hru;dsimp only at hru;obtain⟨HRU,HW8,HB8⟩:=sqJ3 hru hw8 (wm HB6.o hb68);clear hw8 hA8 hb7 hb8 hb68 hT8 hS8 hrw hru hrr HB6 HS6 HT6 HW6 HK6;go_wp2_with fail;rw [<-HW8.o];refine HRU.o.mono ?_;rintro e_ w9 ⟨vr,v1,v2,v3,v4,rfl,hrx,hol,hb9⟩;dsimp only;obtain⟨Ar,cr,rfl,hcr,hcm,hRr⟩:=hrx.rwo.rows;obtain⟨⟨X,cX,Y,dY,G,ng,F,cF⟩,rfl,rfl,rfl,rfl, -⟩:=hol.rd;obtain⟨b1,o1,B1,c1,B1',c1',C1,d1,hAr,hbw,e0, -, -,e3, -, -, -,hs2, -⟩:=hRr.rep_at 3 (by show 3<4;decide);subst hAr;have HB9:=sqH (wm HB8.o hb9);simp only [List.getElem_cons_succ,List.getElem_cons_zero]at e0 e3 hs2;obtain⟨b2,o2,rfl,hbq,hq⟩:=hs2.rd.2 aa;have q1:=hq 1 _ rfl;have hb0:=World.size_alloc;clear hrx hol hb9 hRr hcr hcm HRU HB8 HW8 hs2 hq hb0;go_wp2_with fail;go_ret;exact⟨rfl,HB9.o.alloc HB9.o.size _⟩
theorem z0s (l:LoP) (os:List OrdP) (k:Nat) (hk:k<os.length) (hk2:k<(k6 l os).2.length) :
  (k6 l os).2[k]=(kh (k6 l (os.take k)).1 os[k]).2/\(k6 l (os.take (k+1))).1=(kh (k6 l (os.take k)).1 os[k]).1:=by
 have h1:(k6 l (os.take (k+1))).1=(kh (k6 l (os.take k)).1 os[k]).1:=by rw [List.take_succ_eq_append_getElem hk,ZC]
 refine⟨?_,h1⟩;have h2:(k6 l os).2=(k6 l (os.take k)).2++((kh (k6 l (os.take k)).1 os[k]).2::(k6 (kh (k6 l (os.take k)).1 os[k]).1 (os.drop (k+1))).2):=by
  have h:=jM l (os.take k) (os.drop k);rw [List.take_append_drop]at h;rw [h];show(k6 l (os.take k)).2++(k6 (k6 l (os.take k)).1 (os.drop k)).2=_;rw [List.drop_eq_getElem_cons hk];rfl
 have h3:(k6 l (os.take k)).2.length=k:=by rw [vG,List.length_take];omega
 simp only [h2];rw [List.getElem_append_right wu];simp [h3]
theorem KW (h:∀p∈fs,p.key≠k):kD fs k=false:=by
 unfold kD;rw [List.any_eq_false];intro p hp;simpa using h p hp
theorem z07 (ha:∀p∈l.fs,∀x∈l.st.aJ,x.key≠p.key) (h:l.st.aJ.findIdx? (fun x=>x.key==k)=aG i):∀p∈l.fs,p.key≠k:=fun p hp e=>by
 obtain⟨hi,hk⟩:=xq h
 exact ha p hp _ (List.getElem_mem hi) (by rw [hk,e])
inductive Onc (fs fs':List FlP) (o:OrdP) (r:RepP):Prop where
 | lead (h:o.kind=12) (hn:r.n=1) (hf:fnd 0 fs o.dig=aF) (he:fs'=fs++ [⟨o.dig,(o.n:Int), []⟩])
 | wait (h:o.kind=12) (hn:r.n=2) (i:Nat) (hi:i<fs.length) (hf:fnd 0 fs o.dig=aG i) (he:fs'=fs.set i ⟨fs[i].key,fs[i].lead,fs[i].wait++ [(o.n:Int)]⟩)
 | has (h:o.kind=12) (hn:r.n=0) (hf:fnd 0 fs o.dig=aF) (he:fs'=fs)
 | done (h:o.kind=13\/o.kind=14) (i:Nat) (hi:i<fs.length) (hf:fnd 0 fs o.dig=aG i) (hw:r.who=fs[i].lead::fs[i].wait) (he:fs'=fs.eraseIdx i)
 | other (h:o.kind<12\/14<o.kind) (he:fs'=fs)
theorem Zd (h:(kX fs k).2.2=0):∃i,∃hi:i<fs.length,fnd 0 fs k=aG i/\kX fs k=(fs.eraseIdx i,fs[i].lead::fs[i].wait,0):=by
 cases hf:fnd 0 fs k with
 | none=>unfold kX at h;rw [hf]at h;cases h
 | some i =>
  obtain⟨hi,_⟩:=qy hf;refine⟨i,hi,rfl,?_⟩;unfold kX;rw [hf];simp only [List.getElem?_eq_getElem hi]
theorem z0i (ha:∀p∈l.fs,∀x∈l.st.aJ,x.key≠p.key) (hk:o.kind=12) (h:(kh l o).2.err=0):Onc l.fs (kh l o).1.fs o (kh l o).2:=by
 have e1:kh l o=fliD l o:=by unfold kh;rw [if_neg wu,if_neg wu,if_neg wu]
 rw [e1]at h ⊢
 unfold fliD at h ⊢
 rw [if_pos hk]at h ⊢
 dsimp only at h ⊢
 rw [h];unfold xb;rw [if_pos rfl];unfold jv at h ⊢
 cases he:l.st.aJ.findIdx? (fun x=>x.key==o.dig) with
 | some i =>
  obtain⟨hi,_⟩:=xq he;have hno:=z07 ha he;simp only [List.getElem?_eq_getElem hi];exact .has hk (by show(if (0:Nat)≠0 then 0 else if false=true then 1 else if kD l.fs o.dig=true then 2 else 0)=0;rw [KW hno];rfl) ((zT _ _ _).2 hno) rfl
 | none =>
  rw [he]at h;dsimp only at h ⊢
  by_cases hj:(kK l.fs o.dig o.n).2.2=0
  rotate_left
  ·rw [if_neg hj]at h;exact absurd h hj
  rw [if_pos hj];dsimp only;cases hf:fnd 0 l.fs o.dig with
  | none =>
   unfold kK at hj ⊢
   rw [hf]at hj ⊢
   dsimp only at hj ⊢
   by_cases h6:l.fs.length=6
   ·rw [if_pos h6]at hj;cases hj
   ·rw [if_neg h6];exact .lead hk rfl hf rfl
  | some i =>
   obtain⟨hi,hki⟩:=qy hf;unfold kK at hj ⊢
   rw [hf]at hj ⊢
   simp only [List.getElem?_eq_getElem hi]at hj ⊢
   by_cases hc:((l.fs[i].lead::l.fs[i].wait).contains (o.n:Int))=true
   ·rw [if_pos hc]at hj;cases hj
   rw [if_neg hc]at hj ⊢
   by_cases h5:l.fs[i].wait.length=5
   ·rw [if_pos h5]at hj;cases hj
   rw [if_neg h5];refine .wait hk ?_ i hi hf rfl;show(if (0:Nat)≠0 then 0 else if false=true then 1 else if kD (l.fs.set i ⟨l.fs[i].key,l.fs[i].lead,l.fs[i].wait++ [(o.n:Int)]⟩) o.dig=true then 2 else 0)=2;have hw:kD (l.fs.set i ⟨l.fs[i].key,l.fs[i].lead,l.fs[i].wait++ [(o.n:Int)]⟩) o.dig=true:=by
    unfold kD;rw [List.any_eq_true];exact⟨_,List.mem_set hi _,by simpa using hki⟩
   rw [hw];rfl
theorem Us (hk:o.kind=13\/o.kind=14) (h:(kh l o).2.err=0):Onc l.fs (kh l o).1.fs o (kh l o).2:=by
 have e1:kh l o=fliD l o:=by unfold kh;rw [if_neg wu,if_neg wu,if_neg wu]
 rw [e1]at h ⊢
 unfold fliD at h ⊢
 rw [if_neg wu]at h ⊢
 by_cases hk3:o.kind=13
 ·rw [if_pos hk3]at h ⊢
  dsimp only at h ⊢
  rw [h];unfold xb;rw [if_pos rfl];unfold kH at h ⊢
  by_cases he:(kX l.fs o.dig).2.2=0
  rotate_left
  ·rw [if_neg he]at h;exact absurd h he
  rw [if_pos he]at h ⊢
  by_cases hp:(qJ l.st l.co o.dig o.aP).2.2=0
  rotate_left
  ·rw [if_neg hp]at h;exact absurd h hp
  rw [if_pos hp];obtain⟨i,hi,hf,e⟩:=Zd he;exact .done hk i hi hf (by show(kX l.fs o.dig).2.1=_;rw [e]) (by show(kX l.fs o.dig).1=_;rw [e])
 ·rw [if_neg hk3]at h ⊢
  dsimp only at h ⊢
  rw [h];unfold xb;rw [if_pos rfl];unfold yX at h ⊢
  by_cases he:(kX l.fs o.dig).2.2=0
  rotate_left
  ·rw [if_neg he]at h;exact absurd h he
  rw [if_pos he];obtain⟨i,hi,hf,e⟩:=Zd he;exact .done hk i hi hf (by show(kX l.fs o.dig).2.1=_;rw [e]) (by show(kX l.fs o.dig).1=_;rw [e])
theorem yA (l:LoP) (s:StoP) (c:ColP) (e:Nat):(zJ l s c e).fs=l.fs:=by unfold zJ;split<;>rfl
theorem z2p (hk:o.kind<12):(kh l o).1.fs=l.fs:=by
 unfold kh;split
 ·unfold blobD;split
  ·exact yA _ _ _ _
  ·split
   ·rfl
   ·exact yA _ _ _ _
 ·split
  ·unfold entD;split
   ·unfold xb;split
    ·rename_i h0;unfold Y1 at h0 ⊢
     split
     ·rename_i h1;rw [if_pos h1]at h0;cases h0
     ·rename_i h1;rw [if_neg h1]at h0;split
      ·rfl
      ·rename_i h2;rw [if_neg h2]at h0;exact absurd h0 h2
    ·rfl
   ·split
    ·exact yA _ _ _ _
    ·exact yA _ _ _ _
  ·rw [if_pos wu];unfold roomD;split
   ·exact yA _ _ _ _
   ·split
    ·split<;>rfl
    ·split<;>rfl
theorem Ut (ha:∀p∈l.fs,∀x∈l.st.aJ,x.key≠p.key) (hk:o.kind<=14) (h:(kh l o).2.err=0):Onc l.fs (kh l o).1.fs o (kh l o).2:=by
 by_cases h12:o.kind=12
 ·exact z0i ha h12 h
 ·by_cases h13:o.kind=13\/o.kind=14
  ·exact Us h13 h
  ·exact .other wu (z2p wu)
theorem WhoD.del {D:DataW Unit} (h:WhoD fs D) (hn:(fs.map (·.key)).Nodup) (hf:fnd 0 fs k=aG i):WhoD (fs.eraseIdx i) (D.del (.string k)):=by
 obtain⟨hi,hk⟩:=qy hf;have hhas:Maps.has D (.string k)=true:=by rw [h.has,hf];rfl
 refine⟨h.tidy.del _,?_,fun k'=> ?_,fun k'=> ?_⟩
 ·have:=size_del (k:= .string k) h.tidy;rw [hhas,h.size]at this;rw [List.length_eraseIdx_of_lt hi];simp at this;omega
 ·by_cases e:k'=k
  ·subst e;rw [has_del_same,<-hk,kJ hn hi];rfl
  ·rw [has_del_other (by simpa using e),h.has,yx hi (by rw [hk];exact e)]
 ·by_cases e:k'=k
  ·subst e;rw [atKey_del_same,xn (by rw [<-hk];exact kJ hn hi)];rfl
  ·rw [atKey_del_other (by simpa using e),h.at_];have h1:=yx (fs:=fs) hi (k:=k') (by rw [hk];exact e);cases h2:fnd 0 (fs.eraseIdx i) k' with
   | none=>rw [h2]at h1;rw [xn h2,xn (by cases h3:fnd 0 fs k' with | none=>rfl | some j=>rw [h3]at h1;cases h1)]
   | some j=>rw [Xb hn (by rw [h2];rfl)]
theorem Uu (os:List OrdP) (hg:∀o∈os,GoodD o) (hl:os.length<=78):∃FS:Nat->List FlP,FS 0= []/\∀k (hk:k<os.length) (hk2:k<(k6 (lo0 2000) os).2.length),GoodF (FS k)/\os[k].kind<=14/\((k6 (lo0 2000) os).2[k].err≠0->FS (k+1)=FS k)/\((k6 (lo0 2000) os).2[k].err=0->Onc (FS k) (FS (k+1)) os[k] (k6 (lo0 2000) os).2[k]):=by
 refine⟨fun k=>(k6 (lo0 2000) (os.take k)).1.fs,rfl,fun k hk hk2=> ?_⟩;obtain⟨h1,h2⟩:=z0s (lo0 2000) os k hk hk2;have hi:=(LInv.zero (aL:=2000) wu).run (os:=os.take k) (by rw [List.length_take];omega) (fun o ho=>hg o (List.mem_of_mem_take ho));have hki:os[k].kind<=14:=(J0 (hg _ (List.getElem_mem hk)).g.kind).2;dsimp only;rw [h1,h2];refine⟨hi.f,hki,fun h=> ?_,fun h=>Ut hi.ap hki h⟩;rw [UE h]
section
variable {P:Program} {k e:TypeId} {q:IntKind} {w:World} {base b n:Nat} {D:DataW Unit}
theorem Q3 {t E:TypeId} {key:Value} {kl:Lit} (h:w.ownsGroups P k base e q b n D) (K:Keyed P k) (ht:P.underlying t=aG (.map k E)) (hkey:keyOf P k key=aG kl) :
  ∃w2,(∀ty,(Builtin.delete_ #[t,k] ty #[.map (aG b),key]).run P w= .ok (.tuple #[]) w2)/\w2.ownsGroups P k base e q b n (D.del kl)/\w.grownBy w2 (aG b):=by
 obtain⟨es,aK,hb,F,hs,rfl,hbb,hlen,hap⟩:=h;obtain⟨es',hrun,F',hle,hdel,hsub,hwho⟩:=fit_drop_who (ty:=0) K ht hb F hkey;have hg2:w.grownBy (ChangeMaps.setBlock w b (.map es' aK)) (aG b):=⟨rfl,rfl,rfl,by simp [ChangeMaps.setBlock],fun i _ hi=>ChangeMaps.heap_setBlock_other hb _ (fun e1=>hi (by rw [e1]))⟩
 have zf:∀ {u:Value} {ys:List Int},w.ownsInts base e q u ys->u.ownBlock=aF\/u.ownBlock≠aG b:=fun {u ys} ho=>by
  cases hu:u.ownBlock with
  | none=>exact Or.inl rfl
  | some g =>
   refine Or.inr (fun e1=> ?_);have:=(ho.1.lt g hu).1;cases e1
   omega
 have hs2:∀x∈es'.toList,∀z,rowElem (H:=Unit) w base e q x.val=aG z->rowElem (ChangeMaps.setBlock w b (.map es' aK)) base e q x.val=aG z:=by
  intro x _ z hz;obtain⟨ys,ho,rfl⟩:=rowElem_inv hz;exact rowElem_mk (ho.kept hg2 (zf ho))
 obtain⟨F2,hmap2,_⟩:=F'.stay hs2;refine⟨_,fun ty=>hrun,⟨es',aK,ChangeMaps.heap_setBlock_same hb _,F2,Nat.le_trans hle hs,?_,hbb,fun x hx ys ho=> ?_,fun x hx y hy hne=>hap x (hsub.subset hx) y (hsub.subset hy) hne⟩,hg2⟩
 ·rw [hmap2,DataW.del_eq,hdel]
 ·have hx0:=hsub.subset hx;obtain⟨y,hy⟩:=F.reads x hx0;obtain⟨z,hz,_⟩:=WideElems.rd_val hy;obtain⟨ys0,ho0,_⟩:=rowElem_inv hz;rw [ho.unique (ho0.kept hg2 (zf ho0))];exact hlen x hx0 ys0 ho0
end
theorem z1r (A B:aj) (c d:Nat) (l:List Int) (w:World) (hn:l.length<=9223372036854775807) (h1:Rd w 1 A l.length (ins l)) (h2:Rd w 1 B l.length (ins l)) :
  Calls zZZ 13 #[aA A l.length c,aA B l.length d] w fun e w'=>e= .returned (.bool true)/\∃q,w'=w.drewN q:=by
 rcases Nat.eq_zero_or_pos l.length with h0 | h0
 ·rw [h0];refine(Tryz.slices_Equal_int_empty A B c 0 d w wu).mono ?_;rintro e w' ⟨rfl,rfl⟩;exact⟨ab,0,rfl⟩
 ·obtain⟨b1,o1,rfl,_,hc1⟩:=h1.2 wu;obtain⟨b2,o2,rfl,_,hc2⟩:=h2.2 wu;have hg:∀j,j<l.length->(ins l)[j]?=aG (aB aC (l.getD j 0)):=fun j hj=>by
   rw [ins,List.getElem?_map,List.getElem?_eq_getElem hj,List.getD_eq_getElem?_getD,List.getElem?_eq_getElem hj];rfl
  refine(Tryz.slices_Equal_int b1 o1 l.length c b2 o2 l.length d l l w ag ag hn hn (fun j hj=>hc1 j _ (hg j hj)) (fun j hj=>hc2 j _ (hg j hj))).mono ?_;rintro e w' ⟨rfl,h⟩;exact⟨ab,h⟩
theorem Uv (w:World) (e:TypeId) (n:Int) (hb:base<=w.heap.size) (h:(Lit.int aC n).wf=true):(w.alloc (.cells #[aB aC n] e)).ownsInts base e aC (aA (aG ⟨w.heap.size,0,aF⟩) 1 1) [n] :=
 ⟨⟨rfl,.inr ⟨w.heap.size,1,#[aB aC n],rfl,hb,World.alloc_heap_new w _,Nat.le_refl _,by simp [maxLen],rfl,rfl⟩⟩,fun z hz=>by rw [List.mem_singleton.1 hz];exact h⟩
theorem Z0 (A:aj) (n c:Nat) (l:List RawP) (w:World) (hl:l.length=n) (hc:n<=c) (hm:c<=maxLen) (hok:∀r∈l,RawOk r) (hr:Rd w 4 A n (rcs l)) :
  Calls zZZ 4 #[aA A n c] w fun e w'=>e= .returned (.bool true)/\Below w.heap.size w w':=by
 have HOR:=sqH (Yp A n c l 70 70 rfl wu w hl hc hm hok hr);clear hl hc hm hok hr;go_enter func4,ntmps4;go_wp2_with fail;refine HOR.o.mono ?_;rintro e_ w1 ⟨v,os,rfl,hos,hgo,hol,hb1⟩;dsimp only;obtain⟨B,d,rfl,hd1,hd2,hrw⟩:=hos.rows;have HB1:=sqH hb1;have hru:=z3v 2000 B os.length d os w1 wu rfl wu hd1 hd2 hgo hrw;obtain⟨FS,hf0,hfs⟩:=Uu os hgo wu;have hln:=vG (lo0 2000) os;generalize k6 (lo0 2000) os=lr at *
 obtain⟨lo,rs⟩:=lr;dsimp only at hru hln hfs;obtain⟨HRU,HF0,HFS,HGO,HRW,HLN⟩:=sqJ6 hru hf0 hfs hgo (fun W (h:Below w1.heap.size w1 W)=>hrw.below h) hln;have hol7:os.length<=70:=hol;have hdl:os.length<=d:=hd1;clear hgo hos hb1 hrw HOR hru hol hd1 hd2 hf0 hfs;go_wp2_with fail;refine HRU.o.mono ?_;rintro e_ w2 ⟨vr,v1,v2,v3,v4,rfl,hrx,hol2,hb2⟩;dsimp only;obtain⟨Ar,cr,rfl,hc1,hc2,hrr⟩:=hrx.rwo.rows;obtain⟨⟨X,cX,Y,dY,G,ng,F,cF⟩,rfl,rfl,rfl,rfl, -⟩:=hol2.rd;rw [hln]at hc1 ⊢
 obtain⟨w3,hw3⟩:=wY (w2.alloc (.cells #[aA X lo.st.aI.length cX,aA Y lo.st.aJ.length dY,aB aC lo.st.aL,aB aC lo.st.aK,aB aC lo.co.aN,aA G lo.co.aM.length ng,.string ⟨lo.co.at_.toArray⟩,aA F lo.fs.length cF] 40))
 have hb3:Below w2.heap.size w2 w3:=by rw [hw3];exact(Below.refl _ _).alloc ag _
 have hb13:=wm hb2 hb3;obtain⟨HWK,HRO,HRR,HB3,HW3⟩:=sqJ5 (VO w3) (fun W (h:Below w3.heap.size w3 W)=>(HRW.o w3 hb13).below h) (fun W (h:Below w3.heap.size w3 W)=>(hrr.below hb3).below h) (wm HB1.o hb13) hw3;clear hw3 hb3 hb13 hrx hol2 hb2 hrr HRU HRW HB1 hln;have hmm:= @run_makeMap zZZ;go_wp2_with fail;rw [<-HW3.o];refine wZ HWK.o fun w4 hb4=>?_;dsimp only;have HB4:=sqH (wm HB3.o hb4);have HR4:=sqH (fun W (h:Below w4.heap.size w4 W)=>aH (HRO.o W (wm hb4 h)) (HRR.o W (wm hb4 h)));clear hb4 HWK HW3 HRO HRR HB3;go_wp2_with fail;have hm0:=World.ownsGroups_made (H:=Unit) w4 zZZ 9 3 aC;have hb5:=ws w4 (.map #[] 0);go_loopg [8,9,10,35] os.length (fun gn u8 u9 u10 vi wr=>∃(k:Nat) (D:DataW Unit),gn=os.length - k/\vi= aB aC k/\k<=os.length/\WhoD (FS k) D/\wr.ownsGroups zZZ 9 (w4.heap.size+1) 3 aC w4.heap.size k D/\Below w4.heap.size w4 wr)
 case atStart=>exact⟨0,_,rfl,rfl,Nat.zero_le _,by rw [HF0.o];exact WhoD.nil_,hm0,hb5⟩
 case round =>
  clear hm0 hb5;obtain⟨k,D,hgk,rfl,hk,hW,hown,hbel⟩:=hrel;have HGK:=sqH hgk;clear hgk;by_cases hlt:k<os.length
  rotate_left
  ·obtain rfl:k=os.length:=by omega
   have hcc:decide (os.length<os.length)=false:=ab;have hcd:decide ((os.length:Int)<(os.length:Int))=false:=ab;go_wp2_with fail;go_ret;exact⟨rfl,wm HB4.o hbel⟩
  have hcc:decide (k<os.length)=true:=decide_eq_true hlt;have hcd:decide ((k:Int)<(os.length:Int))=true:=decide_eq_true wu;have hk0:=we k
  have hk1:(k:Int)<(os.length:Int):=wu;have hkr:k<rs.length:=by have:=HLN.o;omega
  have hkc:(k:Int)<(cr:Int):=wu;have hkd:(k:Int)<(d:Int):=wu;obtain⟨b,off,B8,c8,B9,c9,rfl,hbw,d0,d1,d2,d3,d4, -, -⟩:=(HR4.o wr hbel).1.ord_at k hlt;obtain⟨br,or,R1,r1,R2,r2,R3,r3,rfl,hbr,e0,e1,e2,e3,e4,e5, -, -,hsw⟩:=(HR4.o wr hbel).2.rep_at k hkr;have hbm:b<w4.heap.size:=by
   obtain⟨b',_,_,_,_,_,hE,hb',_⟩:=(HR4.o w4 (Below.refl _ _)).1.ord_at k hlt;cases hE;exact hb'
  obtain⟨hgf,hk14,hne,hon⟩:=HFS.o k hlt hkr;have hgo:=HGO.o _ (List.getElem_mem hlt);generalize os[k]=o at *
  generalize rs[k]=r at *
  obtain⟨s,hs⟩:=wY (⟨o.dig.toArray⟩:ByteArray)
  rw [<-hs]at d2;have HKX:=sqH (show 12<=o.kind->keyOf zZZ 9 (.string s)=aG (.string o.dig) from fun h=>by
   obtain⟨j,_,e⟩:=hgo.k7 (.inr h);rw [hs];exact z0b o.dig (by rw [e,keyS,vH]))
  have HN2:=sqH (show o.kind=12->1<=o.n/\o.n<=1000 from hgo.ask);obtain⟨wq,hwq⟩:=wY (wr.alloc (.cells #[aB aC r.err,.string ⟨r.dig.toArray⟩,aA R1 r.data.length r1,aA R2 r.aP.length r2,aB aC r.n,aA R3 r.who.length r3] 47))
  have hbq:Below wr.heap.size wr wq:=by rw [hwq];exact(Below.refl _ _).alloc ag _
  have hbx:Arr wq wr.heap.size 47 [aB aC r.err,.string ⟨r.dig.toArray⟩,aA R1 r.data.length r1,aA R2 r.aP.length r2,aB aC r.n,aA R3 r.who.length r3]:=by rw [hwq];exact Arr.new wr 47 _
  obtain⟨HSW,HWD,HAT,HON0,HNE0,HND,HWQ⟩:=sqJ7 (hsw.rd.below hbq) hW (hW.at_ o.dig) hon hne hgf.nodup hwq;have D0:=(hbq.cell (p:=⟨b,off+k*5,aF⟩) hbw).trans d0;have D1:=(hbq.cell (p:=⟨b,off+k*5+1,aF⟩) hbw).trans d1;have HX:=sqH (aH (aH D0 D1) hbx);clear hs hwq hsw hW hon hne hgf hgo D0 D1 hbx
  refine wM 10 ?_;intros;rw [<-HWQ.o];clear d0 d1 d2 d3 d4 e0 e1 e2 e3 e4 e5 HWQ;obtain⟨⟨d0,d1⟩,hbx⟩:=HX.o;have y0:=hbx.c0;have y4:=hbx.c4;have y5:=hbx.c5;clear hbx;by_cases herr:r.err=0
  rotate_left
  ·have q0:((r.err:Int) != 0)=true:=by rw [bne_iff_ne];omega
   have HFN:=sqH (HNE0.o herr);clear herr;obtain⟨HWN,HON,HBN⟩:=sqJ3 (show WhoD (FS (k+1)) D from by rw [HFN.o];exact HWD.o) (ye (q8 hown hbq) (Nat.le_succ k)) (wm hbel hbq);clear hown hbq hbel;go_wp2_with fail;go_roundg (os.length - (k+1))
   case measure=>exact wc HGK
   case rel=>exact⟨k+1,_,rfl,by go_num,wu,HWN.o,HON.o,HBN.o⟩
  have q0:((r.err:Int) != 0)=false:=by rw [bne_eq_false_iff_eq];omega
  cases HON0.o herr with
  | lead h hn hf he =>
   have hko:=HKX.o wu;have HKO:=sqH hko;have hnn:=HN2.o h;have q1:((o.kind:Int)==12)=true:=by rw [beq_iff_eq];omega
   have q2:((r.n:Int)==1)=true:=by rw [beq_iff_eq];omega
   have HFE:=sqH (aH hf he);clear herr h hn he hf hko;obtain⟨v,zs,hrun,hat2,hoi,hzl,hback,hvlt⟩:=yy hown hbq KD underlying50 (Vc _) (by unfold maxLen;omega) HKO.o;have hzs:=QK hoi (HAT.o.symm.trans hat2);obtain⟨Av,cv,rfl,hcv,hrv⟩:=Rd.of_own' hoi.1;clear hat2;rw [xn HFE.o.1]at hzs;subst hzs;simp only [List.length_nil]at hrun;have hbs:=hbq.size;have hw4:w4.heap.size<wq.heap.size:=by
    obtain⟨es,aK,hb,_⟩:=q8 hown hbq;exact(Array.getElem?_eq_some_iff.1 hb).1
   have hoN:=Uv wq (base:=w4.heap.size+1) 3 (o.n:Int) wu (wfI wu wu);have hgN:=zR (ws wq (.cells #[aB aC o.n] 3));obtain⟨w2,hrun2,hown2,hgrow2⟩:=hback _ _ [(o.n:Int)] (hgN _) hoN ab (.inr ⟨_,rfl,Nat.le_refl _⟩);have hrow:rowDatum (H:=Unit) aC (aA (aG ⟨wq.heap.size,0,aF⟩) 1 1) [(o.n:Int)]=grpD [(o.n:Int)]:=by
    rw [hoN.datum_pos ab];rfl
   rw [hrow]at hown2;obtain⟨HWN,HON,HBN⟩:=sqJ3 (show WhoD (FS (k+1)) (D.put (.string o.dig) (grpD [(o.n:Int)])) from by rw [HFE.o.2];exact HWD.o.new HFE.o.1) hown2 (Below.groups (wm hbel hbq) hoi (hgN _) hgrow2 wu (Nat.le_succ _) ag);clear hown hbq hbel hoi hzl hback hvlt hoN hgN hrow hown2 hgrow2 hrv hbs hw4;go_wp2_with fail;go_roundg (os.length - (k+1))
   case measure=>exact wc HGK
   case rel=>exact⟨k+1,_,rfl,by go_num,wu,HWN.o,HON.o,HBN.o⟩
  | wait h hn i hi hf he =>
   have hko:=HKX.o wu;have HKO:=sqH hko;have hnn:=HN2.o h;have q1:((o.kind:Int)==12)=true:=by rw [beq_iff_eq];omega
   have q2:((r.n:Int)==1)=false:=by rw [beq_eq_false_iff_ne];omega
   have q3:((r.n:Int)==2)=true:=by rw [beq_iff_eq];omega
   have HFE:=sqH (aH hf he);clear herr h hn he hf hko;obtain⟨v,zs,hrun,hat2,hoi,hzl,hback,hvlt⟩:=yy hown hbq KD underlying50 (Vc _) (by unfold maxLen;omega) HKO.o;have hzs:=QK hoi (HAT.o.symm.trans hat2);obtain⟨Av,cv,rfl,hcv,hrv⟩:=Rd.of_own' hoi.1;clear hat2;rw [xo HFE.o.1 hi]at hzs;have hz1:zs.length=(FS k)[i].wait.length+1:=by rw [hzs];rfl
   have q4:((zs.length:Int)==0)=false:=by rw [beq_eq_false_iff_ne];omega
   have hbs:=hbq.size;have hw4:=hbel.size;have hnb:∀g,(aA Av zs.length cv).ownBlock=aG g->w4.heap.size<g:=fun g e=>by have:=(hoi.1.lt g e).1;omega
   obtain⟨v',zs',hrl, -, -, -⟩:=Q4 underlying9 KD underlying50 Vc (q8 hown hbq) (by unfold maxLen;omega) HKO.o;obtain rfl:v'= aA Av zs.length cv:=by
    have:=(hrl wq rfl).symm.trans hrun;injection this
   have hbml:w4.heap.size<wq.heap.size:=by
    obtain⟨es,aK,hb,_⟩:=q8 hown hbq;exact(Array.getElem?_eq_some_iff.1 hb).1
   obtain⟨bm,hbmE⟩:=wY w4.heap.size
   have HZS:=sqH hzs;have HBG:=sqH (fun W W' (h1:wq.grownBy W (aA Av zs.length cv).ownBlock) (h2:W.grownBy W' (aG w4.heap.size))=>Below.groups (wm hbel hbq) hoi h1 h2 wu (Nat.le_succ _) ag);rw [<-hbmE]at hnb hrl hbml hoi hback HBG hbm ⊢
   have HBM:=sqH hbml;have hcell:∀W,Below wq.heap.size wq W->W.cell? ⟨b,off+k*5+1,aF⟩=aG (aB aC o.n):=fun W h=>(h.cell (p:=⟨b,off+k*5+1,aF⟩) (by show b<_;omega)).trans d1;obtain⟨HSB,HSG,HOI,HZL,HZK,HBK,HWF⟩:=sqJ7 (show ∀W,Below wq.heap.size wq W->(Instr.lookup 50 (.map (aG bm)) (.string s) false).run zZZ W= .ok (aA Av zs.length cv) W/\W.cell? ⟨b,off+k*5+1,aF⟩=aG (aB aC o.n) from fun W h=>⟨hrl W (h.block bm hbml),hcell W h⟩) (show ∀W W',Below wq.heap.size wq W->W.grownBy W' (aA Av zs.length cv).ownBlock->(Instr.lookup 50 (.map (aG bm)) (.string s) false).run zZZ W'= .ok (aA Av zs.length cv) W'/\W'.cell? ⟨b,off+k*5+1,aF⟩=aG (aB aC o.n) from fun W W' h1 h2=>⟨hrl W' ((h2.block bm (by have:=h1.size;omega) (fun e=>by have:=hnb bm e.symm;omega)).trans (h1.block bm hbml)),h2.cell (hcell W h1) (fun e=>by have:=hnb b e.symm;omega)⟩) hoi (show zs.length<=70 by omega) hzl hback (wfI (n:=(o.n:Int)) wu wu);have HWN:=sqH (show WhoD (FS (k+1)) (D.put (.string o.dig) (grpD (zs++ [(o.n:Int)]))) from by
    rw [HFE.o.2,hzs];exact HWD.o.more (p:=⟨(FS k)[i].key,(FS k)[i].lead,(FS k)[i].wait++ [(o.n:Int)]⟩) HFE.o.1 hi rfl)
   clear hown hbq hbel hoi hzl hback hvlt hzs hz1 hbs hw4 hnb hrl hcell hbml hrv HFE HAT;rw [hbmE]at HSB HSG HBM HOI HBK HBG hbm ⊢
   clear hbmE;generalize hbmE:w4.heap.size=bm at *
   clear hrun;have hrun:=(HSB.o wq (Below.refl _ _)).1
   refine wN 18 ?_;intros;clear hrun;refine kj 12 (S:=(fun w'=>(Instr.lookup 50 (.map (aG bm)) (.string s) false).run zZZ w'= .ok (aA Av zs.length cv) w'/\w'.cell? ⟨b,off+k*5+1,aF⟩=aG (aB aC o.n))) ww ?_ (fun hHeld=> ?_)
   ·exact HSB.o _ (Below.refl _ wq).drew
   have hB:=(Below.refl wq.heap.size wq).drew;generalize wq.drew=wn0 at *
   refine wR 0 ?_;refine wR 1 ?_;refine wR 2 ?_;refine wR 3 ?_;refine wR 4 ?_;refine wR 5 ?_;refine wR 6 ?_;refine wR 7 ?_;refine wR 8 ?_;refine wR 9 ?_;refine wV 10 fun K hK=>?_;go_simp;refine z1c hK ?_ (Below wn0.heap.size wn0) (fun W=>Rd W 1 (aG ⟨wn0.heap.size,0,aF⟩) 1 [aB aC o.n]) ?_ ?_ (fun wn1 hHeld hst hnew=> ?_)
   ·(exact HSB.o _ (hB.trans (Below.mono (show Below wn0.heap.size wn0 _ from by(first | exact(Below.refl _ _).alloc ag _ | exact Below.refl _ _)) hB.size)))
   ·(first | exact(Below.refl _ _).alloc ag _ | exact Below.refl _ _)
   ·(exact Rd.newN [aB aC o.n] rfl)
   have hB:=wm hB hst;have h10:=hnew;clear hst;clear hK K
   try simp only [sqP]
   refine wV 11 fun K hK=>?_;refine uv rfl (.tmp 95) (.tmp 101) rfl U0 ac (zc HOI.o.1 hB) ac h10 (by intro u hu;simp only [List.mem_singleton]at hu;subst hu;rfl) (wc HZL) (by have:=hB.size;have:=HBM.o;omega) ?_;intro v7 w7 ho7 hg7 hv7;refine z1c hK ?_ (fun W=>wq.grownBy W (aA Av zs.length cv).ownBlock/\W.ownsInts (bm+1) 3 aC v7 (zs++ [(o.n:Int)])/\(v7.ownBlock=(aA Av zs.length cv).ownBlock\/∃g,v7.ownBlock=aG g/\wq.heap.size<=g)) (fun W=>True) ?_ ?_ (fun wn2 hHeld hF _=> ?_)
   ·exact HSG.o _ _ hB hg7
   ·exact⟨(zR hB _).trans hg7,(HOI.o.kept (zR hB aF) (by cases (aA Av zs.length cv).ownBlock<;>simp)).appended (by simpa using ho7) HWF.o,hv7.imp id fun e=>⟨_,e,hB.size⟩⟩
   ·trivial
   clear hB ho7 hg7 hv7 h10;clear hK K
   try simp only [sqP]
   refine q9 (rs:= [12]) ww ab ?_;refine zE.last (o:=_) rfl (fun K hK=> ?_);obtain⟨hgw,hoi7,hv7⟩:=hF;obtain⟨w2,hrun2,hown2,hgrow2⟩:=HBK.o wn2 v7 (zs++ [(o.n:Int)]) hgw hoi7 (by rw [List.length_append];have:=HZK.o;simp only [List.length_cons,List.length_nil];omega) hv7;have HBN:=sqH (HBG.o _ _ hgw hgrow2);clear hgw hv7 hHeld hgrow2;go_simp;refine z40 hK ?_;clear hK K
   try simp only [sqP]
   refine uy ww ?_ _
   try dsimp only [Exit.then]
   have hrow:rowDatum (H:=Unit) aC v7 (zs++ [(o.n:Int)])=grpD (zs++ [(o.n:Int)]):=by
    rw [hoi7.datum_pos ab];cases zs<;>rfl
   rw [hrow]at hown2;have HON:=sqH hown2;clear hown2 hrun2 hoi7 hrow;go_wp2_with fail;go_roundg (os.length - (k+1))
   case measure=>exact wc HGK
   case rel=>exact⟨k+1,_,rfl,by go_num,wu,HWN.o,HON.o,HBN.o⟩
  | has h hn hf he =>
   have hko:=HKX.o wu;have HKO:=sqH hko;have q1:((o.kind:Int)==12)=true:=by rw [beq_iff_eq];omega
   have q2:((r.n:Int)==1)=false:=by rw [beq_eq_false_iff_ne];omega
   have q3:((r.n:Int)==2)=false:=by rw [beq_eq_false_iff_ne];omega
   have HFE:=sqH (aH hf he);clear herr h hn he hf hko;obtain⟨v,zs,hrun,hat2,hoi,hzl,hback,hvlt⟩:=yy hown hbq KD underlying50 (Vc _) (by unfold maxLen;omega) HKO.o;have hzs:=QK hoi (HAT.o.symm.trans hat2);obtain⟨Av,cv,rfl,hcv,hrv⟩:=Rd.of_own' hoi.1;clear hat2;rw [xn HFE.o.1]at hzs;subst hzs;simp only [List.length_nil]at hrun;clear hoi hzl hback hvlt hrv;obtain⟨HWN,HON,HBN⟩:=sqJ3 (show WhoD (FS (k+1)) D from by rw [HFE.o.2];exact HWD.o) (ye (q8 hown hbq) (Nat.le_succ k)) (wm hbel hbq);clear hown hbq hbel;go_wp2_with fail;go_roundg (os.length - (k+1))
   case measure=>exact wc HGK
   case rel=>exact⟨k+1,_,rfl,by go_num,wu,HWN.o,HON.o,HBN.o⟩
  | done h i hi hf hw he =>
   have hko:=HKX.o wu;have HKO:=sqH hko;have q1:((o.kind:Int)==12)=false:=by rw [beq_eq_false_iff_ne];omega
   have HFE:=sqH (aH hf he);have HWH:=sqH hw;clear herr he hf hko hw;obtain⟨v,zs,hrun,hat2,hoi,hzl,hback,hvlt⟩:=yy hown hbq KD underlying50 (Vc _) (by unfold maxLen;omega) HKO.o;have hzs:=QK hoi (HAT.o.symm.trans hat2);obtain⟨Av,cv,rfl,hcv,hrv⟩:=Rd.of_own' hoi.1;clear hat2;rw [xo HFE.o.1 hi]at hzs;have hz1:zs.length=(FS k)[i].wait.length+1:=by rw [hzs];rfl
   have q4:((zs.length:Int)==0)=false:=by rw [beq_eq_false_iff_ne];omega
   have hww:r.who=zs:=HWH.o.trans hzs.symm;have hsw:=HSW.o;rw [hww]at hsw y5;have HEQ:=sqH (z1r R3 Av r3 cv zs wq wu hsw hrv);have HGN:=sqH (show ∀q,∃w2,(∀ty,(Builtin.delete_ #[50,9] ty #[.map (aG w4.heap.size),.string s]).run zZZ (wq.drewN q)= .ok (.tuple #[]) w2)/\w2.ownsGroups zZZ 9 (w4.heap.size+1) 3 aC w4.heap.size (k+1) (D.del (.string o.dig))/\Below w4.heap.size w4 w2 from fun q=>by
    have hbd:=below_drewN (hbq) q;obtain⟨w2,h1,h2,h3⟩:=Q3 (q8 hown hbd) KD underlying50 HKO.o;exact⟨w2,h1,ye h2 (Nat.le_succ k),(wm hbel hbd).grown h3 (wm hbel hbd).size (fun j hj=>by cases hj;exact Nat.le_refl _)⟩)
   have HWN:=sqH (show WhoD (FS (k+1)) (D.del (.string o.dig)) from by rw [HFE.o.2];exact HWD.o.del HND.o HFE.o.1);clear hown hbq hbel hoi hzl hback hvlt hrv hzs hz1 hww hsw;rcases h with h | h
   ·have q5:((o.kind:Int)==13)=true:=by rw [beq_iff_eq];omega
    clear h;go_wp2_with fail;refine HEQ.o.mono ?_;rintro e_ wE ⟨rfl,q,hwE⟩;dsimp only;subst hwE;obtain⟨w2,hrun2,hown2,hbl2⟩:=HGN.o q;have HON:=sqH hown2;have HBN:=sqH hbl2;clear hown2 hbl2;go_wp2_with fail;go_roundg (os.length - (k+1))
    case measure=>exact wc HGK
    case rel=>exact⟨k+1,_,rfl,by go_num,wu,HWN.o,HON.o,HBN.o⟩
   ·have q5:((o.kind:Int)==13)=false:=by rw [beq_eq_false_iff_ne];omega
    have q6:((o.kind:Int)==14)=true:=by rw [beq_iff_eq];omega
    clear h;go_wp2_with fail;refine HEQ.o.mono ?_;rintro e_ wE ⟨rfl,q,hwE⟩;dsimp only;subst hwE;obtain⟨w2,hrun2,hown2,hbl2⟩:=HGN.o q;have HON:=sqH hown2;have HBN:=sqH hbl2;clear hown2 hbl2;go_wp2_with fail;go_roundg (os.length - (k+1))
    case measure=>exact wc HGK
    case rel=>exact⟨k+1,_,rfl,by go_num,wu,HWN.o,HON.o,HBN.o⟩
  | other h he =>
   have q1:((o.kind:Int)==12)=false:=by rw [beq_eq_false_iff_ne];omega
   have q5:((o.kind:Int)==13)=false:=by rw [beq_eq_false_iff_ne];omega
   have q6:((o.kind:Int)==14)=false:=by rw [beq_eq_false_iff_ne];omega
   have HFN:=sqH he;clear herr h he;obtain⟨HWN,HON,HBN⟩:=sqJ3 (show WhoD (FS (k+1)) D from by rw [HFN.o];exact HWD.o) (ye (q8 hown hbq) (Nat.le_succ k)) (wm hbel hbq);clear hown hbq hbel;go_wp2_with fail;go_roundg (os.length - (k+1))
   case measure=>exact wc HGK
   case rel=>exact⟨k+1,_,rfl,by go_num,wu,HWN.o,HON.o,HBN.o⟩
end Go.Proofs.YtaboknhfiijipaaGreat
