/- Lemmas, as stated. -/
import Derived.Test.YtaboknhfiijipaaGreatQT30
import Derived.Test.YtaboknhfiijipaaGreatQT31
import Derived.Test.YtaboknhfiijipaaGreatQT32
set_option linter.unusedVariables false
set_option linter.unusedSimpArgs false
set_option maxRecDepth 100000
set_option maxHeartbeats 16000000
open Go.Proofs.Tryz
open Go.Proofs.Tryz renaming prog->zZZ
open Go.Value renaming slice->ax,int->ay,string->aA
open Go.IntKind renaming i64->az
open Go.Obj renaming cells->aB
open Option renaming none->aC,some->aD
open And renaming intro->aE
namespace Go.Proofs.YtaboknhfiijipaaGreat
open Go.RowKit Go.Maps
variable {l:LoP} {b' base g gR n:Nat} {o:OrdP} {v v2 vo:Value} {w w':World} {k:ae} {xs:ag} {N:aj}
theorem UM {d:ae} (h:hexC d=0):d.length=64:=by
 unfold hexC at h;split at h
 ·cases h
 ·omega
theorem z2o (g:Nat) (p:LoW) (l:LoP) (kd n:Nat) (dg D:ae) (ps:List PartP) (A:af) (c:Nat) (A':af) (c':Nat) (w:World) (hL:GoodL l) (h3:D.length<=300) (hk:1<=kd/\kd<=4) (N:aj) (hNg:N g) (hNw:∀b,N b->b<w.heap.size) (hb:DkB w g p l N) (hd:Sl w 1 A D.length c (bys D)) (hq:Sl w 3 A' ps.length c' (pcs ps)) :
  Calls zZZ 66 #[.pointer (aD ⟨g,0,aC⟩),orV kd n dg D ps A c A' c'] w (k5 w g N (blobD l ⟨kd,n,dg,D,ps⟩)):=by
 have hc:kd=1\/kd=2\/(kd=3\/kd=4):=wm;rcases hc with h | h | h
 ·exact z0y g p l kd n dg D ps A c A' c' w hL h3 h N hNg hNw hb hd hq
 ·exact z0z g p l kd n dg D ps A c A' c' w hL h N hNg hNw hb hd hq
 ·exact z10 g p l kd n dg D ps A c A' c' w hL h N hNg hNw hb hd hq
theorem z3k (g:Nat) (p:LoW) (l:LoP) (kd n:Nat) (dg D:ae) (ps:List PartP) (A:af) (c:Nat) (A':af) (c':Nat) (w:World) (hL:GoodL l) (hx:hexC dg=0) (hpz:chk ps=0) (hck:l.st.aH<1099511627776) (hlen:l.st.aG.length<10) (hk:5<=kd/\kd<=8) (N:aj) (hNg:N g) (hNw:∀b,N b->b<w.heap.size) (hb:DkB w g p l N) (hd:Sl w 1 A D.length c (bys D)) (hq:Sl w 3 A' ps.length c' (pcs ps)) :
  Calls zZZ 67 #[.pointer (aD ⟨g,0,aC⟩),orV kd n dg D ps A c A' c'] w (k5 w g N (entD l ⟨kd,n,dg,D,ps⟩)):=by
 have hc:kd=5\/kd=6\/(kd=7\/kd=8):=wm;rcases hc with h | h | h
 ·exact z2p g p l kd n dg D ps A c A' c' w hL hx hpz hck hlen h N hNg hNw hb hd hq
 ·exact z2q g p l kd n dg D ps A c A' c' w hL hck h N hNg hNw hb hd hq
 ·exact z2r g p l kd n dg D ps A c A' c' w hL h N hNg hNw hb hd hq
theorem z2t (g:Nat) (p:LoW) (l:LoP) (kd n:Nat) (dg D:ae) (ps:List PartP) (A:af) (c:Nat) (A':af) (c':Nat) (w:World) (hL:GoodL l) (h8:8*unm l.st.aF+l.co.aJ.length<=1000) (hn:n<=4000) (hk:9<=kd/\kd<=11) (N:aj) (hNg:N g) (hNw:∀b,N b->b<w.heap.size) (hb:DkB w g p l N) (hd:Sl w 1 A D.length c (bys D)) (hq:Sl w 3 A' ps.length c' (pcs ps)) :
  Calls zZZ 68 #[.pointer (aD ⟨g,0,aC⟩),orV kd n dg D ps A c A' c'] w (k5 w g N (roomD l ⟨kd,n,dg,D,ps⟩)):=by
 have hc:kd=9\/kd=10\/kd=11:=wm;rcases hc with h | h | h
 ·exact z16 g p l kd n dg D ps A c A' c' w hL hn h N hNg hNw hb hd hq
 ·exact Jb g p l kd n dg D ps A c A' c' w hL h N hNg hNw hb hd hq
 ·exact Jc g p l kd n dg D ps A c A' c' w hL h8 hn h N hNg hNw hb hd hq
theorem z3l (g:Nat) (p:LoW) (l:LoP) (kd n:Nat) (dg D:ae) (ps:List PartP) (A:af) (c:Nat) (A':af) (c':Nat) (w:World) (hL:GoodL l) (hx:hexC dg=0) (hpz:chk ps=0) (hck:l.st.aH<1099511627776) (hlen:l.st.aG.length<10) (hn1:kd=12->1<=n/\n<=1000) (hk:12<=kd/\kd<=14) (N:aj) (hNg:N g) (hNw:∀b,N b->b<w.heap.size) (hb:DkB w g p l N) (hd:Sl w 1 A D.length c (bys D)) (hq:Sl w 3 A' ps.length c' (pcs ps)) :
  Calls zZZ 69 #[.pointer (aD ⟨g,0,aC⟩),orV kd n dg D ps A c A' c'] w (k5 w g N (fliD l ⟨kd,n,dg,D,ps⟩)):=by
 have hc:kd=12\/kd=13\/kd=14:=wm;rcases hc with h | h | h
 ·exact z12 g p l kd n dg D ps A c A' c' w hL hx (by have:=UM hx;omega) (hn1 h).1 (hn1 h).2 hck h N hNg hNw hb hd hq
 ·exact z13 g p l kd n dg D ps A c A' c' w hL hx hpz hck hlen h N hNg hNw hb hd hq
 ·exact z14 g p l kd n dg D ps A c A' c' w hL h N hNg hNw hb hd hq
theorem z1f (h:GoodO o):o.dig= []\/hexC o.dig=0:=by
 cases hf:(fOf o.kind).1.dig with
 | false=>exact .inl (h.d0 hf)
 | true=>exact .inr (h.d1 hf)
theorem Ja (kd n:Nat) (dg D:ae) (ps:List PartP) (A:af) (c:Nat) (A':af) (c':Nat) (w:World) (ho:GoodO ⟨kd,n,dg,D,ps⟩) (hq:Sl w 3 A' ps.length c' (pcs ps)) :
  Calls zZZ 47 #[orV kd n dg D ps A c A' c'] w fun e w'=>e= .returned (ay az 0)/\Below w.heap.size w w':=by
 have hdl:dg.length<=140737488351232:=by
  rcases z1f ho with h | h
  ·have h:dg= []:=h;rw [h];simp
  ·have:=UM h;have:dg.length=64:=this;omega
 have hp8:=(zk ho.p1).1;have hpm:ps.length<=9223372036854775807:=by have:ps.length<=8:=hp8;omega
 have hok:=vy ho.p1;have hcz:chk ps=0:=ho.p1;have hn4:n<=4000:=ho.n1;have ht3:D.length<=300:=ho.t1;obtain⟨⟨fn,fd,ft,fp⟩,hff⟩:∃f,fOf kd=(f,true):=⟨(fOf kd).1,by
  have:=ho.kind;show fOf kd=_;rw [<-show(fOf kd).2=true from this]⟩
 have h1:fn=false->n=0:=fun h=>ho.n0 (by show(fOf kd).1.n=false;rw [hff];exact h);have h2:fd=false->dg= []:=fun h=>ho.d0 (by show(fOf kd).1.dig=false;rw [hff];exact h);have h3:ft=false->D.length=0:=fun h=>by rw [show D= [] from ho.t0 (by show(fOf kd).1.data=false;rw [hff];exact h)];rfl
 have h4:fp=false->ps.length=0:=fun h=>by rw [show ps= [] from ho.p0 (by show(fOf kd).1.aM=false;rw [hff];exact h)];rfl
 have h5:fd=true->hexC dg=0:=fun h=>ho.d1 (by show(fOf kd).1.dig=true;rw [hff];exact h);have hsh:(fn=false/\fd=false/\ft=true/\fp=false)\/(fn=false/\fd=true/\ft=false/\fp=false)\/(fn=false/\fd=true/\ft=false/\fp=true)\/(fn=true/\fd=false/\ft=false/\fp=false)\/(fn=false/\fd=false/\ft=false/\fp=false)\/(fn=true/\fd=true/\ft=false/\fp=false):=by
  have hz:=hff;unfold fOf at hz
  repeat' split at hz
  all_goals first | (cases hz;simp;done) | cases hz
 unfold orV;obtain⟨S,hS⟩:=wV (⟨dg.toArray⟩:ByteArray)
 have HX:=sqH (fun (h:fd=true) w'=>kw 0 (r:=0) ww (show hexC S.data.toList=0 by rw [hS];exact h5 h) w' (by rw [hS];simpa [ByteArray.size] using hdl));have e2':fd=false->S.toList.isEmpty=true:=fun h=>by rw [hS,h2 h,ByteArray.toList,ByteArray.toList.loop];simp [ByteArray.size]
 rw [<-hS];generalize hdl':D.length=dl at *
 obtain⟨w1,hw1⟩:=wV (w.alloc (aB #[ay az kd,ay az n,aA S,ax A dl c,ax A' ps.length c'] 29))
 have hof:=z2v kd w1;unfold z1a at hof;rw [hff]at hof;simp only [fcs]at hof;have hb1:Below w.heap.size w w1:=by rw [hw1];exact(Below.refl _ _).alloc ac _
 have hr1:Rd w1 3 A' ps.length (pcs ps):=hq.rd.below hb1;have hA1:Arr w1 w.heap.size 29 [ay az kd,ay az n,aA S,ax A dl c,ax A' ps.length c']:=by rw [hw1];exact Arr.new w 29 _
 obtain⟨g,hg⟩:=wV w.heap.size
 rw [<-hg]at hA1;have HAF:=sqH (show ∀w2,Below w1.heap.size w1 w2->∃w3,w3=w2.alloc (aB #[.bool fn,.bool fd,.bool ft,.bool fp] 105)/\Below w.heap.size w w3/\Arr w3 g 29 [ay az kd,ay az n,aA S,ax A dl c,ax A' ps.length c']/\Rd w3 3 A' ps.length (pcs ps) from fun w2 h =>
  have hb:=wh hb1 h
  ⟨_,rfl,hb.alloc hb.size _,(hA1.below h).alloc _,(hr1.below h).alloc _⟩)
 have HCK:=sqH (fun w' (hw:Rd w' 3 A' ps.length (pcs ps))=>x8 A' ps.length c' ps w' rfl hq.cap hpm hok hw);rw [hcz]at HCK;have f0:=hA1.c0;rw [hw1]at f0;obtain⟨HOF,HW1,HG⟩:=sqJ3 hof hw1 hg;have e5:decide ((n:Int)<0)=false:=decide_eq_false wm;have e6:decide ((4000:Int)<(n:Int))=false:=decide_eq_false wm;have e8:decide ((300:Int)<(dl:Int))=false:=decide_eq_false wm;have e9:decide (300<dl)=false:=decide_eq_false wm;clear hof hff hS hok hcz hw1 hb1 hr1 hg hp8 hpm hdl hn4 hdl' h2 h5 ho hq;rcases hsh with ⟨rfl,rfl,rfl,rfl⟩ | ⟨rfl,rfl,rfl,rfl⟩ | ⟨rfl,rfl,rfl,rfl⟩ | ⟨rfl,rfl,rfl,rfl⟩ | ⟨rfl,rfl,rfl,rfl⟩ | ⟨rfl,rfl,rfl,rfl⟩
 all_goals (
  first | (have e1:((n:Int) != 0)=false:=by rw [h1 rfl];rfl) | skip
  first | (have e2:=e2' rfl) | skip
  first | (have e3:decide ((0:Int)<(dl:Int))=false:=decide_eq_false (by have:=h3 rfl;omega)) | skip
  first | (have e3':decide (0<dl)=false:=decide_eq_false (by have:=h3 rfl;omega)) | skip
  first | (have e4:decide ((0:Int)<(ps.length:Int))=false:=decide_eq_false (by have:=h4 rfl;omega)) | skip
  first | (have e4':decide (0<ps.length)=false:=decide_eq_false (by have:=h4 rfl;omega)) | skip
  clear h1 h3 h4 e2';go_enter func47,ntmps47
  refine wH ?_;intros;rw [<-HW1.o];simp only [<-HG.o];clear f0 hA1;refine wW HOF.o fun w2 hb2=>?_;dsimp only;obtain⟨w3,hw3,hB3,hA3,hr3⟩:=HAF.o w2 hb2;have f1:=hA3.c1;have f2:=hA3.c2;have f3:=hA3.c3;have f4:=hA3.c4;rw [hw3]at f1 f2 f3 f4;have HW3:=sqH hw3;have HB3:=sqH hB3;clear hb2 hw3 hB3
  refine wH ?_;intros;rw [<-HW3.o]at f1 f2 f3 f4 ⊢
  first
  | (
    refine wW (HCK.o w3 hr3) fun w5 hb5=>?_;dsimp only;clear f1 f2 f3 f4 hA3 hr3
    refine wH ?_;intros;go_ret;exact⟨rfl,wh HB3.o hb5⟩)
  | (
    refine wW (HX.o rfl w3) fun w4 hb4=>?_;dsimp only;clear f1 f2 f3 f4;have hA4:=hA3.below hb4;have hr4:=hr3.below hb4;have f3:=hA4.c3;have f4:=hA4.c4;have HB4:=sqH (wh HB3.o hb4);clear hA3 hr3 hA4 hb4
    refine wH ?_;intros;refine wW (HCK.o w4 hr4) fun w5 hb5=>?_;dsimp only;clear f3 f4 hr4
    refine wH ?_;intros;go_ret;exact⟨rfl,wh HB4.o hb5⟩))
theorem z15 (g:Nat) (p:LoW) (l:LoP) (kd n:Nat) (dg D:ae) (ps:List PartP) (A:af) (c:Nat) (A':af) (c':Nat) (w:World) (m:Nat) (hi:LInv m l) (hm:m<=78) (ho:GoodD ⟨kd,n,dg,D,ps⟩) (N:aj) (hNg:N g) (hNw:∀b,N b->b<w.heap.size) (hb:DkB w g p l N) (hd:Sl w 1 A D.length c (bys D)) (hq:Sl w 3 A' ps.length c' (pcs ps)) :
  Calls zZZ 31 #[.pointer (aD ⟨g,0,aC⟩),orV kd n dg D ps A c A' c'] w (k5 w g N (qQ l ⟨kd,n,dg,D,ps⟩)):=by
 have hL:=hi.good hm;have hck:l.st.aH<1099511627776:=by have:=hi.b.ck;omega
 have hlen:l.st.aG.length<10:=by have:=hi.b.e7;omega
 have h8:8*unm l.st.aF+l.co.aJ.length<=1000:=by have:=hi.b.gr;omega
 have hk14:1<=kd/\kd<=14:=z1j ho.g.kind;have hx:(5<=kd/\kd<=8)\/12<=kd->hexC dg=0:=fun h=>by
  obtain⟨j,_,e⟩:=ho.k7 h;rw [show dg=keyS j from e];exact zn _
 have HC:=sqH (aE hck (aE hlen (aE h8 (aE hk14 (aE hx ho)))));clear hi hck hlen h8 hk14 hx;have HGO:=sqH ho;clear ho;obtain⟨X,cX,Y,dY,G,ng,F,cF⟩:=p;obtain⟨s,co,fs⟩:=l;have hgl:=hb.lt;have hgw:=hb.lt;have hbw:=hb.wider (N':=fun b=>N b\/w.heap.size<=b) (fun b h=>h);obtain⟨w0,hw0,hP,hR,hbx⟩:=zo w 29 47 [ay az kd,ay az n,aA ⟨dg.toArray⟩,ax A D.length c,ax A' ps.length c'] [ay az 0,aA ⟨#[]⟩,ax aC 0 0,ax aC 0 0,ay az 0,ax aC 0 0];have HDK:=sqH (show ∀W,Below w0.heap.size w0 W->DkB W g ⟨X,cX,Y,dY,G,ng,F,cF⟩ ⟨s,co,fs⟩ (fun b=>N b\/w.heap.size<=b) from fun W h=>(hbw.below hbx).below h);have HBC:=sqH (show ∀W,Below w0.heap.size w0 W->wF W g (ax X s.aF.length cX) (ax Y s.aG.length dY) (ay az s.aI) (ay az s.aH) (ay az co.aK) (ax G co.aJ.length ng) (aA ⟨co.at_.toArray⟩) (ax F fs.length cF) from fun W h=>by
  have b:=(HDK.o W h).box;exact sqC8 b)
 have hws:=hbx.size;obtain⟨HBX,HD,HQ⟩:=sqJ3 hbx (hd.below hbx) (hq.below hbx);obtain⟨H,hH⟩:=wV w.heap.size
 rw [<-hH]at hP hR hgl;have hHw:w.heap.size<=H:=wm;have hHw1:w.heap.size<=H+1:=wm;have hgH:g≠H+1:=wm;have hHl:H+1<w0.heap.size:=hR.lt;obtain⟨HP,HR,HL,HNW⟩:=sqJ4 (show ∀W,Below w0.heap.size w0 W->Arr W H 29 (orC kd n dg D ps A c A' c') from fun W h=>hP.below h) (show ∀W,Below w0.heap.size w0 W->Arr W (H+1) 47 QW from fun W h=>hR.below h) hL hNw;obtain⟨x0,x1,x2,x3,x4⟩:=sqC5 hP;have HW0:=sqH hw0;have HH:=sqH hH;rw [hw0,hH]at x0 x1 x2 x3 x4;clear hb hbw hbx hd hq hP hR hL hw0 hH hNw;go_enter func31,ntmps31
 refine wH ?_;intros;rw [<-HW0.o,<-HH.o];clear x0 x1 x2 x3 x4;refine wW ((Ja kd n dg D ps A c A' c' w0 HGO.o.g HQ.o)) fun w1 hb1=>?_;dsimp only;have HNW1:=sqH (show ∀b,(N b\/b=H+1)->b<w1.heap.size from fun b hb=>by have:=hb1.size;rcases hb with hb | hb;(have:=HNW.o b hb;omega);omega);have hb0:=(HDK.o _ hb1).mono (N':=fun b=>N b\/b=H+1) (fun b hb=>hb.imp id fun h=>wm);by_cases h4:kd<=4
 ·have c4:decide ((kd:Int)<=4)=true:=decide_eq_true wm;have c4':decide (kd<=4)=true:=decide_eq_true h4;have HK:=sqH h4;clear h4;have HM:=sqH (z2o g _ ⟨s,co,fs⟩ kd n dg D ps A c A' c' w1 HL.o HGO.o.g.t1 (by have:=HC.o.2.2.2.1;have:=HK.o;omega) (fun b=>N b\/b=H+1) (.inl hNg) HNW1.o hb0 (HD.o.below hb1) (HQ.o.below hb1));obtain⟨o0,o1,o2,o3,o4⟩:=sqC5 (HP.o w1 hb1);have HB:=sqH hb1;clear hb1
  refine wH ?_;intros;refine(HM.o).mono ?_;rintro e_ w2 ⟨dv,pv,wv,rfl,hg2,hd2,hra⟩;dsimp only;obtain⟨P1,q1,rfl, -, -⟩:=Rd.of_own' hra.d;obtain⟨P2,q2,rfl, -, -⟩:=Rd.of_own' hra.p;obtain⟨P3,q3,rfl, -, -⟩:=Rd.of_own' hra.w;have hr3:=(HR.o _ HB.o).grown hg2 ab;have HX:=sqH (aE hd2 (aE (zP (HBX.o.trans (HB.o.mono hws)) hg2) (aE hr3 hra)));clear o0 o1 o2 o3 o4 hg2 hd2 hra HM;have e1:qQ ⟨s,co,fs⟩ ⟨kd,n,dg,D,ps⟩=blobD ⟨s,co,fs⟩ ⟨kd,n,dg,D,ps⟩:=(by unfold qQ;rw [if_pos HK.o])
  have HE1:=sqH e1;clear e1;generalize hrr:blobD ⟨s,co,fs⟩ ⟨kd,n,dg,D,ps⟩=r at *
  obtain⟨l2,r⟩:=r;dsimp only at HX hr3 ⊢
  clear hrr;obtain⟨f0,f1,f2,f3,f4,f5⟩:=sqF6 hr3;obtain⟨y0,y1,y2,y3,y4,y5⟩:=sqC6 hr3;have HR3:=sqH hr3;have HF:=sqH (hr3.all6 (ay az r.err) (aA ⟨r.dig.toArray⟩) (ax P1 r.data.length q1) (ax P2 r.aM.length q2) (ay az r.n) (ax P3 r.who.length q3));clear hr3
  refine wH ?_;intros;refine bodyPost_ret (results_cell_row rfl _ _ (H+1) _ _ _ _ ww HF.o underlying47 rfl wo) rfl ?_;rw [HE1.o];obtain⟨⟨p',hd4⟩,hg5,hr5,hra⟩:=HX.o;have hs1:w.heap.size<=w1.heap.size:=Nat.le_trans hws HB.o.size;have hra2:RepAt w2 w.heap.size r (ax P1 r.data.length q1) (ax P2 r.aM.length q2) (ax P3 r.who.length q3):=⟨zb hra.d hs1,zb hra.p hs1,zb hra.w hs1⟩
  exact⟨_,_,_,rfl,zl hg5 hHw1 _ _ _ _ _ _,⟨p',(hd4.set6 hr5 (.inr rfl) hgH _ _ _ _ _ _).mono fun b h=> .inl h⟩,hra2.set6 hr5 _ _ _ _ _ _⟩
 ·have c4:decide ((kd:Int)<=4)=false:=decide_eq_false wm;have c4':decide (kd<=4)=false:=decide_eq_false h4;by_cases h5:kd<=8
  ·have c8:decide ((kd:Int)<=8)=true:=decide_eq_true wm;have HK:=sqH (aE h4 h5);clear h4 h5;have HM:=sqH (z3k g _ ⟨s,co,fs⟩ kd n dg D ps A c A' c' w1 HL.o (HC.o.2.2.2.2.1 (wX HK)) HGO.o.g.p1 HC.o.1 HC.o.2.1 (wX HK) (fun b=>N b\/b=H+1) (.inl hNg) HNW1.o hb0 (HD.o.below hb1) (HQ.o.below hb1));obtain⟨o0,o1,o2,o3,o4⟩:=sqC5 (HP.o w1 hb1);have HB:=sqH hb1;clear hb1
   refine wH ?_;intros;refine(HM.o).mono ?_;rintro e_ w2 ⟨dv,pv,wv,rfl,hg2,hd2,hra⟩;dsimp only;obtain⟨P1,q1,rfl, -, -⟩:=Rd.of_own' hra.d;obtain⟨P2,q2,rfl, -, -⟩:=Rd.of_own' hra.p;obtain⟨P3,q3,rfl, -, -⟩:=Rd.of_own' hra.w;have hr3:=(HR.o _ HB.o).grown hg2 ab;have HX:=sqH (aE hd2 (aE (zP (HBX.o.trans (HB.o.mono hws)) hg2) (aE hr3 hra)));clear o0 o1 o2 o3 o4 hg2 hd2 hra HM;have e1:qQ ⟨s,co,fs⟩ ⟨kd,n,dg,D,ps⟩=entD ⟨s,co,fs⟩ ⟨kd,n,dg,D,ps⟩:=(by unfold qQ;rw [if_neg HK.o.1,if_pos HK.o.2])
   have HE1:=sqH e1;clear e1;generalize hrr:entD ⟨s,co,fs⟩ ⟨kd,n,dg,D,ps⟩=r at *
   obtain⟨l2,r⟩:=r;dsimp only at HX hr3 ⊢
   clear hrr;obtain⟨f0,f1,f2,f3,f4,f5⟩:=sqF6 hr3;obtain⟨y0,y1,y2,y3,y4,y5⟩:=sqC6 hr3;have HR3:=sqH hr3;have HF:=sqH (hr3.all6 (ay az r.err) (aA ⟨r.dig.toArray⟩) (ax P1 r.data.length q1) (ax P2 r.aM.length q2) (ay az r.n) (ax P3 r.who.length q3));clear hr3
   refine wH ?_;intros;refine bodyPost_ret (results_cell_row rfl _ _ (H+1) _ _ _ _ ww HF.o underlying47 rfl wo) rfl ?_;rw [HE1.o];obtain⟨⟨p',hd4⟩,hg5,hr5,hra⟩:=HX.o;have hs1:w.heap.size<=w1.heap.size:=Nat.le_trans hws HB.o.size;have hra2:RepAt w2 w.heap.size r (ax P1 r.data.length q1) (ax P2 r.aM.length q2) (ax P3 r.who.length q3):=⟨zb hra.d hs1,zb hra.p hs1,zb hra.w hs1⟩
   exact⟨_,_,_,rfl,zl hg5 hHw1 _ _ _ _ _ _,⟨p',(hd4.set6 hr5 (.inr rfl) hgH _ _ _ _ _ _).mono fun b h=> .inl h⟩,hra2.set6 hr5 _ _ _ _ _ _⟩
  ·have c8:decide ((kd:Int)<=8)=false:=decide_eq_false wm;by_cases h11:kd<=11
   ·have c11:decide ((kd:Int)<=11)=true:=decide_eq_true wm;have HK:=sqH (aE h4 (aE h5 h11));clear h4 h5 h11;have HM:=sqH (z2t g _ ⟨s,co,fs⟩ kd n dg D ps A c A' c' w1 HL.o HC.o.2.2.1 HGO.o.g.n1 (wX HK) (fun b=>N b\/b=H+1) (.inl hNg) HNW1.o hb0 (HD.o.below hb1) (HQ.o.below hb1));obtain⟨o0,o1,o2,o3,o4⟩:=sqC5 (HP.o w1 hb1);have HB:=sqH hb1;clear hb1
    refine wH ?_;intros;refine(HM.o).mono ?_;rintro e_ w2 ⟨dv,pv,wv,rfl,hg2,hd2,hra⟩;dsimp only;obtain⟨P1,q1,rfl, -, -⟩:=Rd.of_own' hra.d;obtain⟨P2,q2,rfl, -, -⟩:=Rd.of_own' hra.p;obtain⟨P3,q3,rfl, -, -⟩:=Rd.of_own' hra.w;have hr3:=(HR.o _ HB.o).grown hg2 ab;have HX:=sqH (aE hd2 (aE (zP (HBX.o.trans (HB.o.mono hws)) hg2) (aE hr3 hra)));clear o0 o1 o2 o3 o4 hg2 hd2 hra HM;have e1:qQ ⟨s,co,fs⟩ ⟨kd,n,dg,D,ps⟩=roomD ⟨s,co,fs⟩ ⟨kd,n,dg,D,ps⟩:=(by unfold qQ;rw [if_neg HK.o.1,if_neg HK.o.2.1,if_pos HK.o.2.2])
    have HE1:=sqH e1;clear e1;generalize hrr:roomD ⟨s,co,fs⟩ ⟨kd,n,dg,D,ps⟩=r at *
    obtain⟨l2,r⟩:=r;dsimp only at HX hr3 ⊢
    clear hrr;obtain⟨f0,f1,f2,f3,f4,f5⟩:=sqF6 hr3;obtain⟨y0,y1,y2,y3,y4,y5⟩:=sqC6 hr3;have HR3:=sqH hr3;have HF:=sqH (hr3.all6 (ay az r.err) (aA ⟨r.dig.toArray⟩) (ax P1 r.data.length q1) (ax P2 r.aM.length q2) (ay az r.n) (ax P3 r.who.length q3));clear hr3
    refine wH ?_;intros;refine bodyPost_ret (results_cell_row rfl _ _ (H+1) _ _ _ _ ww HF.o underlying47 rfl wo) rfl ?_;rw [HE1.o];obtain⟨⟨p',hd4⟩,hg5,hr5,hra⟩:=HX.o;have hs1:w.heap.size<=w1.heap.size:=Nat.le_trans hws HB.o.size;have hra2:RepAt w2 w.heap.size r (ax P1 r.data.length q1) (ax P2 r.aM.length q2) (ax P3 r.who.length q3):=⟨zb hra.d hs1,zb hra.p hs1,zb hra.w hs1⟩
    exact⟨_,_,_,rfl,zl hg5 hHw1 _ _ _ _ _ _,⟨p',(hd4.set6 hr5 (.inr rfl) hgH _ _ _ _ _ _).mono fun b h=> .inl h⟩,hra2.set6 hr5 _ _ _ _ _ _⟩
   ·have c11:decide ((kd:Int)<=11)=false:=decide_eq_false wm;have HK:=sqH (aE h4 (aE h5 h11));clear h4 h5 h11;have HM:=sqH (z3l g _ ⟨s,co,fs⟩ kd n dg D ps A c A' c' w1 HL.o (HC.o.2.2.2.2.1 (wX HK)) HGO.o.g.p1 HC.o.1 HC.o.2.1 HGO.o.ask (by have:=HK.o;have:=HC.o.2.2.2.1;omega) (fun b=>N b\/b=H+1) (.inl hNg) HNW1.o hb0 (HD.o.below hb1) (HQ.o.below hb1));obtain⟨o0,o1,o2,o3,o4⟩:=sqC5 (HP.o w1 hb1);have HB:=sqH hb1;clear hb1
    refine wH ?_;intros;refine(HM.o).mono ?_;rintro e_ w2 ⟨dv,pv,wv,rfl,hg2,hd2,hra⟩;dsimp only;obtain⟨P1,q1,rfl, -, -⟩:=Rd.of_own' hra.d;obtain⟨P2,q2,rfl, -, -⟩:=Rd.of_own' hra.p;obtain⟨P3,q3,rfl, -, -⟩:=Rd.of_own' hra.w;have hr3:=(HR.o _ HB.o).grown hg2 ab;have HX:=sqH (aE hd2 (aE (zP (HBX.o.trans (HB.o.mono hws)) hg2) (aE hr3 hra)));clear o0 o1 o2 o3 o4 hg2 hd2 hra HM;have e1:qQ ⟨s,co,fs⟩ ⟨kd,n,dg,D,ps⟩=fliD ⟨s,co,fs⟩ ⟨kd,n,dg,D,ps⟩:=(by unfold qQ;rw [if_neg HK.o.1,if_neg HK.o.2.1,if_neg HK.o.2.2])
    have HE1:=sqH e1;clear e1;generalize hrr:fliD ⟨s,co,fs⟩ ⟨kd,n,dg,D,ps⟩=r at *
    obtain⟨l2,r⟩:=r;dsimp only at HX hr3 ⊢
    clear hrr;obtain⟨f0,f1,f2,f3,f4,f5⟩:=sqF6 hr3;obtain⟨y0,y1,y2,y3,y4,y5⟩:=sqC6 hr3;have HR3:=sqH hr3;have HF:=sqH (hr3.all6 (ay az r.err) (aA ⟨r.dig.toArray⟩) (ax P1 r.data.length q1) (ax P2 r.aM.length q2) (ay az r.n) (ax P3 r.who.length q3));clear hr3
    refine wH ?_;intros;refine bodyPost_ret (results_cell_row rfl _ _ (H+1) _ _ _ _ ww HF.o underlying47 rfl wo) rfl ?_;rw [HE1.o];obtain⟨⟨p',hd4⟩,hg5,hr5,hra⟩:=HX.o;have hs1:w.heap.size<=w1.heap.size:=Nat.le_trans hws HB.o.size;have hra2:RepAt w2 w.heap.size r (ax P1 r.data.length q1) (ax P2 r.aM.length q2) (ax P3 r.who.length q3):=⟨zb hra.d hs1,zb hra.p hs1,zb hra.w hs1⟩
    exact⟨_,_,_,rfl,zl hg5 hHw1 _ _ _ _ _ _,⟨p',(hd4.set6 hr5 (.inr rfl) hgH _ _ _ _ _ _).mono fun b h=> .inl h⟩,hra2.set6 hr5 _ _ _ _ _ _⟩
theorem RwX.set1R {k:Nat} {rs:List RepP} {u:Value} (h:RwX Js 47 w base v rs (fun b=>b<=g)) (hg:gR<=g) (hA:Arr w gR 40 xs):RwX Js 47 (w.setCell ⟨gR,k,aC⟩ u) base v rs (fun b=>b<=g):=by
 obtain⟨ys,hy⟩:=h.own_m;exact h.other (zQ w gR k u) (fun b e=>by cases e;exact zg hy hA ws) (fun b e=>by cases e;exact hg)
theorem RwX.set8R {rs:List RepP} {x0 x1 x2 x3 x4 x5 x6 x7:Value} (h:RwX Js 47 w base v rs (fun b=>b<=g)) (hg:gR<=g) (hA:Arr w gR 40 [x0,x1,x2,x3,x4,x5,x6,x7]) (u0 u1 u2 u3 u4 u5 u6 u7:Value):RwX Js 47 (UX w gR u0 u1 u2 u3 u4 u5 u6 u7) base v rs (fun b=>b<=g):=by
 have a0:=hA.set (k:=0) wu u0;have a1:=a0.set (k:=1) wu u1;have a2:=a1.set (k:=2) wu u2;have a3:=a2.set (k:=3) wu u3;have a4:=a3.set (k:=4) wu u4;have a5:=a4.set (k:=5) wu u5;have a6:=a5.set (k:=6) wu u6;exact(((((((h.set1R hg hA).set1R hg a0).set1R hg a1).set1R hg a2).set1R hg a3).set1R hg a4).set1R hg a5).set1R hg a6
theorem vh {P:Program} {fn:Func} {p u z:Tmp} {ty:TypeId} (h:fn.results=#[.tmp u,.cell p ty,.tmp z]) (tmps:Array Value) (w:World) (g:Nat) (t:TypeId) (cs:Array Value) (fr:Nat×Nat) (d:TypeDesc)
  (hp:tmps.getD p undef= .pointer (aD ⟨g,0,aC⟩)) (hg:w.heap[g]?=aD (.cells cs t fr))
  (hu:P.underlying ty=aD d) (hd:(match d with | .struct _ | .array _ _=>true | _=>false)=true) (hi:(P.info? ty).map (·.size)=aD cs.size) :
  (results fn tmps).run P w= .ok (.tuple #[tmps.getD u undef,.agg cs,tmps.getD z undef]) w:=by
 have hp':tmps[p]?.getD undef= .pointer (aD ⟨g,0,aC⟩):=by simpa using hp
 simp [results,h,hp',asAddr,run_loadVar_row w g t ty cs fr d hg hu hd hi]
theorem OwLo.grownR {v1 v3 v4:Value} (h:OwLo w base v1 v2 v3 v4 l N) (hx:w.ownsRow b' 47 6 vo n xs) (hg:w.grownBy w' vo.ownBlock) (hN:∀b,vo.ownBlock=aD b->N b):OwLo w' base v1 v2 v3 v4 l N:=by
 obtain⟨xs1,hx1⟩:=h.s.b.own_m;obtain⟨xs2,hx2⟩:=h.s.e.own_m;have kp:∀ {e:TypeId} {size m:Nat} {v:Value} {ys:ag},w.ownsRow base e size v m ys->e≠47->w'.ownsRow base e size v m ys:=fun ho hne=>ho.kept hg (by
  rename_i v ys;cases hb:v.ownBlock with
  | none=>exact .inl rfl
  | some b=>exact .inr (fun e=>uh ho hx hne b hb e.symm))
 refine⟨⟨h.s.b.other hg (fun b e1 e2=>uh hx1 hx ws b e2 e1) (fun b e=> .inl (hN b e)),h.s.e.other hg (fun b e1 e2=>uh hx2 hx ws b e2 e1) (fun b e=> .inl (hN b e)),h.s.ne⟩,kp h.c ws,?_⟩;obtain⟨As,h1,h2,h3,h4⟩:=h.f;exact⟨As,h1,kp h2 ws,fun k p a hp ha=>⟨kp (h3 k p a hp ha).1 ws,(h3 k p a hp ha).2⟩,h4⟩
theorem DkB.grownR {p:LoW} (h:DkB w g p l N) (hx:w.ownsRow b' 47 6 vo n xs) (hg:w.grownBy w' vo.ownBlock) (hN:∀b,vo.ownBlock=aD b->N b):DkB w' g p l N :=
 ⟨h.box.grown hg (zg hx h.box ws),h.own.grownR hx hg hN⟩
theorem z2u (aI:Nat) (A:af) (n c:Nat) (os:List OrdP) (w:World) (hroom:aI<=4000) (hl:os.length=n) (hn:n<=79) (hc:n<=c) (hm:c<=maxLen) (hgo:∀o∈os,GoodD o) (hr:Rw OrdS w A os) :
  Calls zZZ 10 #[ay az aI,ax A n c] w fun e w'=>∃vr v1 v2 v3 v4,e= .returned (.tuple #[vr,KD v1 v2 v3 v4 (kg (lo0 aI) os).1,ay az 0])/\RwX Js 47 w' w.heap.size vr (kg (lo0 aI) os).2 (fun b=>b<w.heap.size)/\OwLo w' w.heap.size v1 v2 v3 v4 (kg (lo0 aI) os).1 (fun b=>b<w.heap.size)/\Below w.heap.size w w':=by
 obtain⟨w1,hw1,hR,hB,hbx⟩:=zo w 40 82 [ax aC 0 0,ax aC 0 0,ay az 0,ay az 0,ay az 0,ax aC 0 0,aA ⟨#[]⟩,ax aC 0 0] [ax aC 0 0,ax aC 0 0,ay az aI,ay az 0,ay az 0,ax aC 0 0,aA ⟨#[]⟩,ax aC 0 0];have hr0:decide ((aI:Int)<0)=false:=decide_eq_false wm;have hr1:decide ((aI:Int)>4000)=false:=decide_eq_false wm;have hr2:decide ((4000:Int)<(aI:Int))=false:=decide_eq_false wm;have hr3:decide (4000<aI)=false:=decide_eq_false wm;have hn0:decide ((n:Int)>80)=false:=decide_eq_false wm;have hn1:decide ((80:Int)<(n:Int))=false:=decide_eq_false wm;have hn2:decide (80<n)=false:=decide_eq_false wm;obtain⟨gR,hgR⟩:=wV w.heap.size
 obtain⟨g,hg⟩:=wV (w.heap.size+1)
 rw [<-hg]at hB;rw [<-hgR]at hR;have hgg:g=gR+1:=wm;have hgl:g<w1.heap.size:=hB.lt;have hDB0:DkB w1 g ⟨aC,0,aC,0,aC,0,aC,0⟩ (lo0 aI) (fun b=>b<=g\/(ax aC 0 0).ownBlock=aD b):=⟨hB,⟨⟨RwX.nil_ (World.ownsRow_nil _ _ _ _),RwX.nil_ (World.ownsRow_nil _ _ _ _),fun g h=>by cases h⟩,World.ownsRow_nil _ _ _ _,FlsO.nil_ _ _ _ (World.ownsRow_nil _ _ _ _)⟩⟩
 obtain⟨HDB0,HL,HGO,HRD,HW1,HBX,HGR,HGG⟩:=sqJ8 hDB0 hl hgo hr hw1 hbx hgR hg;have HR:=sqH hR;have hn63:n<=79:=hn;clear hl hgo hr hw1 hbx hgR hg hR hB hDB0 hm;go_enter func10,ntmps10
 refine wH ?_;intros;rw [<-HW1.o];simp only [<-HGR.o];rw [<-hgg];have hgR1:gR<g:=wm;have hgR2:∀b,b<w.heap.size->b<=g:=fun b h=>by have:=HGR.o;omega
 clear hgg;clear hr0 hr1 hr2 hr3 hn0 hn1 hn2;go_loopg [8,32] n (fun gn vo vi wr=>∃(i:Nat) (p:LoW),gn=n - i/\vi= ay az i/\i<=n/\Below w.heap.size w wr/\DkB wr g p (kg (lo0 aI) (os.take i)).1 (fun b=>b<=g\/vo.ownBlock=aD b)/\RwX Js 47 wr w.heap.size vo (kg (lo0 aI) (os.take i)).2 (fun b=>b<=g)/\Arr wr gR 40 [ax aC 0 0,ax aC 0 0,ay az 0,ay az 0,ay az 0,ax aC 0 0,aA ⟨#[]⟩,ax aC 0 0])
 case atStart=>exact⟨0,_,rfl,rfl,Nat.zero_le _,HBX.o,HDB0.o,RwX.nil_ (World.ownsRow_nil _ _ _ _),HR.o⟩
 case round =>
  obtain⟨i,p,hgk,rfl,hi,hbel,hdb,hrx,hra⟩:=hrel;obtain⟨HGK,HBE,HDB,HRX,HRA⟩:=sqJ5 hgk hbel hdb hrx hra;have hwr:w.heap.size<=wr.heap.size:=hbel.size;have hgr:g<wr.heap.size:=hdb.lt;have HINV:=sqH (show LInv i (kg (lo0 aI) (os.take i)).1 from by
   have h:=(LInv.zero hroom).run (os:=os.take i) (by rw [List.length_take];omega) (fun o ho=>HGO.o o (List.mem_of_mem_take ho));rw [List.length_take,HL.o,Nat.min_eq_left hi,Nat.zero_add]at h;exact h)
  clear hgk hdb hrx hra;by_cases hlt:i<n
  rotate_left
  ·obtain rfl:i=n:=by omega
   have hcc:decide (i<i)=false:=wu;have hci:decide ((i:Int)<(i:Int))=false:=wu;have hot:os.take i=os:=List.take_of_length_le (by rw [HL.o];exact Nat.le_refl _);have hdb:=HDB.o;have hrx:=HRX.o;rw [hot]at hdb hrx;clear HINV hot HDB HRX;obtain⟨lr,hlr⟩:=wV (kg (lo0 aI) os)
   rw [<-hlr]at hdb hrx;have HLR:=sqH hlr;clear hlr;obtain⟨l,rs⟩:=lr;dsimp only at hdb hrx;obtain⟨X,cX,Y,dY,G,ng,F,cF⟩:=p;have hra:=HRA.o;have hbb:Arr wr g 82 [ax X l.st.aF.length cX,ax Y l.st.aG.length dY,ay az l.st.aI,ay az l.st.aH,ay az l.co.aK,ax G l.co.aJ.length ng,aA ⟨l.co.at_.toArray⟩,ax F l.fs.length cF]:=hdb.box;obtain⟨HF,HO8,HB8,HR8⟩:=sqJ4 (hra.all8 (ax X l.st.aF.length cX) (ax Y l.st.aG.length dY) (ay az l.st.aI) (ay az l.st.aH) (ay az l.co.aK) (ax G l.co.aJ.length ng) (aA ⟨l.co.at_.toArray⟩) (ax F l.fs.length cF)) (OwLo.set8 (hdb.own.mono (N':=fun b=>b<=g) (fun b h=> .inl h)) hra (show gR<=g by omega) (ax X l.st.aF.length cX) (ax Y l.st.aG.length dY) (ay az l.st.aI) (ay az l.st.aH) (ay az l.co.aK) (ax G l.co.aJ.length ng) (aA ⟨l.co.at_.toArray⟩) (ax F l.fs.length cF)) (zN HBE.o (show w.heap.size<=gR by have:=HGR.o;omega) (ax X l.st.aF.length cX) (ax Y l.st.aG.length dY) (ay az l.st.aI) (ay az l.st.aH) (ay az l.co.aK) (ax G l.co.aJ.length ng) (aA ⟨l.co.at_.toArray⟩) (ax F l.fs.length cF)) (RwX.set8R hrx (show gR<=g by omega) hra (ax X l.st.aF.length cX) (ax Y l.st.aG.length dY) (ay az l.st.aI) (ay az l.st.aH) (ay az l.co.aK) (ax G l.co.aJ.length ng) (aA ⟨l.co.at_.toArray⟩) (ax F l.fs.length cF));obtain⟨d0,d1,d2,d3,d4,d5,d6,d7⟩:=sqC8 hbb;obtain⟨y0,y1,y2,y3,y4,y5,y6,y7⟩:=sqC8 hra;obtain⟨f0,f1,f2,f3,f4,f5,f6,f7⟩:=sqF8 hra;have n1':¬(g=gR):=wm;have hno:∀b,(b<=g)->b<wr.heap.size:=fun b h=>by omega
   clear hbel hdb hrx hra hbb HDB0
   refine wH ?_;intros;go_region
   all_goals (try dsimp only [Exit.then])
   refine wH ?_;intros;refine bodyPost_ret (vh rfl _ _ gR _ _ _ _ ww (Arr.drew HF.o) underlying40 rfl wo) rfl ?_;rw [<-HLR.o];exact⟨u8,_,_,_,_,rfl,(HR8.o.below (Below.refl _ _).drew).wider (fun b hb=> .inl (hgR2 b hb)),((HO8.o.below (Below.refl _ _).drew).lower (show w.heap.size<=g+1 by have:=HGR.o;omega)).mono (fun b hb=>hgR2 b hb),HB8.o.drew⟩
  ·have hcc:decide (i<n)=true:=decide_eq_true hlt;have hci:decide ((i:Int)<(n:Int))=true:=decide_eq_true wm;have hi0:=wY i
   have hi1:(i:Int)<(n:Int):=wm;have hil:i<os.length:=by rw [HL.o];exact hlt
   obtain⟨b,off,B,cB,B',cB',rfl,hbw,c0,c1,c2,c3,c4,hs,hs'⟩:=(HRD.o.below hbel).ord_at i hil;have hgo:=HGO.o os[i] (List.getElem_mem hil);have hrs:=ZA (lo0 aI) (os.take i) os[i];rw [<-List.take_succ_eq_append_getElem hil]at hrs;have hrl:(kg (lo0 aI) (os.take i)).2.length=i:=by rw [vB,List.length_take];omega
   generalize os[i]=o at *
   obtain⟨kd,no,dg,D,ps⟩:=o;dsimp only at c0 c1 c2 c3 c4 hs hs';have HRS:=sqH hrs;obtain⟨w4,hw4⟩:=wV (wr.alloc (aB #[ay az kd,ay az no,aA ⟨dg.toArray⟩,ax B D.length cB,ax B' ps.length cB'] 29))
   have hb4:Below wr.heap.size wr w4:=by rw [hw4];exact(Below.refl _ _).alloc ac _
   have hO4:Arr w4 wr.heap.size 29 [ay az kd,ay az no,aA ⟨dg.toArray⟩,ax B D.length cB,ax B' ps.length cB']:=by rw [hw4];exact Arr.new wr 29 _
   have hws4:=hb4.size;have HDO:=sqH (z15 g p _ kd no dg D ps B cB B' cB' w4 i HINV.o wm hgo (fun b=>b<=g\/u8.ownBlock=aD b) (.inl ac) (fun b hb=>by rcases hb with hb | hb;omega;(have:=(HRX.o.rwo.blk hb).2;omega)) (HDB.o.below hb4) (hs.below hb4) (hs'.below hb4));obtain⟨o0,o1,o2,o3,o4⟩:=sqC5 hO4;rw [hw4]at o0 o1 o2 o3 o4;have HB4:=sqH hb4;have HW4:=sqH hw4;clear hb4 hw4 hO4 hs hs' hgo hrs hbel HDB0
   refine wH ?_;intros;rw [<-HW4.o];refine(HDO.o).mono ?_;rintro e_ w5 ⟨dv,pv,wv,rfl,hg5,⟨p',hd5⟩,hra⟩;dsimp only;clear c0 c1 c2 c3 c4 o0 o1 o2 o3 o4 HDO;generalize hst:qQ (kg (lo0 aI) (List.take i os)).1 ⟨kd,no,dg,D,ps⟩=lr2 at *
   have hrs:=HRS.o;obtain⟨l2,r⟩:=lr2;dsimp only at hd5 hra hrs ⊢
   have HRS2:=sqH hrs;obtain⟨P1,q1,rfl,hs1,hl1⟩:=vI hra.d;obtain⟨P2,q2,rfl,hs2,hl2⟩:=vI hra.p;obtain⟨P3,q3,rfl,hs3,hl3⟩:=vI hra.w;have hrx4:=HRX.o.below HB4.o;obtain⟨ys,hys⟩:=hrx4.own_m;have hrx5:=hrx4.other hg5 (fun b e=>by cases e;exact zg hys (HDB.o.below HB4.o).box ws) (fun b e=>by cases e;exact Nat.le_refl _);obtain⟨xs,hxs,hop⟩:=hrx5.open_;have hhop:=hop r (yL r P1 q1 P2 q2 P3 q3) w5;have hle:∀b,(u8.ownBlock=aD b\/b<=g)->¬leads b (yL r P1 q1 P2 q2 P3 q3):=fun b hb hl=>by
    have hbl:b<w4.heap.size:=by
     rcases hb with hb | hb
     ·have:=(HRX.o.rwo.blk hb).2;omega
     ·omega
    obtain⟨a,e1 | e1 | e1,rfl⟩:=QX hl
    ·have:=hl1 a e1;omega
    ·have:=hl2 a e1;omega
    ·have:=hl3 a e1;omega
   have HOP:=sqH (fun (w2:World) (v2:Value) h1 h2 h3=>hhop w2 v2 (Below.refl _ _) ⟨P1,q1,P2,q2,P3,q3,rfl,hs1,hs2,hs3⟩ hle h1 h2 h3);have hws5:w4.heap.size<=w5.heap.size:=hg5.size;have hB5:=yr (HBE.o.trans (HB4.o.mono hwr)) hg5 (show w.heap.size<=g by have:=HGG.o;omega) wm;obtain⟨HB5,HX5,HA5,HD5,HBK⟩:=sqJ5 hB5 hxs ((HRA.o.below HB4.o).grown hg5 ab) (hd5.wider (N':=fun b=>b<=g\/u8.ownBlock=aD b\/w5.heap.size<=b) (fun b h=>h.elim (fun h=> .inl (.inl h)) (fun h=>h.elim (fun h=> .inl (.inr h)) .inr))) (show ∀k,u8.ownBlock=aD k->w.heap.size<=k from fun k hk=>(hrx5.rwo.blk hk).1);clear hst hrs hd5 hra hg5 hrx4 hys hrx5 hxs hop hhop hle hs1 hs2 hs3 hl1 hl2 hl3 hB5
   refine wH ?_;intros;refine zh rfl (.tmp 36) (.tmp 40) rfl z2x ww HX5.o (us:= [ay az r.err,aA ⟨r.dig.toArray⟩,ax P1 r.data.length q1,ax P2 r.aM.length q2,ay az r.n,ax P3 r.who.length q3]) ww rfl (UU r P1 q1 P2 q2 P3 q3) (by show((kg (lo0 aI) (List.take i os)).2.length+1)*104<=140737488355328;rw [hrl];omega) wm ?_;intro v9 w9 ho9 hg9 hv9;have HN:=sqH (HOP.o w9 v9 ho9 hg9 hv9);have HD9:=sqH ((HD5.o.grownR HX5.o hg9 (fun b e=> .inr (.inl e))).mono (N':=fun b=>b<=g\/v9.ownBlock=aD b) (fun b h=>h.imp id (fun e=>by
    rcases hv9 with e2 | ⟨g2,e2,h2⟩
    ·exact .inl (e2▸e)
    ·rw [e2]at e;cases e;exact .inr h2)))
   have HA9:=sqH (HA5.o.grown hg9 (zg HX5.o HA5.o ws));have HB9:=sqH (HB5.o.grown hg9 wm HBK.o);clear ho9 hg9 hv9
   refine wH ?_;intros;go_roundg (n - (i+1))
   case measure=>exact wX HGK
   case rel=>exact⟨i+1,p',rfl,by go_num,wm,HB9.o,by rw [HRS2.o];exact HD9.o,by rw [HRS2.o];exact HN.o,HA9.o⟩
abbrev yP:ae:= [97,98,99]
abbrev Q8:OrdP:=⟨1,0, [],yP, []⟩
theorem QT:putB [] yP= [⟨shaS yP,yP,0,false⟩]:=by
 unfold putB srt;exact List.mergeSort_singleton _
theorem U0 (aI:Nat) (h3:3<=aI) (h:aI<=4000):Fits ⟨[], [],aI,0⟩ yP :=
 ⟨(LInv.zero h).b.g,ws,.inl (by show(0:Nat)<24;decide),by show usd (putB [] yP)<=aI;rw [QT];simpa [usd] using h3⟩
theorem z06 (aI:Nat) (h3:3<=aI) (h:aI<=4000):qQ (lo0 aI) Q8=(⟨⟨[⟨shaS yP,yP,0,false⟩], [],aI,0⟩,⟨0, [], []⟩, []⟩,⟨0,shaS yP, [], [],0, []⟩):=by
 have hf:pbP ⟨[], [],aI,0⟩ ⟨0, [], []⟩ yP=(⟨[⟨shaS yP,yP,0,false⟩], [],aI,0⟩,⟨0, [], []⟩,shaS yP,0):=by
  unfold pbP;rw [if_pos (U0 aI h3 h),U2 rfl];unfold zI;rw [QT]
 unfold qQ;rw [if_pos ws];unfold blobD;rw [if_pos rfl];show(zH (lo0 aI) (pbP ⟨[], [],aI,0⟩ ⟨0, [], []⟩ yP).1 _ _,_)=_;show(zH (lo0 aI) (pbP ⟨[], [],aI,0⟩ ⟨0, [], []⟩ yP).1 (pbP ⟨[], [],aI,0⟩ ⟨0, [], []⟩ yP).2.1 (pbP ⟨[], [],aI,0⟩ ⟨0, [], []⟩ yP).2.2.2,(⟨(pbP ⟨[], [],aI,0⟩ ⟨0, [], []⟩ yP).2.2.2,(pbP ⟨[], [],aI,0⟩ ⟨0, [], []⟩ yP).2.2.1, [], [],0, []⟩:RepP))=_;rw [hf];rfl
abbrev stA (aI:Nat):StoP:=⟨[⟨shaS yP,yP,0,false⟩], [],aI,0⟩
theorem Yy (w:World):kU (w.alloc (aB #[ay .u8 97,ay .u8 98,ay .u8 99] 5 (3,4))) w.heap.size (aD ⟨w.heap.size,0,aC⟩) 3 yP:=⟨w.heap.size, [],(3,4),rfl,Nat.le_refl _,World.alloc_heap_new w _,rfl,by simp [maxLen],.inr ac⟩
theorem Rw.of_cells {α:Type} {S:Shp α} {e:TypeId} {l:List α} (ps:Cel α) (h1:ps.map (·.1)=l) (h2:qG S w ps) (hA:Arr w g e (cls ps)) (hl:l.length=n):Rw S w (aD ⟨g,0,aC⟩) l :=
 ⟨ps,h1,h2,Rd.of_arr hA (by rw [<-h1,List.length_map];exact vQ ps h2.lens) (by rw [List.take_of_length_le];rw [<-h1,List.length_map,vQ ps h2.lens];exact Nat.le_refl _)⟩
abbrev wkP:PartP:=⟨[97],shaS yP,3⟩
abbrev wk2:OrdP:=⟨12,1,keyS 2, [], []⟩
abbrev wk3:OrdP:=⟨13,0,keyS 2, [], [wkP]⟩
abbrev wk4:OrdP:=⟨6,0,keyS 2, [], []⟩
abbrev stW:StoP:=⟨[⟨shaS yP,yP,0,false⟩], [⟨keyS 2, [wkP],0,1⟩],50,1⟩
theorem z2b:qQ ⟨stA 50,⟨0, [], []⟩, []⟩ wk2=(⟨stA 50,⟨0, [], []⟩, [⟨keyS 2,1, []⟩]⟩,⟨0, [], [], [],1, []⟩):=by
 unfold qQ;rw [if_neg ws,if_neg ws,if_neg ws];unfold fliD;rw [if_pos rfl];rfl
theorem z0s:qA (stA 50).aF [wkP]=0:=by
 unfold qA;simp [List.findIdx?_cons];rfl
theorem z2f:xo (stA 50) (keyS 2) [wkP]=stW:=by
 unfold xo yW;simp [srt]
theorem z0p:qy (stA 50) ⟨0, [], []⟩ (keyS 2) [wkP]=(stW,⟨0, [], []⟩,0):=by
 unfold qy;rw [if_pos z0s,z2f,U2 rfl]
theorem z2d:y9 [⟨keyS 2,1, []⟩] (keyS 2)=([], [1],0):=by
 unfold y9;rw [show fnd 0 [(⟨keyS 2,1, []⟩:FlP)] (keyS 2)=aD 0 by simp [fnd]];rfl
theorem z0q:qQ ⟨stA 50,⟨0, [], []⟩, [⟨keyS 2,1, []⟩]⟩ wk3=(⟨stW,⟨0, [], []⟩, []⟩,⟨0, [], [], [],0, [1]⟩):=by
 unfold qQ;rw [if_neg ws,if_neg ws,if_neg ws];unfold fliD;rw [if_neg ws,if_pos rfl];have h:kC ⟨stA 50,⟨0, [], []⟩, [⟨keyS 2,1, []⟩]⟩ (keyS 2) [wkP]=(⟨stW,⟨0, [], []⟩, []⟩, [1],0):=by
  unfold kC;dsimp only;rw [z2d,z0p];rfl
 show(xE _ (kC ⟨stA 50,⟨0, [], []⟩, [⟨keyS 2,1, []⟩]⟩ (keyS 2) [wkP]).1 (kC ⟨stA 50,⟨0, [], []⟩, [⟨keyS 2,1, []⟩]⟩ (keyS 2) [wkP]).2.2,(⟨(kC ⟨stA 50,⟨0, [], []⟩, [⟨keyS 2,1, []⟩]⟩ (keyS 2) [wkP]).2.2, [], [], [],0,(kC ⟨stA 50,⟨0, [], []⟩, [⟨keyS 2,1, []⟩]⟩ (keyS 2) [wkP]).2.1⟩:RepP))=_;rw [h];rfl
theorem z2e:∃x:EntP,qQ ⟨stW,⟨0, [], []⟩, []⟩ wk4=(⟨⟨stW.aF, [x],50,2⟩,⟨0, [], []⟩, []⟩,⟨0, [], [], [wkP],0, []⟩):=by
 refine⟨⟨keyS 2, [wkP],0,2⟩,?_⟩;have h:atE stW (keyS 2)=aD (0,⟨keyS 2, [wkP],0,1⟩):=by
  unfold atE;simp [List.findIdx?_cons]
 unfold qQ;rw [if_neg ws,if_pos ws];unfold entD;rw [if_neg ws,if_pos rfl];unfold gtP;dsimp only;rw [h];rfl
theorem z2g:∃x:EntP,∃r0 r1 r2:RepP,kg (lo0 50) [Q8,wk2,wk3,wk4]=(⟨⟨stW.aF, [x],50,2⟩,⟨0, [], []⟩, []⟩, [r0,r1,r2,⟨0, [], [], [wkP],0, []⟩]):=by
 obtain⟨x,hx⟩:=z2e;refine⟨x,⟨0,shaS yP, [], [],0, []⟩,⟨0, [], [], [],1, []⟩,⟨0, [], [], [],0, [1]⟩,?_⟩;unfold kg;rw [z06 50 ws ws];dsimp only;unfold kg;rw [z2b];dsimp only;unfold kg;rw [z0q];dsimp only;unfold kg;rw [hx];rfl
theorem z2c:chk [wkP]=0:=by
 have h:hexC (shaS yP)=0:=zn _;unfold chk;rw [if_neg ws,qW];dsimp only;rw [if_neg ws];simp [h,yj]
theorem z0r:∀o∈ [Q8,wk2,wk3,wk4],GoodD o:=by
 intro o ho;simp only [List.mem_cons,List.not_mem_nil,or_false]at ho;rcases ho with rfl | rfl | rfl | rfl
 ·exact xW (k:=1) (f:=⟨false,false,true,false⟩) rfl (fun _=>rfl) (fun _=>rfl) (fun h=>by cases h) (fun _=>rfl) wm (fun h=>by cases h) ws rfl
 ·exact xW (k:=12) (f:=⟨true,true,false,false⟩) rfl (fun h=>by cases h) (fun h=>by cases h) (fun _=>rfl) (fun _=>rfl) wm (fun _=>zn _) ws rfl (h5:=fun _=>⟨2,ws,rfl⟩)
 ·exact xW (k:=13) (f:=⟨false,true,false,true⟩) rfl (fun _=>rfl) (fun h=>by cases h) (fun _=>rfl) (fun h=>by cases h) wm (fun _=>zn _) ws z2c (h5:=fun _=>⟨2,ws,rfl⟩)
 ·exact xW (k:=6) (f:=⟨false,true,false,false⟩) rfl (fun _=>rfl) (fun h=>by cases h) (fun _=>rfl) (fun _=>rfl) wm (fun _=>zn _) ws rfl (h5:=fun _=>⟨2,ws,rfl⟩)
theorem Qt (w:World):Calls zZZ 11 #[] w fun e w'=>e= .returned (.bool true)/\Below w.heap.size w w':=by
 obtain⟨w1,hw1⟩:=wV (w.alloc (aB #[ay .u8 97,ay .u8 98,ay .u8 99] 5 (3,4)))
 have z1:kU w1 w.heap.size (aD ⟨w.heap.size,0,aC⟩) 3 yP:=by rw [hw1];exact Yy w
 have hb1:Below w.heap.size w w1:=by rw [hw1];exact(Below.refl _ _).alloc ac _
 obtain⟨HD,HK,HB1,HW1⟩:=sqJ4 (yq (aD ⟨w.heap.size,0,aC⟩) 3 3 yP w1 rfl ac ws z1.sl.1.rd) (fun W=>Yi 2 W ws ws) hb1 hw1;have hkc:=fun (w:World) (C:Array Value) (n c:Nat)=>Lib.run_convert_bytes_const (P:=zZZ) w 26 5 C n c underlying26 underlying5;clear z1 hb1 hw1;go_enter func11,ntmps11;go_wp2_with fail;rw [<-HW1.o];refine wW HD.o fun w2 hb2=>?_;dsimp only;obtain⟨w3,hw3⟩:=wV (w2.alloc (aB #[ay .u8 97,ay .u8 98,ay .u8 99] 5 (3,4)))
 have z3:kU w3 w2.heap.size (aD ⟨w2.heap.size,0,aC⟩) 3 yP:=by rw [hw3];exact Yy w2
 have hb3:Below w2.heap.size w2 w3:=by rw [hw3];exact(Below.refl _ _).alloc ac _
 obtain⟨HB3,HS3,HW3⟩:=sqJ3 ((wh HB1.o hb2).trans (hb3.mono (wh HB1.o hb2).size)) z3.sl.1 hw3;clear hb2 hw3 z3 hb3 HD HB1 HW1;go_wp2_with fail;rw [<-HW3.o];refine wW ((HK.o w3)) fun w4 hb4=>?_;dsimp only;go_wp2_with fail;refine wW ((HK.o w4)) fun w5 hb5=>?_;dsimp only;rw [show keyS (pk 2 7)=keyS 2 from rfl];obtain⟨w6,hw6⟩:=wV (w5.alloc (aB #[aA ⟨#[97]⟩,aA ⟨(shaS yP).toArray⟩,ay az 3] 85))
 have hA6:Arr w6 w5.heap.size 85 (pcs [wkP]):=by rw [hw6];exact Arr.new w5 85 (pcs [wkP])
 have hb6:Below w5.heap.size w5 w6:=by rw [hw6];exact(Below.refl _ _).alloc ac _
 have hs6:Sl w6 3 (aD ⟨w5.heap.size,0,aC⟩) 1 1 (pcs [wkP]):=⟨Rd.of_arr hA6 rfl ww,Nat.le_refl _,ws,fun a e=>by cases e;exact hA6.lt⟩
 have hb45:=wh hb4 hb5;have hb46:=wh hb45 hb6;obtain⟨HB6,HS6,HT6,HW6,HK6⟩:=sqJ5 (wh HB3.o hb46) hs6 (HS3.o.below hb46) hw6 (HK.o w6);clear hb4 hb5 hb45 hb46 hw6 hA6 hb6 hs6 HB3 HS3 HW3 HK;go_wp2_with fail;rw [<-HW6.o];refine wW HK6.o fun w7 hb7=>?_;dsimp only;rw [show keyS (pk 2 7)=keyS 2 from rfl];obtain⟨w8,hw8⟩:=wV (w7.alloc (aB #[ay az 1,ay az 0,aA ⟨#[]⟩,ax (aD ⟨w2.heap.size,0,aC⟩) 3 3,ax aC 0 0,ay az 12,ay az 1,aA ⟨(keyS 2).toArray⟩,ax aC 0 0,ax aC 0 0,ay az 13,ay az 0,aA ⟨(keyS 2).toArray⟩,ax aC 0 0,ax (aD ⟨w5.heap.size,0,aC⟩) 1 1,ay az 6,ay az 0,aA ⟨(keyS 2).toArray⟩,ax aC 0 0,ax aC 0 0] 29))
 have hA8:Arr w8 w7.heap.size 29 [ay az 1,ay az 0,aA ⟨#[]⟩,ax (aD ⟨w2.heap.size,0,aC⟩) 3 3,ax aC 0 0,ay az 12,ay az 1,aA ⟨(keyS 2).toArray⟩,ax aC 0 0,ax aC 0 0,ay az 13,ay az 0,aA ⟨(keyS 2).toArray⟩,ax aC 0 0,ax (aD ⟨w5.heap.size,0,aC⟩) 1 1,ay az 6,ay az 0,aA ⟨(keyS 2).toArray⟩,ax aC 0 0,ax aC 0 0]:=by rw [hw8];exact Arr.new w7 29 _
 have hb8:Below w7.heap.size w7 w8:=by rw [hw8];exact(Below.refl _ _).alloc ac _
 have hb68:=wh hb7 hb8;have hT8:=HT6.o.below hb68;have hS8:=HS6.o.below hb68;have hrw:Rw OrdS w8 (aD ⟨w7.heap.size,0,aC⟩) [Q8,wk2,wk3,wk4]:=Rw.of_cells (n:=4) [(Q8,yH Q8 (aD ⟨w2.heap.size,0,aC⟩) 3 aC 0),(wk2,yH wk2 aC 0 aC 0),(wk3,yH wk3 aC 0 (aD ⟨w5.heap.size,0,aC⟩) 1),(wk4,yH wk4 aC 0 aC 0)] rfl (fun p hp=>by
  simp only [List.mem_cons,List.not_mem_nil,or_false]at hp;rcases hp with rfl | rfl | rfl | rfl
  ·exact⟨_,_,_,_,rfl,hT8,Sl.nil_ _ _⟩
  ·exact⟨_,_,_,_,rfl,Sl.nil_ _ _,Sl.nil_ _ _⟩
  ·exact⟨_,_,_,_,rfl,Sl.nil_ _ _,hS8⟩
  ·exact⟨_,_,_,_,rfl,Sl.nil_ _ _,Sl.nil_ _ _⟩) hA8 rfl
 have hru:=z2u 50 (aD ⟨w7.heap.size,0,aC⟩) 4 4 [Q8,wk2,wk3,wk4] w8 ws rfl ws ac ws z0r hrw;obtain⟨x,r0,r1,r2,hrr⟩:=z2g;rw [hrr]at hru;dsimp only at hru;obtain⟨HRU,HW8,HB8⟩:=sqJ3 hru hw8 (wh HB6.o hb68);clear hw8 hA8 hb7 hb8 hb68 hT8 hS8 hrw hru hrr HB6 HS6 HT6 HW6 HK6;go_wp2_with fail;rw [<-HW8.o];refine HRU.o.mono ?_;rintro e_ w9 ⟨vr,v1,v2,v3,v4,rfl,hrx,hol,hb9⟩;dsimp only;obtain⟨Ar,cr,rfl,hcr,hcm,hRr⟩:=hrx.rwo.rows;obtain⟨⟨X,cX,Y,dY,G,ng,F,cF⟩,rfl,rfl,rfl,rfl, -⟩:=hol.rd;obtain⟨b1,o1,B1,c1,B1',c1',C1,d1,hAr,hbw,e0, -, -,e3, -, -, -,hs2, -⟩:=hRr.rep_at 3 (by show 3<4;decide);subst hAr;have HB9:=sqH (wh HB8.o hb9);simp only [List.getElem_cons_succ,List.getElem_cons_zero]at e0 e3 hs2;obtain⟨b2,o2,rfl,hbq,hq⟩:=hs2.rd.2 ws;have q1:=hq 1 _ rfl;have hb0:=World.size_alloc;clear hrx hol hb9 hRr hcr hcm HRU HB8 HW8 hs2 hq hb0;go_wp2_with fail;go_ret;exact⟨rfl,HB9.o.alloc HB9.o.size _⟩
theorem RwO.ordMore {w2:World} {os:List OrdP} {A B:af} {c d:Nat} (h:RwO OrdS 29 w base v os) (hs:Sl w 1 A o.data.length c (bys o.data)) (hs':Sl w 3 B o.aM.length d (pcs o.aM)) (hA:∀a,A=aD a->a.block<base) (hB:∀a,B=aD a->a.block<base) :
  ∃xs,w.ownsRow base 29 5 v os.length xs/\∀w2 v2,w2.ownsRow base 29 5 v2 (os.length+1) (xs++yH o A c B d)->w.grownBy w2 v.ownBlock->(v2.ownBlock=v.ownBlock\/∃g,v2.ownBlock=aD g/\w.heap.size<=g)->RwO OrdS 29 w2 base v2 (os++ [o]):=by
 obtain⟨ps,h1,h2,h3,h4⟩:=h;have hX:RwX OrdS 29 w base v os (fun _=>False):=⟨ps,h1,h2,h3,fun p hp b hb=>hb.elim (h4 p hp b) (fun e=>e.elim)⟩
 obtain⟨xs,hx,hop⟩:=hX.open_;refine⟨xs,hx,fun w2 v2 ho hg hv=>(hop o (yH o A c B d) w w2 v2 (Below.refl _ _) ⟨A,c,B,d,rfl,hs,hs'⟩ (fun b hb hl=> ?_) ho hg hv).rwo⟩;have hb:v.ownBlock=aD b:=hb.elim id (fun e=>e.elim);obtain⟨a,e | e,rfl⟩:=jC hl
 ·have:=hA a e;have:=(World.ownsRow.lt h3) ;have:=(RwX.rwo hX).blk hb;omega
 ·have:=hB a e;have:=(RwX.rwo hX).blk hb;omega
theorem QK (hk:∃j,j<7/\k=keyS j) (h1:1<=n) (h2:n<=1000):GoodD (kG k n):=by
 obtain⟨j,hj,rfl⟩:=hk;exact xW (k:=12) (f:=⟨true,true,false,false⟩) rfl (fun h=>by cases h) (fun h=>by cases h) (fun _=>rfl) (fun _=>rfl) wm (fun _=>zn _) ws rfl (h5:=fun _=>⟨j,hj,rfl⟩) (h12:=fun _=>⟨h1,h2⟩)
theorem QL {e:Nat} (hk:∃j,j<7/\k=keyS j) (he:e=13\/e=14):GoodD ⟨e,0,k, [], []⟩:=by
 obtain⟨j,hj,rfl⟩:=hk;rcases he with rfl | rfl
 ·exact xW (k:=13) (f:=⟨false,true,false,true⟩) rfl (fun _=>rfl) (fun h=>by cases h) (fun _=>rfl) (fun h=>by cases h) wm (fun _=>zn _) ws rfl (h5:=fun _=>⟨j,hj,rfl⟩)
 ·exact xW (k:=14) (f:=⟨false,true,false,false⟩) rfl (fun _=>rfl) (fun h=>by cases h) (fun _=>rfl) (fun _=>rfl) wm (fun _=>zn _) ws rfl (h5:=fun _=>⟨j,hj,rfl⟩)
theorem jY (A:af) (n c:Nat) (l:List RawP) (z:Int) (fl:Bool) (w:World) (hl:l.length=n) (hc:n<=c) (hm:c<=maxLen) (hok:∀r∈l,RawOk r) (hr:Rd w 4 A n (rcs l)) (hz0: -9223372036854775808<=z) (hz1:z<=9223372036854775807) :
  Calls Tryz.prog 3 #[ax A n c,ay az z,.bool fl] w fun e w'=>e= .returned (.bool true)/\Below w.heap.size w w':=by
 have HKY:=sqH (fun W=>Yi z W hz0 hz1);have hpk:=yn z (m:=7) wm;have HOR:=sqH (Ko A n c l 50 50 rfl wm w hl hc hm hok hr);generalize pk z 7=q at *
 have HKQ:=sqH (show ∃j,j<7/\keyS q=keyS j from⟨q,hpk,rfl⟩);generalize keyS q=K at *
 clear hl hc hm hok hr hz0 hz1 hpk;go_enter Tryz.func3,Tryz.ntmps3;go_wp2_with fail;refine HOR.o.mono ?_;rintro e_ w1 ⟨v,os,rfl,hos,hgo,hol,hb1⟩;dsimp only;obtain⟨B,d,rfl, -, -, -⟩:=hos.rows;obtain⟨HGO,HB1,HOS⟩:=sqJ3 hgo hb1 hos;have hol50:os.length<=50:=hol;have HBS:=sqH hb1.size;clear hgo hos hb1 HOR hol;go_wp2_with fail;go_loopg [7,9,21] 4 (fun gn vo v9 vi wr=>∃i:Nat,gn=4 - i/\vi= ay az i/\i<=4/\Below w.heap.size w wr/\RwO OrdS 29 wr w.heap.size vo (os++((List.range i).map fun j=>kG K (901+j))))
 case atStart=>exact⟨0,rfl,rfl,Nat.zero_le _,HB1.o,by rw [List.range_zero,List.map_nil,List.append_nil];exact HOS.o⟩
 case round =>
  obtain⟨i,hgk,rfl,hi,hbel,hrow⟩:=hrel;have HGK:=sqH hgk;clear hgk;by_cases hlt:i<4
  ·have hcc:decide (i<4)=true:=decide_eq_true hlt;have hcd:decide ((i:Int)<4)=true:=decide_eq_true wm;obtain⟨m,hm⟩:=wV (901+i)
   have hwm:IntKind.i64.wrap (901+(i:Int))=(m:Int):=by rw [IntWalk.i64_in _ wm];omega
   have HN:=sqH (show os++((List.range i).map fun j=>kG K (901+j))++ [kG K m]=os++((List.range (i+1)).map fun j=>kG K (901+j)) by rw [List.range_succ,List.map_append,<-List.append_assoc,hm];rfl);have hgl:(os++((List.range i).map fun j=>kG K (901+j))).length<=54:=by rw [List.length_append,List.length_map,List.length_range];omega
   have HROW:=sqH hrow;have HBE:=sqH hbel;have hszw:=hbel.size;clear hrow hbel hm;generalize os++((List.range i).map fun j=>kG K (901+j))=o3 at *
   go_wp2_with fail;refine wW ((HKY.o wr)) fun w2 hb2=>?_;dsimp only;obtain⟨xs,hx,hop⟩:=(HROW.o.below hb2).ordMore (o:=kG K m) (w2:=w2) (Sl.nil_ w2 1) (Sl.nil_ w2 3) (fun a e=>by cases e) (fun a e=>by cases e);have hbe:=wh HBE.o hb2;have hsz:=hbe.size;obtain⟨HX,HOP,HBE2,HBK⟩:=sqJ4 hx hop hbe (fun k (hk:u7.ownBlock=some k)=>(HROW.o.blk hk).1);clear hx hop hbe hb2
   refine wH ?_;intros;refine zh rfl (.tmp 24) (.tmp 30) rfl yl ww HX.o (us:= [ay az 12,ay az m,aA ⟨K.toArray⟩,ax aC 0 0,ax aC 0 0]) ww rfl (qL (kG K m) aC 0 aC 0) (by show(o3.length+1)*80<=140737488355328;omega) hsz ?_;intro v9 w9 ho9 hg9 hv9;have HRO:=sqH (HOP.o w9 v9 ho9 hg9 hv9);have HBE9:=sqH (HBE2.o.grown hg9 hsz HBK.o);clear ho9 hg9 hv9 HX HOP HBK;go_wp2_with fail;go_roundg (4 - (i+1))
   case measure=>exact wX HGK
   case rel=>exact⟨i+1,rfl,by go_num,wm,HBE9.o,by rw [<-HN.o];exact HRO.o⟩
  obtain rfl:i=4:=by omega
  have hcc:decide (4<4)=false:=wu;have hcd:decide (((4:Nat):Int)<4)=false:=wu;have HROW:=sqH (show RwO OrdS 29 wr w.heap.size u7 (os++kK K) from hrow);have HBE:=sqH hbel;have hszw:=hbel.size;have hgl:(os++((List.range 4).map fun j=>kG K (901+j))).length<=54:=by rw [List.length_append,List.length_map,List.length_range];omega
  clear hrow hbel;go_wp2_with fail;refine wW ((HKY.o wr)) fun w2 hb2=>?_;dsimp only;obtain⟨w3,hw3⟩:=wV (w2.alloc (aB #[ay az 13,ay az 0,aA ⟨K.toArray⟩,ax aC 0 0,ax aC 0 0] 29))
  obtain⟨g3,hg3⟩:=wV w2.heap.size
  have hA3:Arr w3 g3 29 [ay az 13,ay az 0,aA ⟨K.toArray⟩,ax aC 0 0,ax aC 0 0]:=by rw [hw3,hg3];exact Arr.new w2 29 _
  have hb3:Below w2.heap.size w2 w3:=by rw [hw3];exact(Below.refl _ _).alloc ac _
  have hb23:=wh hb2 hb3;have hbe3:=wh HBE.o hb23;have hrow3:=HROW.o.below hb23;have hgw:w.heap.size<=g3:=by rw [hg3];have:=hszw;have:=hb2.size;omega
  have hne:u7.ownBlock≠some g3:=fun e=>by
   have:=(HROW.o.blk e).2;have:=hb2.size;omega
  have HSET:=sqH (show ∀u,RwO OrdS 29 (w3.setCell ⟨g3,0,aC⟩ u) w.heap.size u7 (os++kK K) from fun u=>by
   obtain⟨ps,p1,p2,p3,p4⟩:=HROW.o.below hb2;have hX:RwX OrdS 29 w2 w.heap.size u7 (os++kK K) (fun _=>False):=⟨ps,p1,p2,p3,fun p hp b hb=>hb.elim (p4 p hp b) (fun e=>e.elim)⟩
   exact(((hX.wider (N':=fun b=>b=g3) (fun b hb=> .inr (by rw [hb,hg3];exact Nat.le_refl _))).below hb3).other (zQ w3 g3 0 u) (fun b e=>by cases e;exact hne) (fun b e=>by cases e;rfl)).rwo)
  have HW3:=sqH hw3;have HG3:=sqH hg3;clear hw3 hg3 hb3 hb23 hb2 HROW HBE;cases fl with
  | false =>
   refine wI 11 ?_;intros;rw [<-HW3.o,<-HG3.o];have hrowW:=hrow3;have hbW:=hbe3;have hAW:=hA3;clear hrow3 hbe3 hA3 HW3 HG3 hne hgw HSET;obtain⟨xs,hx,hop⟩:=hrowW.ordMore (o:=⟨13,0,K, [], []⟩) (w2:=w3) (Sl.nil_ _ 1) (Sl.nil_ _ 3) (fun a e=>by cases e) (fun a e=>by cases e);have hszx:=hbW.size;obtain⟨HX,HOP,HBW,HBK,HTR⟩:=sqJ5 hx hop hbW (fun k (hk:u7.ownBlock=some k)=>(hrowW.blk hk).1) (K3 os K 13 wm HGO.o hol50);have HG5:=sqH (show ∀o∈os++kK K++ [(⟨13,0,K, [], []⟩:OrdP)],GoodD o from fun o ho=>by
    rcases List.mem_append.1 ho with ho | ho
    ·rcases List.mem_append.1 ho with ho | ho
     ·exact(HGO.o o ho).1
     ·obtain⟨j,hj,rfl⟩:=List.mem_map.1 ho;have:=List.mem_range.1 hj;exact QK HKQ.o wm wm
    ·have:=List.mem_singleton.1 ho;subst this;exact QL HKQ.o wm)
   obtain⟨o0,o1,o2,o3,o4⟩:=sqC5 hAW;have h54:(os++kK K).length=os.length+4:=by rw [List.length_append];simp
   have h55:(os++kK K++ [(⟨13,0,K, [], []⟩:OrdP)]).length<=55:=by rw [List.length_append,h54];simp only [List.length_cons,List.length_nil];omega
   clear hx hop hbW hrowW hAW h54;generalize os++kK K++ [(⟨13,0,K, [], []⟩:OrdP)]=o5 at *
   generalize os++kK K=o4l at *
   refine wH ?_;intros;refine zh rfl (.tmp 39) (.tmp 41) rfl yl ww HX.o (us:= [ay az 13,ay az 0,aA ⟨K.toArray⟩,ax aC 0 0,ax aC 0 0]) ww rfl (qL ⟨13,0,K, [], []⟩ aC 0 aC 0) (by show(o4l.length+1)*80<=140737488355328;omega) hszx ?_;intro v9 w9 ho9 hg9 hv9;have hro:=HOP.o w9 v9 ho9 hg9 hv9;obtain⟨M,e5,rfl,he1,he2,hmw⟩:=hro.rows;have HB9:=sqH (HBW.o.grown hg9 hszx HBK.o);have hru:=z2u 2000 M o5.length e5 o5 w9 wm rfl wm he1 he2 HG5.o hmw;obtain⟨hln,re,hre,hys⟩:=HTR.o;generalize kg (lo0 2000) o5=lr at *
   obtain⟨lo,rs⟩:=lr;dsimp only at hru hln hre hys;obtain⟨HRU,HLN,HRE,HYS⟩:=sqJ4 hru hln hre hys;clear o0 o1 o2 o3 o4 ho9 hg9 hv9 hro hmw hru hln hre hys HX HOP HBW HBK HTR HG5 he1 he2;go_wp2_with fail;refine HRU.o.mono ?_;rintro e_ w10 ⟨vr,v1,v2,v3,v4,rfl,hrx,hol,hb10⟩;dsimp only;obtain⟨Ar,cr,rfl,hcr,hcm,hRr⟩:=hrx.rwo.rows;obtain⟨⟨X,cX,Y,dY,G,ng,F,cF⟩,rfl,rfl,rfl,rfl, -⟩:=hol.rd;obtain⟨w11,hw11⟩:=wV (w10.alloc (aB #[ax X lo.st.aF.length cX,ax Y lo.st.aG.length dY,ay az lo.st.aI,ay az lo.st.aH,ay az lo.co.aK,ax G lo.co.aJ.length ng,aA ⟨lo.co.at_.toArray⟩,ax F lo.fs.length cF] 40))
   have hb11:Below w10.heap.size w10 w11:=by rw [hw11];exact(Below.refl _ _).alloc ac _
   obtain⟨HB11,HRR,HWK,HW11⟩:=sqJ4 (HB9.o.trans ((wh hb10 hb11).mono HB9.o.size)) (hRr.below hb11) (Qt w11) hw11;obtain⟨m5,hm5⟩:=wV (os.length+5)
   have hw5:IntKind.i64.wrap ((os.length:Int)+5)=(m5:Int):=by rw [IntWalk.i64_in _ wm];omega
   have hne5:((rs.length:Int) != (m5:Int))=false:=by rw [bne_eq_false_iff_eq];have:=HLN.o;omega
   clear hrx hol hb10 hRr hcr hcm hw11 hb11 HRU HB9 hm5;go_wp2_with fail;rw [<-HW11.o];clear HW11;refine wW HWK.o fun w12 hb12=>?_;dsimp only;have HB12:=sqH (wh HB11.o hb12);have HRZ:=sqH (HRR.o.below hb12);clear hb12 HWK HRR HB11;go_wp2_with fail;go_loopg [14,15,16,60] 4 (fun gn v14 v15 v16 vi wr=>∃i:Nat,gn=4 - i/\vi= ay az i/\i<=4/\Below w12.heap.size w12 wr)
   case atStart=>exact⟨0,rfl,rfl,Nat.zero_le _,Below.refl _ _⟩
   case round =>
    obtain⟨i,hgk,rfl,hi,hbel⟩:=hrel;have HGK:=sqH hgk;clear hgk;by_cases hlt:i<4
    rotate_left
    ·obtain rfl:i=4:=by omega
     have hcc:decide (4<4)=false:=wu;have hcd:decide (((4:Nat):Int)<4)=false:=wu;have HB:=sqH (wh HB12.o hbel);go_wp2_with fail;go_ret;exact⟨rfl,HB.o⟩
    have hcc:decide (i<4)=true:=decide_eq_true hlt;have hcd:decide ((i:Int)<4)=true:=decide_eq_true wm;obtain⟨y,hy,hcase⟩:=HYS.o i hlt;obtain⟨h1,hy1⟩:=List.getElem?_eq_some_iff.1 hy;obtain⟨h2,hr2⟩:=List.getElem?_eq_some_iff.1 HRE.o;obtain⟨b,off,B1,c1,B2,c2,B3,c3,rfl,hbb,a0,a1,a2,a3,a4,a5, -, -, -⟩:=(HRZ.o.below hbel).rep_at (os.length+i) h1;obtain⟨b',off',D1,e1,D2,e2,D3,e3,hAr2,hbb',d0,d1,d2,d3,d4,d5, -, -,hs3⟩:=(HRZ.o.below hbel).rep_at (os.length+4) h2;cases hAr2
    rw [hy1]at a0 a1 a2 a3 a4 a5;rw [hr2]at d0 d5 hs3;obtain⟨mi,hmi⟩:=wV (os.length+i)
    have hwi:IntKind.i64.wrap ((os.length:Int)+(i:Int))=(mi:Int):=by rw [IntWalk.i64_in _ wm];omega
    obtain⟨m4,hm4⟩:=wV (os.length+4)
    have hw4:IntKind.i64.wrap ((os.length:Int)+4)=(m4:Int):=by rw [IntWalk.i64_in _ wm];omega
    obtain⟨mk,hmk⟩:=wV (901+i)
    have hwk:IntKind.i64.wrap (901+(i:Int))=(mk:Int):=by rw [IntWalk.i64_in _ wm];omega
    rw [<-hmk]at hcase;rw [<-hmi]at a0 a1 a2 a3 a4 a5 h1;rw [<-hm4]at d0 d5 h2;have i0:=wY mi
    have i1:(mi:Int)<(rs.length:Int):=wm;have i2:=wY m4
    have i3:(m4:Int)<(rs.length:Int):=wm;have hba:=wj wr (aB #[ay az y.err,aA ⟨y.dig.toArray⟩,ax B1 y.data.length c1,ax B2 y.aM.length c2,ay az y.n,ax B3 y.who.length c3] 47);have hAy:=Arr.new wr 47 [ay az y.err,aA ⟨y.dig.toArray⟩,ax B1 y.data.length c1,ax B2 y.aM.length c2,ay az y.n,ax B3 y.who.length c3];have f0:=(hba.cell (p:=⟨b,off+m4*6,aC⟩) hbb').trans d0;have f5:=(hba.cell (p:=⟨b,off+m4*6+5,aC⟩) hbb').trans d5;have hct:=qT D3 e3 re.who (mk:Int) (wr.alloc (aB #[ay az y.err,aA ⟨y.dig.toArray⟩,ax B1 y.data.length c1,ax B2 y.aM.length c2,ay az y.n,ax B3 y.who.length c3] 47)) (by have:=hs3.cap;have:=hs3.max;unfold maxLen at this;omega) (hs3.below hba).rd;have hbe:=wh hbel hba;clear hy h1 hy1 h2 hr2 hmi hm4 hmk hs3 hba d0 d1 d2 d3 d4 d5 hbb' hbel
    refine wI 18 ?_;intros;generalize wr.alloc (aB #[ay az y.err,aA ⟨y.dig.toArray⟩,ax B1 y.data.length c1,ax B2 y.aM.length c2,ay az y.n,ax B3 y.who.length c3] 47)=W at *
    generalize wr.heap.size=gy at *
    have HBE:=sqH hbe;have x0:=hAy.c0;have x4:=hAy.c4;clear a0 a1 a2 a3 a4 a5 hbe hAy hbb;rcases hcase with ⟨he,hn⟩ | ⟨he,hn⟩
    ·have hc:re.who.contains (mk:Int)=false:=by simpa using hn
     rw [hc]at hct;have e7:((y.err:Int)==7)=true:=by rw [he];rfl
     have HCT:=sqH hct;clear hct hc hn he;go_wp2_with fail;refine HCT.o.mono ?_;rintro e_ _ ⟨rfl,rfl⟩;dsimp only;go_wp2_with fail;go_roundg (4 - (i+1))
     case measure=>exact wX HGK
     case rel=>exact⟨i+1,rfl,by go_num,wm,HBE.o⟩
    ·have e7:((y.err:Int)==7)=false:=by rw [he];rfl
     have e0:((y.err:Int) != 0)=false:=by rw [he];rfl
     by_cases hp:0<y.n
     ·have hc:re.who.contains (mk:Int)=true:=by simpa using hn.1 hp
      rw [hc]at hct;have p1:decide ((y.n:Int)>0)=true:=decide_eq_true wm;have p2:decide ((0:Int)<(y.n:Int))=true:=decide_eq_true wm;have p3:decide (0<y.n)=true:=decide_eq_true hp;have HCT:=sqH hct;clear hct hc hn he hp;go_wp2_with fail;refine HCT.o.mono ?_;rintro e_ _ ⟨rfl,rfl⟩;dsimp only;go_wp2_with fail;go_roundg (4 - (i+1))
      case measure=>exact wX HGK
      case rel=>exact⟨i+1,rfl,by go_num,wm,HBE.o⟩
     ·have hc:re.who.contains (mk:Int)=false:=by simpa using fun h=>hp (hn.2 h)
      rw [hc]at hct;have p1:decide ((y.n:Int)>0)=false:=decide_eq_false wm;have p2:decide ((0:Int)<(y.n:Int))=false:=decide_eq_false wm;have p3:decide (0<y.n)=false:=decide_eq_false hp;have HCT:=sqH hct;clear hct hc hn he hp;go_wp2_with fail;refine HCT.o.mono ?_;rintro e_ _ ⟨rfl,rfl⟩;dsimp only;go_wp2_with fail;go_roundg (4 - (i+1))
      case measure=>exact wX HGK
      case rel=>exact⟨i+1,rfl,by go_num,wm,HBE.o⟩
  | true =>
   refine wI 10 ?_;intros;rw [<-HW3.o,<-HG3.o];have z0:=hA3.frozen 0;have y0:=hA3.c0;have hrowW:=HSET.o (ay az 14);have hbW:Below w.heap.size w (w3.setCell ⟨g3,0,aC⟩ (ay az 14)):=hbe3.setCell (p:=⟨g3,0,aC⟩) hgw _;have hAW:Arr (w3.setCell ⟨g3,0,aC⟩ (ay az 14)) g3 29 [ay az 14,ay az 0,aA ⟨K.toArray⟩,ax aC 0 0,ax aC 0 0]:=hA3.set (k:=0) wu _;clear hrow3 hbe3 hA3 HW3 HG3 hne hgw HSET
   refine wI 11 ?_;intros;generalize w3.setCell ⟨g3,0,aC⟩ (ay az 14)=wS at *
   clear z0 y0;obtain⟨xs,hx,hop⟩:=hrowW.ordMore (o:=⟨14,0,K, [], []⟩) (w2:=wS) (Sl.nil_ _ 1) (Sl.nil_ _ 3) (fun a e=>by cases e) (fun a e=>by cases e);have hszx:=hbW.size;obtain⟨HX,HOP,HBW,HBK,HTR⟩:=sqJ5 hx hop hbW (fun k (hk:u7.ownBlock=some k)=>(hrowW.blk hk).1) (K3 os K 14 wm HGO.o hol50);have HG5:=sqH (show ∀o∈os++kK K++ [(⟨14,0,K, [], []⟩:OrdP)],GoodD o from fun o ho=>by
    rcases List.mem_append.1 ho with ho | ho
    ·rcases List.mem_append.1 ho with ho | ho
     ·exact(HGO.o o ho).1
     ·obtain⟨j,hj,rfl⟩:=List.mem_map.1 ho;have:=List.mem_range.1 hj;exact QK HKQ.o wm wm
    ·have:=List.mem_singleton.1 ho;subst this;exact QL HKQ.o wm)
   obtain⟨o0,o1,o2,o3,o4⟩:=sqC5 hAW;have h54:(os++kK K).length=os.length+4:=by rw [List.length_append];simp
   have h55:(os++kK K++ [(⟨14,0,K, [], []⟩:OrdP)]).length<=55:=by rw [List.length_append,h54];simp only [List.length_cons,List.length_nil];omega
   clear hx hop hbW hrowW hAW h54;generalize os++kK K++ [(⟨14,0,K, [], []⟩:OrdP)]=o5 at *
   generalize os++kK K=o4l at *
   refine wH ?_;intros;refine zh rfl (.tmp 39) (.tmp 41) rfl yl ww HX.o (us:= [ay az 14,ay az 0,aA ⟨K.toArray⟩,ax aC 0 0,ax aC 0 0]) ww rfl (qL ⟨14,0,K, [], []⟩ aC 0 aC 0) (by show(o4l.length+1)*80<=140737488355328;omega) hszx ?_;intro v9 w9 ho9 hg9 hv9;have hro:=HOP.o w9 v9 ho9 hg9 hv9;obtain⟨M,e5,rfl,he1,he2,hmw⟩:=hro.rows;have HB9:=sqH (HBW.o.grown hg9 hszx HBK.o);have hru:=z2u 2000 M o5.length e5 o5 w9 wm rfl wm he1 he2 HG5.o hmw;obtain⟨hln,re,hre,hys⟩:=HTR.o;generalize kg (lo0 2000) o5=lr at *
   obtain⟨lo,rs⟩:=lr;dsimp only at hru hln hre hys;obtain⟨HRU,HLN,HRE,HYS⟩:=sqJ4 hru hln hre hys;clear o0 o1 o2 o3 o4 ho9 hg9 hv9 hro hmw hru hln hre hys HX HOP HBW HBK HTR HG5 he1 he2;go_wp2_with fail;refine HRU.o.mono ?_;rintro e_ w10 ⟨vr,v1,v2,v3,v4,rfl,hrx,hol,hb10⟩;dsimp only;obtain⟨Ar,cr,rfl,hcr,hcm,hRr⟩:=hrx.rwo.rows;obtain⟨⟨X,cX,Y,dY,G,ng,F,cF⟩,rfl,rfl,rfl,rfl, -⟩:=hol.rd;obtain⟨w11,hw11⟩:=wV (w10.alloc (aB #[ax X lo.st.aF.length cX,ax Y lo.st.aG.length dY,ay az lo.st.aI,ay az lo.st.aH,ay az lo.co.aK,ax G lo.co.aJ.length ng,aA ⟨lo.co.at_.toArray⟩,ax F lo.fs.length cF] 40))
   have hb11:Below w10.heap.size w10 w11:=by rw [hw11];exact(Below.refl _ _).alloc ac _
   obtain⟨HB11,HRR,HWK,HW11⟩:=sqJ4 (HB9.o.trans ((wh hb10 hb11).mono HB9.o.size)) (hRr.below hb11) (Qt w11) hw11;obtain⟨m5,hm5⟩:=wV (os.length+5)
   have hw5:IntKind.i64.wrap ((os.length:Int)+5)=(m5:Int):=by rw [IntWalk.i64_in _ wm];omega
   have hne5:((rs.length:Int) != (m5:Int))=false:=by rw [bne_eq_false_iff_eq];have:=HLN.o;omega
   clear hrx hol hb10 hRr hcr hcm hw11 hb11 HRU HB9 hm5;go_wp2_with fail;rw [<-HW11.o];clear HW11;refine wW HWK.o fun w12 hb12=>?_;dsimp only;have HB12:=sqH (wh HB11.o hb12);have HRZ:=sqH (HRR.o.below hb12);clear hb12 HWK HRR HB11;go_wp2_with fail;go_loopg [14,15,16,60] 4 (fun gn v14 v15 v16 vi wr=>∃i:Nat,gn=4 - i/\vi= ay az i/\i<=4/\Below w12.heap.size w12 wr)
   case atStart=>exact⟨0,rfl,rfl,Nat.zero_le _,Below.refl _ _⟩
   case round =>
    obtain⟨i,hgk,rfl,hi,hbel⟩:=hrel;have HGK:=sqH hgk;clear hgk;by_cases hlt:i<4
    rotate_left
    ·obtain rfl:i=4:=by omega
     have hcc:decide (4<4)=false:=wu;have hcd:decide (((4:Nat):Int)<4)=false:=wu;have HB:=sqH (wh HB12.o hbel);go_wp2_with fail;go_ret;exact⟨rfl,HB.o⟩
    have hcc:decide (i<4)=true:=decide_eq_true hlt;have hcd:decide ((i:Int)<4)=true:=decide_eq_true wm;obtain⟨y,hy,hcase⟩:=HYS.o i hlt;obtain⟨h1,hy1⟩:=List.getElem?_eq_some_iff.1 hy;obtain⟨h2,hr2⟩:=List.getElem?_eq_some_iff.1 HRE.o;obtain⟨b,off,B1,c1,B2,c2,B3,c3,rfl,hbb,a0,a1,a2,a3,a4,a5, -, -, -⟩:=(HRZ.o.below hbel).rep_at (os.length+i) h1;obtain⟨b',off',D1,e1,D2,e2,D3,e3,hAr2,hbb',d0,d1,d2,d3,d4,d5, -, -,hs3⟩:=(HRZ.o.below hbel).rep_at (os.length+4) h2;cases hAr2
    rw [hy1]at a0 a1 a2 a3 a4 a5;rw [hr2]at d0 d5 hs3;obtain⟨mi,hmi⟩:=wV (os.length+i)
    have hwi:IntKind.i64.wrap ((os.length:Int)+(i:Int))=(mi:Int):=by rw [IntWalk.i64_in _ wm];omega
    obtain⟨m4,hm4⟩:=wV (os.length+4)
    have hw4:IntKind.i64.wrap ((os.length:Int)+4)=(m4:Int):=by rw [IntWalk.i64_in _ wm];omega
    obtain⟨mk,hmk⟩:=wV (901+i)
    have hwk:IntKind.i64.wrap (901+(i:Int))=(mk:Int):=by rw [IntWalk.i64_in _ wm];omega
    rw [<-hmk]at hcase;rw [<-hmi]at a0 a1 a2 a3 a4 a5 h1;rw [<-hm4]at d0 d5 h2;have i0:=wY mi
    have i1:(mi:Int)<(rs.length:Int):=wm;have i2:=wY m4
    have i3:(m4:Int)<(rs.length:Int):=wm;have hba:=wj wr (aB #[ay az y.err,aA ⟨y.dig.toArray⟩,ax B1 y.data.length c1,ax B2 y.aM.length c2,ay az y.n,ax B3 y.who.length c3] 47);have hAy:=Arr.new wr 47 [ay az y.err,aA ⟨y.dig.toArray⟩,ax B1 y.data.length c1,ax B2 y.aM.length c2,ay az y.n,ax B3 y.who.length c3];have f0:=(hba.cell (p:=⟨b,off+m4*6,aC⟩) hbb').trans d0;have f5:=(hba.cell (p:=⟨b,off+m4*6+5,aC⟩) hbb').trans d5;have hct:=qT D3 e3 re.who (mk:Int) (wr.alloc (aB #[ay az y.err,aA ⟨y.dig.toArray⟩,ax B1 y.data.length c1,ax B2 y.aM.length c2,ay az y.n,ax B3 y.who.length c3] 47)) (by have:=hs3.cap;have:=hs3.max;unfold maxLen at this;omega) (hs3.below hba).rd;have hbe:=wh hbel hba;clear hy h1 hy1 h2 hr2 hmi hm4 hmk hs3 hba d0 d1 d2 d3 d4 d5 hbb' hbel
    refine wI 18 ?_;intros;generalize wr.alloc (aB #[ay az y.err,aA ⟨y.dig.toArray⟩,ax B1 y.data.length c1,ax B2 y.aM.length c2,ay az y.n,ax B3 y.who.length c3] 47)=W at *
    generalize wr.heap.size=gy at *
    have HBE:=sqH hbe;have x0:=hAy.c0;have x4:=hAy.c4;clear a0 a1 a2 a3 a4 a5 hbe hAy hbb;rcases hcase with ⟨he,hn⟩ | ⟨he,hn⟩
    ·have hc:re.who.contains (mk:Int)=false:=by simpa using hn
     rw [hc]at hct;have e7:((y.err:Int)==7)=true:=by rw [he];rfl
     have HCT:=sqH hct;clear hct hc hn he;go_wp2_with fail;refine HCT.o.mono ?_;rintro e_ _ ⟨rfl,rfl⟩;dsimp only;go_wp2_with fail;go_roundg (4 - (i+1))
     case measure=>exact wX HGK
     case rel=>exact⟨i+1,rfl,by go_num,wm,HBE.o⟩
    ·have e7:((y.err:Int)==7)=false:=by rw [he];rfl
     have e0:((y.err:Int) != 0)=false:=by rw [he];rfl
     by_cases hp:0<y.n
     ·have hc:re.who.contains (mk:Int)=true:=by simpa using hn.1 hp
      rw [hc]at hct;have p1:decide ((y.n:Int)>0)=true:=decide_eq_true wm;have p2:decide ((0:Int)<(y.n:Int))=true:=decide_eq_true wm;have p3:decide (0<y.n)=true:=decide_eq_true hp;have HCT:=sqH hct;clear hct hc hn he hp;go_wp2_with fail;refine HCT.o.mono ?_;rintro e_ _ ⟨rfl,rfl⟩;dsimp only;go_wp2_with fail;go_roundg (4 - (i+1))
      case measure=>exact wX HGK
      case rel=>exact⟨i+1,rfl,by go_num,wm,HBE.o⟩
     ·have hc:re.who.contains (mk:Int)=false:=by simpa using fun h=>hp (hn.2 h)
      rw [hc]at hct;have p1:decide ((y.n:Int)>0)=false:=decide_eq_false wm;have p2:decide ((0:Int)<(y.n:Int))=false:=decide_eq_false wm;have p3:decide (0<y.n)=false:=decide_eq_false hp;have HCT:=sqH hct;clear hct hc hn he hp;go_wp2_with fail;refine HCT.o.mono ?_;rintro e_ _ ⟨rfl,rfl⟩;dsimp only;go_wp2_with fail;go_roundg (4 - (i+1))
      case measure=>exact wX HGK
      case rel=>exact⟨i+1,rfl,by go_num,wm,HBE.o⟩
end Go.Proofs.YtaboknhfiijipaaGreat
