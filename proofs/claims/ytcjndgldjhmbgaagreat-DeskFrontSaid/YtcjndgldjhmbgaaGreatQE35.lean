/- Lemmas, as stated. -/
import Derived.Test.YtcjndgldjhmbgaaGreatQE32
import Derived.Test.YtcjndgldjhmbgaaGreatQE33
import Derived.Test.YtcjndgldjhmbgaaGreatQE34
set_option linter.unusedVariables false
set_option linter.unusedSimpArgs false
set_option maxRecDepth 100000
set_option maxHeartbeats 16000000
open Go.Proofs.Tryz
open Go.Proofs.Tryz renaming prog->zZZ
open Go.Value renaming slice->aw,int->ax,string->az
open Go.IntKind renaming i64->ay
open Go.Obj renaming cells->aA
open Option renaming none->aB,some->aC
open And renaming intro->aD
namespace Go.Proofs.YtcjndgldjhmbgaaGreat
open Go.RowKit Go.Maps
variable {l:LoP} {b' base g gR n:Nat} {v vo:Value} {w w':World} {xs:af} {N:ai}
theorem Ju {d:ac} (h:hexC d=0):d.length=64:=by
 unfold hexC at h;split at h
 ·cases h
 ·omega
theorem z3w (g:Nat) (p:LoW) (l:LoP) (kd n:Nat) (dg D:ac) (ps:List PartP) (A:ae) (c:Nat) (A':ae) (c':Nat) (w:World) (hL:GoodL l) (h3:D.length<=300) (hk:1<=kd/\kd<=4) (N:ai) (hNg:N g) (hNw:∀b,N b->b<w.heap.size) (hb:DkB w g p l N) (hd:Sl w 1 A D.length c (bys D)) (hq:Sl w 3 A' ps.length c' (pcs ps)) :
  Calls zZZ 74 #[.pointer (aC ⟨g,0,aB⟩),orV kd n dg D ps A c A' c'] w (ka w g N (blobD l ⟨kd,n,dg,D,ps⟩)):=by
 have hc:kd=1\/kd=2\/(kd=3\/kd=4):=wj
 rcases hc with h | h | h
 ·exact z2a g p l kd n dg D ps A c A' c' w hL h3 h N hNg hNw hb hd hq
 ·exact z2b g p l kd n dg D ps A c A' c' w hL h N hNg hNw hb hd hq
 ·exact z2c g p l kd n dg D ps A c A' c' w hL h N hNg hNw hb hd hq
theorem z4o (g:Nat) (p:LoW) (l:LoP) (kd n:Nat) (dg D:ac) (ps:List PartP) (A:ae) (c:Nat) (A':ae) (c':Nat) (w:World) (hL:GoodL l) (hx:hexC dg=0) (hpz:chk ps=0) (hck:l.st.aG<1099511627776) (hlen:l.st.aF.length<10) (hk:5<=kd/\kd<=8) (N:ai) (hNg:N g) (hNw:∀b,N b->b<w.heap.size) (hb:DkB w g p l N) (hd:Sl w 1 A D.length c (bys D)) (hq:Sl w 3 A' ps.length c' (pcs ps)) :
  Calls zZZ 75 #[.pointer (aC ⟨g,0,aB⟩),orV kd n dg D ps A c A' c'] w (ka w g N (entD l ⟨kd,n,dg,D,ps⟩)):=by
 have hc:kd=5\/kd=6\/(kd=7\/kd=8):=wj
 rcases hc with h | h | h
 ·exact z3x g p l kd n dg D ps A c A' c' w hL hx hpz hck hlen h N hNg hNw hb hd hq
 ·exact z3y g p l kd n dg D ps A c A' c' w hL hck h N hNg hNw hb hd hq
 ·exact z3z g p l kd n dg D ps A c A' c' w hL h N hNg hNw hb hd hq
theorem z42 (g:Nat) (p:LoW) (l:LoP) (kd n:Nat) (dg D:ac) (ps:List PartP) (A:ae) (c:Nat) (A':ae) (c':Nat) (w:World) (hL:GoodL l) (h8:8*unm l.st.aE+l.co.aI.length<=1000) (hn:n<=4000) (hk:9<=kd/\kd<=11) (N:ai) (hNg:N g) (hNw:∀b,N b->b<w.heap.size) (hb:DkB w g p l N) (hd:Sl w 1 A D.length c (bys D)) (hq:Sl w 3 A' ps.length c' (pcs ps)) :
  Calls zZZ 76 #[.pointer (aC ⟨g,0,aB⟩),orV kd n dg D ps A c A' c'] w (ka w g N (roomD l ⟨kd,n,dg,D,ps⟩)):=by
 have hc:kd=9\/kd=10\/kd=11:=wj
 rcases hc with h | h | h
 ·exact z2i g p l kd n dg D ps A c A' c' w hL hn h N hNg hNw hb hd hq
 ·exact JQ g p l kd n dg D ps A c A' c' w hL h N hNg hNw hb hd hq
 ·exact JR g p l kd n dg D ps A c A' c' w hL h8 hn h N hNg hNw hb hd hq
theorem z4p (g:Nat) (p:LoW) (l:LoP) (kd n:Nat) (dg D:ac) (ps:List PartP) (A:ae) (c:Nat) (A':ae) (c':Nat) (w:World) (hL:GoodL l) (hx:hexC dg=0) (hpz:chk ps=0) (hck:l.st.aG<1099511627776) (hlen:l.st.aF.length<10) (hn1:kd=12->1<=n/\n<=1000) (hk:12<=kd/\kd<=14) (N:ai) (hNg:N g) (hNw:∀b,N b->b<w.heap.size) (hb:DkB w g p l N) (hd:Sl w 1 A D.length c (bys D)) (hq:Sl w 3 A' ps.length c' (pcs ps)) :
  Calls zZZ 77 #[.pointer (aC ⟨g,0,aB⟩),orV kd n dg D ps A c A' c'] w (ka w g N (fliD l ⟨kd,n,dg,D,ps⟩)):=by
 have hc:kd=12\/kd=13\/kd=14:=wj
 rcases hc with h | h | h
 ·exact z2e g p l kd n dg D ps A c A' c' w hL hx (by have:=Ju hx;omega) (hn1 h).1 (hn1 h).2 hck h N hNg hNw hb hd hq
 ·exact z2f g p l kd n dg D ps A c A' c' w hL hx hpz hck hlen h N hNg hNw hb hd hq
 ·exact z2g g p l kd n dg D ps A c A' c' w hL h N hNg hNw hb hd hq
theorem z2s {o:OrdP} (h:GoodO o):o.dig= []\/hexC o.dig=0:=by
 cases hf:(fOf o.kind).1.dig with
 | false=>exact .inl (h.d0 hf)
 | true=>exact .inr (h.d1 hf)
theorem JP (kd n:Nat) (dg D:ac) (ps:List PartP) (A:ae) (c:Nat) (A':ae) (c':Nat) (w:World) (ho:GoodO ⟨kd,n,dg,D,ps⟩) (hq:Sl w 3 A' ps.length c' (pcs ps)) :
  Calls zZZ 61 #[orV kd n dg D ps A c A' c'] w fun e w'=>e= .returned (ax ay 0)/\Below w.heap.size w w':=by
 have hdl:dg.length<=140737488351232:=by
  rcases z2s ho with h | h
  ·have h:dg= []:=h;rw [h];simp
  ·have:=Ju h;have:dg.length=64:=this;omega
 have hp8:=(zk ho.p1).1;have hpm:ps.length<=9223372036854775807:=by have:ps.length<=8:=hp8;omega
 have hok:=vJ ho.p1;have hcz:chk ps=0:=ho.p1;have hn4:n<=4000:=ho.n1;have ht3:D.length<=300:=ho.t1;obtain⟨⟨fn,fd,ft,fp⟩,hff⟩:∃f,fOf kd=(f,true):=⟨(fOf kd).1,by
  have:=ho.kind;show fOf kd=_;rw [<-show(fOf kd).2=true from this]⟩
 have h1:fn=false->n=0:=fun h=>ho.n0 (by show(fOf kd).1.n=false;rw [hff];exact h);have h2:fd=false->dg= []:=fun h=>ho.d0 (by show(fOf kd).1.dig=false;rw [hff];exact h);have h3:ft=false->D.length=0:=fun h=>by rw [show D= [] from ho.t0 (by show(fOf kd).1.data=false;rw [hff];exact h)];rfl
 have h4:fp=false->ps.length=0:=fun h=>by rw [show ps= [] from ho.p0 (by show(fOf kd).1.parts=false;rw [hff];exact h)];rfl
 have h5:fd=true->hexC dg=0:=fun h=>ho.d1 (by show(fOf kd).1.dig=true;rw [hff];exact h);have hsh:(fn=false/\fd=false/\ft=true/\fp=false)\/(fn=false/\fd=true/\ft=false/\fp=false)\/(fn=false/\fd=true/\ft=false/\fp=true)\/(fn=true/\fd=false/\ft=false/\fp=false)\/(fn=false/\fd=false/\ft=false/\fp=false)\/(fn=true/\fd=true/\ft=false/\fp=false):=by
  have hz:=hff;unfold fOf at hz
  repeat' split at hz
  all_goals first | (cases hz;simp;done) | cases hz
 unfold orV;obtain⟨S,hS⟩:=wU (⟨dg.toArray⟩:ByteArray)
 have HX:=sqH (fun (h:fd=true) w'=>kB 0 (r:=0) wu (show hexC S.data.toList=0 by rw [hS];exact h5 h) w' (by rw [hS];simpa [ByteArray.size] using hdl));have e2':fd=false->S.toList.isEmpty=true:=fun h=>by rw [hS,h2 h,ByteArray.toList,ByteArray.toList.loop];simp [ByteArray.size]
 rw [<-hS];generalize hdl':D.length=dl at *
 obtain⟨w1,hw1⟩:=wU (w.alloc (aA #[ax ay kd,ax ay n,az S,aw A dl c,aw A' ps.length c'] 55))
 have hof:=z43 kd w1;unfold z2n at hof;rw [hff]at hof;simp only [fcs]at hof;have hb1:Below w.heap.size w w1:=by rw [hw1];exact(Below.refl _ _).alloc ab _
 have hr1:Rd w1 3 A' ps.length (pcs ps):=hq.rd.below hb1;have hA1:Arr w1 w.heap.size 55 [ax ay kd,ax ay n,az S,aw A dl c,aw A' ps.length c']:=by rw [hw1];exact Arr.new w 55 _
 obtain⟨g,hg⟩:=wU w.heap.size
 rw [<-hg]at hA1;have HAF:=sqH (show ∀w2,Below w1.heap.size w1 w2->∃w3,w3=w2.alloc (aA #[.bool fn,.bool fd,.bool ft,.bool fp] 113)/\Below w.heap.size w w3/\Arr w3 g 55 [ax ay kd,ax ay n,az S,aw A dl c,aw A' ps.length c']/\Rd w3 3 A' ps.length (pcs ps) from fun w2 h =>
  have hb:=wg hb1 h
  ⟨_,rfl,hb.alloc hb.size _,(hA1.below h).alloc _,(hr1.below h).alloc _⟩)
 have HCK:=sqH (fun w' (hw:Rd w' 3 A' ps.length (pcs ps))=>xd A' ps.length c' ps w' rfl hq.cap hpm hok hw);rw [hcz]at HCK;have f0:=hA1.c0;rw [hw1]at f0;obtain⟨HOF,HW1,HG⟩:=sqJ3 hof hw1 hg;have e5:decide ((n:Int)<0)=false:=decide_eq_false wj;have e6:decide ((4000:Int)<(n:Int))=false:=decide_eq_false wj;have e8:decide ((300:Int)<(dl:Int))=false:=decide_eq_false wj;have e9:decide (300<dl)=false:=decide_eq_false wj;clear hof hff hS hok hcz hw1 hb1 hr1 hg hp8 hpm hdl hn4 hdl' h2 h5 ho hq;rcases hsh with ⟨rfl,rfl,rfl,rfl⟩ | ⟨rfl,rfl,rfl,rfl⟩ | ⟨rfl,rfl,rfl,rfl⟩ | ⟨rfl,rfl,rfl,rfl⟩ | ⟨rfl,rfl,rfl,rfl⟩ | ⟨rfl,rfl,rfl,rfl⟩
 all_goals (
  first | (have e1:((n:Int) != 0)=false:=by rw [h1 rfl];rfl) | skip
  first | (have e2:=e2' rfl) | skip
  first | (have e3:decide ((0:Int)<(dl:Int))=false:=decide_eq_false (by have:=h3 rfl;omega)) | skip
  first | (have e3':decide (0<dl)=false:=decide_eq_false (by have:=h3 rfl;omega)) | skip
  first | (have e4:decide ((0:Int)<(ps.length:Int))=false:=decide_eq_false (by have:=h4 rfl;omega)) | skip
  first | (have e4':decide (0<ps.length)=false:=decide_eq_false (by have:=h4 rfl;omega)) | skip
  clear h1 h3 h4 e2';go_enter func61,ntmps61
  refine wH ?_;intros
  rw [<-HW1.o];simp only [<-HG.o];clear f0 hA1;refine wV HOF.o fun w2 hb2=>?_;dsimp only;obtain⟨w3,hw3,hB3,hA3,hr3⟩:=HAF.o w2 hb2;have f1:=hA3.c1;have f2:=hA3.c2;have f3:=hA3.c3;have f4:=hA3.c4;rw [hw3]at f1 f2 f3 f4;have HW3:=sqH hw3;have HB3:=sqH hB3;clear hb2 hw3 hB3
  refine wH ?_;intros
  rw [<-HW3.o]at f1 f2 f3 f4 ⊢
  first
  | (refine(HCK.o w3 hr3).mono ?_;rintro e_ w5 ⟨rfl,hb5⟩;dsimp only;clear f1 f2 f3 f4 hA3 hr3;refine wH ?_;intros;go_ret;exact⟨rfl,wg HB3.o hb5⟩)
  | (refine(HX.o rfl w3).mono ?_;rintro e_ w4 ⟨rfl,hb4⟩;dsimp only;clear f1 f2 f3 f4;have hA4:=hA3.below hb4;have hr4:=hr3.below hb4;have f3:=hA4.c3;have f4:=hA4.c4;have HB4:=sqH (wg HB3.o hb4);clear hA3 hr3 hA4 hb4;refine wH ?_;intros;refine wV (HCK.o w4 hr4) fun w5 hb5=>?_;dsimp only;clear f3 f4 hr4;refine wH ?_;intros;go_ret;exact⟨rfl,wg HB4.o hb5⟩))
theorem z2h (g:Nat) (p:LoW) (l:LoP) (kd n:Nat) (dg D:ac) (ps:List PartP) (A:ae) (c:Nat) (A':ae) (c':Nat) (w:World) (m:Nat) (hi:LInv m l) (hm:m<=78) (ho:GoodD ⟨kd,n,dg,D,ps⟩) (N:ai) (hNg:N g) (hNw:∀b,N b->b<w.heap.size) (hb:DkB w g p l N) (hd:Sl w 1 A D.length c (bys D)) (hq:Sl w 3 A' ps.length c' (pcs ps)) :
  Calls zZZ 39 #[.pointer (aC ⟨g,0,aB⟩),orV kd n dg D ps A c A' c'] w (ka w g N (qR l ⟨kd,n,dg,D,ps⟩)):=by
 have hL:=hi.good hm;have hck:l.st.aG<1099511627776:=by have:=hi.b.ck;omega
 have hlen:l.st.aF.length<10:=by have:=hi.b.e7;omega
 have h8:8*unm l.st.aE+l.co.aI.length<=1000:=by have:=hi.b.gr;omega
 have hk14:1<=kd/\kd<=14:=z2w ho.g.kind;have hx:(5<=kd/\kd<=8)\/12<=kd->hexC dg=0:=fun h=>by
  obtain⟨j,_,e⟩:=ho.k7 h;rw [show dg=keyS j from e];exact zA _
 have HC:=sqH (aD hck (aD hlen (aD h8 (aD hk14 (aD hx ho)))));clear hi hck hlen h8 hk14 hx;have HGO:=sqH ho;clear ho;obtain⟨X,cX,Y,dY,G,ng,F,cF⟩:=p;obtain⟨s,co,fs⟩:=l;have hgl:=hb.lt;have hgw:=hb.lt;have hbw:=hb.wider (N':=fun b=>N b\/w.heap.size<=b) (fun b h=>h);obtain⟨w0,hw0,hP,hR,hbx⟩:=zn w 55 48 [ax ay kd,ax ay n,az ⟨dg.toArray⟩,aw A D.length c,aw A' ps.length c'] [ax ay 0,az ⟨#[]⟩,aw aB 0 0,aw aB 0 0,ax ay 0,aw aB 0 0];have HDK:=sqH (show ∀W,Below w0.heap.size w0 W->DkB W g ⟨X,cX,Y,dY,G,ng,F,cF⟩ ⟨s,co,fs⟩ (fun b=>N b\/w.heap.size<=b) from fun W h=>(hbw.below hbx).below h);have HBC:=sqH (show ∀W,Below w0.heap.size w0 W->wF W g (aw X s.aE.length cX) (aw Y s.aF.length dY) (ax ay s.aH) (ax ay s.aG) (ax ay co.aJ) (aw G co.aI.length ng) (az ⟨co.at_.toArray⟩) (aw F fs.length cF) from fun W h=>by
  have b:=(HDK.o W h).box;exact sqC8 b)
 have hws:=hbx.size;obtain⟨HBX,HD,HQ⟩:=sqJ3 hbx (hd.below hbx) (hq.below hbx);obtain⟨H,hH⟩:=wU w.heap.size
 rw [<-hH]at hP hR hgl;have hHw:w.heap.size<=H:=wj
 have hHw1:w.heap.size<=H+1:=wj
 have hgH:g≠H+1:=wj
 have hHl:H+1<w0.heap.size:=hR.lt;obtain⟨HP,HR,HL,HNW⟩:=sqJ4 (show ∀W,Below w0.heap.size w0 W->Arr W H 55 (orC kd n dg D ps A c A' c') from fun W h=>hP.below h) (show ∀W,Below w0.heap.size w0 W->Arr W (H+1) 48 Kp from fun W h=>hR.below h) hL hNw;obtain⟨x0,x1,x2,x3,x4⟩:=sqC5 hP;have HW0:=sqH hw0;have HH:=sqH hH;rw [hw0,hH]at x0 x1 x2 x3 x4;clear hb hbw hbx hd hq hP hR hL hw0 hH hNw;go_enter func39,ntmps39
 refine wH ?_;intros
 rw [<-HW0.o,<-HH.o];clear x0 x1 x2 x3 x4;refine wV ((JP kd n dg D ps A c A' c' w0 HGO.o.g HQ.o)) fun w1 hb1=>?_;dsimp only;have HNW1:=sqH (show ∀b,(N b\/b=H+1)->b<w1.heap.size from fun b hb=>by have:=hb1.size;rcases hb with hb | hb;(have:=HNW.o b hb;omega);omega);have hb0:=(HDK.o _ hb1).mono (N':=fun b=>N b\/b=H+1) (fun b hb=>hb.imp id fun h=>wj);by_cases h4:kd<=4
 ·have c4:decide ((kd:Int)<=4)=true:=decide_eq_true wj;have c4':decide (kd<=4)=true:=decide_eq_true h4;have HK:=sqH h4;clear h4;have HM:=sqH (z3w g _ ⟨s,co,fs⟩ kd n dg D ps A c A' c' w1 HL.o HGO.o.g.t1 (by have:=HC.o.2.2.2.1;have:=HK.o;omega) (fun b=>N b\/b=H+1) (.inl hNg) HNW1.o hb0 (HD.o.below hb1) (HQ.o.below hb1));obtain⟨o0,o1,o2,o3,o4⟩:=sqC5 (HP.o w1 hb1);have HB:=sqH hb1;clear hb1
  refine wH ?_;intros
  refine(HM.o).mono ?_;rintro e_ w2 ⟨dv,pv,wv,rfl,hg2,hd2,hra⟩;dsimp only;obtain⟨P1,q1,rfl, -, -⟩:=Rd.of_own' hra.d;obtain⟨P2,q2,rfl, -, -⟩:=Rd.of_own' hra.p;obtain⟨P3,q3,rfl, -, -⟩:=Rd.of_own' hra.w;have hr3:=(HR.o _ HB.o).grown hg2 aa;have HX:=sqH (aD hd2 (aD (zQ (HBX.o.trans (HB.o.mono hws)) hg2) (aD hr3 hra)));clear o0 o1 o2 o3 o4 hg2 hd2 hra HM;have e1:qR ⟨s,co,fs⟩ ⟨kd,n,dg,D,ps⟩=blobD ⟨s,co,fs⟩ ⟨kd,n,dg,D,ps⟩:=(by unfold qR;rw [if_pos HK.o])
  have HE1:=sqH e1;clear e1;generalize hrr:blobD ⟨s,co,fs⟩ ⟨kd,n,dg,D,ps⟩=r at *
  obtain⟨l2,r⟩:=r;dsimp only at HX hr3 ⊢
  clear hrr;obtain⟨f0,f1,f2,f3,f4,f5⟩:=sqF6 hr3;obtain⟨y0,y1,y2,y3,y4,y5⟩:=sqC6 hr3;have HR3:=sqH hr3;have HF:=sqH (hr3.all6 (ax ay r.err) (az ⟨r.dig.toArray⟩) (aw P1 r.data.length q1) (aw P2 r.parts.length q2) (ax ay r.n) (aw P3 r.who.length q3));clear hr3
  refine wH ?_;intros
  refine bodyPost_ret (results_cell_row rfl _ _ (H+1) _ _ _ _ wu HF.o underlying48 rfl wm) rfl ?_;rw [HE1.o];obtain⟨⟨p',hd4⟩,hg5,hr5,hra⟩:=HX.o;have hs1:w.heap.size<=w1.heap.size:=Nat.le_trans hws HB.o.size;have hra2:RepAt w2 w.heap.size r (aw P1 r.data.length q1) (aw P2 r.parts.length q2) (aw P3 r.who.length q3):=⟨zb hra.d hs1,zb hra.p hs1,zb hra.w hs1⟩
  exact⟨_,_,_,rfl,zl hg5 hHw1 _ _ _ _ _ _,⟨p',(hd4.set6 hr5 (.inr rfl) hgH _ _ _ _ _ _).mono fun b h=> .inl h⟩,hra2.set6 hr5 _ _ _ _ _ _⟩
 ·have c4:decide ((kd:Int)<=4)=false:=decide_eq_false wj;have c4':decide (kd<=4)=false:=decide_eq_false h4;by_cases h5:kd<=8
  ·have c8:decide ((kd:Int)<=8)=true:=decide_eq_true wj;have HK:=sqH (aD h4 h5);clear h4 h5;have HM:=sqH (z4o g _ ⟨s,co,fs⟩ kd n dg D ps A c A' c' w1 HL.o (HC.o.2.2.2.2.1 (wW HK)) HGO.o.g.p1 HC.o.1 HC.o.2.1 (wW HK) (fun b=>N b\/b=H+1) (.inl hNg) HNW1.o hb0 (HD.o.below hb1) (HQ.o.below hb1));obtain⟨o0,o1,o2,o3,o4⟩:=sqC5 (HP.o w1 hb1);have HB:=sqH hb1;clear hb1
   refine wH ?_;intros
   refine(HM.o).mono ?_;rintro e_ w2 ⟨dv,pv,wv,rfl,hg2,hd2,hra⟩;dsimp only;obtain⟨P1,q1,rfl, -, -⟩:=Rd.of_own' hra.d;obtain⟨P2,q2,rfl, -, -⟩:=Rd.of_own' hra.p;obtain⟨P3,q3,rfl, -, -⟩:=Rd.of_own' hra.w;have hr3:=(HR.o _ HB.o).grown hg2 aa;have HX:=sqH (aD hd2 (aD (zQ (HBX.o.trans (HB.o.mono hws)) hg2) (aD hr3 hra)));clear o0 o1 o2 o3 o4 hg2 hd2 hra HM;have e1:qR ⟨s,co,fs⟩ ⟨kd,n,dg,D,ps⟩=entD ⟨s,co,fs⟩ ⟨kd,n,dg,D,ps⟩:=(by unfold qR;rw [if_neg HK.o.1,if_pos HK.o.2])
   have HE1:=sqH e1;clear e1;generalize hrr:entD ⟨s,co,fs⟩ ⟨kd,n,dg,D,ps⟩=r at *
   obtain⟨l2,r⟩:=r;dsimp only at HX hr3 ⊢
   clear hrr;obtain⟨f0,f1,f2,f3,f4,f5⟩:=sqF6 hr3;obtain⟨y0,y1,y2,y3,y4,y5⟩:=sqC6 hr3;have HR3:=sqH hr3;have HF:=sqH (hr3.all6 (ax ay r.err) (az ⟨r.dig.toArray⟩) (aw P1 r.data.length q1) (aw P2 r.parts.length q2) (ax ay r.n) (aw P3 r.who.length q3));clear hr3
   refine wH ?_;intros
   refine bodyPost_ret (results_cell_row rfl _ _ (H+1) _ _ _ _ wu HF.o underlying48 rfl wm) rfl ?_;rw [HE1.o];obtain⟨⟨p',hd4⟩,hg5,hr5,hra⟩:=HX.o;have hs1:w.heap.size<=w1.heap.size:=Nat.le_trans hws HB.o.size;have hra2:RepAt w2 w.heap.size r (aw P1 r.data.length q1) (aw P2 r.parts.length q2) (aw P3 r.who.length q3):=⟨zb hra.d hs1,zb hra.p hs1,zb hra.w hs1⟩
   exact⟨_,_,_,rfl,zl hg5 hHw1 _ _ _ _ _ _,⟨p',(hd4.set6 hr5 (.inr rfl) hgH _ _ _ _ _ _).mono fun b h=> .inl h⟩,hra2.set6 hr5 _ _ _ _ _ _⟩
  ·have c8:decide ((kd:Int)<=8)=false:=decide_eq_false wj;by_cases h11:kd<=11
   ·have c11:decide ((kd:Int)<=11)=true:=decide_eq_true wj;have HK:=sqH (aD h4 (aD h5 h11));clear h4 h5 h11;have HM:=sqH (z42 g _ ⟨s,co,fs⟩ kd n dg D ps A c A' c' w1 HL.o HC.o.2.2.1 HGO.o.g.n1 (wW HK) (fun b=>N b\/b=H+1) (.inl hNg) HNW1.o hb0 (HD.o.below hb1) (HQ.o.below hb1));obtain⟨o0,o1,o2,o3,o4⟩:=sqC5 (HP.o w1 hb1);have HB:=sqH hb1;clear hb1
    refine wH ?_;intros
    refine(HM.o).mono ?_;rintro e_ w2 ⟨dv,pv,wv,rfl,hg2,hd2,hra⟩;dsimp only;obtain⟨P1,q1,rfl, -, -⟩:=Rd.of_own' hra.d;obtain⟨P2,q2,rfl, -, -⟩:=Rd.of_own' hra.p;obtain⟨P3,q3,rfl, -, -⟩:=Rd.of_own' hra.w;have hr3:=(HR.o _ HB.o).grown hg2 aa;have HX:=sqH (aD hd2 (aD (zQ (HBX.o.trans (HB.o.mono hws)) hg2) (aD hr3 hra)));clear o0 o1 o2 o3 o4 hg2 hd2 hra HM;have e1:qR ⟨s,co,fs⟩ ⟨kd,n,dg,D,ps⟩=roomD ⟨s,co,fs⟩ ⟨kd,n,dg,D,ps⟩:=(by unfold qR;rw [if_neg HK.o.1,if_neg HK.o.2.1,if_pos HK.o.2.2])
    have HE1:=sqH e1;clear e1;generalize hrr:roomD ⟨s,co,fs⟩ ⟨kd,n,dg,D,ps⟩=r at *
    obtain⟨l2,r⟩:=r;dsimp only at HX hr3 ⊢
    clear hrr;obtain⟨f0,f1,f2,f3,f4,f5⟩:=sqF6 hr3;obtain⟨y0,y1,y2,y3,y4,y5⟩:=sqC6 hr3;have HR3:=sqH hr3;have HF:=sqH (hr3.all6 (ax ay r.err) (az ⟨r.dig.toArray⟩) (aw P1 r.data.length q1) (aw P2 r.parts.length q2) (ax ay r.n) (aw P3 r.who.length q3));clear hr3
    refine wH ?_;intros
    refine bodyPost_ret (results_cell_row rfl _ _ (H+1) _ _ _ _ wu HF.o underlying48 rfl wm) rfl ?_;rw [HE1.o];obtain⟨⟨p',hd4⟩,hg5,hr5,hra⟩:=HX.o;have hs1:w.heap.size<=w1.heap.size:=Nat.le_trans hws HB.o.size;have hra2:RepAt w2 w.heap.size r (aw P1 r.data.length q1) (aw P2 r.parts.length q2) (aw P3 r.who.length q3):=⟨zb hra.d hs1,zb hra.p hs1,zb hra.w hs1⟩
    exact⟨_,_,_,rfl,zl hg5 hHw1 _ _ _ _ _ _,⟨p',(hd4.set6 hr5 (.inr rfl) hgH _ _ _ _ _ _).mono fun b h=> .inl h⟩,hra2.set6 hr5 _ _ _ _ _ _⟩
   ·have c11:decide ((kd:Int)<=11)=false:=decide_eq_false wj;have HK:=sqH (aD h4 (aD h5 h11));clear h4 h5 h11;have HM:=sqH (z4p g _ ⟨s,co,fs⟩ kd n dg D ps A c A' c' w1 HL.o (HC.o.2.2.2.2.1 (wW HK)) HGO.o.g.p1 HC.o.1 HC.o.2.1 HGO.o.ask (by have:=HK.o;have:=HC.o.2.2.2.1;omega) (fun b=>N b\/b=H+1) (.inl hNg) HNW1.o hb0 (HD.o.below hb1) (HQ.o.below hb1));obtain⟨o0,o1,o2,o3,o4⟩:=sqC5 (HP.o w1 hb1);have HB:=sqH hb1;clear hb1
    refine wH ?_;intros
    refine(HM.o).mono ?_;rintro e_ w2 ⟨dv,pv,wv,rfl,hg2,hd2,hra⟩;dsimp only;obtain⟨P1,q1,rfl, -, -⟩:=Rd.of_own' hra.d;obtain⟨P2,q2,rfl, -, -⟩:=Rd.of_own' hra.p;obtain⟨P3,q3,rfl, -, -⟩:=Rd.of_own' hra.w;have hr3:=(HR.o _ HB.o).grown hg2 aa;have HX:=sqH (aD hd2 (aD (zQ (HBX.o.trans (HB.o.mono hws)) hg2) (aD hr3 hra)));clear o0 o1 o2 o3 o4 hg2 hd2 hra HM;have e1:qR ⟨s,co,fs⟩ ⟨kd,n,dg,D,ps⟩=fliD ⟨s,co,fs⟩ ⟨kd,n,dg,D,ps⟩:=(by unfold qR;rw [if_neg HK.o.1,if_neg HK.o.2.1,if_neg HK.o.2.2])
    have HE1:=sqH e1;clear e1;generalize hrr:fliD ⟨s,co,fs⟩ ⟨kd,n,dg,D,ps⟩=r at *
    obtain⟨l2,r⟩:=r;dsimp only at HX hr3 ⊢
    clear hrr;obtain⟨f0,f1,f2,f3,f4,f5⟩:=sqF6 hr3;obtain⟨y0,y1,y2,y3,y4,y5⟩:=sqC6 hr3;have HR3:=sqH hr3;have HF:=sqH (hr3.all6 (ax ay r.err) (az ⟨r.dig.toArray⟩) (aw P1 r.data.length q1) (aw P2 r.parts.length q2) (ax ay r.n) (aw P3 r.who.length q3));clear hr3
    refine wH ?_;intros
    refine bodyPost_ret (results_cell_row rfl _ _ (H+1) _ _ _ _ wu HF.o underlying48 rfl wm) rfl ?_;rw [HE1.o];obtain⟨⟨p',hd4⟩,hg5,hr5,hra⟩:=HX.o;have hs1:w.heap.size<=w1.heap.size:=Nat.le_trans hws HB.o.size;have hra2:RepAt w2 w.heap.size r (aw P1 r.data.length q1) (aw P2 r.parts.length q2) (aw P3 r.who.length q3):=⟨zb hra.d hs1,zb hra.p hs1,zb hra.w hs1⟩
    exact⟨_,_,_,rfl,zl hg5 hHw1 _ _ _ _ _ _,⟨p',(hd4.set6 hr5 (.inr rfl) hgH _ _ _ _ _ _).mono fun b h=> .inl h⟩,hra2.set6 hr5 _ _ _ _ _ _⟩
theorem RwX.set1R {k:Nat} {rs:List RepP} {u:Value} (h:RwX YV 48 w base v rs (fun b=>b<=g)) (hg:gR<=g) (hA:Arr w gR 33 xs):RwX YV 48 (w.setCell ⟨gR,k,aB⟩ u) base v rs (fun b=>b<=g):=by
 obtain⟨ys,hy⟩:=h.own_m;exact h.other (zU w gR k u) (fun b e=>by cases e;exact zf hy hA wo) (fun b e=>by cases e;exact hg)
theorem RwX.set8R {rs:List RepP} {x0 x1 x2 x3 x4 x5 x6 x7:Value} (h:RwX YV 48 w base v rs (fun b=>b<=g)) (hg:gR<=g) (hA:Arr w gR 33 [x0,x1,x2,x3,x4,x5,x6,x7]) (u0 u1 u2 u3 u4 u5 u6 u7:Value):RwX YV 48 (JF w gR u0 u1 u2 u3 u4 u5 u6 u7) base v rs (fun b=>b<=g):=by
 have a0:=hA.set (k:=0) ws u0;have a1:=a0.set (k:=1) ws u1;have a2:=a1.set (k:=2) ws u2;have a3:=a2.set (k:=3) ws u3;have a4:=a3.set (k:=4) ws u4;have a5:=a4.set (k:=5) ws u5;have a6:=a5.set (k:=6) ws u6;exact(((((((h.set1R hg hA).set1R hg a0).set1R hg a1).set1R hg a2).set1R hg a3).set1R hg a4).set1R hg a5).set1R hg a6
theorem vw {P:Program} {fn:Func} {p u z:Tmp} {ty:TypeId} (h:fn.results=#[.tmp u,.cell p ty,.tmp z]) (tmps:Array Value) (w:World) (g:Nat) (t:TypeId) (cs:Array Value) (fr:Nat×Nat) (d:TypeDesc)
  (hp:tmps.getD p undef= .pointer (aC ⟨g,0,aB⟩)) (hg:w.heap[g]?=aC (.cells cs t fr))
  (hu:P.underlying ty=aC d) (hd:(match d with | .struct _ | .array _ _=>true | _=>false)=true) (hi:(P.info? ty).map (·.size)=aC cs.size) :
  (results fn tmps).run P w= .ok (.tuple #[tmps.getD u undef,.agg cs,tmps.getD z undef]) w:=by
 have hp':tmps[p]?.getD undef= .pointer (aC ⟨g,0,aB⟩):=by simpa using hp
 simp [results,h,hp',asAddr,run_loadVar_row w g t ty cs fr d hg hu hd hi]
theorem OwLo.grownR {v1 v2 v3 v4:Value} (h:OwLo w base v1 v2 v3 v4 l N) (hx:w.ownsRow b' 48 6 vo n xs) (hg:w.grownBy w' vo.ownBlock) (hN:∀b,vo.ownBlock=aC b->N b):OwLo w' base v1 v2 v3 v4 l N:=by
 obtain⟨xs1,hx1⟩:=h.s.b.own_m;obtain⟨xs2,hx2⟩:=h.s.e.own_m;have kp:∀ {e:TypeId} {size m:Nat} {v:Value} {ys:af},w.ownsRow base e size v m ys->e≠48->w'.ownsRow base e size v m ys:=fun ho hne=>ho.kept hg (by
  rename_i v ys;cases hb:v.ownBlock with
  | none=>exact .inl rfl
  | some b=>exact .inr (fun e=>ux ho hx hne b hb e.symm))
 refine⟨⟨h.s.b.other hg (fun b e1 e2=>ux hx1 hx wo b e2 e1) (fun b e=> .inl (hN b e)),h.s.e.other hg (fun b e1 e2=>ux hx2 hx wo b e2 e1) (fun b e=> .inl (hN b e)),h.s.ne⟩,kp h.c wo,?_⟩;obtain⟨As,h1,h2,h3,h4⟩:=h.f;exact⟨As,h1,kp h2 wo,fun k p a hp ha=>⟨kp (h3 k p a hp ha).1 wo,(h3 k p a hp ha).2⟩,h4⟩
theorem DkB.grownR {p:LoW} (h:DkB w g p l N) (hx:w.ownsRow b' 48 6 vo n xs) (hg:w.grownBy w' vo.ownBlock) (hN:∀b,vo.ownBlock=aC b->N b):DkB w' g p l N :=
 ⟨h.box.grown hg (zf hx h.box wo),h.own.grownR hx hg hN⟩
theorem Jl (aH:Nat) (A:ae) (n c:Nat) (os:List OrdP) (w:World) (hroom:aH<=4000) (hl:os.length=n) (hn:n<=79) (hc:n<=c) (hm:c<=maxLen) (hgo:∀o∈os,GoodD o) (hr:Rw OrdS w A os) :
  Calls zZZ 12 #[ax ay aH,aw A n c] w fun e w'=>∃vr v1 v2 v3 v4,e= .returned (.tuple #[vr,Yc v1 v2 v3 v4 (qP (lo0 aH) os).1,ax ay 0])/\RwX YV 48 w' w.heap.size vr (qP (lo0 aH) os).2 (fun b=>b<w.heap.size)/\OwLo w' w.heap.size v1 v2 v3 v4 (qP (lo0 aH) os).1 (fun b=>b<w.heap.size)/\Below w.heap.size w w':=by
 obtain⟨w1,hw1,hR,hB,hbx⟩:=zn w 33 82 [aw aB 0 0,aw aB 0 0,ax ay 0,ax ay 0,ax ay 0,aw aB 0 0,az ⟨#[]⟩,aw aB 0 0] [aw aB 0 0,aw aB 0 0,ax ay aH,ax ay 0,ax ay 0,aw aB 0 0,az ⟨#[]⟩,aw aB 0 0];have hr0:decide ((aH:Int)<0)=false:=decide_eq_false wj;have hr1:decide ((aH:Int)>4000)=false:=decide_eq_false wj;have hr2:decide ((4000:Int)<(aH:Int))=false:=decide_eq_false wj;have hr3:decide (4000<aH)=false:=decide_eq_false wj;have hn0:decide ((n:Int)>80)=false:=decide_eq_false wj;have hn1:decide ((80:Int)<(n:Int))=false:=decide_eq_false wj;have hn2:decide (80<n)=false:=decide_eq_false wj;obtain⟨gR,hgR⟩:=wU w.heap.size
 obtain⟨g,hg⟩:=wU (w.heap.size+1)
 rw [<-hg]at hB;rw [<-hgR]at hR;have hgg:g=gR+1:=wj
 have hgl:g<w1.heap.size:=hB.lt;have hDB0:DkB w1 g ⟨aB,0,aB,0,aB,0,aB,0⟩ (lo0 aH) (fun b=>b<=g\/(aw aB 0 0).ownBlock=aC b):=⟨hB,⟨⟨RwX.nil_ (World.ownsRow_nil _ _ _ _),RwX.nil_ (World.ownsRow_nil _ _ _ _),fun g h=>by cases h⟩,World.ownsRow_nil _ _ _ _,FlsO.nil_ _ _ _ (World.ownsRow_nil _ _ _ _)⟩⟩
 obtain⟨HDB0,HL,HGO,HRD,HW1,HBX,HGR,HGG⟩:=sqJ8 hDB0 hl hgo hr hw1 hbx hgR hg;have HR:=sqH hR;have hn63:n<=79:=hn;clear hl hgo hr hw1 hbx hgR hg hR hB hDB0 hm;go_enter func12,ntmps12
 refine wH ?_;intros
 rw [<-HW1.o];simp only [<-HGR.o];rw [<-hgg];have hgR1:gR<g:=wj
 have hgR2:∀b,b<w.heap.size->b<=g:=fun b h=>by have:=HGR.o;omega
 clear hgg;clear hr0 hr1 hr2 hr3 hn0 hn1 hn2;go_loopg [8,32] n (fun gn vo vi wr=>∃(i:Nat) (p:LoW),gn=n - i/\vi= ax ay i/\i<=n/\Below w.heap.size w wr/\DkB wr g p (qP (lo0 aH) (os.take i)).1 (fun b=>b<=g\/vo.ownBlock=aC b)/\RwX YV 48 wr w.heap.size vo (qP (lo0 aH) (os.take i)).2 (fun b=>b<=g)/\Arr wr gR 33 [aw aB 0 0,aw aB 0 0,ax ay 0,ax ay 0,ax ay 0,aw aB 0 0,az ⟨#[]⟩,aw aB 0 0])
 case atStart=>exact⟨0,_,rfl,rfl,Nat.zero_le _,HBX.o,HDB0.o,RwX.nil_ (World.ownsRow_nil _ _ _ _),HR.o⟩
 case round =>
  obtain⟨i,p,hgk,rfl,hi,hbel,hdb,hrx,hra⟩:=hrel;obtain⟨HGK,HBE,HDB,HRX,HRA⟩:=sqJ5 hgk hbel hdb hrx hra;have hwr:w.heap.size<=wr.heap.size:=hbel.size;have hgr:g<wr.heap.size:=hdb.lt;have HINV:=sqH (show LInv i (qP (lo0 aH) (os.take i)).1 from by
   have h:=(LInv.zero hroom).run (os:=os.take i) (by rw [List.length_take];omega) (fun o ho=>HGO.o o (List.mem_of_mem_take ho));rw [List.length_take,HL.o,Nat.min_eq_left hi,Nat.zero_add]at h;exact h)
  clear hgk hdb hrx hra;by_cases hlt:i<n
  rotate_left
  ·obtain rfl:i=n:=by omega
   have hcc:decide (i<i)=false:=ws
   have hci:decide ((i:Int)<(i:Int))=false:=ws
   have hot:os.take i=os:=List.take_of_length_le (by rw [HL.o];exact Nat.le_refl _);have hdb:=HDB.o;have hrx:=HRX.o;rw [hot]at hdb hrx;clear HINV hot HDB HRX;obtain⟨lr,hlr⟩:=wU (qP (lo0 aH) os)
   rw [<-hlr]at hdb hrx;have HLR:=sqH hlr;clear hlr;obtain⟨l,rs⟩:=lr;dsimp only at hdb hrx;obtain⟨X,cX,Y,dY,G,ng,F,cF⟩:=p;have hra:=HRA.o;have hbb:Arr wr g 82 [aw X l.st.aE.length cX,aw Y l.st.aF.length dY,ax ay l.st.aH,ax ay l.st.aG,ax ay l.co.aJ,aw G l.co.aI.length ng,az ⟨l.co.at_.toArray⟩,aw F l.fs.length cF]:=hdb.box;obtain⟨HF,HO8,HB8,HR8⟩:=sqJ4 (hra.all8 (aw X l.st.aE.length cX) (aw Y l.st.aF.length dY) (ax ay l.st.aH) (ax ay l.st.aG) (ax ay l.co.aJ) (aw G l.co.aI.length ng) (az ⟨l.co.at_.toArray⟩) (aw F l.fs.length cF)) (OwLo.set8 (hdb.own.mono (N':=fun b=>b<=g) (fun b h=> .inl h)) hra (show gR<=g by omega) (aw X l.st.aE.length cX) (aw Y l.st.aF.length dY) (ax ay l.st.aH) (ax ay l.st.aG) (ax ay l.co.aJ) (aw G l.co.aI.length ng) (az ⟨l.co.at_.toArray⟩) (aw F l.fs.length cF)) (zO HBE.o (show w.heap.size<=gR by have:=HGR.o;omega) (aw X l.st.aE.length cX) (aw Y l.st.aF.length dY) (ax ay l.st.aH) (ax ay l.st.aG) (ax ay l.co.aJ) (aw G l.co.aI.length ng) (az ⟨l.co.at_.toArray⟩) (aw F l.fs.length cF)) (RwX.set8R hrx (show gR<=g by omega) hra (aw X l.st.aE.length cX) (aw Y l.st.aF.length dY) (ax ay l.st.aH) (ax ay l.st.aG) (ax ay l.co.aJ) (aw G l.co.aI.length ng) (az ⟨l.co.at_.toArray⟩) (aw F l.fs.length cF));obtain⟨d0,d1,d2,d3,d4,d5,d6,d7⟩:=sqC8 hbb;obtain⟨y0,y1,y2,y3,y4,y5,y6,y7⟩:=sqC8 hra;obtain⟨f0,f1,f2,f3,f4,f5,f6,f7⟩:=sqF8 hra;have n1':¬(g=gR):=wj
   have hno:∀b,(b<=g)->b<wr.heap.size:=fun b h=>by omega
   clear hbel hdb hrx hra hbb HDB0
   refine wH ?_;intros
   go_region
   all_goals (try dsimp only [Exit.then])
   refine wH ?_;intros
   refine bodyPost_ret (vw rfl _ _ gR _ _ _ _ wu (Arr.drew HF.o) underlying33 rfl wm) rfl ?_;rw [<-HLR.o];exact⟨u8,_,_,_,_,rfl,(HR8.o.below (Below.refl _ _).drew).wider (fun b hb=> .inl (hgR2 b hb)),((HO8.o.below (Below.refl _ _).drew).lower (show w.heap.size<=g+1 by have:=HGR.o;omega)).mono (fun b hb=>hgR2 b hb),HB8.o.drew⟩
  ·have hcc:decide (i<n)=true:=decide_eq_true hlt;have hci:decide ((i:Int)<(n:Int))=true:=decide_eq_true wj;have hi0:=wX i
   have hi1:(i:Int)<(n:Int):=wj
   have hil:i<os.length:=by rw [HL.o];exact hlt
   obtain⟨b,off,B,cB,B',cB',rfl,hbw,c0,c1,c2,c3,c4,hs,hs'⟩:=(HRD.o.below hbel).ord_at i hil;have hgo:=HGO.o os[i] (List.getElem_mem hil);have hrs:=ZY (lo0 aH) (os.take i) os[i];rw [<-List.take_succ_eq_append_getElem hil]at hrs;have hrl:(qP (lo0 aH) (os.take i)).2.length=i:=by rw [yK,List.length_take];omega
   generalize os[i]=o at *
   obtain⟨kd,no,dg,D,ps⟩:=o;dsimp only at c0 c1 c2 c3 c4 hs hs';have HRS:=sqH hrs;obtain⟨w4,hw4⟩:=wU (wr.alloc (aA #[ax ay kd,ax ay no,az ⟨dg.toArray⟩,aw B D.length cB,aw B' ps.length cB'] 55))
   have hb4:Below wr.heap.size wr w4:=by rw [hw4];exact(Below.refl _ _).alloc ab _
   have hO4:Arr w4 wr.heap.size 55 [ax ay kd,ax ay no,az ⟨dg.toArray⟩,aw B D.length cB,aw B' ps.length cB']:=by rw [hw4];exact Arr.new wr 55 _
   have hws4:=hb4.size;have HDO:=sqH (z2h g p _ kd no dg D ps B cB B' cB' w4 i HINV.o wj hgo (fun b=>b<=g\/u8.ownBlock=aC b) (.inl ab) (fun b hb=>by rcases hb with hb | hb;omega;(have:=(HRX.o.rwo.blk hb).2;omega)) (HDB.o.below hb4) (hs.below hb4) (hs'.below hb4));obtain⟨o0,o1,o2,o3,o4⟩:=sqC5 hO4;rw [hw4]at o0 o1 o2 o3 o4;have HB4:=sqH hb4;have HW4:=sqH hw4;clear hb4 hw4 hO4 hs hs' hgo hrs hbel HDB0
   refine wH ?_;intros
   rw [<-HW4.o];refine(HDO.o).mono ?_;rintro e_ w5 ⟨dv,pv,wv,rfl,hg5,⟨p',hd5⟩,hra⟩;dsimp only;clear c0 c1 c2 c3 c4 o0 o1 o2 o3 o4 HDO;generalize hst:qR (qP (lo0 aH) (List.take i os)).1 ⟨kd,no,dg,D,ps⟩=lr2 at *
   have hrs:=HRS.o;obtain⟨l2,r⟩:=lr2;dsimp only at hd5 hra hrs ⊢
   have HRS2:=sqH hrs;obtain⟨P1,q1,rfl,hs1,hl1⟩:=vT hra.d;obtain⟨P2,q2,rfl,hs2,hl2⟩:=vT hra.p;obtain⟨P3,q3,rfl,hs3,hl3⟩:=vT hra.w;have hrx4:=HRX.o.below HB4.o;obtain⟨ys,hys⟩:=hrx4.own_m;have hrx5:=hrx4.other hg5 (fun b e=>by cases e;exact zf hys (HDB.o.below HB4.o).box wo) (fun b e=>by cases e;exact Nat.le_refl _);obtain⟨xs,hxs,hop⟩:=hrx5.open_;have hhop:=hop r (yO r P1 q1 P2 q2 P3 q3) w5;have hle:∀b,(u8.ownBlock=aC b\/b<=g)->¬leads b (yO r P1 q1 P2 q2 P3 q3):=fun b hb hl=>by
    have hbl:b<w4.heap.size:=by
     rcases hb with hb | hb
     ·have:=(HRX.o.rwo.blk hb).2;omega
     ·omega
    obtain⟨a,e1 | e1 | e1,rfl⟩:=Kq hl
    ·have:=hl1 a e1;omega
    ·have:=hl2 a e1;omega
    ·have:=hl3 a e1;omega
   have HOP:=sqH (fun (w2:World) (v2:Value) h1 h2 h3=>hhop w2 v2 (Below.refl _ _) ⟨P1,q1,P2,q2,P3,q3,rfl,hs1,hs2,hs3⟩ hle h1 h2 h3);have hws5:w4.heap.size<=w5.heap.size:=hg5.size;have hB5:=yu (HBE.o.trans (HB4.o.mono hwr)) hg5 (show w.heap.size<=g by have:=HGG.o;omega) wj;obtain⟨HB5,HX5,HA5,HD5,HBK⟩:=sqJ5 hB5 hxs ((HRA.o.below HB4.o).grown hg5 aa) (hd5.wider (N':=fun b=>b<=g\/u8.ownBlock=aC b\/w5.heap.size<=b) (fun b h=>h.elim (fun h=> .inl (.inl h)) (fun h=>h.elim (fun h=> .inl (.inr h)) .inr))) (show ∀k,u8.ownBlock=aC k->w.heap.size<=k from fun k hk=>(hrx5.rwo.blk hk).1);clear hst hrs hd5 hra hg5 hrx4 hys hrx5 hxs hop hhop hle hs1 hs2 hs3 hl1 hl2 hl3 hB5
   refine wH ?_;intros
   refine zg rfl (.tmp 36) (.tmp 40) rfl z47 wu HX5.o (us:= [ax ay r.err,az ⟨r.dig.toArray⟩,aw P1 r.data.length q1,aw P2 r.parts.length q2,ax ay r.n,aw P3 r.who.length q3]) wu rfl (JC r P1 q1 P2 q2 P3 q3) (by show((qP (lo0 aH) (List.take i os)).2.length+1)*104<=140737488355328;rw [hrl];omega) wj ?_;intro v9 w9 ho9 hg9 hv9;have HN:=sqH (HOP.o w9 v9 ho9 hg9 hv9);have HD9:=sqH ((HD5.o.grownR HX5.o hg9 (fun b e=> .inr (.inl e))).mono (N':=fun b=>b<=g\/v9.ownBlock=aC b) (fun b h=>h.imp id (fun e=>by
    rcases hv9 with e2 | ⟨g2,e2,h2⟩
    ·exact .inl (e2▸e)
    ·rw [e2]at e;cases e;exact .inr h2)))
   have HA9:=sqH (HA5.o.grown hg9 (zf HX5.o HA5.o wo));have HB9:=sqH (HB5.o.grown hg9 wj HBK.o);clear ho9 hg9 hv9
   refine wH ?_;intros
   go_roundg (n - (i+1))
   case measure=>exact wW HGK
   case rel=>exact⟨i+1,p',rfl,by go_num,wj,HB9.o,by rw [HRS2.o];exact HD9.o,by rw [HRS2.o];exact HN.o,HA9.o⟩
abbrev yq:ac:= [97,98,99]
abbrev Qw:OrdP:=⟨1,0, [],yq, []⟩
abbrev Qx:OrdP:=⟨2,0,shaS yq, [], []⟩
abbrev Qy:OrdP:=⟨12,3,keyS 0, [], []⟩
theorem Km:putB [] yq= [⟨shaS yq,yq,0,false⟩]:=by
 unfold putB srt;exact List.mergeSort_singleton _
theorem UE (aH:Nat) (h3:3<=aH) (h:aH<=4000):Fits ⟨[], [],aH,0⟩ yq :=
 ⟨(LInv.zero h).b.g,wo,.inl (by show(0:Nat)<24;decide),by show usd (putB [] yq)<=aH;rw [Km];simpa [usd] using h3⟩
theorem z1e (aH:Nat) (h3:3<=aH) (h:aH<=4000):qR (lo0 aH) Qw=(⟨⟨[⟨shaS yq,yq,0,false⟩], [],aH,0⟩,⟨0, [], []⟩, []⟩,⟨0,shaS yq, [], [],0, []⟩):=by
 have hf:pbP ⟨[], [],aH,0⟩ ⟨0, [], []⟩ yq=(⟨[⟨shaS yq,yq,0,false⟩], [],aH,0⟩,⟨0, [], []⟩,shaS yq,0):=by
  unfold pbP;rw [if_pos (UE aH h3 h),z16 rfl];unfold zH;rw [Km]
 unfold qR;rw [if_pos wo];unfold blobD;rw [if_pos rfl];show(zK (lo0 aH) (pbP ⟨[], [],aH,0⟩ ⟨0, [], []⟩ yq).1 _ _,_)=_;show(zK (lo0 aH) (pbP ⟨[], [],aH,0⟩ ⟨0, [], []⟩ yq).1 (pbP ⟨[], [],aH,0⟩ ⟨0, [], []⟩ yq).2.1 (pbP ⟨[], [],aH,0⟩ ⟨0, [], []⟩ yq).2.2.2,(⟨(pbP ⟨[], [],aH,0⟩ ⟨0, [], []⟩ yq).2.2.2,(pbP ⟨[], [],aH,0⟩ ⟨0, [], []⟩ yq).2.2.1, [], [],0, []⟩:RepP))=_;rw [hf];rfl
abbrev stA (aH:Nat):StoP:=⟨[⟨shaS yq,yq,0,false⟩], [],aH,0⟩
theorem UD (aH:Nat):atB (stA aH) (shaS yq)=aC (0,⟨shaS yq,yq,0,false⟩):=by
 unfold atB;simp [List.findIdx?_cons]
theorem z12 (aH:Nat):qR ⟨stA aH,⟨0, [], []⟩, []⟩ Qx=(⟨stA aH,⟨0, [], []⟩, []⟩,⟨0, [],yq, [],0, []⟩):=by
 unfold qR;rw [if_pos wo];unfold blobD;rw [if_neg wo,if_pos rfl];show(_,(⟨(gbP (stA aH) (shaS yq)).2, [],(gbP (stA aH) (shaS yq)).1, [],0, []⟩:RepP))=_;unfold gbP;rw [UD]
theorem z0e (aH:Nat):qR ⟨stA aH,⟨0, [], []⟩, []⟩ Qy=(⟨stA aH,⟨0, [], []⟩, [⟨keyS 0,3, []⟩]⟩,⟨0, [], [], [],1, []⟩):=by
 unfold qR;rw [if_neg wo,if_neg wo,if_neg wo];unfold fliD;rw [if_pos rfl];rfl
theorem Vn:qP (lo0 100) [Qw,Qx,Qy]=(⟨stA 100,⟨0, [], []⟩, [⟨keyS 0,3, []⟩]⟩, [⟨0,shaS yq, [], [],0, []⟩,⟨0, [],yq, [],0, []⟩,⟨0, [], [], [],1, []⟩]):=by
 unfold qP;rw [z1e 100 wo wo];dsimp only;unfold qP;rw [z12];dsimp only;unfold qP;rw [z0e];rfl
theorem Y5:∀o∈ [Qw,Qx,Qy],GoodD o:=by
 intro o ho;simp only [List.mem_cons,List.not_mem_nil,or_false]at ho;rcases ho with rfl | rfl | rfl
 ·exact qE (k:=1) (f:=⟨false,false,true,false⟩) rfl (fun _=>rfl) (fun _=>rfl) (fun h=>by cases h) (fun _=>rfl) wj (fun h=>by cases h) wo rfl
 ·exact qE (k:=2) (f:=⟨false,true,false,false⟩) rfl (fun _=>rfl) (fun h=>by cases h) (fun _=>rfl) (fun _=>rfl) wj (fun _=>zA _) wo rfl
 ·exact qE (k:=12) (f:=⟨true,true,false,false⟩) rfl (fun h=>by cases h) (fun h=>by cases h) (fun _=>rfl) (fun _=>rfl) wj (fun _=>zA _) wo rfl (h5:=fun _=>⟨0,wo,rfl⟩)
theorem Xa (w:World):kW (w.alloc (aA #[ax .u8 97,ax .u8 98,ax .u8 99] 5 (3,4))) w.heap.size (aC ⟨w.heap.size,0,aB⟩) 3 yq:=⟨w.heap.size, [],(3,4),rfl,Nat.le_refl _,World.alloc_heap_new w _,rfl,by simp [maxLen],.inr ab⟩
theorem Rw.of_cells {α:Type} {S:Shp α} {e:TypeId} {l:List α} (ps:Cel α) (h1:ps.map (·.1)=l) (h2:qH S w ps) (hA:Arr w g e (cls ps)) (hl:l.length=n):Rw S w (aC ⟨g,0,aB⟩) l :=
 ⟨ps,h1,h2,Rd.of_arr hA (by rw [<-h1,List.length_map];exact ue ps h2.lens) (by rw [List.take_of_length_le];rw [<-h1,List.length_map,ue ps h2.lens];exact Nat.le_refl _)⟩
theorem xh (w:World):Calls zZZ 15 #[] w fun e w'=>e= .returned (.bool true)/\Below w.heap.size w w':=by
 obtain⟨w1,hw1⟩:=wU (w.alloc (aA #[ax .u8 97,ax .u8 98,ax .u8 99] 5 (3,4)))
 obtain⟨w2,hw2⟩:=wU (w1.alloc (aA #[ax .u8 97,ax .u8 98,ax .u8 99] 5 (3,4)))
 have hs1:w1.heap.size=w.heap.size+1:=by rw [hw1];exact World.size_alloc _ _
 have z1:kW w1 w.heap.size (aC ⟨w.heap.size,0,aB⟩) 3 yq:=by rw [hw1];exact Xa w
 have z2:kW w2 w1.heap.size (aC ⟨w.heap.size+1,0,aB⟩) 3 yq:=by rw [hw2,<-hs1];exact Xa w1
 have hb1:Below w.heap.size w w1:=by rw [hw1];exact(Below.refl _ _).alloc ab _
 have hb2:Below w1.heap.size w1 w2:=by rw [hw2];exact(Below.refl _ _).alloc ab _
 obtain⟨HD,HK,HS1,HB1,HB2,HW1,HW2⟩:=sqJ7 (yt (aC ⟨w.heap.size+1,0,aB⟩) 3 3 yq w2 rfl ab wo z2.sl.1.rd) (fun W=>Jm 0 W wo wo) z1.sl.1 hb1 hb2 hw1 hw2;have hkc:=fun (w:World) (C:Array Value) (n c:Nat)=>Lib.run_convert_bytes_const (P:=zZZ) w 44 5 C n c underlying44 underlying5;have hkc2:=hkc (w.alloc (aA #[ax .u8 97,ax .u8 98,ax .u8 99] 5 (3,4))) #[ax .u8 97,ax .u8 98,ax .u8 99] 3 3;rw [World.size_alloc]at hkc2;clear z1 z2 hb1 hb2 hw1 hw2 hs1;go_enter func15,ntmps15
 refine wH ?_;intros
 clear hkc hkc2;rw [<-HW1.o,<-HW2.o];refine wV HD.o fun w3 hb3=>?_;dsimp only
 refine wH ?_;intros
 refine wV ((HK.o w3)) fun w4 hb4=>?_;dsimp only;have HB3:=sqH hb3;have HB4:=sqH hb4;rw [show keyS (pk 0 7)=keyS 0 from rfl];clear hb3 hb4 HD HK;obtain⟨w5,hw5⟩:=wU (w4.alloc (aA #[ax ay 1,ax ay 0,az ⟨#[]⟩,aw (aC ⟨w.heap.size,0,aB⟩) 3 3,aw aB 0 0,ax ay 2,ax ay 0,az ⟨(shaS yq).toArray⟩,aw aB 0 0,aw aB 0 0,ax ay 12,ax ay 3,az ⟨(keyS 0).toArray⟩,aw aB 0 0,aw aB 0 0] 55))
 have hA5:Arr w5 w4.heap.size 55 [ax ay 1,ax ay 0,az ⟨#[]⟩,aw (aC ⟨w.heap.size,0,aB⟩) 3 3,aw aB 0 0,ax ay 2,ax ay 0,az ⟨(shaS yq).toArray⟩,aw aB 0 0,aw aB 0 0,ax ay 12,ax ay 3,az ⟨(keyS 0).toArray⟩,aw aB 0 0,aw aB 0 0]:=by rw [hw5];exact Arr.new w4 55 _
 have hb5:Below w4.heap.size w4 w5:=by rw [hw5];exact(Below.refl _ _).alloc ab _
 have hb13:=wg HB2.o HB3.o;have hb14:=wg hb13 HB4.o;have hb15:=wg hb14 hb5;have hb05:=wg HB1.o hb15;have hS5:=HS1.o.below hb15;have hrw:Rw OrdS w5 (aC ⟨w4.heap.size,0,aB⟩) [Qw,Qx,Qy]:=Rw.of_cells (n:=3) [(Qw,yX Qw (aC ⟨w.heap.size,0,aB⟩) 3 aB 0),(Qx,yX Qx aB 0 aB 0),(Qy,yX Qy aB 0 aB 0)] rfl (fun p hp=>by
  simp only [List.mem_cons,List.not_mem_nil,or_false]at hp;rcases hp with rfl | rfl | rfl
  ·exact⟨_,_,_,_,rfl,hS5,Sl.nil_ _ _⟩
  ·exact⟨_,_,_,_,rfl,Sl.nil_ _ _,Sl.nil_ _ _⟩
  ·exact⟨_,_,_,_,rfl,Sl.nil_ _ _,Sl.nil_ _ _⟩) hA5 rfl
 have hru:=Jl 100 (aC ⟨w4.heap.size,0,aB⟩) 3 3 [Qw,Qx,Qy] w5 wo rfl wo ab wo Y5 hrw;rw [Vn]at hru;dsimp only at hru;obtain⟨HRU,HW5,HB05⟩:=sqJ3 hru hw5 hb05;clear hw5 hA5 hb5 hb13 hb14 hb15 hb05 hS5 hrw hru HS1 HB1 HB2 HB3 HB4 HW1 HW2
 refine wH ?_;intros
 rw [<-HW5.o];refine HRU.o.mono ?_;rintro e_ w6 ⟨vr,v1,v2,v3,v4,rfl,hrx,hol,hb6⟩;dsimp only;obtain⟨Ar,cr,rfl,hcr,hcm,hRr⟩:=hrx.rwo.rows;obtain⟨⟨X,cX,Y,dY,G,ng,F,cF⟩,rfl,rfl,rfl,rfl, -⟩:=hol.rd;obtain⟨b1,o1,B1,c1,B1',c1',C1,d1,hAr,hbw, -, -,e2, -, -, -,hs1, -, -⟩:=hRr.rep_at 1 wo;obtain⟨b2,o2,B2,c2,B2',c2',C2,d2,hAr2, -, -, -, -, -,e4, -, -, -, -⟩:=hRr.rep_at 2 wo;subst hAr;cases hAr2
 have HB6:=sqH (wg HB05.o hb6);simp only [List.getElem_cons_succ,List.getElem_cons_zero]at e2 e4 hs1;clear hrx hol hb6 hRr hcr hcm HRU HB05 HW5;have hcv:(convert 44 9 (aw B1 3 c1)).run zZZ (w6.alloc (aA #[aw X 1 cX,aw Y 0 dY,ax ay 100,ax ay 0,ax ay 0,aw G 0 ng,az ⟨#[]⟩,aw F 1 cF] 33))= .ok (az ⟨#[97,98,99]⟩) (w6.alloc (aA #[aw X 1 cX,aw Y 0 dY,ax ay 100,ax ay 0,ax ay 0,aw G 0 ng,az ⟨#[]⟩,aw F 1 cF] 33)) :=
  yB underlying44 underlying5 underlying9 rfl (hs1.below (wi w6 (aA #[aw X 1 cX,aw Y 0 dY,ax ay 100,ax ay 0,ax ay 0,aw G 0 ng,az ⟨#[]⟩,aw F 1 cF] 33))).rd
 refine wH ?_;intros
 go_ret;exact⟨rfl,HB6.o.alloc HB6.o.size _⟩
end Go.Proofs.YtcjndgldjhmbgaaGreat
