/- Lemmas, as stated. -/
import Derived.Test.YtcjmjaefcjcomaaGreatQB19
import Derived.Test.YtcjmjaefcjcomaaGreatQB20
set_option linter.unusedVariables false
set_option linter.unusedSimpArgs false
set_option maxRecDepth 100000
set_option maxHeartbeats 8000000
open Go.Proofs.Tryz
open Go.Proofs.Tryz renaming prog->zZZ
open Go.Value renaming slice->aA,int->aB,string->aD
open Go.IntKind renaming i64->aC
open Option renaming none->aF
open And renaming intro->aH
namespace Go.Proofs.YtcjmjaefcjcomaaGreat
open Go.RowKit Go.Maps
variable {up:Bool} {c:ColP} {g:List ai} {l:LoP} {base i m more n:Nat} {o:OrdP} {s t:StoP} {w:World} {k:ai}
theorem YK (A:aj) (c:Nat) (fs:List FlP) (key:ai) (w:World) (hG:GoodF fs) (hf:Fls w A fs) (hc:fs.length<=c) (hm:c<=maxLen) :
  Calls zZZ 103 #[aA A fs.length c,aD ⟨key.toArray⟩] w fun e w'=>∃v u,e= .returned (.tuple #[v,u,aB aC ((xo fs key).2.2:Int)])/\FlsO w' w.heap.size v (xo fs key).1/\w'.ownsRow w.heap.size 3 1 u (xo fs key).2.1.length (ins (xo fs key).2.1)/\Below w.heap.size w w':=by
 have hkk:(⟨key.toArray⟩:ByteArray).data.toList=key:=List.toList_toArray;unfold xo;cases hfn:fnd 0 fs key with
 | none =>
  exact(U2 A c fs ⟨key.toArray⟩ w hG hf hc hm (by rw [hkk];exact hfn)).mono fun e w' ⟨he,hb⟩=>⟨_,_,he,FlsO.nil_ _ _ _ (World.ownsRow_nil _ _ _ _),World.ownsRow_nil _ _ _ _,hb⟩
 | some i =>
  obtain⟨hi,_⟩:=yi hfn;simp only [List.getElem?_eq_getElem hi];exact z34 A c fs ⟨key.toArray⟩ i w hG hf hc hm (by rw [hkk];exact hfn) hi
theorem Qa (p:LoW) (l:LoP) (key:ai) (w:World) (hg:GoodL l) (hr:RdLo w p l) (fs2:List FlP) (who:List Int) (q:Nat) (hj:xo l.fs key=(fs2,who,q)) :
  Calls zZZ 76 #[loV p l,aD ⟨key.toArray⟩] w fun e w'=>∃v1 v2 v3 v4 u,e= .returned (.tuple #[Yk v1 v2 v3 v4 (if q=0 then { l with fs:=fs2 } else loZ),u,aB aC q])/\OwLo w' w.heap.size v1 v2 v3 v4 (if q=0 then { l with fs:=fs2 } else loZ) (fun b=>b<w.heap.size)/\w'.ownsRow w.heap.size 3 1 u (if q=0 then who else []).length (ins (if q=0 then who else []))/\Below w.heap.size w w':=by
 obtain⟨X,cX,Y,dY,G,ng,F,cF⟩:=p;obtain⟨s,co,fs⟩:=l;have hgs:GoodS s:=hg.s;have hlb:s.aI.length<=24:=hgs.b.len;have hle:s.aJ.length<=10:=hgs.e.len;have hlf:fs.length<=6:=hg.f.len;have hcm:cF<=maxLen:=hr.fm;obtain⟨w1,hw1,hP,hR,hbx⟩:=zI w 44 44 [aA X s.aI.length cX,aA Y s.aJ.length dY,aB aC s.aL,aB aC s.aK,aB aC co.aN,aA G co.aM.length ng,aD ⟨co.at_.toArray⟩,aA F fs.length cF] [aA aF 0 0,aA aF 0 0,aB aC 0,aB aC 0,aB aC 0,aA aF 0 0,aD ⟨#[]⟩,aA aF 0 0];have hr1:=hr.below hbx;have HCK:=sqH (uQ ⟨X,cX,Y,dY,G,ng,F,cF⟩ ⟨s,co,fs⟩ w1 hg hr1);have HRD:=sqH (fun W (h:Below w1.heap.size w1 W)=>hr1.below h);obtain⟨gb,hgb⟩:=wY w.heap.size
 rw [<-hgb]at hP hR hbx ⊢
 have HPX:=sqH (show ∀W,Below w1.heap.size w1 W->Arr W gb 44 [aA X s.aI.length cX,aA Y s.aJ.length dY,aB aC s.aL,aB aC s.aK,aB aC co.aN,aA G co.aM.length ng,aD ⟨co.at_.toArray⟩,aA F fs.length cF]/\Arr W (gb+1) 44 [aA aF 0 0,aA aF 0 0,aB aC 0,aB aC 0,aB aC 0,aA aF 0 0,aD ⟨#[]⟩,aA aF 0 0] from fun W h=>⟨hP.below h,hR.below h⟩);have hg1:gb+1<w1.heap.size:=hR.lt;obtain⟨HG,HGS,HBX,HW1,HGB⟩:=sqJ5 hg hgs hbx hw1 hgb;clear hg hgs hr hr1 hP hR hbx hw1 hgb;go_enter func76,ntmps76
 refine wL ?_;intros;rw [<-HW1.o,<-HGB.o];clear HW1;refine wZ HCK.o fun w2 hb2=>?_;dsimp only;clear HCK;have HB2:=sqH hb2;have hen:=YK F cF fs key w2 HG.o.f (HRD.o w2 hb2).f (HRD.o w2 hb2).fc (HRD.o w2 hb2).fm;dsimp only at hj;simp only [hj]at hen;have HEN:=sqH hen;clear hen hj;obtain⟨x0,x1,x2,x3,x4,x5,x6,x7⟩:=sqC8 ((HPX.o _ hb2).1)
 refine wL ?_;intros;clear x0 x1 x2 x3 x4 x5 x6 x7;refine HEN.o.mono ?_;rintro e_ wE ⟨v5,u5,rfl,hf6,hu6,hb6⟩;dsimp only;obtain⟨F6,c6,rfl,_,_⟩:=hf6.fls;obtain⟨U6,d6,rfl,_,_⟩:=Rd.of_own' hu6;have hbE:=wm hb2 hb6;have hsE:w2.heap.size<=wE.heap.size:=hb6.size;have hs2:w1.heap.size<=w2.heap.size:=hb2.size;by_cases hq:q=0
 rotate_left
 ·have hq1:((q:Int) != 0)=true:=by rw [bne_iff_ne];omega
  have HQ:=sqH hq;clear hq;have hR:=(HPX.o _ hbE).2;obtain⟨y0,y1,y2,y3,y4,y5,y6,y7⟩:=sqC8 hR;obtain⟨f0,f1,f2,f3,f4,f5,f6,f7⟩:=sqF8 hR;have HFN:=sqH (hR.all8 (aA aF 0 0) (aA aF 0 0) (aB aC 0) (aB aC 0) (aB aC 0) (aA aF 0 0) (aD ⟨#[]⟩) (aA aF 0 0));have HB9:=sqH (zP (HBX.o.trans (Below.mono hbE wu)) (show gb<=gb+1 by omega) (aA aF 0 0) (aA aF 0 0) (aB aC 0) (aB aC 0) (aB aC 0) (aA aF 0 0) (aD ⟨#[]⟩) (aA aF 0 0));clear hR
  refine wL ?_;intros;refine bodyPost_ret (zz rfl _ _ (gb+1) _ _ _ _ ac HFN.o underlying44 rfl ww) rfl ?_;rw [if_neg HQ.o,if_neg HQ.o];exact⟨_,_,_,_,_,rfl,OwLo.nil_,World.ownsRow_nil _ _ _ _,HB9.o⟩
 subst hq;obtain⟨HBE,HF6,HU6⟩:=sqJ3 hbE hf6 hu6;clear hf6 hu6 hb6 HEN;have HCP:=sqH (vQ ⟨X,cX,Y,dY,G,ng,F,cF⟩ ⟨s,co,fs⟩ wE HG.o (HRD.o wE HBE.o));obtain⟨x0,x1,x2,x3,x4,x5,x6,x7⟩:=sqC8 ((HPX.o _ HBE.o).1)
 refine wL ?_;intros;refine HCP.o.mono ?_;rintro e_ w3 ⟨v1,v2,v3,v4,rfl,ho3,hb3⟩;dsimp only;obtain⟨⟨X3,cX3,Y3,dY3,G3,ng3,F3,cF3⟩,rfl,rfl,rfl,rfl,hrd3⟩:=ho3.rd;clear x0 x1 x2 x3 x4 x5 x6 x7 HCP;obtain⟨w4,hw4⟩:=wY (w3.alloc (.cells #[aA X3 s.aI.length cX3,aA Y3 s.aJ.length dY3,aB aC s.aL,aB aC s.aK,aB aC co.aN,aA G3 co.aM.length ng3,aD ⟨co.at_.toArray⟩,aA F3 fs.length cF3] 44))
 have hO4:Arr w4 w3.heap.size 44 [aA X3 s.aI.length cX3,aA Y3 s.aJ.length dY3,aB aC s.aL,aB aC s.aK,aB aC co.aN,aA G3 co.aM.length ng3,aD ⟨co.at_.toArray⟩,aA F3 fs.length cF3]:=by rw [hw4];exact Arr.new w3 44 _
 have hb34:Below w3.heap.size w3 w4:=by rw [hw4];exact(Below.refl _ _).alloc ag _
 have hb13:=wm HBE.o hb3;have hb14:=wm hb13 hb34;obtain⟨go,hgo⟩:=wY w3.heap.size
 rw [<-hgo]at hO4;have hgl:w1.heap.size<=go:=by rw [hgo];exact hb13.size
 have hgl4:go<w4.heap.size:=hO4.lt;have ho4:=((ho3.wider (N':=fun b=>b<w1.heap.size\/b=go) (fun b hb=>hb.elim (fun h=> .inl (Nat.lt_of_lt_of_le h HBE.o.size)) (fun h=> .inr (by rw [h,hgo];exact Nat.le_refl _)))).below hb34).lower (b':=w1.heap.size) HBE.o.size;obtain⟨HO4,HOB,HB14,HBO,HW4,HGO⟩:=sqJ6 ho4 hO4 hb14 (wm hb3 hb34) hw4 hgo;clear ho3 hb3 hrd3 hO4 hb34 hb13 hb14 ho4 hw4 hgo
 refine wN 8 ?_;intros;rw [<-HW4.o,<-HGO.o];clear HW4;have hO4:=HOB.o;have hR4:=(HPX.o _ HB14.o).2;have hbg:gb+1≠go:=wu;have hgo1:gb<=go:=wu;obtain⟨o0,o1,o2,o3,o4,o5,o6,o7⟩:=sqC8 hO4;obtain⟨m0,m1,m2,m3,m4,m5,m6,m7⟩:=sqF8 hO4;have hfe:=HF6.o.below HBO.o;have hue:=zc HU6.o HBO.o;obtain⟨HO7,HR7,HL7,HF7,HU7,HB7⟩:=sqJ6 (hO4.set (k:=7) ab (aA F6 fs2.length c6)) (hR4.other hbg (k:=7) (aA F6 fs2.length c6)) (HO4.o.set1 (k:=7) hO4 (.inr rfl) (aA F6 fs2.length c6)) (hfe.set1 (k:=7) hO4 aa aa (aA F6 fs2.length c6)) (zd hue (zf hue hO4 aa) (k:=7) (u:= aA F6 fs2.length c6)) (Below.setCell (p:=⟨go,7,aF⟩) (HBX.o.trans (HB14.o.mono wu)) hgo1 (aA F6 fs2.length c6));clear hO4 hR4 hfe hue
 refine wN 9 ?_;intros;clear o0 o1 o2 o3 o4 o5 o6 o7 m0 m1 m2 m3 m4 m5 m6 m7;generalize w4.setCell ⟨go,7,aF⟩ (aA F6 fs2.length c6)=w8 at *
 have hO:=HO7.o;have hR:=HR7.o;obtain⟨o0,o1,o2,o3,o4,o5,o6,o7⟩:=sqC8 hO;obtain⟨m0,m1,m2,m3,m4,m5,m6,m7⟩:=sqF8 hO;obtain⟨y0,y1,y2,y3,y4,y5,y6,y7⟩:=sqC8 hR;obtain⟨f0,f1,f2,f3,f4,f5,f6,f7⟩:=sqF8 hR;obtain⟨HFN,HL9,HF9,HU9,HB9⟩:=sqJ5 (hR.all8 (aA X3 s.aI.length cX3) (aA Y3 s.aJ.length dY3) (aB aC s.aL) (aB aC s.aK) (aB aC co.aN) (aA G3 co.aM.length ng3) (aD ⟨co.at_.toArray⟩) (aA F6 fs2.length c6)) (HL7.o.set8 hR (.inl wu) (aA X3 s.aI.length cX3) (aA Y3 s.aJ.length dY3) (aB aC s.aL) (aB aC s.aK) (aB aC co.aN) (aA G3 co.aM.length ng3) (aD ⟨co.at_.toArray⟩) (aA F6 fs2.length c6)) (HF7.o.set8 hR aa aa (aA X3 s.aI.length cX3) (aA Y3 s.aJ.length dY3) (aB aC s.aL) (aB aC s.aK) (aB aC co.aN) (aA G3 co.aM.length ng3) (aD ⟨co.at_.toArray⟩) (aA F6 fs2.length c6)) (q5 HU7.o (zf HU7.o hR aa) (aA X3 s.aI.length cX3) (aA Y3 s.aJ.length dY3) (aB aC s.aL) (aB aC s.aK) (aB aC co.aN) (aA G3 co.aM.length ng3) (aD ⟨co.at_.toArray⟩) (aA F6 fs2.length c6)) (zP HB7.o (show gb<=gb+1 by omega) (aA X3 s.aI.length cX3) (aA Y3 s.aJ.length dY3) (aB aC s.aL) (aB aC s.aK) (aB aC co.aN) (aA G3 co.aM.length ng3) (aD ⟨co.at_.toArray⟩) (aA F6 fs2.length c6));clear hO hR
 refine wL ?_;intros;have hb5:gb<=w2.heap.size:=wu;have hb1:gb<=w1.heap.size:=wu;refine bodyPost_ret (zz rfl _ _ (gb+1) _ _ _ _ ac HFN.o underlying44 rfl ww) rfl ?_;rw [if_pos rfl,if_pos rfl];exact⟨_,_,_,_,_,rfl,⟨(HL9.o.s.lower hb1).mono (fun b hb=> .inl wu),zb HL9.o.c hb1,HF9.o.lower hb5⟩,zb HU9.o hb5,HB9.o⟩
theorem QT (A:aj) (c:Nat) (B:aj) (d:Nat) (s:StoP) (Ag:aj) (ng:Nat) (cp:ColP) (key:ai) (ps:List PartP) (PA:aj) (pc:Nat) (w:World) (hg:GoodS s) (hr:RdSt w A c B d s) (hgl:cp.aM.length<=1000) (hgc:GoodC s cp) (hc:RdC w Ag ng cp) (hk:hexC key=0) (hpz:chk ps=0) (hclk:s.aK<1099511627776) (hlen:s.aJ.length<10) (hP:Sl w 3 PA ps.length pc (pcs ps)) :
  Calls zZZ 90 #[.agg #[aA A s.aI.length c,aA B s.aJ.length d,aB aC s.aL,aB aC s.aK],coV (aA Ag cp.aM.length ng) cp,aD ⟨key.toArray⟩,aA PA ps.length pc] w fun e w' =>
   ∃v1 v2 v3,e= .returned (.tuple #[stV v1 v2 (qN s cp key ps).1,coV v3 (qN s cp key ps).2.1,aB aC ((qN s cp key ps).2.2:Int)])/\OwSt w' w.heap.size v1 v2 (qN s cp key ps).1 (fun b=>b<w.heap.size)/\w'.ownsRow w.heap.size 9 1 v3 (qN s cp key ps).2.1.aM.length (strs (qN s cp key ps).2.1.aM)/\Below w.heap.size w w':=by
 unfold qN;by_cases hh:qK s.aI ps=0
 ·rw [if_pos hh];refine(z01 A c B d s Ag ng cp key ps PA pc w hg hr hgl hgc hc hk hpz hh hclk hlen hP _ rfl (ja hg hk hpz (yF hh) hclk hlen)).mono ?_;rintro e w' ⟨v1,v2,v3,he,ho,hl,hb⟩;obtain⟨r1,r2⟩:=jT (xF s key ps) cp (ps.map (·.dig));refine⟨v1,v2,v3,?_,ho,hl,hb⟩;rw [he];simp only [stV];rw [r1,r2];rfl
 ·rw [if_neg hh];refine(z00 A c B d s Ag ng cp key ps.length pc PA (qK s.aI ps:Int) w hg hr hgl hgc hc wu (fun W h=>Qm A c B d s key ps PA pc _ W hg (hr.below h) hk hpz rfl hh (hP.below h))).mono ?_;rintro e w' ⟨he,hb⟩;exact⟨aA aF 0 0,aA aF 0 0,aA aF 0 0,he,⟨RwX.nil_ (World.ownsRow_nil _ _ _ _),RwX.nil_ (World.ownsRow_nil _ _ _ _),fun g h=>by cases h⟩,World.ownsRow_nil _ _ _ _,hb⟩
theorem YM (p:LoW) (l:LoP) (key:ai) (ps:List PartP) (PA:aj) (pc:Nat) (w:World) (hg:GoodL l) (hr:RdLo w p l) (hk:hexC key=0) (hpz:chk ps=0) (hclk:l.st.aK<1099511627776) (hlen:l.st.aJ.length<10) (hP:Sl w 3 PA ps.length pc (pcs ps)) (fs2:List FlP) (who:List Int) (q:Nat) (hj:xo l.fs key=(fs2,who,q)) (t:StoP) (c2:ColP) (z:Nat) (hbj:qN l.st l.co key ps=(t,c2,z)) (b:Bool) (hb:b=decide (q=0/\z=0)) :
  Calls zZZ 75 #[loV p l,aD ⟨key.toArray⟩,aA PA ps.length pc] w fun e w'=>∃v1 v2 v3 v4 u,e= .returned (.tuple #[Yk v1 v2 v3 v4 (if b then ⟨t,c2,fs2⟩ else loZ),u,aB aC ((if q=0 then z else q:Nat):Int)])/\OwLo w' w.heap.size v1 v2 v3 v4 (if b then ⟨t,c2,fs2⟩ else loZ) (fun b=>b<w.heap.size)/\w'.ownsRow w.heap.size 3 1 u (if b then who else []).length (ins (if b then who else []))/\Below w.heap.size w w':=by
 obtain⟨HPS0,HKX,HBD⟩:=sqJ3 (fun W (h:Below w.heap.size w W)=>hP.below h) (aH hk (aH hpz (aH hclk hlen))) hb;clear hP hk hpz hclk hlen hb;obtain⟨X,cX,Y,dY,G,ng,F,cF⟩:=p;obtain⟨s,co,fs⟩:=l;have hgs:GoodS s:=hg.s;have hlb:s.aI.length<=24:=hgs.b.len;have hle:s.aJ.length<=10:=hgs.e.len;have hlf:fs.length<=6:=hg.f.len;have hcm:cF<=maxLen:=hr.fm;obtain⟨w1,hw1,hP,hR,hbx⟩:=zI w 44 44 [aA X s.aI.length cX,aA Y s.aJ.length dY,aB aC s.aL,aB aC s.aK,aB aC co.aN,aA G co.aM.length ng,aD ⟨co.at_.toArray⟩,aA F fs.length cF] [aA aF 0 0,aA aF 0 0,aB aC 0,aB aC 0,aB aC 0,aA aF 0 0,aD ⟨#[]⟩,aA aF 0 0];have hr1:=hr.below hbx;have HCK:=sqH (uQ ⟨X,cX,Y,dY,G,ng,F,cF⟩ ⟨s,co,fs⟩ w1 hg hr1);have HRD:=sqH (fun W (h:Below w1.heap.size w1 W)=>hr1.below h);obtain⟨gb,hgb⟩:=wY w.heap.size
 rw [<-hgb]at hP hR hbx ⊢
 have HPX:=sqH (show ∀W,Below w1.heap.size w1 W->Arr W gb 44 [aA X s.aI.length cX,aA Y s.aJ.length dY,aB aC s.aL,aB aC s.aK,aB aC co.aN,aA G co.aM.length ng,aD ⟨co.at_.toArray⟩,aA F fs.length cF]/\Arr W (gb+1) 44 [aA aF 0 0,aA aF 0 0,aB aC 0,aB aC 0,aB aC 0,aA aF 0 0,aD ⟨#[]⟩,aA aF 0 0] from fun W h=>⟨hP.below h,hR.below h⟩);have hg1:gb+1<w1.heap.size:=hR.lt;obtain⟨HG,HGS,HBX,HW1,HGB⟩:=sqJ5 hg hgs hbx hw1 hgb;clear hg hgs hr hr1 hP hR hbx hw1 hgb;go_enter func75,ntmps75
 refine wL ?_;intros;rw [<-HW1.o,<-HGB.o];clear HW1;refine wZ HCK.o fun w2 hb2=>?_;dsimp only;clear HCK;obtain⟨HB2,HPS,HBJ⟩:=sqJ3 hb2 (fun W (h:Below gb w W)=>HPS0.o W (by rw [<-HGB.o];exact h)) hbj;have hen:=YK F cF fs key w2 HG.o.f (HRD.o w2 hb2).f (HRD.o w2 hb2).fc (HRD.o w2 hb2).fm;dsimp only at hj;simp only [hj]at hen;have HEN:=sqH hen;clear hen hj hbj HPS0;obtain⟨x0,x1,x2,x3,x4,x5,x6,x7⟩:=sqC8 ((HPX.o _ hb2).1)
 refine wL ?_;intros;clear x0 x1 x2 x3 x4 x5 x6 x7;refine HEN.o.mono ?_;rintro e_ wE ⟨v5,u5,rfl,hf6,hu6,hb6⟩;dsimp only;obtain⟨F6,c6,rfl,_,_⟩:=hf6.fls;obtain⟨U6,d6,rfl,_,_⟩:=Rd.of_own' hu6;have hbE:=wm hb2 hb6;have hsE:w2.heap.size<=wE.heap.size:=hb6.size;have hs2:w1.heap.size<=w2.heap.size:=hb2.size;by_cases hq:q=0
 rotate_left
 ·have hq1:((q:Int) != 0)=true:=by rw [bne_iff_ne];omega
  have HQ:=sqH hq;clear hq;have hR:=(HPX.o _ hbE).2;obtain⟨y0,y1,y2,y3,y4,y5,y6,y7⟩:=sqC8 hR;obtain⟨f0,f1,f2,f3,f4,f5,f6,f7⟩:=sqF8 hR;have HFN:=sqH (hR.all8 (aA aF 0 0) (aA aF 0 0) (aB aC 0) (aB aC 0) (aB aC 0) (aA aF 0 0) (aD ⟨#[]⟩) (aA aF 0 0));have HB9:=sqH (zP (HBX.o.trans (Below.mono hbE wu)) (show gb<=gb+1 by omega) (aA aF 0 0) (aA aF 0 0) (aB aC 0) (aB aC 0) (aB aC 0) (aA aF 0 0) (aD ⟨#[]⟩) (aA aF 0 0));clear hR
  refine wL ?_;intros;refine bodyPost_ret (zz rfl _ _ (gb+1) _ _ _ _ ac HFN.o underlying44 rfl ww) rfl ?_;have hbb:b=false:=by rw [HBD.o];exact decide_eq_false (fun h=>HQ.o h.1)
  rw [hbb,if_neg HQ.o];exact⟨_,_,_,_,_,rfl,OwLo.nil_,World.ownsRow_nil _ _ _ _,HB9.o⟩
 subst hq;obtain⟨HBE,HF6,HU6⟩:=sqJ3 hbE hf6 hu6;have hbw:=HBX.o.trans (hbE.mono (show gb<=w1.heap.size by omega));clear hf6 hu6 hb6 HEN;have hbp:=QT X cX Y dY s G ng co key ps PA pc wE HGS.o (HRD.o _ hbE).s HG.o.g HG.o.c (HRD.o _ hbE).c HKX.o.1 HKX.o.2.1 HKX.o.2.2.1 HKX.o.2.2.2 (HPS.o _ hbw);simp only [HBJ.o]at hbp;have HBP:=sqH hbp;clear hbp;obtain⟨x0,x1,x2,x3,x4,x5,x6,x7⟩:=sqC8 ((HPX.o _ hbE).1)
 refine wL ?_;intros;clear x0 x1 x2 x3 x4 x5 x6 x7;refine HBP.o.mono ?_;rintro e_ w7 ⟨v7,u7,t7,rfl,ho7,hl7,hb7⟩;dsimp only;obtain⟨X7,cX7,Y7,dY7,rfl,rfl,hr7⟩:=ho7.rows;obtain⟨G7,ng7,rfl,hc7⟩:=RdC.of_own (c:=c2) hl7;obtain⟨w9,hw9,hS9,hC9,hb79⟩:=zI w7 38 41 [aA X7 t.aI.length cX7,aA Y7 t.aJ.length dY7,aB aC t.aL,aB aC t.aK] [aB aC c2.aN,aA G7 c2.aM.length ng7,aD ⟨c2.at_.toArray⟩];have hbq:=wm hb7 hb79;have hb19:=(hbE).trans (hbq.mono (hbE).size);have HW9:=sqH hw9;obtain⟨gs,hgs⟩:=wY w7.heap.size
 have HGQ:=sqH hgs;rw [<-hgs]at hS9 hC9;obtain⟨HSC,HO9,HL9,HBQ,HB19⟩:=sqJ5 (show ∀W,Below w9.heap.size w9 W->Arr W gs 38 [aA X7 t.aI.length cX7,aA Y7 t.aJ.length dY7,aB aC t.aL,aB aC t.aK]/\Arr W (gs+1) 41 [aB aC c2.aN,aA G7 c2.aM.length ng7,aD ⟨c2.at_.toArray⟩] from fun W h=>⟨hS9.below h,hC9.below h⟩) (ho7.below hb79) (zc hl7 hb79) hbq hb19;clear hw9 hgs hS9 hC9 ho7 hl7 hr7 hc7 hb7 hb79 hbq hb19 HBP
 refine wN 8 ?_;intros;rw [<-HW9.o,<-HGQ.o];clear HW9;by_cases hz:z=0
 rotate_left
 ·have hz1:((z:Int) != 0)=true:=by rw [bne_iff_ne];omega
  have HZ:=sqH hz;clear hz;have hR:=(HPX.o _ HB19.o).2;obtain⟨y0,y1,y2,y3,y4,y5,y6,y7⟩:=sqC8 hR;obtain⟨f0,f1,f2,f3,f4,f5,f6,f7⟩:=sqF8 hR;have HFN:=sqH (hR.all8 (aA aF 0 0) (aA aF 0 0) (aB aC 0) (aB aC 0) (aB aC 0) (aA aF 0 0) (aD ⟨#[]⟩) (aA aF 0 0));have HB9:=sqH (zP (HBX.o.trans (Below.mono HB19.o wu)) (show gb<=gb+1 by omega) (aA aF 0 0) (aA aF 0 0) (aB aC 0) (aB aC 0) (aB aC 0) (aA aF 0 0) (aD ⟨#[]⟩) (aA aF 0 0));clear hR
  refine wL ?_;intros;refine bodyPost_ret (zz rfl _ _ (gb+1) _ _ _ _ ac HFN.o underlying44 rfl ww) rfl ?_;have hbb:b=false:=by rw [HBD.o];exact decide_eq_false (fun h=>HZ.o h.2)
  rw [hbb,if_pos rfl];exact⟨_,_,_,_,_,rfl,OwLo.nil_,World.ownsRow_nil _ _ _ _,HB9.o⟩
 subst hz;have hsc:=HSC.o _ (Below.refl _ _);obtain⟨s0,s1,s2,s3⟩:=sqC4 hsc.1;obtain⟨t0,t1,t2⟩:=sqC3 hsc.2;have hR:=(HPX.o _ HB19.o).2;obtain⟨y0,y1,y2,y3,y4,y5,y6,y7⟩:=sqC8 hR;obtain⟨f0,f1,f2,f3,f4,f5,f6,f7⟩:=sqF8 hR;have hse:=HBQ.o.size;have hfe:=HF6.o.below HBQ.o;have hue:=zc HU6.o HBQ.o;obtain⟨HFN,HS9,HC9,HF9,HU9,HB9⟩:=sqJ6 (hR.all8 (aA X7 t.aI.length cX7) (aA Y7 t.aJ.length dY7) (aB aC t.aL) (aB aC t.aK) (aB aC c2.aN) (aA G7 c2.aM.length ng7) (aD ⟨c2.at_.toArray⟩) (aA F6 fs2.length c6)) (HO9.o.set8N (show gb+1<wE.heap.size by omega) (HO9.o.nb hR aa aa).1 (HO9.o.nb hR aa aa).2 (aA X7 t.aI.length cX7) (aA Y7 t.aJ.length dY7) (aB aC t.aL) (aB aC t.aK) (aB aC c2.aN) (aA G7 c2.aM.length ng7) (aD ⟨c2.at_.toArray⟩) (aA F6 fs2.length c6)) (q5 HL9.o (zf HL9.o hR aa) (aA X7 t.aI.length cX7) (aA Y7 t.aJ.length dY7) (aB aC t.aL) (aB aC t.aK) (aB aC c2.aN) (aA G7 c2.aM.length ng7) (aD ⟨c2.at_.toArray⟩) (aA F6 fs2.length c6)) (hfe.set8 hR aa aa (aA X7 t.aI.length cX7) (aA Y7 t.aJ.length dY7) (aB aC t.aL) (aB aC t.aK) (aB aC c2.aN) (aA G7 c2.aM.length ng7) (aD ⟨c2.at_.toArray⟩) (aA F6 fs2.length c6)) (q5 hue (zf hue hR aa) (aA X7 t.aI.length cX7) (aA Y7 t.aJ.length dY7) (aB aC t.aL) (aB aC t.aK) (aB aC c2.aN) (aA G7 c2.aM.length ng7) (aD ⟨c2.at_.toArray⟩) (aA F6 fs2.length c6)) (zP (HBX.o.trans (HB19.o.mono wu)) (show gb<=gb+1 by omega) (aA X7 t.aI.length cX7) (aA Y7 t.aJ.length dY7) (aB aC t.aL) (aB aC t.aK) (aB aC c2.aN) (aA G7 c2.aM.length ng7) (aD ⟨c2.at_.toArray⟩) (aA F6 fs2.length c6));clear hR hsc hfe hue
 refine wL ?_;intros;have hb5:gb<=w2.heap.size:=wu;have hbE:gb<=wE.heap.size:=wu;have hbb:b=true:=by rw [HBD.o];exact decide_eq_true ⟨rfl,rfl⟩
 refine bodyPost_ret (zz rfl _ _ (gb+1) _ _ _ _ ac HFN.o underlying44 rfl ww) rfl ?_;rw [hbb,if_pos rfl];exact⟨_,_,_,_,_,rfl,⟨(HS9.o.lower hbE).mono (fun b hb=>wu),zb HC9.o hbE,HF9.o.lower hb5⟩,zb HU9.o hb5,HB9.o⟩
theorem KO (p:LoW) (l:LoP) (key:ai) (PA:aj) (pn pc:Nat) (w:World) (hg:GoodL l) (hr:RdLo w p l) (i:Nat) (hf:fnd 0 l.fs key=some i) :
  Calls zZZ 67 #[loV p l,aD ⟨key.toArray⟩,aA PA pn pc] w fun e w'=>e= .returned (.tuple #[Yk (aA aF 0 0) (aA aF 0 0) (aA aF 0 0) (aA aF 0 0) loZ,aB aC 10])/\Below w.heap.size w w':=by
 have hkk:(⟨key.toArray⟩:ByteArray).data.toList=key:=List.toList_toArray;obtain⟨X,cX,Y,dY,G,ng,F,cF⟩:=p;obtain⟨s,co,fs⟩:=l;have hgs:GoodS s:=hg.s;have hlb:s.aI.length<=24:=hgs.b.len;have hle:s.aJ.length<=10:=hgs.e.len;have hlf:fs.length<=6:=hg.f.len;have hcm:cF<=maxLen:=hr.fm;obtain⟨w1,hw1,hP,hR,hbx⟩:=zI w 44 44 [aA X s.aI.length cX,aA Y s.aJ.length dY,aB aC s.aL,aB aC s.aK,aB aC co.aN,aA G co.aM.length ng,aD ⟨co.at_.toArray⟩,aA F fs.length cF] [aA aF 0 0,aA aF 0 0,aB aC 0,aB aC 0,aB aC 0,aA aF 0 0,aD ⟨#[]⟩,aA aF 0 0];have hr1:=hr.below hbx;have HCK:=sqH (uQ ⟨X,cX,Y,dY,G,ng,F,cF⟩ ⟨s,co,fs⟩ w1 hg hr1);have HRD:=sqH (fun W (h:Below w1.heap.size w1 W)=>hr1.below h);obtain⟨gb,hgb⟩:=wY w.heap.size
 rw [<-hgb]at hP hR hbx ⊢
 have HPX:=sqH (show ∀W,Below w1.heap.size w1 W->Arr W gb 44 [aA X s.aI.length cX,aA Y s.aJ.length dY,aB aC s.aL,aB aC s.aK,aB aC co.aN,aA G co.aM.length ng,aD ⟨co.at_.toArray⟩,aA F fs.length cF]/\Arr W (gb+1) 44 [aA aF 0 0,aA aF 0 0,aB aC 0,aB aC 0,aB aC 0,aA aF 0 0,aD ⟨#[]⟩,aA aF 0 0] from fun W h=>⟨hP.below h,hR.below h⟩);have hg1:gb+1<w1.heap.size:=hR.lt;obtain⟨HG,HGS,HBX,HW1,HGB⟩:=sqJ5 hg hgs hbx hw1 hgb;clear hg hgs hr hr1 hP hR hbx hw1 hgb;go_enter func67,ntmps67
 refine wL ?_;intros;rw [<-HW1.o,<-HGB.o];clear HW1;refine wZ HCK.o fun w2 hb2=>?_;dsimp only;clear HCK;have HB2:=sqH hb2;have hfi:=kP F cF fs ⟨key.toArray⟩ w2 wu (HRD.o w2 hb2).f;rw [hkk]at hfi;dsimp only at hf;rw [hf]at hfi;dsimp only at hfi;have HFI:=sqH hfi;clear hfi hf hkk;obtain⟨x0,x1,x2,x3,x4,x5,x6,x7⟩:=sqC8 ((HPX.o _ hb2).1)
 refine wL ?_;intros;clear x0 x1 x2 x3 x4 x5 x6 x7;refine wZ HFI.o fun wE hb6=>?_;dsimp only;have hbE:=wm hb2 hb6;have hR:=(HPX.o _ hbE).2;obtain⟨y0,y1,y2,y3,y4,y5,y6,y7⟩:=sqC8 hR;obtain⟨f0,f1,f2,f3,f4,f5,f6,f7⟩:=sqF8 hR;have HFN:=sqH (hR.all8 (aA aF 0 0) (aA aF 0 0) (aB aC 0) (aB aC 0) (aB aC 0) (aA aF 0 0) (aD ⟨#[]⟩) (aA aF 0 0));have HB9:=sqH (zP (HBX.o.trans (Below.mono hbE wu)) (show gb<=gb+1 by omega) (aA aF 0 0) (aA aF 0 0) (aB aC 0) (aB aC 0) (aB aC 0) (aA aF 0 0) (aD ⟨#[]⟩) (aA aF 0 0));clear hR
 refine wL ?_;intros;refine bodyPost_ret (zK rfl _ _ (gb+1) _ _ _ _ ac HFN.o underlying44 rfl ww) rfl ?_;exact⟨rfl,HB9.o⟩
theorem U9 (p:LoW) (l:LoP) (key:ai) (ps:List PartP) (PA:aj) (pc:Nat) (w:World) (hg:GoodL l) (hr:RdLo w p l) (hk:hexC key=0) (hpz:chk ps=0) (hclk:l.st.aK<1099511627776) (hlen:l.st.aJ.length<10) (hP:Sl w 3 PA ps.length pc (pcs ps)) (hf:fnd 0 l.fs key=aF) (t:StoP) (c2:ColP) (z:Nat) (hbj:qN l.st l.co key ps=(t,c2,z)) :
  Calls zZZ 67 #[loV p l,aD ⟨key.toArray⟩,aA PA ps.length pc] w fun e w'=>∃v1 v2 v3 v4,e= .returned (.tuple #[Yk v1 v2 v3 v4 (if z=0 then ⟨t,c2,l.fs⟩ else loZ),aB aC z])/\OwLo w' w.heap.size v1 v2 v3 v4 (if z=0 then ⟨t,c2,l.fs⟩ else loZ) (fun b=>b<w.heap.size)/\Below w.heap.size w w':=by
 have hkk:(⟨key.toArray⟩:ByteArray).data.toList=key:=List.toList_toArray;have HPS0:=sqH (fun W (h:Below w.heap.size w W)=>hP.below h);have HKX:=sqH (aH hk (aH hpz (aH hclk hlen)));clear hP hk hpz hclk hlen;obtain⟨X,cX,Y,dY,G,ng,F,cF⟩:=p;obtain⟨s,co,fs⟩:=l;have hgs:GoodS s:=hg.s;have hlb:s.aI.length<=24:=hgs.b.len;have hle:s.aJ.length<=10:=hgs.e.len;have hlf:fs.length<=6:=hg.f.len;have hcm:cF<=maxLen:=hr.fm;obtain⟨w1,hw1,hP,hR,hbx⟩:=zI w 44 44 [aA X s.aI.length cX,aA Y s.aJ.length dY,aB aC s.aL,aB aC s.aK,aB aC co.aN,aA G co.aM.length ng,aD ⟨co.at_.toArray⟩,aA F fs.length cF] [aA aF 0 0,aA aF 0 0,aB aC 0,aB aC 0,aB aC 0,aA aF 0 0,aD ⟨#[]⟩,aA aF 0 0];have hr1:=hr.below hbx;have HCK:=sqH (uQ ⟨X,cX,Y,dY,G,ng,F,cF⟩ ⟨s,co,fs⟩ w1 hg hr1);have HRD:=sqH (fun W (h:Below w1.heap.size w1 W)=>hr1.below h);obtain⟨gb,hgb⟩:=wY w.heap.size
 rw [<-hgb]at hP hR hbx ⊢
 have HPX:=sqH (show ∀W,Below w1.heap.size w1 W->Arr W gb 44 [aA X s.aI.length cX,aA Y s.aJ.length dY,aB aC s.aL,aB aC s.aK,aB aC co.aN,aA G co.aM.length ng,aD ⟨co.at_.toArray⟩,aA F fs.length cF]/\Arr W (gb+1) 44 [aA aF 0 0,aA aF 0 0,aB aC 0,aB aC 0,aB aC 0,aA aF 0 0,aD ⟨#[]⟩,aA aF 0 0] from fun W h=>⟨hP.below h,hR.below h⟩);have hg1:gb+1<w1.heap.size:=hR.lt;obtain⟨HG,HGS,HBX,HW1,HGB⟩:=sqJ5 hg hgs hbx hw1 hgb;clear hg hgs hr hr1 hP hR hbx hw1 hgb;go_enter func67,ntmps67
 refine wL ?_;intros;rw [<-HW1.o,<-HGB.o];clear HW1;refine wZ HCK.o fun w2 hb2=>?_;dsimp only;clear HCK;obtain⟨HB2,HPS,HBJ⟩:=sqJ3 hb2 (fun W (h:Below gb w W)=>HPS0.o W (by rw [<-HGB.o];exact h)) hbj;have hfi:=kP F cF fs ⟨key.toArray⟩ w2 wu (HRD.o w2 hb2).f;rw [hkk]at hfi;dsimp only at hf;rw [hf]at hfi;dsimp only at hfi;have HFI:=sqH hfi;clear hfi hf hkk hbj HPS0;obtain⟨x0,x1,x2,x3,x4,x5,x6,x7⟩:=sqC8 ((HPX.o _ hb2).1)
 refine wL ?_;intros;clear x0 x1 x2 x3 x4 x5 x6 x7;refine wZ HFI.o fun wE hb6=>?_;dsimp only;have hbE:=wm hb2 hb6;have hsE:w2.heap.size<=wE.heap.size:=hb6.size;have hs2:w1.heap.size<=w2.heap.size:=hb2.size;have hbw:=HBX.o.trans (hbE.mono (show gb<=w1.heap.size by omega));clear hb6 HFI;have hbp:=QT X cX Y dY s G ng co key ps PA pc wE HGS.o (HRD.o _ hbE).s HG.o.g HG.o.c (HRD.o _ hbE).c HKX.o.1 HKX.o.2.1 HKX.o.2.2.1 HKX.o.2.2.2 (HPS.o _ hbw);simp only [HBJ.o]at hbp;have HBP:=sqH hbp;clear hbp;obtain⟨x0,x1,x2,x3,x4,x5,x6,x7⟩:=sqC8 ((HPX.o _ hbE).1)
 refine wL ?_;intros;clear x0 x1 x2 x3 x4 x5 x6 x7;refine HBP.o.mono ?_;rintro e_ w7 ⟨v7,u7,t7,rfl,ho7,hl7,hb7⟩;dsimp only;obtain⟨X7,cX7,Y7,dY7,rfl,rfl,hr7⟩:=ho7.rows;obtain⟨G7,ng7,rfl,hc7⟩:=RdC.of_own (c:=c2) hl7;obtain⟨w9,hw9,hS9,hC9,hb79⟩:=zI w7 38 41 [aA X7 t.aI.length cX7,aA Y7 t.aJ.length dY7,aB aC t.aL,aB aC t.aK] [aB aC c2.aN,aA G7 c2.aM.length ng7,aD ⟨c2.at_.toArray⟩];have hbq:=wm hb7 hb79;have hb19:=(hbE).trans (hbq.mono (hbE).size);have HW9:=sqH hw9;obtain⟨gs,hgs⟩:=wY w7.heap.size
 have HGQ:=sqH hgs;rw [<-hgs]at hS9 hC9;obtain⟨HSC,HO9,HL9,HBQ,HB19⟩:=sqJ5 (show ∀W,Below w9.heap.size w9 W->Arr W gs 38 [aA X7 t.aI.length cX7,aA Y7 t.aJ.length dY7,aB aC t.aL,aB aC t.aK]/\Arr W (gs+1) 41 [aB aC c2.aN,aA G7 c2.aM.length ng7,aD ⟨c2.at_.toArray⟩] from fun W h=>⟨hS9.below h,hC9.below h⟩) (ho7.below hb79) (zc hl7 hb79) hbq hb19;clear hw9 hgs hS9 hC9 ho7 hl7 hr7 hc7 hb7 hb79 hbq hb19 HBP
 refine wN 8 ?_;intros;rw [<-HW9.o,<-HGQ.o];clear HW9;by_cases hz:z=0
 rotate_left
 ·have hz1:((z:Int) != 0)=true:=by rw [bne_iff_ne];omega
  have HZ:=sqH hz;clear hz;have hR:=(HPX.o _ HB19.o).2;obtain⟨y0,y1,y2,y3,y4,y5,y6,y7⟩:=sqC8 hR;obtain⟨f0,f1,f2,f3,f4,f5,f6,f7⟩:=sqF8 hR;have HFN:=sqH (hR.all8 (aA aF 0 0) (aA aF 0 0) (aB aC 0) (aB aC 0) (aB aC 0) (aA aF 0 0) (aD ⟨#[]⟩) (aA aF 0 0));have HB9:=sqH (zP (HBX.o.trans (Below.mono HB19.o wu)) (show gb<=gb+1 by omega) (aA aF 0 0) (aA aF 0 0) (aB aC 0) (aB aC 0) (aB aC 0) (aA aF 0 0) (aD ⟨#[]⟩) (aA aF 0 0));clear hR
  refine wL ?_;intros;refine bodyPost_ret (zK rfl _ _ (gb+1) _ _ _ _ ac HFN.o underlying44 rfl ww) rfl ?_;rw [if_neg HZ.o];exact⟨_,_,_,_,rfl,OwLo.nil_,HB9.o⟩
 subst hz;have HFC:=sqH (fun W (h:Below w9.heap.size w9 W)=>kw F cF fs W wu (fun p hp=>by have:=(HG.o.f.all p hp).2.1;omega) (HRD.o W (wm HB19.o h)).f (HRD.o W (wm HB19.o h)).fc);have HZ9:=sqH (HBX.o.trans (HB19.o.mono (show gb<=w1.heap.size by omega)));have HRR:=sqH (HPX.o _ HB19.o).2;have hs9:wE.heap.size<=w9.heap.size:=HBQ.o.size;have HSB:=sqH (show ∀W,Below w9.heap.size w9 W->(wJ W gb (aA X s.aI.length cX) (aA Y s.aJ.length dY) (aB aC s.aL) (aB aC s.aK) (aB aC co.aN) (aA G co.aM.length ng) (aD ⟨co.at_.toArray⟩) (aA F fs.length cF))/\(wI W gs (aA X7 t.aI.length cX7) (aA Y7 t.aJ.length dY7) (aB aC t.aL) (aB aC t.aK))/\(wH W (gs+1) (aB aC c2.aN) (aA G7 c2.aM.length ng7) (aD ⟨c2.at_.toArray⟩)) from fun W h=>by
  have h1:=(HPX.o W (wm HB19.o h)).1;obtain⟨h2,h3⟩:=HSC.o W h;exact⟨sqC8 h1,sqC4 h2,sqC3 h3⟩)
 refine wL ?_;intros;apply zC;intro REST;refine ze [6] (S:=(fun w'=>(wJ w' gb (aA X s.aI.length cX) (aA Y s.aJ.length dY) (aB aC s.aL) (aB aC s.aK) (aB aC co.aN) (aA G co.aM.length ng) (aD ⟨co.at_.toArray⟩) (aA F fs.length cF))/\(wI w' gs (aA X7 t.aI.length cX7) (aA Y7 t.aJ.length dY7) (aB aC t.aL) (aB aC t.aK))/\(w'.cell? ⟨(gs+1),0,aF⟩=some (aB aC c2.aN)/\w'.cell? ⟨(gs+1),1,aF⟩=some (aA G7 c2.aM.length ng7)/\w'.cell? ⟨(gs+1),2,aF⟩=some (aD ⟨c2.at_.toArray⟩)))) ww ?_ (fun hHeld=> ?_)
 ·exact HSB.o _ (((wo w9)).drew)
 have hB:=((wo w9)).drew;have hz:=HZ9.o.drew;have hR:=HRR.o.below (Below.refl w9.heap.size w9).drew;have ho:=HO9.o.below (Below.refl w9.heap.size w9).drew;have hl:=zc HL9.o (Below.refl w9.heap.size w9).drew;generalize w9.drew=wn0 at *
 refine wS 0 ?_;refine wS 1 ?_;refine wT 2 ?_;refine wS 3 ?_;refine za (rs:= [4]) ww ab ?_;refine z8.cons (o:=_) rfl (fun K hK=> ?_) ?_
 ·
  go_simp;refine(HFC.o wn0 hB).mono ?_;rintro e5 w5 ⟨v5,rfl,hz5,hb5⟩;obtain⟨A6,c6,rfl, -, -⟩:=hz5.fls;dsimp only;refine wC hK (HSB.o _ ((wm hB hb5))) (fun W=>Below w9.heap.size w9 W/\Arr W (gb+1) 44 [aA aF 0 0,aA aF 0 0,aB aC 0,aB aC 0,aB aC 0,aA aF 0 0,aD ⟨#[]⟩,aA aF 0 0]/\Below gb w W/\OwSt W wE.heap.size (aA X7 t.aI.length cX7) (aA Y7 t.aJ.length dY7) t (fun b=>b<wE.heap.size)/\W.ownsRow wE.heap.size 9 1 (aA G7 c2.aM.length ng7) c2.aM.length (strs c2.aM)/\FlsO W w9.heap.size (aA A6 fs.length c6) fs) ⟨wm hB hb5,hR.below hb5,hz.trans (hb5.mono (Nat.le_trans (show gb<=w9.heap.size by omega) hB.size)),ho.below hb5,zc hl hb5,hz5.lower hB.size⟩ fun wn1 hF=> ?_;clear hl ho hz hR hB hHeld hb5 hz5 hK K;obtain⟨hHeld,hB,hR,hz,ho,hl,hf⟩:=hF
  refine wT 5 ?_;refine wW 6 fun K hK=>?_;obtain⟨z0,f0,z1,f1,z2,f2,z3,f3,z4,f4,z5,f5,z6,f6,z7,f7⟩:=wi hR;go_simp;clear z0 f0 z1 f1 z2 f2 z3 f3 z4 f4 z5 f5 z6 f6 z7 f7;refine wD hK (fun W=>Arr W (gb+1) 44 [aA X7 t.aI.length cX7,aA Y7 t.aJ.length dY7,aB aC t.aL,aB aC t.aK,aB aC c2.aN,aA G7 c2.aM.length ng7,aD ⟨c2.at_.toArray⟩,(aA A6 fs.length c6)]/\Below gb w W/\OwSt W wE.heap.size (aA X7 t.aI.length cX7) (aA Y7 t.aJ.length dY7) t (fun b=>b<wE.heap.size)/\W.ownsRow wE.heap.size 9 1 (aA G7 c2.aM.length ng7) c2.aM.length (strs c2.aM)/\FlsO W w9.heap.size (aA A6 fs.length c6) fs) ⟨hR.all8 _ _ _ _ _ _ _ _,zP hz (show gb<=gb+1 by omega) _ _ _ _ _ _ _ _,ho.set8N (show gb+1<wE.heap.size by omega) (ho.nb hR aa aa).1 (ho.nb hR aa aa).2 _ _ _ _ _ _ _ _,q5 hl (zf hl hR aa) _ _ _ _ _ _ _ _,hf.set8 hR aa aa _ _ _ _ _ _ _ _⟩ fun wn2 hF=> ?_;clear hf hl ho hz hR hB hHeld;obtain⟨hR,hz,ho,hl,hf⟩:=hF
  clear hK K;refine wT 7 ?_;refine zo ww ?_ _
  try dsimp only [Exit.then]
  have hall:=aH hR (aH hz (aH ho (aH hl hf)));clear hf hl ho hz hR;generalize wn2=wz at hall ⊢
  revert hall;revert wz;revert c6;revert A6;exact REST.o
 exact z8.nil;intro A6 c6 wz hall;obtain⟨hR,hz,ho,hl,hf⟩:=hall
 refine wL ?_;intros;have hbE:gb<=wE.heap.size:=wu;have hb9:gb<=w9.heap.size:=wu;refine bodyPost_ret (zK rfl _ _ (gb+1) _ _ _ _ ac hR underlying44 rfl ww) rfl ?_;rw [if_pos rfl];exact⟨_,_,_,_,rfl,⟨(ho.lower hbE).mono (fun b hb=>wu),zb hl hbE,hf.lower hb9⟩,hz⟩
theorem Qb (p:LoW) (l:LoP) (key:ai) (w:World) (hg:GoodL l) (hr:RdLo w p l) :
  Calls zZZ 76 #[loV p l,aD ⟨key.toArray⟩] w fun e w'=>∃v1 v2 v3 v4 u,e= .returned (.tuple #[Yk v1 v2 v3 v4 (xu l key).1,u,aB aC ((xu l key).2.2:Int)])/\OwLo w' w.heap.size v1 v2 v3 v4 (xu l key).1 (fun b=>b<w.heap.size)/\w'.ownsRow w.heap.size 3 1 u (xu l key).2.1.length (ins (xu l key).2.1)/\Below w.heap.size w w':=by
 have h:=Qa p l key w hg hr (xo l.fs key).1 (xo l.fs key).2.1 (xo l.fs key).2.2 rfl;unfold xu;by_cases hq:(xo l.fs key).2.2=0
 ·simp only [if_pos hq]at h ⊢
  rw [hq]at h;exact h
 ·simp only [if_neg hq]at h ⊢
  exact h
theorem YN (p:LoW) (l:LoP) (key:ai) (ps:List PartP) (PA:aj) (pc:Nat) (w:World) (hg:GoodL l) (hr:RdLo w p l) (hk:hexC key=0) (hpz:chk ps=0) (hclk:l.st.aK<1099511627776) (hlen:l.st.aJ.length<10) (hP:Sl w 3 PA ps.length pc (pcs ps)) :
  Calls zZZ 75 #[loV p l,aD ⟨key.toArray⟩,aA PA ps.length pc] w fun e w'=>∃v1 v2 v3 v4 u,e= .returned (.tuple #[Yk v1 v2 v3 v4 (kY l key ps).1,u,aB aC ((kY l key ps).2.2:Int)])/\OwLo w' w.heap.size v1 v2 v3 v4 (kY l key ps).1 (fun b=>b<w.heap.size)/\w'.ownsRow w.heap.size 3 1 u (kY l key ps).2.1.length (ins (kY l key ps).2.1)/\Below w.heap.size w w':=by
 have h:=YM p l key ps PA pc w hg hr hk hpz hclk hlen hP (xo l.fs key).1 (xo l.fs key).2.1 (xo l.fs key).2.2 rfl (qN l.st l.co key ps).1 (qN l.st l.co key ps).2.1 (qN l.st l.co key ps).2.2 rfl _ rfl;unfold kY;by_cases hq:(xo l.fs key).2.2=0
 ·by_cases hz:(qN l.st l.co key ps).2.2=0
  ·rw [decide_eq_true ⟨hq,hz⟩]at h;simp only [if_pos hq,if_pos hz,if_true]at h ⊢
   rw [hz]at h;exact h
  ·rw [decide_eq_false (fun x=>hz x.2)]at h;simp only [if_pos hq,if_neg hz,Bool.false_eq_true,if_false]at h ⊢
   exact h
 ·rw [decide_eq_false (fun x=>hq x.1)]at h;simp only [if_neg hq,Bool.false_eq_true,if_false]at h ⊢
  exact h
theorem Ua (p:LoW) (l:LoP) (key:ai) (ps:List PartP) (PA:aj) (pc:Nat) (w:World) (hg:GoodL l) (hr:RdLo w p l) (hk:hexC key=0) (hpz:chk ps=0) (hclk:l.st.aK<1099511627776) (hlen:l.st.aJ.length<10) (hP:Sl w 3 PA ps.length pc (pcs ps)) :
  Calls zZZ 67 #[loV p l,aD ⟨key.toArray⟩,aA PA ps.length pc] w fun e w'=>∃v1 v2 v3 v4,e= .returned (.tuple #[Yk v1 v2 v3 v4 (Vl l key ps).1,aB aC ((Vl l key ps).2:Int)])/\OwLo w' w.heap.size v1 v2 v3 v4 (Vl l key ps).1 (fun b=>b<w.heap.size)/\Below w.heap.size w w':=by
 unfold Vl;cases hf:fnd 0 l.fs key with
 | some i =>
  refine(KO p l key PA ps.length pc w hg hr i hf).mono ?_;rintro e w' ⟨he,hb⟩;exact⟨_,_,_,_,he,OwLo.nil_,hb⟩
 | none =>
  have h:=U9 p l key ps PA pc w hg hr hk hpz hclk hlen hP hf (qN l.st l.co key ps).1 (qN l.st l.co key ps).2.1 (qN l.st l.co key ps).2.2 rfl;simp only [Option.isSome_none,Bool.false_eq_true,if_false];by_cases hz:(qN l.st l.co key ps).2.2=0
  ·simp only [if_pos hz]at h ⊢
   rw [hz]at h;exact h
  ·simp only [if_neg hz]at h ⊢
   exact h
theorem Qn (p p':LoW) (s s':StoP) (co:ColP) (fs:List FlP) (w:World) (hg:GoodS s) (hg':GoodS s') (hgf:GoodF fs) (hgr:co.aM.length<=1000) (hr:RdLo w p ⟨s,co,fs⟩) (hr':RdLo w p' ⟨s',co,fs⟩) (hb:qI s.aI s'.aI=true) (he:qX s.aJ s'.aJ=true) (hro:s'.aL=s.aL) (hck:s'.aK=s.aK) :
  Calls zZZ 9 #[loV p ⟨s,co,fs⟩,loV p' ⟨s',co,fs⟩] w fun e w'=>e= .returned (.bool true)/\Below w.heap.size w w':=by
 have hlb:s.aI.length<=24:=hg.b.len;have hle:s.aJ.length<=10:=hg.e.len;have hlb':s'.aI.length<=24:=hg'.b.len;have hle':s'.aJ.length<=10:=hg'.e.len;have hlf:fs.length<=6:=hgf.len;obtain⟨X,cX,Y,dY,G,ng,F,cF⟩:=p;obtain⟨X',cX',Y',dY',G',ng',F',cF'⟩:=p';obtain⟨blobs',ents',room',clock'⟩:=s';dsimp only at hro hck hb he hlb' hle';subst hro hck;have hss:=fun W (h:Below w.heap.size w W)=>Zi X X' Y Y' cX cX' dY dY' s.aI blobs' s.aJ ents' (s.aL:Int) (s.aK:Int) W wu wu (fun b hb=>by have:=(hg.b.one b hb).2.1;omega) (fun b hb=>by have:=(hg'.b.one b hb).2.1;omega) wu wu (fun x hx=>by have:=(zi (hg.e.one x hx).2.1).1;omega) (fun x hx=>by have:=(zi (hg'.e.one x hx).2.1).1;omega) (hr.s.below h).b (hr'.s.below h).b (hr.s.below h).e (hr'.s.below h).e;rw [hb,he]at hss;have heq:=fun W (h:Below w.heap.size w W)=>z38 G G' ng ng' co.aM co.aM W wu wu (hr.c.below h).rd (hr'.c.below h).rd;rw [decide_eq_true rfl]at heq;have hef:=fun W (h:Below w.heap.size w W)=>U5 F F' cF cF' fs W wu (fun p hp=>by have:=(hgf.all p hp).2.1;omega) (hr.f.below h) (hr'.f.below h);obtain⟨w1,hw1,hP,hR,hbx⟩:=zI w 44 44 [aA X s.aI.length cX,aA Y s.aJ.length dY,aB aC s.aL,aB aC s.aK,aB aC co.aN,aA G co.aM.length ng,aD ⟨co.at_.toArray⟩,aA F fs.length cF] [aA X' blobs'.length cX',aA Y' ents'.length dY',aB aC s.aL,aB aC s.aK,aB aC co.aN,aA G' co.aM.length ng',aD ⟨co.at_.toArray⟩,aA F' fs.length cF'];have hb1:=hbx;obtain⟨HSS,HEQ,HEF,HK,HBX⟩:=sqJ5 (hss w1 hb1) (fun W (h:Below w1.heap.size w1 W)=>heq W (wm hb1 h)) (fun W (h:Below w1.heap.size w1 W)=>hef W (wm hb1 h)) (fun W (h:Below w1.heap.size w1 W)=>aH (hP.below h) (hR.below h)) hbx;have hph:((co.aN:Int)==(co.aN:Int))=true:=by rw [beq_iff_eq]
 obtain⟨gb,hgb⟩:=wY w.heap.size
 have HW1:=sqH hw1;have HGB:=sqH hgb;rw [<-hgb]at HK HBX ⊢
 have hk:=HK.o w1 (Below.refl _ _);clear hg hg' hgf hr hr' hb he hss heq hef hP hR hbx hb1 hgr hw1 hgb;have hx:=hk.1;have hy:=hk.2;obtain⟨x0,x1,x2,x3,x4,x5,x6,x7⟩:=sqC8 hx;obtain⟨y0,y1,y2,y3,y4,y5,y6,y7⟩:=sqC8 hy;rw [HW1.o,HGB.o]at x0 x1 x2 x3 y0 y1 y2 y3;clear hx hy hk x4 x5 x6 x7 y4 y5 y6 y7;go_enter func9,ntmps9
 refine wL ?_;intros;rw [<-HW1.o,<-HGB.o];clear x0 x1 x2 x3 y0 y1 y2 y3 HW1;refine wZ HSS.o fun w2 hb2=>?_;dsimp only;have hk:=HK.o w2 hb2;have hx:=hk.1;have hy:=hk.2;obtain⟨x0,x1,x2,x3,x4,x5,x6,x7⟩:=sqC8 hx;obtain⟨y0,y1,y2,y3,y4,y5,y6,y7⟩:=sqC8 hy;have HC2:=sqH (HEQ.o w2 hb2);have HB2:=sqH hb2;clear hx hy hk hb2
 refine wL ?_;intros;clear x0 x1 x2 x3 x4 x5 x6 x7 y0 y1 y2 y3 y4 y5 y6 y7;refine wZ HC2.o fun w3 hb3=>?_;dsimp only;have hb13:=wm HB2.o hb3;have hk:=HK.o w3 hb13;have hx:=hk.1;have hy:=hk.2;obtain⟨x0,x1,x2,x3,x4,x5,x6,x7⟩:=sqC8 hx;obtain⟨y0,y1,y2,y3,y4,y5,y6,y7⟩:=sqC8 hy;have HC3:=sqH (HEF.o w3 hb13);have HB3:=sqH hb13;clear hx hy hk hb3 hb13
 refine wL ?_;intros;clear x0 x1 x2 x3 x4 x5 x6 x7 y0 y1 y2 y3 y4 y5 y6 y7;refine wZ HC3.o fun w4 hb4=>?_;dsimp only
 refine wL ?_;intros;go_ret;have hb14:=wm HB3.o hb4;have hz:gb<=w1.heap.size:=by rw [HGB.o];exact(show Below w.heap.size w w1 by rw [<-HGB.o];exact HBX.o).size
 exact⟨ab,HBX.o.trans (hb14.mono hz)⟩
structure RepP where
 err:Nat
 dig:ai
 data:ai
 aP:List PartP
 n:Nat
 who:List Int
abbrev Yq (e:Nat):RepP:=⟨e, [], [], [],0, []⟩
open Classical in
noncomputable def pbP (s:StoP) (c:ColP) (D:ai):StoP×ColP×ai×Nat :=
 if Fits s D then ((zH (zJ s D) c [shaS D]).1,(zH (zJ s D) c [shaS D]).2,shaS D,0) else (stZ,coZ, [],7)
def atB (s:StoP) (k:ai):Option (Nat×BlobP):=(s.aI.findIdx? (fun b=>b.dig==k)).bind fun i=>(s.aI[i]?).map fun b=>(i,b)
def atE (s:StoP) (k:ai):Option (Nat×EntP):=(s.aJ.findIdx? (fun x=>x.key==k)).bind fun i=>(s.aJ[i]?).map fun x=>(i,x)
def gbP (s:StoP) (k:ai):ai×Nat:=match atB s k with | some (_,b)=>(b.data,0) | none=>([],5)
def mvB (n:Nat) (up:Bool):Bool:=if up then decide (n<5) else decide (0<n)
noncomputable def hbP (s:StoP) (c:ColP) (k:ai) (up:Bool):StoP×ColP×Nat:=match atB s k with
 | some (i,b)=>if mvB b.aQ up then ((zH (kg s i b (mvN b.aQ up)) c [k]).1,(zH (kg s i b (mvN b.aQ up)) c [k]).2,0) else (stZ,coZ,noE up)
 | none=>(stZ,coZ,5)
def gtP (s:StoP) (k:ai):StoP×List PartP×Nat:=match atE s k with | some (i,x)=>(kD s i x,x.aP,0) | none=>(stZ, [],5)
def heP (s:StoP) (k:ai) (up:Bool):StoP×Nat:=match atE s k with
 | some (i,x)=>if mvB x.aQ up then (ZJ s i x (mvN x.aQ up),0) else (stZ,noE up)
 | none=>(stZ,5)
noncomputable def evP (s:StoP) (n:Nat):StoP×Nat×Nat:=match yh n s with | some (t,g)=>(t,g.length,0) | none=>(stZ,0,10)
def ticks:Nat->StoP->ColP->Nat->StoP×ColP×Nat
 | 0,s,c,g=>(s,c,g)
 | n+1,s,c,g=>if c.aN=0 then (s,c,g) else ticks n (qF s c).1 (qF s c).2.1 (g+if (qF s c).2.2= [] then 0 else 1)
def zM (l:LoP) (s:StoP) (c:ColP) (e:Nat):LoP:=if e=0 then ⟨s,c,l.fs⟩ else l
def vx (l m:LoP) (e:Nat):LoP:=if e=0 then m else l
noncomputable def blobD (l:LoP) (o:OrdP):LoP×RepP :=
 if o.kind=1 then (zM l (pbP l.st l.co o.data).1 (pbP l.st l.co o.data).2.1 (pbP l.st l.co o.data).2.2.2,⟨(pbP l.st l.co o.data).2.2.2,(pbP l.st l.co o.data).2.2.1, [], [],0, []⟩)
 else if o.kind=2 then (l,⟨(gbP l.st o.dig).2, [],(gbP l.st o.dig).1, [],0, []⟩)
 else (zM l (hbP l.st l.co o.dig (decide (o.kind=3))).1 (hbP l.st l.co o.dig (decide (o.kind=3))).2.1 (hbP l.st l.co o.dig (decide (o.kind=3))).2.2,Yq (hbP l.st l.co o.dig (decide (o.kind=3))).2.2)
noncomputable def entD (l:LoP) (o:OrdP):LoP×RepP :=
 if o.kind=5 then (vx l (Vl l o.dig o.aP).1 (Vl l o.dig o.aP).2,Yq (Vl l o.dig o.aP).2)
 else if o.kind=6 then (zM l (gtP l.st o.dig).1 l.co (gtP l.st o.dig).2.2,⟨(gtP l.st o.dig).2.2, [], [],(gtP l.st o.dig).2.1,0, []⟩)
 else (zM l (heP l.st o.dig (decide (o.kind=7))).1 l.co (heP l.st o.dig (decide (o.kind=7))).2,Yq (heP l.st o.dig (decide (o.kind=7))).2)
noncomputable def roomD (l:LoP) (o:OrdP):LoP×RepP :=
 if o.kind=9 then (zM l (evP l.st o.n).1 l.co (evP l.st o.n).2.2,⟨(evP l.st o.n).2.2, [], [], [],(evP l.st o.n).2.1, []⟩)
 else if o.kind=10 then if l.co.aN=0 then (⟨Xm l.st,UC l.st,l.fs⟩,Yq 0) else (l,Yq 6)
 else if l.co.aN=0 then (l,Yq 11)
 else (⟨(ticks o.n l.st l.co 0).1,(ticks o.n l.st l.co 0).2.1,l.fs⟩,⟨0, [], [], [],(ticks o.n l.st l.co 0).2.2, []⟩)
def xP (fs:List FlP) (k:ai):Bool:=fs.any fun f=>f.key==k
noncomputable def fliD (l:LoP) (o:OrdP):LoP×RepP :=
 if o.kind=12 then (vx l (Za l o.dig o.n).1 (Za l o.dig o.n).2.2.2,⟨(Za l o.dig o.n).2.2.2, [], [],(Za l o.dig o.n).2.1,if (Za l o.dig o.n).2.2.2≠0 then 0 else if (Za l o.dig o.n).2.2.1 then 1 else if xP (Za l o.dig o.n).1.fs o.dig then 2 else 0, []⟩)
 else if o.kind=13 then (vx l (kY l o.dig o.aP).1 (kY l o.dig o.aP).2.2,⟨(kY l o.dig o.aP).2.2, [], [], [],0,(kY l o.dig o.aP).2.1⟩)
 else (vx l (xu l o.dig).1 (xu l o.dig).2.2,⟨(xu l o.dig).2.2, [], [], [],0,(xu l o.dig).2.1⟩)
noncomputable def xp (l:LoP) (o:OrdP):LoP×RepP :=
 if o.kind<=4 then blobD l o else if o.kind<=8 then entD l o else if o.kind<=11 then roomD l o else fliD l o
noncomputable def yW:LoP->List OrdP->LoP×List RepP
 | l, []=>(l, [])
 | l,o::os=>((yW (xp l o).1 os).1,(xp l o).2::(yW (xp l o).1 os).2)
theorem Kw:∀(l:LoP) (a b:List OrdP),yW l (a++b)=((yW (yW l a).1 b).1,(yW l a).2++(yW (yW l a).1 b).2)
 | l, [],b=>rfl
 | l,o::a,b=>by
  show((yW (xp l o).1 (a++b)).1,(xp l o).2::(yW (xp l o).1 (a++b)).2)=_
  rw [Kw (xp l o).1 a b]
  rfl
theorem Vv (l:LoP) (a:List OrdP) (o:OrdP):yW l (a++ [o])=((xp (yW l a).1 o).1,(yW l a).2++ [(xp (yW l a).1 o).2]):=Kw l a [o]
theorem Kx:∀(l:LoP) (a:List OrdP),(yW l a).2.length=a.length
 | l, []=>rfl
 | l,o::a=>by show(yW (xp l o).1 a).2.length+1=_;rw [Kx _ a];rfl
theorem jG {b:BlobP} (h:atB s k=some (i,b)):∃hi:i<s.aI.length,s.aI[i]=b/\b.dig=k/\s.aI.findIdx? (fun b=>b.dig==k)=some i:=by
 unfold atB at h;cases hf:s.aI.findIdx? (fun b=>b.dig==k) with
 | none=>rw [hf]at h;cases h
 | some j =>
  obtain⟨hj,h1,_⟩:=List.findIdx?_eq_some_iff_getElem.1 hf;rw [hf]at h;simp only [Option.bind_some,List.getElem?_eq_getElem hj,Option.map_some,Option.some.injEq,Prod.mk.injEq]at h;obtain⟨rfl,rfl⟩:=h;exact⟨hj,rfl,by simpa using h1,rfl⟩
theorem K1 (h:atB s k=none):∀b∈s.aI,b.dig≠k:=by
 unfold atB at h;cases hf:s.aI.findIdx? (fun b=>b.dig==k) with
 | none=>rw [List.findIdx?_eq_none_iff]at hf;exact fun b hb=>by simpa using hf b hb
 | some j =>
  obtain⟨hj,h1,_⟩:=List.findIdx?_eq_some_iff_getElem.1 hf;rw [hf]at h;simp [List.getElem?_eq_getElem hj]at h
theorem vF {x:EntP} (h:atE s k=some (i,x)):∃hi:i<s.aJ.length,s.aJ[i]=x/\x.key=k/\s.aJ.findIdx? (fun x=>x.key==k)=some i:=by
 unfold atE at h;cases hf:s.aJ.findIdx? (fun x=>x.key==k) with
 | none=>rw [hf]at h;cases h
 | some j =>
  obtain⟨hj,h1,_⟩:=List.findIdx?_eq_some_iff_getElem.1 hf;rw [hf]at h;simp only [Option.bind_some,List.getElem?_eq_getElem hj,Option.map_some,Option.some.injEq,Prod.mk.injEq]at h;obtain⟨rfl,rfl⟩:=h;exact⟨hj,rfl,by simpa using h1,rfl⟩
theorem K2 (h:atE s k=none):∀x∈s.aJ,x.key≠k:=by
 unfold atE at h;cases hf:s.aJ.findIdx? (fun x=>x.key==k) with
 | none=>rw [List.findIdx?_eq_none_iff]at hf;exact fun b hb=>by simpa using hf b hb
 | some j =>
  obtain⟨hj,h1,_⟩:=List.findIdx?_eq_some_iff_getElem.1 hf;rw [hf]at h;simp [List.getElem?_eq_getElem hj]at h
theorem XP (hs:RisesBy (·.dig) s.aI) (ht:RisesBy (·.dig) t.aI) (h:GoodC s c) (hb:∀b∈t.aI,b∈s.aI) (hr:∀x∈rts t,x∈rts s):GoodC t c:=by
 have hm:∀x,InB t.aI x->x∈mkd s.aI->x∈mkd t.aI:=fun x ⟨b,hb1,hx⟩ hx2=>by
  obtain⟨a,ha,hm,e⟩:=qD.1 hx2;have:a=b:=hs.inj ha (hb b hb1) (e.trans hx.symm);subst this;exact qD.2 ⟨a,hb1,hm,e⟩
 refine⟨h.ph,h.gh,h.ris,h.ah,h.g0,h.a0,fun h1 x hx hi=> ?_,fun h1 b hb1 hm1 x hx hi=> ?_,fun h1 x hx=> ?_⟩
 ·exact(h.mr h1 x (hr x hx) (hi.sub hb)).imp (hm x hi) id
 ·rw [vJ hs ht hb ⟨b,hb1,rfl⟩]at hx;exact(h.mb h1 b (hb b hb1) hm1 x hx (hi.sub hb)).imp (hm x hi) id
 ·exact hm x hx.inB (h.sw h1 x (hx.sub hs ht hb hr))
theorem z1z (hb:∀b∈t.aI,b∈s.aI) (he:∀x∈t.aJ,x∈s.aJ):∀x∈rts t,x∈rts s:=fun x hx=>by
 rcases List.mem_append.1 hx with h1 | h1
 ·obtain⟨y,hy,h2⟩:=List.mem_flatMap.1 h1
  exact List.mem_append_left _ (List.mem_flatMap.2 ⟨y,he y hy,h2⟩)
 ·obtain⟨b,hb1,rfl⟩:=List.mem_map.1 h1
  obtain⟨h2,h3⟩:=List.mem_filter.1 hb1
  exact List.mem_append_right _ (List.mem_map.2 ⟨b,List.mem_filter.2 ⟨hb b h2,h3⟩,rfl⟩)
theorem Kg {more:Nat}:∀(n:Nat) (s t:StoP) (g g':List ai),uK more n s g=some (t,g')->t.aI.Sublist s.aI/\t.aJ.Sublist s.aJ
 | 0,s,t,g,g',h=>by unfold uK at h;cases h
 | n+1,s,t,g,g',h=>by
  unfold uK at h
  split at h
  ·cases h;exact⟨.refl _,.refl _⟩
  ·split at h
   ·cases h
   ·split at h
    ·cases h
    ·rename_i i _ x _
     obtain⟨a,b⟩:=Kg n _ t _ g' h
     exact⟨a.trans (List.filter_sublist),b.trans (List.eraseIdx_sublist ..)⟩
theorem XK (h:yh more s=some (t,g)):t.aI.Sublist s.aI/\t.aJ.Sublist s.aJ:=by
 unfold yh at h;split at h
 ·cases h;exact⟨.refl _,.refl _⟩
 ·obtain⟨a,b⟩:=Kg _ _ _ _ _ h;exact⟨a.trans List.filter_sublist,b⟩
theorem XI {more:Nat}:∀(n:Nat) (s t:StoP) (g g':List ai),uK more n s g=some (t,g')->t.aL=s.aL/\t.aK=s.aK
 | 0,s,t,g,g',h=>by unfold uK at h;cases h
 | n+1,s,t,g,g',h=>by
  unfold uK at h
  split at h
  ·cases h;exact⟨rfl,rfl⟩
  ·split at h
   ·cases h
   ·split at h
    ·cases h
    ·obtain⟨a,b⟩:=XI n _ t _ g' h
     exact⟨a,b⟩
theorem UQ (h:yh more s=some (t,g)):t.aL=s.aL/\t.aK=s.aK:=by
 unfold yh at h;split at h
 ·cases h;exact⟨rfl,rfl⟩
 ·obtain⟨a,b⟩:=XI _ _ _ _ _ h;exact⟨a,b⟩
theorem Bsy.of (h:Bsy m s c) (hg:GoodS t) (hc:GoodC t c) (hu:unm t.aI<=unm s.aI) (hk:∀x∈t.aJ,∃y∈s.aJ,y.key=x.key) (hck:t.aK<=s.aK):Bsy m t c :=
 ⟨hg,hc,by have:=h.gr;omega,fun x hx=>by obtain⟨y,hy,e⟩:=hk x hx;rw [<-e];exact h.k7 y hy,by have:=h.ck;omega⟩
theorem LInv.keep (h:LInv m l) (hb:Bsy m s c) (hk:∀x∈s.aJ,∃y∈l.st.aJ,y.key=x.key):LInv m ⟨s,c,l.fs⟩ :=
 ⟨hb,h.f,fun p hp x hx=>by obtain⟨y,hy,e⟩:=hk x hx;rw [<-e];exact h.ap p hp y hy,h.k7⟩
theorem Bsy.ticks {m:Nat}:∀(n:Nat) (s:StoP) (c:ColP) (g:Nat),Bsy m s c->Bsy m (ticks n s c g).1 (ticks n s c g).2.1/\(ticks n s c g).1.aJ=s.aJ
 | 0,s,c,g,h=>⟨h,rfl⟩
 | n+1,s,c,g,h=>by
  unfold Go.Proofs.YtcjmjaefcjcomaaGreat.ticks
  by_cases hp:c.aN=0
  ·rw [if_pos hp];exact⟨h,rfl⟩
  ·rw [if_neg hp]
   have hp2:c.aN=1\/c.aN=2:=by have:=h.gc.ph;omega
   obtain⟨h1,h2,_,h4,h5,h6⟩:=Q0 h.g h.gc hp2
   have h7:=Q1 s c
   obtain⟨a,b⟩:=Bsy.ticks (m:=m) n (qF s c).1 (qF s c).2.1 (g+if (qF s c).2.2= [] then 0 else 1) ⟨h1,h2,by have:=h.gr;omega,by rw [h4];exact h.k7,by rw [h6];exact h.ck⟩
   exact⟨a,b.trans h4⟩
theorem JO (s:StoP) (c:ColP) (ds:List ai):(zH s c ds).1.aJ=s.aJ:=by rw [kI]
theorem Yh (hi:i<s.aJ.length):rts (ZJ s i s.aJ[i] n)=rts s:=by
 show ux (s.aJ.set i { s.aJ[i] with aQ:=n })++uF s.aI=ux s.aJ++uF s.aI;rw [Ku (x:= { s.aJ[i] with aQ:=n }) hi rfl]
theorem V6 (h:mvB n up=true) (h5:n<=5):mvN n up<=5:=by
 unfold mvB at h;unfold mvN;cases up<;>simp at h ⊢ <;> omega
theorem JQ (up:Bool):noE up≠0:=by cases up<;>decide
theorem z1f {D:ai} (hg:GoodS s) (hd:D.length<=300) (h:¬Fits s D):QX s D:=(z1g hg hd).resolve_left h
theorem LInv.blobD (h:LInv m l) (ho:GoodD o):LInv (m+1) (blobD l o).1:=by
 have hu:=h.up (Nat.le_succ m);unfold Go.Proofs.YtcjmjaefcjcomaaGreat.blobD;by_cases h1:o.kind=1
 ·rw [if_pos h1];show LInv _ (zM _ _ _ _);unfold pbP zM;by_cases hf:Fits l.st o.data
  ·rw [if_pos hf,if_pos rfl];exact hu.keep (h.b.put hf) fun x hx=>⟨x,by rwa [JO]at hx,rfl⟩
  ·rw [if_neg hf,if_neg ab];exact hu
 ·rw [if_neg h1];by_cases h2:o.kind=2
  ·rw [if_pos h2];exact hu
  ·rw [if_neg h2];show LInv _ (zM _ _ _ _);unfold hbP;cases hat:atB l.st o.dig with
   | none =>
    show LInv _ (zM l stZ coZ 5);unfold zM;rw [if_neg aa];exact hu
   | some ib =>
    obtain⟨i,b⟩:=ib;obtain⟨hi,rfl,hk,_⟩:=jG hat
    dsimp only;by_cases hmv:mvB l.st.aI[i].aQ (decide (o.kind=3))=true
    ·rw [if_pos hmv];show LInv _ (zM l _ _ 0);unfold zM;rw [if_pos rfl,<-hk];exact hu.keep (h.b.hold hi (V6 hmv ((h.b.g.b.one _ (List.getElem_mem hi)).2.2))) fun x hx=>⟨x,by rwa [JO]at hx,rfl⟩
    ·rw [if_neg hmv];show LInv _ (zM l stZ coZ (noE _));unfold zM;rw [if_neg (JQ _)];exact hu
theorem LInv.entD (h:LInv m l) (hm:m<=78) (ho:GoodD o) (h58:5<=o.kind/\o.kind<=8):LInv (m+1) (entD l o).1:=by
 have hu:=h.up (Nat.le_succ m);unfold Go.Proofs.YtcjmjaefcjcomaaGreat.entD;by_cases h1:o.kind=5
 ·rw [if_pos h1];show LInv _ (vx _ _ _);unfold vx;split
  ·rename_i h0;exact h.put hm (ho.k7 (.inl h58)) ho.g.p1 h0
  ·exact hu
 ·rw [if_neg h1];by_cases h2:o.kind=6
  ·rw [if_pos h2];show LInv _ (zM _ _ _ _);unfold gtP;cases hat:atE l.st o.dig with
   | none =>
    show LInv _ (zM l stZ l.co 5);unfold zM;rw [if_neg aa];exact hu
   | some ix =>
    obtain⟨i,x⟩:=ix;obtain⟨hi,rfl,hk,_⟩:=vF hat
    show LInv _ (zM l _ l.co 0);unfold zM;rw [if_pos rfl];exact h.get wu hi
  ·rw [if_neg h2];show LInv _ (zM _ _ _ _);unfold heP;cases hat:atE l.st o.dig with
   | none =>
    show LInv _ (zM l stZ l.co 5);unfold zM;rw [if_neg aa];exact hu
   | some ix =>
    obtain⟨i,x⟩:=ix;obtain⟨hi,rfl,hk,_⟩:=vF hat
    dsimp only;by_cases hmv:mvB l.st.aJ[i].aQ (decide (o.kind=7))=true
    ·rw [if_pos hmv];show LInv _ (zM l _ _ 0);unfold zM;rw [if_pos rfl];have hkx:∀x∈(ZJ l.st i l.st.aJ[i] (mvN l.st.aJ[i].aQ (decide (o.kind=7)))).aJ,∃y∈l.st.aJ,y.key=x.key:=fun x hx=>xi (x:= { l.st.aJ[i] with aQ:=mvN l.st.aJ[i].aQ (decide (o.kind=7)) }) hi rfl hx;exact hu.keep (hu.b.of (Qx h.b.g hi (V6 hmv ((h.b.g.e.one _ (List.getElem_mem hi)).2.2.1))) (xU h.b.gc rfl fun x hx=>by rwa [Yh hi]at hx) ag hkx ag) hkx
    ·rw [if_neg hmv];show LInv _ (zM l stZ _ (noE _));unfold zM;rw [if_neg (JQ _)];exact hu
theorem LInv.roomD (h:LInv m l):LInv m (roomD l o).1:=by
 unfold Go.Proofs.YtcjmjaefcjcomaaGreat.roomD;by_cases h1:o.kind=9
 ·rw [if_pos h1];show LInv _ (zM _ _ _ _);unfold evP;cases he:yh o.n l.st with
  | none =>
   show LInv m (zM l stZ l.co 10);unfold zM;rw [if_neg aa];exact h
  | some tg =>
   obtain⟨t,g⟩:=tg;show LInv m (zM l t l.co 0);unfold zM;rw [if_pos rfl];obtain⟨a1,_,_,_,a5⟩:=j6 h.b.g he;obtain⟨b1,b2⟩:=XK he;exact h.keep (h.b.of a1 (XP h.b.g.b.ris a1.b.ris h.b.gc (fun b hb=>b1.subset hb) (z1z (fun b hb=>b1.subset hb) fun x hx=>b2.subset hx)) ((b1.filter _).length_le) (fun x hx=>⟨x,b2.subset hx,rfl⟩) (by rw [a5];exact Nat.le_refl _)) fun x hx=>⟨x,b2.subset hx,rfl⟩
 ·rw [if_neg h1];by_cases h2:o.kind=10
  ·rw [if_pos h2];split
   ·exact h.keep h.b.begin fun x hx=>⟨x,hx,rfl⟩
   ·exact h
  ·rw [if_neg h2];split
   ·exact h
   ·obtain⟨a,b⟩:=Bsy.ticks o.n l.st l.co 0 h.b;exact h.keep a fun x hx=>⟨x,by rwa [b]at hx,rfl⟩
theorem LInv.fliD (h:LInv m l) (hm:m<=78) (ho:GoodD o) (h12:12<=o.kind):LInv (m+1) (fliD l o).1:=by
 have hu:=h.up (Nat.le_succ m);unfold Go.Proofs.YtcjmjaefcjcomaaGreat.fliD;by_cases h1:o.kind=12
 ·rw [if_pos h1];show LInv _ (vx _ _ _);unfold vx;split
  ·rename_i h0;exact h.ask hm (ho.k7 (.inr h12)) (by have:=(ho.ask h1).1;omega) (by have:=(ho.ask h1).2;omega) h0
  ·exact hu
 ·rw [if_neg h1];by_cases h2:o.kind=13
  ·rw [if_pos h2];show LInv _ (vx _ _ _);unfold vx;split
   ·rename_i h0;exact h.done hm (ho.k7 (.inr h12)) ho.g.p1 h0
   ·exact hu
  ·rw [if_neg h2];show LInv _ (vx _ _ _);unfold vx;split
   ·rename_i h0;exact h.fail h0
   ·exact hu
theorem LInv.step (h:LInv m l) (hm:m<=78) (ho:GoodD o):LInv (m+1) (xp l o).1:=by
 unfold xp;split
 ·exact h.blobD ho
 ·split
  ·exact h.entD hm ho wu
  ·split
   ·exact h.roomD.up (Nat.le_succ m)
   ·exact h.fliD hm ho wu
theorem LInv.run:∀ {m:Nat} {l:LoP} {os:List OrdP},LInv m l->m+os.length<=79->(∀o∈os,GoodD o)->LInv (m+os.length) (yW l os).1
 | m,l, [],h,_,_=>h
 | m,l,o::os,h,hm,ho=>by
  simp only [List.length_cons]at hm ⊢
  have:=(h.step wu (ho o (List.mem_cons_self ..))).run (os:=os) wu fun x hx=>ho x (List.mem_cons_of_mem _ hx)
  rw [show m+(os.length+1)=m+1+os.length by omega]
  exact this
abbrev lo0 (aL:Nat):LoP:=⟨⟨[], [],aL,0⟩,⟨0, [], []⟩, []⟩
theorem LInv.zero {aL:Nat} (h:aL<=4000):LInv 0 (lo0 aL):=by
 have hg:GoodS ⟨[], [],aL,0⟩:=⟨⟨ab,(fun b hb=>by cases hb),List.Pairwise.nil⟩,⟨ab,(fun b hb=>by cases hb),List.Pairwise.nil⟩,h,by simp [usd],ab,(fun x hx=>by cases hx)⟩
 have hc:GoodC ⟨[], [],aL,0⟩ ⟨0, [], []⟩:=⟨ab,(fun d hd=>by cases hd),List.Pairwise.nil,.inl rfl,fun _=>rfl,fun _=>rfl,(fun h=>by cases h),(fun h=>by cases h),(fun h=>by cases h)⟩
 exact⟨⟨hg,hc,by simp [unm],(fun x hx=>by cases hx),ab⟩,GoodF.nil_,(fun p hp=>by cases hp),(fun p hp=>by cases hp)⟩
abbrev z2a (A:aj) (c:Nat) (B:aj) (d:Nat) (s:StoP):Value:= .agg #[aA A s.aI.length c,aA B s.aJ.length d,aB .i64 s.aL,aB .i64 s.aK]
structure OwSC (w:World) (base:Nat) (v1 v2 v3:Value) (s:StoP) (c:ColP):Prop where
 s:OwSt w base v1 v2 s (fun b=>b<base)
 c:w.ownsRow base 9 1 v3 c.aM.length (strs c.aM)
theorem OwSt.z_ {N:am}:OwSt w base (aA none 0 0) (aA none 0 0) stZ N:=OwLo.nil_.s
theorem OwSC.z_:OwSC w base (aA none 0 0) (aA none 0 0) (aA none 0 0) stZ coZ:=⟨.z_,World.ownsRow_nil _ _ _ _⟩
theorem VD {v1 v2:Value} (h:t.aL=s.aL/\t.aK=s.aK):stV v1 v2 t=stV v1 v2 s:=by
 show Value.agg _=_;rw [h.1,h.2]
section
variable (A:aj) (c:Nat) (B:aj) (d:Nat) (s:StoP) (Ag:aj) (ng:Nat) (cp:ColP) (w:World)
theorem VY (D:ai) (DA:aj) (dc:Nat) (hg:GoodS s) (hr:RdSt w A c B d s) (hgl:cp.aM.length<=1000) (hgc:GoodC s cp) (hc:RdC w Ag ng cp) (hd:D.length<=300) (hD:Sl w 1 DA D.length dc (bys D)) :
  Calls zZZ 62 #[z2a A c B d s,coV (aA Ag cp.aM.length ng) cp,aA DA D.length dc] w fun e w' =>
   ∃v1 v2 v3,e= .returned (.tuple #[stV v1 v2 (pbP s cp D).1,coV v3 (pbP s cp D).2.1,aD ⟨(pbP s cp D).2.2.1.toArray⟩,aB .i64 ((pbP s cp D).2.2.2:Int)])/\OwSC w' w.heap.size v1 v2 v3 (pbP s cp D).1 (pbP s cp D).2.1/\Below w.heap.size w w':=by
 unfold pbP;by_cases hf:Fits s D
 ·rw [if_pos hf];refine(Q5 A c B d s Ag ng cp D DA dc w hg hr hgl hgc hc hf hD).mono ?_;rintro e w' ⟨v1,v2,v3,rfl,h1,h2,h3⟩;exact⟨v1,v2,v3,by rw [VD (jT (zJ s D) cp [shaS D])];rfl,⟨h1,h2⟩,h3⟩
 ·rw [if_neg hf];refine(jx A c B d s Ag ng cp D DA dc w hg hr hgl hgc hc hd (z1f hg hd hf) hD).mono ?_;rintro e w' ⟨rfl,h3⟩;exact⟨_,_,_,rfl,.z_,h3⟩
theorem VX (k:ai) (hg:GoodS s) (hr:RdSt w A c B d s) :
  Calls zZZ 64 #[z2a A c B d s,aD ⟨k.toArray⟩] w fun e w' =>
   ∃v,e= .returned (.tuple #[v,aB .i64 ((gbP s k).2:Int)])/\w'.ownsRow w.heap.size 5 1 v (gbP s k).1.length (bys (gbP s k).1)/\Below w.heap.size w w':=by
 unfold gbP;cases hat:atB s k with
 | none =>
  refine(Zf A c B d s k w hg hr (K1 hat)).mono ?_;rintro e w' ⟨rfl,h3⟩;exact⟨_,rfl,World.ownsRow_nil _ _ _ _,h3⟩
 | some ib =>
  obtain⟨i,b⟩:=ib;obtain⟨hi,rfl,hk,_⟩:=jG hat
  refine(KS A c B d s k i w hg hr hi hk).mono ?_;rintro e w' ⟨v,rfl,h2,h3⟩;exact⟨v,rfl,h2,h3⟩
theorem Jd (h5:n<=5):(mvB n up=true->if up then n<5 else 0<n/\n<=5)/\(¬mvB n up=true->if up then n=5 else n=0):=by
 unfold mvB;cases up<;>simp<;>omega
theorem YI (k:ai) (up:Bool) (hg:GoodS s) (hr:RdSt w A c B d s) (hgl:cp.aM.length<=1000) (hgc:GoodC s cp) (hc:RdC w Ag ng cp) :
  Calls zZZ 65 #[z2a A c B d s,coV (aA Ag cp.aM.length ng) cp,aD ⟨k.toArray⟩,.bool up] w fun e w' =>
   ∃v1 v2 v3,e= .returned (.tuple #[stV v1 v2 (hbP s cp k up).1,coV v3 (hbP s cp k up).2.1,aB .i64 ((hbP s cp k up).2.2:Int)])/\OwSC w' w.heap.size v1 v2 v3 (hbP s cp k up).1 (hbP s cp k up).2.1/\Below w.heap.size w w':=by
 unfold hbP;cases hat:atB s k with
 | none =>
  refine(QS A c B d s Ag ng cp k up 5 w hg hr hgl hgc hc aa fun W h=>KU A c B d s k up W hg h (K1 hat)).mono ?_;rintro e w' ⟨rfl,h3⟩;exact⟨_,_,_,rfl,.z_,h3⟩
 | some ib =>
  obtain⟨i,b⟩:=ib;obtain⟨hi,rfl,hk,_⟩:=jG hat
  dsimp only;have h5:=(hg.b.one _ (List.getElem_mem hi)).2.2;by_cases hmv:mvB s.aI[i].aQ up=true
  ·rw [if_pos hmv];refine(VT A c B d s Ag ng cp k up i w hg hr hgl hgc hc hi hk ((Jd h5).1 hmv) _ rfl (un hg hi (V6 hmv h5))).mono ?_;rintro e w' ⟨v1,v2,v3,rfl,h1,h2,h3⟩;exact⟨v1,v2,v3,by rw [VD (jT _ cp [k])];rfl,⟨h1,h2⟩,h3⟩
  ·rw [if_neg hmv];refine(QS A c B d s Ag ng cp k up (noE up:Int) w hg hr hgl hgc hc (bne_iff_ne.1 (V8 up)) fun W h=>Ue A c B d s k up i W hg h hi hk ((Jd h5).2 hmv)).mono ?_;rintro e w' ⟨rfl,h3⟩;exact⟨_,_,_,rfl,.z_,h3⟩
theorem z5n (k:ai) (hg:GoodS s) (hr:RdSt w A c B d s) (hck:s.aK<1099511627776) :
  Calls zZZ 68 #[z2a A c B d s,aD ⟨k.toArray⟩] w fun e w' =>
   ∃v1 v2 vp,e= .returned (.tuple #[stV v1 v2 (gtP s k).1,vp,aB .i64 ((gtP s k).2.2:Int)])/\OwSt w' w.heap.size v1 v2 (gtP s k).1 (fun b=>b<w.heap.size)/\w'.ownsRow w.heap.size 85 3 vp (gtP s k).2.1.length (pcs (gtP s k).2.1)/\Below w.heap.size w w':=by
 unfold gtP;cases hat:atE s k with
 | none =>
  refine(YO A c B d s k w hg hr (K2 hat)).mono ?_;rintro e w' ⟨rfl,h3⟩;exact⟨_,_,_,rfl,.z_,World.ownsRow_nil _ _ _ _,h3⟩
 | some ib =>
  obtain⟨i,b⟩:=ib;obtain⟨hi,rfl,hk,_⟩:=vF hat
  refine(Uc A c B d s (kD s i s.aJ[i]) k s.aJ[i].aP i w hg hr hi hk rfl hck rfl).mono ?_;rintro e w' ⟨A',c',B',d',A5,c5,rfl,h1,h2,h3⟩;exact⟨_,_,_,rfl,h1,h2,h3⟩
theorem z4p (k:ai) (up:Bool) (hg:GoodS s) (hr:RdSt w A c B d s) :
  Calls zZZ 69 #[z2a A c B d s,aD ⟨k.toArray⟩,.bool up] w fun e w' =>
   ∃v1 v2,e= .returned (.tuple #[stV v1 v2 (heP s k up).1,aB .i64 ((heP s k up).2:Int)])/\OwSt w' w.heap.size v1 v2 (heP s k up).1 (fun b=>b<w.heap.size)/\Below w.heap.size w w':=by
 unfold heP;cases hat:atE s k with
 | none =>
  refine(KV A c B d s k up w hg hr (K2 hat)).mono ?_;rintro e w' ⟨rfl,h3⟩;exact⟨_,_,rfl,.z_,h3⟩
 | some ib =>
  obtain⟨i,b⟩:=ib;obtain⟨hi,rfl,hk,_⟩:=vF hat
  dsimp only;have h5:=(hg.e.one _ (List.getElem_mem hi)).2.2.1;by_cases hmv:mvB s.aJ[i].aQ up=true
  ·rw [if_pos hmv];refine(Uh A c B d s k up i w hg hr hi hk ((Jd h5).1 hmv)).mono ?_;rintro e w' ⟨v1,v2,rfl,h1,h3⟩;exact⟨v1,v2,rfl,h1,h3⟩
  ·rw [if_neg hmv];refine(Ug A c B d s k up i w hg hr hi hk ((Jd h5).2 hmv)).mono ?_;rintro e w' ⟨rfl,h3⟩;exact⟨_,_,rfl,.z_,h3⟩
end
end Go.Proofs.YtcjmjaefcjcomaaGreat
