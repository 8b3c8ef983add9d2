/- Lemmas, as stated. -/
import Derived.Test.YtcjndgldjhmbgaaGreatQF11
import Derived.Test.YtcjndgldjhmbgaaGreatQF12
set_option linter.unusedVariables false
set_option linter.unusedSimpArgs false
set_option maxRecDepth 100000
set_option maxHeartbeats 8000000
open Go.Proofs.Tryz
open Go.Proofs.Tryz renaming prog->zZZ
open Go.Value renaming slice->aw,int->ax,string->az
open Go.IntKind renaming i64->ay
open Option renaming none->aB
open And renaming intro->aD
namespace Go.Proofs.YtcjndgldjhmbgaaGreat
open Go.RowKit Go.Maps
variable {up:Bool} {c:ColP} {g:List ac} {l:LoP} {base i m more n:Nat} {o:OrdP} {s t:StoP} {w:World} {k:ac}
theorem YN (A:ae) (c:Nat) (fs:List FlP) (key:ac) (w:World) (hG:GoodF fs) (hf:Fls w A fs) (hc:fs.length<=c) (hm:c<=maxLen) :
  Calls zZZ 168 #[aw A fs.length c,az ⟨key.toArray⟩] w fun e w'=>∃v u,e= .returned (.tuple #[v,u,ax ay ((xd fs key).2.2:Int)])/\FlsO w' w.heap.size v (xd fs key).1/\w'.ownsRow w.heap.size 3 1 u (xd fs key).2.1.length (ins (xd fs key).2.1)/\Below w.heap.size w w':=by
 have hkk:(⟨key.toArray⟩:ByteArray).data.toList=key:=List.toList_toArray;unfold xd;cases hfn:fnd 0 fs key with
 | none =>
  exact(U3 A c fs ⟨key.toArray⟩ w hG hf hc hm (by rw [hkk];exact hfn)).mono fun e w' ⟨he,hb⟩=>⟨_,_,he,FlsO.nil_ _ _ _ (World.ownsRow_nil _ _ _ _),World.ownsRow_nil _ _ _ _,hb⟩
 | some i =>
  obtain⟨hi,_⟩:=yi hfn;simp only [List.getElem?_eq_getElem hi];exact z2w A c fs ⟨key.toArray⟩ i w hG hf hc hm (by rw [hkk];exact hfn) hi
theorem Qe (p:LoW) (l:LoP) (key:ac) (w:World) (hg:GoodL l) (hr:RdLo w p l) (fs2:List FlP) (who:List Int) (q:Nat) (hj:xd l.fs key=(fs2,who,q)) :
  Calls zZZ 134 #[loV p l,az ⟨key.toArray⟩] w fun e w'=>∃v1 v2 v3 v4 u,e= .returned (.tuple #[Yk v1 v2 v3 v4 (if q=0 then { l with fs:=fs2 } else loZ),u,ax ay q])/\OwLo w' w.heap.size v1 v2 v3 v4 (if q=0 then { l with fs:=fs2 } else loZ) (fun b=>b<w.heap.size)/\w'.ownsRow w.heap.size 3 1 u (if q=0 then who else []).length (ins (if q=0 then who else []))/\Below w.heap.size w w':=by
 obtain⟨X,cX,Y,dY,G,ng,F,cF⟩:=p;obtain⟨s,co,fs⟩:=l;have hgs:GoodS s:=hg.s;have hlb:s.aE.length<=24:=hgs.b.len;have hle:s.aF.length<=10:=hgs.e.len;have hlf:fs.length<=6:=hg.f.len;have hcm:cF<=maxLen:=hr.fm;obtain⟨w1,hw1,hP,hR,hbx⟩:=zn w 33 33 [aw X s.aE.length cX,aw Y s.aF.length dY,ax ay s.aH,ax ay s.aG,ax ay co.aJ,aw G co.aI.length ng,az ⟨co.at_.toArray⟩,aw F fs.length cF] [aw aB 0 0,aw aB 0 0,ax ay 0,ax ay 0,ax ay 0,aw aB 0 0,az ⟨#[]⟩,aw aB 0 0];have hr1:=hr.below hbx;have HCK:=sqH (uS ⟨X,cX,Y,dY,G,ng,F,cF⟩ ⟨s,co,fs⟩ w1 hg hr1);have HRD:=sqH (fun W (h:Below w1.heap.size w1 W)=>hr1.below h);obtain⟨gb,hgb⟩:=wU w.heap.size
 rw [<-hgb]at hP hR hbx ⊢
 have HPX:=sqH (show ∀W,Below w1.heap.size w1 W->Arr W gb 33 [aw X s.aE.length cX,aw Y s.aF.length dY,ax ay s.aH,ax ay s.aG,ax ay co.aJ,aw G co.aI.length ng,az ⟨co.at_.toArray⟩,aw F fs.length cF]/\Arr W (gb+1) 33 [aw aB 0 0,aw aB 0 0,ax ay 0,ax ay 0,ax ay 0,aw aB 0 0,az ⟨#[]⟩,aw aB 0 0] from fun W h=>⟨hP.below h,hR.below h⟩);have hg1:gb+1<w1.heap.size:=hR.lt;obtain⟨HG,HGS,HBX,HW1,HGB⟩:=sqJ5 hg hgs hbx hw1 hgb;clear hg hgs hr hr1 hP hR hbx hw1 hgb;go_enter func134,ntmps134
 refine wH ?_;intros;rw [<-HW1.o,<-HGB.o];clear HW1;refine wV HCK.o fun w2 hb2=>?_;dsimp only;clear HCK;have HB2:=sqH hb2;have hen:=YN F cF fs key w2 HG.o.f (HRD.o w2 hb2).f (HRD.o w2 hb2).fc (HRD.o w2 hb2).fm;dsimp only at hj;simp only [hj]at hen;have HEN:=sqH hen;clear hen hj;obtain⟨x0,x1,x2,x3,x4,x5,x6,x7⟩:=sqC8 ((HPX.o _ hb2).1)
 refine wH ?_;intros;clear x0 x1 x2 x3 x4 x5 x6 x7;refine HEN.o.mono ?_;rintro e_ wE ⟨v5,u5,rfl,hf6,hu6,hb6⟩;dsimp only;obtain⟨F6,c6,rfl,_,_⟩:=hf6.fls;obtain⟨U6,d6,rfl,_,_⟩:=Rd.of_own' hu6;have hbE:=wg hb2 hb6;have hsE:w2.heap.size<=wE.heap.size:=hb6.size;have hs2:w1.heap.size<=w2.heap.size:=hb2.size;by_cases hq:q=0
 rotate_left
 ·have hq1:((q:Int) != 0)=true:=by rw [bne_iff_ne];omega
  have HQ:=sqH hq;clear hq;have hR:=(HPX.o _ hbE).2;obtain⟨y0,y1,y2,y3,y4,y5,y6,y7⟩:=sqC8 hR;obtain⟨f0,f1,f2,f3,f4,f5,f6,f7⟩:=sqF8 hR;have HFN:=sqH (hR.all8 (aw aB 0 0) (aw aB 0 0) (ax ay 0) (ax ay 0) (ax ay 0) (aw aB 0 0) (az ⟨#[]⟩) (aw aB 0 0));have HB9:=sqH (zO (HBX.o.trans (Below.mono hbE wj)) (show gb<=gb+1 by omega) (aw aB 0 0) (aw aB 0 0) (ax ay 0) (ax ay 0) (ax ay 0) (aw aB 0 0) (az ⟨#[]⟩) (aw aB 0 0));clear hR
  refine wH ?_;intros;refine bodyPost_ret (zA rfl _ _ (gb+1) _ _ _ _ wu HFN.o underlying33 rfl wm) rfl ?_;rw [if_neg HQ.o,if_neg HQ.o];exact⟨_,_,_,_,_,rfl,OwLo.nil_,World.ownsRow_nil _ _ _ _,HB9.o⟩
 subst hq;obtain⟨HBE,HF6,HU6⟩:=sqJ3 hbE hf6 hu6;clear hf6 hu6 hb6 HEN;have HCP:=sqH (vN ⟨X,cX,Y,dY,G,ng,F,cF⟩ ⟨s,co,fs⟩ wE HG.o (HRD.o wE HBE.o));obtain⟨x0,x1,x2,x3,x4,x5,x6,x7⟩:=sqC8 ((HPX.o _ HBE.o).1)
 refine wH ?_;intros;refine HCP.o.mono ?_;rintro e_ w3 ⟨v1,v2,v3,v4,rfl,ho3,hb3⟩;dsimp only;obtain⟨⟨X3,cX3,Y3,dY3,G3,ng3,F3,cF3⟩,rfl,rfl,rfl,rfl,hrd3⟩:=ho3.rd;clear x0 x1 x2 x3 x4 x5 x6 x7 HCP;obtain⟨w4,hw4⟩:=wU (w3.alloc (.cells #[aw X3 s.aE.length cX3,aw Y3 s.aF.length dY3,ax ay s.aH,ax ay s.aG,ax ay co.aJ,aw G3 co.aI.length ng3,az ⟨co.at_.toArray⟩,aw F3 fs.length cF3] 33))
 have hO4:Arr w4 w3.heap.size 33 [aw X3 s.aE.length cX3,aw Y3 s.aF.length dY3,ax ay s.aH,ax ay s.aG,ax ay co.aJ,aw G3 co.aI.length ng3,az ⟨co.at_.toArray⟩,aw F3 fs.length cF3]:=by rw [hw4];exact Arr.new w3 33 _
 have hb34:Below w3.heap.size w3 w4:=by rw [hw4];exact(Below.refl _ _).alloc ab _
 have hb13:=wg HBE.o hb3;have hb14:=wg hb13 hb34;obtain⟨go,hgo⟩:=wU w3.heap.size
 rw [<-hgo]at hO4;have hgl:w1.heap.size<=go:=by rw [hgo];exact hb13.size
 have hgl4:go<w4.heap.size:=hO4.lt;have ho4:=((ho3.wider (N':=fun b=>b<w1.heap.size\/b=go) (fun b hb=>hb.elim (fun h=> .inl (Nat.lt_of_lt_of_le h HBE.o.size)) (fun h=> .inr (by rw [h,hgo];exact Nat.le_refl _)))).below hb34).lower (b':=w1.heap.size) HBE.o.size;obtain⟨HO4,HOB,HB14,HBO,HW4,HGO⟩:=sqJ6 ho4 hO4 hb14 (wg hb3 hb34) hw4 hgo;clear ho3 hb3 hrd3 hO4 hb34 hb13 hb14 ho4 hw4 hgo
 refine wJ 8 ?_;intros;rw [<-HW4.o,<-HGO.o];clear HW4;have hO4:=HOB.o;have hR4:=(HPX.o _ HB14.o).2;have hbg:gb+1≠go:=wj;have hgo1:gb<=go:=wj;obtain⟨o0,o1,o2,o3,o4,o5,o6,o7⟩:=sqC8 hO4;obtain⟨m0,m1,m2,m3,m4,m5,m6,m7⟩:=sqF8 hO4;have hfe:=HF6.o.below HBO.o;have hue:=zc HU6.o HBO.o;obtain⟨HO7,HR7,HL7,HF7,HU7,HB7⟩:=sqJ6 (hO4.set (k:=7) ws (aw F6 fs2.length c6)) (hR4.other hbg (k:=7) (aw F6 fs2.length c6)) (HO4.o.set1 (k:=7) hO4 (.inr rfl) (aw F6 fs2.length c6)) (hfe.set1 (k:=7) hO4 wo wo (aw F6 fs2.length c6)) (zd hue (zf hue hO4 wo) (k:=7) (u:= aw F6 fs2.length c6)) (Below.setCell (p:=⟨go,7,aB⟩) (HBX.o.trans (HB14.o.mono wj)) hgo1 (aw F6 fs2.length c6));clear hO4 hR4 hfe hue
 refine wJ 9 ?_;intros;clear o0 o1 o2 o3 o4 o5 o6 o7 m0 m1 m2 m3 m4 m5 m6 m7;generalize w4.setCell ⟨go,7,aB⟩ (aw F6 fs2.length c6)=w8 at *
 have hO:=HO7.o;have hR:=HR7.o;obtain⟨o0,o1,o2,o3,o4,o5,o6,o7⟩:=sqC8 hO;obtain⟨m0,m1,m2,m3,m4,m5,m6,m7⟩:=sqF8 hO;obtain⟨y0,y1,y2,y3,y4,y5,y6,y7⟩:=sqC8 hR;obtain⟨f0,f1,f2,f3,f4,f5,f6,f7⟩:=sqF8 hR;obtain⟨HFN,HL9,HF9,HU9,HB9⟩:=sqJ5 (hR.all8 (aw X3 s.aE.length cX3) (aw Y3 s.aF.length dY3) (ax ay s.aH) (ax ay s.aG) (ax ay co.aJ) (aw G3 co.aI.length ng3) (az ⟨co.at_.toArray⟩) (aw F6 fs2.length c6)) (HL7.o.set8 hR (.inl wj) (aw X3 s.aE.length cX3) (aw Y3 s.aF.length dY3) (ax ay s.aH) (ax ay s.aG) (ax ay co.aJ) (aw G3 co.aI.length ng3) (az ⟨co.at_.toArray⟩) (aw F6 fs2.length c6)) (HF7.o.set8 hR wo wo (aw X3 s.aE.length cX3) (aw Y3 s.aF.length dY3) (ax ay s.aH) (ax ay s.aG) (ax ay co.aJ) (aw G3 co.aI.length ng3) (az ⟨co.at_.toArray⟩) (aw F6 fs2.length c6)) (q7 HU7.o (zf HU7.o hR wo) (aw X3 s.aE.length cX3) (aw Y3 s.aF.length dY3) (ax ay s.aH) (ax ay s.aG) (ax ay co.aJ) (aw G3 co.aI.length ng3) (az ⟨co.at_.toArray⟩) (aw F6 fs2.length c6)) (zO HB7.o (show gb<=gb+1 by omega) (aw X3 s.aE.length cX3) (aw Y3 s.aF.length dY3) (ax ay s.aH) (ax ay s.aG) (ax ay co.aJ) (aw G3 co.aI.length ng3) (az ⟨co.at_.toArray⟩) (aw F6 fs2.length c6));clear hO hR
 refine wH ?_;intros;have hb5:gb<=w2.heap.size:=wj;have hb1:gb<=w1.heap.size:=wj;refine bodyPost_ret (zA rfl _ _ (gb+1) _ _ _ _ wu HFN.o underlying33 rfl wm) rfl ?_;rw [if_pos rfl,if_pos rfl];exact⟨_,_,_,_,_,rfl,⟨(HL9.o.s.lower hb1).mono (fun b hb=> .inl wj),zb HL9.o.c hb1,HF9.o.lower hb5⟩,zb HU9.o hb5,HB9.o⟩
theorem QV (A:ae) (c:Nat) (B:ae) (d:Nat) (s:StoP) (Ag:ae) (ng:Nat) (cp:ColP) (key:ac) (ps:List PartP) (PA:ae) (pc:Nat) (w:World) (hg:GoodS s) (hr:RdSt w A c B d s) (hgl:cp.aI.length<=1000) (hgc:GoodC s cp) (hc:RdC w Ag ng cp) (hk:hexC key=0) (hpz:chk ps=0) (hclk:s.aG<1099511627776) (hlen:s.aF.length<10) (hP:Sl w 3 PA ps.length pc (pcs ps)) :
  Calls zZZ 161 #[.agg #[aw A s.aE.length c,aw B s.aF.length d,ax ay s.aH,ax ay s.aG],coV (aw Ag cp.aI.length ng) cp,az ⟨key.toArray⟩,aw PA ps.length pc] w fun e w' =>
   ∃v1 v2 v3,e= .returned (.tuple #[stV v1 v2 (qx s cp key ps).1,coV v3 (qx s cp key ps).2.1,ax ay ((qx s cp key ps).2.2:Int)])/\OwSt w' w.heap.size v1 v2 (qx s cp key ps).1 (fun b=>b<w.heap.size)/\w'.ownsRow w.heap.size 9 1 v3 (qx s cp key ps).2.1.aI.length (strs (qx s cp key ps).2.1.aI)/\Below w.heap.size w w':=by
 unfold qx;by_cases hh:qL s.aE ps=0
 ·rw [if_pos hh];refine(JU A c B d s Ag ng cp key ps PA pc w hg hr hgl hgc hc hk hpz hh hclk hlen hP _ rfl (jc hg hk hpz (yD hh) hclk hlen)).mono ?_;rintro e w' ⟨v1,v2,v3,he,ho,hl,hb⟩;obtain⟨r1,r2⟩:=yL (xw s key ps) cp (ps.map (·.dig));refine⟨v1,v2,v3,?_,ho,hl,hb⟩;rw [he];simp only [stV];rw [r1,r2];rfl
 ·rw [if_neg hh];refine(JT A c B d s Ag ng cp key ps.length pc PA (qL s.aE ps:Int) w hg hr hgl hgc hc wj (fun W h=>Qp A c B d s key ps PA pc _ W hg (hr.below h) hk hpz rfl hh (hP.below h))).mono ?_;rintro e w' ⟨he,hb⟩;exact⟨aw aB 0 0,aw aB 0 0,aw aB 0 0,he,⟨RwX.nil_ (World.ownsRow_nil _ _ _ _),RwX.nil_ (World.ownsRow_nil _ _ _ _),fun g h=>by cases h⟩,World.ownsRow_nil _ _ _ _,hb⟩
theorem YP (p:LoW) (l:LoP) (key:ac) (ps:List PartP) (PA:ae) (pc:Nat) (w:World) (hg:GoodL l) (hr:RdLo w p l) (hk:hexC key=0) (hpz:chk ps=0) (hclk:l.st.aG<1099511627776) (hlen:l.st.aF.length<10) (hP:Sl w 3 PA ps.length pc (pcs ps)) (fs2:List FlP) (who:List Int) (q:Nat) (hj:xd l.fs key=(fs2,who,q)) (t:StoP) (c2:ColP) (z:Nat) (hbj:qx l.st l.co key ps=(t,c2,z)) (b:Bool) (hb:b=decide (q=0/\z=0)) :
  Calls zZZ 133 #[loV p l,az ⟨key.toArray⟩,aw PA ps.length pc] w fun e w'=>∃v1 v2 v3 v4 u,e= .returned (.tuple #[Yk v1 v2 v3 v4 (if b then ⟨t,c2,fs2⟩ else loZ),u,ax ay ((if q=0 then z else q:Nat):Int)])/\OwLo w' w.heap.size v1 v2 v3 v4 (if b then ⟨t,c2,fs2⟩ else loZ) (fun b=>b<w.heap.size)/\w'.ownsRow w.heap.size 3 1 u (if b then who else []).length (ins (if b then who else []))/\Below w.heap.size w w':=by
 obtain⟨HPS0,HKX,HBD⟩:=sqJ3 (fun W (h:Below w.heap.size w W)=>hP.below h) (aD hk (aD hpz (aD hclk hlen))) hb;clear hP hk hpz hclk hlen hb;obtain⟨X,cX,Y,dY,G,ng,F,cF⟩:=p;obtain⟨s,co,fs⟩:=l;have hgs:GoodS s:=hg.s;have hlb:s.aE.length<=24:=hgs.b.len;have hle:s.aF.length<=10:=hgs.e.len;have hlf:fs.length<=6:=hg.f.len;have hcm:cF<=maxLen:=hr.fm;obtain⟨w1,hw1,hP,hR,hbx⟩:=zn w 33 33 [aw X s.aE.length cX,aw Y s.aF.length dY,ax ay s.aH,ax ay s.aG,ax ay co.aJ,aw G co.aI.length ng,az ⟨co.at_.toArray⟩,aw F fs.length cF] [aw aB 0 0,aw aB 0 0,ax ay 0,ax ay 0,ax ay 0,aw aB 0 0,az ⟨#[]⟩,aw aB 0 0];have hr1:=hr.below hbx;have HCK:=sqH (uS ⟨X,cX,Y,dY,G,ng,F,cF⟩ ⟨s,co,fs⟩ w1 hg hr1);have HRD:=sqH (fun W (h:Below w1.heap.size w1 W)=>hr1.below h);obtain⟨gb,hgb⟩:=wU w.heap.size
 rw [<-hgb]at hP hR hbx ⊢
 have HPX:=sqH (show ∀W,Below w1.heap.size w1 W->Arr W gb 33 [aw X s.aE.length cX,aw Y s.aF.length dY,ax ay s.aH,ax ay s.aG,ax ay co.aJ,aw G co.aI.length ng,az ⟨co.at_.toArray⟩,aw F fs.length cF]/\Arr W (gb+1) 33 [aw aB 0 0,aw aB 0 0,ax ay 0,ax ay 0,ax ay 0,aw aB 0 0,az ⟨#[]⟩,aw aB 0 0] from fun W h=>⟨hP.below h,hR.below h⟩);have hg1:gb+1<w1.heap.size:=hR.lt;obtain⟨HG,HGS,HBX,HW1,HGB⟩:=sqJ5 hg hgs hbx hw1 hgb;clear hg hgs hr hr1 hP hR hbx hw1 hgb;go_enter func133,ntmps133
 refine wH ?_;intros;rw [<-HW1.o,<-HGB.o];clear HW1;refine wV HCK.o fun w2 hb2=>?_;dsimp only;clear HCK;obtain⟨HB2,HPS,HBJ⟩:=sqJ3 hb2 (fun W (h:Below gb w W)=>HPS0.o W (by rw [<-HGB.o];exact h)) hbj;have hen:=YN F cF fs key w2 HG.o.f (HRD.o w2 hb2).f (HRD.o w2 hb2).fc (HRD.o w2 hb2).fm;dsimp only at hj;simp only [hj]at hen;have HEN:=sqH hen;clear hen hj hbj HPS0;obtain⟨x0,x1,x2,x3,x4,x5,x6,x7⟩:=sqC8 ((HPX.o _ hb2).1)
 refine wH ?_;intros;clear x0 x1 x2 x3 x4 x5 x6 x7;refine HEN.o.mono ?_;rintro e_ wE ⟨v5,u5,rfl,hf6,hu6,hb6⟩;dsimp only;obtain⟨F6,c6,rfl,_,_⟩:=hf6.fls;obtain⟨U6,d6,rfl,_,_⟩:=Rd.of_own' hu6;have hbE:=wg hb2 hb6;have hsE:w2.heap.size<=wE.heap.size:=hb6.size;have hs2:w1.heap.size<=w2.heap.size:=hb2.size;by_cases hq:q=0
 rotate_left
 ·have hq1:((q:Int) != 0)=true:=by rw [bne_iff_ne];omega
  have HQ:=sqH hq;clear hq;have hR:=(HPX.o _ hbE).2;obtain⟨y0,y1,y2,y3,y4,y5,y6,y7⟩:=sqC8 hR;obtain⟨f0,f1,f2,f3,f4,f5,f6,f7⟩:=sqF8 hR;have HFN:=sqH (hR.all8 (aw aB 0 0) (aw aB 0 0) (ax ay 0) (ax ay 0) (ax ay 0) (aw aB 0 0) (az ⟨#[]⟩) (aw aB 0 0));have HB9:=sqH (zO (HBX.o.trans (Below.mono hbE wj)) (show gb<=gb+1 by omega) (aw aB 0 0) (aw aB 0 0) (ax ay 0) (ax ay 0) (ax ay 0) (aw aB 0 0) (az ⟨#[]⟩) (aw aB 0 0));clear hR
  refine wH ?_;intros;refine bodyPost_ret (zA rfl _ _ (gb+1) _ _ _ _ wu HFN.o underlying33 rfl wm) rfl ?_;have hbb:b=false:=by rw [HBD.o];exact decide_eq_false (fun h=>HQ.o h.1)
  rw [hbb,if_neg HQ.o];exact⟨_,_,_,_,_,rfl,OwLo.nil_,World.ownsRow_nil _ _ _ _,HB9.o⟩
 subst hq;obtain⟨HBE,HF6,HU6⟩:=sqJ3 hbE hf6 hu6;have hbw:=HBX.o.trans (hbE.mono (show gb<=w1.heap.size by omega));clear hf6 hu6 hb6 HEN;have hbp:=QV X cX Y dY s G ng co key ps PA pc wE HGS.o (HRD.o _ hbE).s HG.o.g HG.o.c (HRD.o _ hbE).c HKX.o.1 HKX.o.2.1 HKX.o.2.2.1 HKX.o.2.2.2 (HPS.o _ hbw);simp only [HBJ.o]at hbp;have HBP:=sqH hbp;clear hbp;obtain⟨x0,x1,x2,x3,x4,x5,x6,x7⟩:=sqC8 ((HPX.o _ hbE).1)
 refine wH ?_;intros;clear x0 x1 x2 x3 x4 x5 x6 x7;refine HBP.o.mono ?_;rintro e_ w7 ⟨v7,u7,t7,rfl,ho7,hl7,hb7⟩;dsimp only;obtain⟨X7,cX7,Y7,dY7,rfl,rfl,hr7⟩:=ho7.rows;obtain⟨G7,ng7,rfl,hc7⟩:=RdC.of_own (c:=c2) hl7;obtain⟨w9,hw9,hS9,hC9,hb79⟩:=zn w7 27 30 [aw X7 t.aE.length cX7,aw Y7 t.aF.length dY7,ax ay t.aH,ax ay t.aG] [ax ay c2.aJ,aw G7 c2.aI.length ng7,az ⟨c2.at_.toArray⟩];have hbq:=wg hb7 hb79;have hb19:=(hbE).trans (hbq.mono (hbE).size);have HW9:=sqH hw9;obtain⟨gs,hgs⟩:=wU w7.heap.size
 have HGQ:=sqH hgs;rw [<-hgs]at hS9 hC9;obtain⟨HSC,HO9,HL9,HBQ,HB19⟩:=sqJ5 (show ∀W,Below w9.heap.size w9 W->Arr W gs 27 [aw X7 t.aE.length cX7,aw Y7 t.aF.length dY7,ax ay t.aH,ax ay t.aG]/\Arr W (gs+1) 30 [ax ay c2.aJ,aw G7 c2.aI.length ng7,az ⟨c2.at_.toArray⟩] from fun W h=>⟨hS9.below h,hC9.below h⟩) (ho7.below hb79) (zc hl7 hb79) hbq hb19;clear hw9 hgs hS9 hC9 ho7 hl7 hr7 hc7 hb7 hb79 hbq hb19 HBP
 refine wJ 8 ?_;intros;rw [<-HW9.o,<-HGQ.o];clear HW9;by_cases hz:z=0
 rotate_left
 ·have hz1:((z:Int) != 0)=true:=by rw [bne_iff_ne];omega
  have HZ:=sqH hz;clear hz;have hR:=(HPX.o _ HB19.o).2;obtain⟨y0,y1,y2,y3,y4,y5,y6,y7⟩:=sqC8 hR;obtain⟨f0,f1,f2,f3,f4,f5,f6,f7⟩:=sqF8 hR;have HFN:=sqH (hR.all8 (aw aB 0 0) (aw aB 0 0) (ax ay 0) (ax ay 0) (ax ay 0) (aw aB 0 0) (az ⟨#[]⟩) (aw aB 0 0));have HB9:=sqH (zO (HBX.o.trans (Below.mono HB19.o wj)) (show gb<=gb+1 by omega) (aw aB 0 0) (aw aB 0 0) (ax ay 0) (ax ay 0) (ax ay 0) (aw aB 0 0) (az ⟨#[]⟩) (aw aB 0 0));clear hR
  refine wH ?_;intros;refine bodyPost_ret (zA rfl _ _ (gb+1) _ _ _ _ wu HFN.o underlying33 rfl wm) rfl ?_;have hbb:b=false:=by rw [HBD.o];exact decide_eq_false (fun h=>HZ.o h.2)
  rw [hbb,if_pos rfl];exact⟨_,_,_,_,_,rfl,OwLo.nil_,World.ownsRow_nil _ _ _ _,HB9.o⟩
 subst hz;have hsc:=HSC.o _ (Below.refl _ _);obtain⟨s0,s1,s2,s3⟩:=sqC4 hsc.1;obtain⟨t0,t1,t2⟩:=sqC3 hsc.2;have hR:=(HPX.o _ HB19.o).2;obtain⟨y0,y1,y2,y3,y4,y5,y6,y7⟩:=sqC8 hR;obtain⟨f0,f1,f2,f3,f4,f5,f6,f7⟩:=sqF8 hR;have hse:=HBQ.o.size;have hfe:=HF6.o.below HBQ.o;have hue:=zc HU6.o HBQ.o;obtain⟨HFN,HS9,HC9,HF9,HU9,HB9⟩:=sqJ6 (hR.all8 (aw X7 t.aE.length cX7) (aw Y7 t.aF.length dY7) (ax ay t.aH) (ax ay t.aG) (ax ay c2.aJ) (aw G7 c2.aI.length ng7) (az ⟨c2.at_.toArray⟩) (aw F6 fs2.length c6)) (HO9.o.set8N (show gb+1<wE.heap.size by omega) (HO9.o.nb hR wo wo).1 (HO9.o.nb hR wo wo).2 (aw X7 t.aE.length cX7) (aw Y7 t.aF.length dY7) (ax ay t.aH) (ax ay t.aG) (ax ay c2.aJ) (aw G7 c2.aI.length ng7) (az ⟨c2.at_.toArray⟩) (aw F6 fs2.length c6)) (q7 HL9.o (zf HL9.o hR wo) (aw X7 t.aE.length cX7) (aw Y7 t.aF.length dY7) (ax ay t.aH) (ax ay t.aG) (ax ay c2.aJ) (aw G7 c2.aI.length ng7) (az ⟨c2.at_.toArray⟩) (aw F6 fs2.length c6)) (hfe.set8 hR wo wo (aw X7 t.aE.length cX7) (aw Y7 t.aF.length dY7) (ax ay t.aH) (ax ay t.aG) (ax ay c2.aJ) (aw G7 c2.aI.length ng7) (az ⟨c2.at_.toArray⟩) (aw F6 fs2.length c6)) (q7 hue (zf hue hR wo) (aw X7 t.aE.length cX7) (aw Y7 t.aF.length dY7) (ax ay t.aH) (ax ay t.aG) (ax ay c2.aJ) (aw G7 c2.aI.length ng7) (az ⟨c2.at_.toArray⟩) (aw F6 fs2.length c6)) (zO (HBX.o.trans (HB19.o.mono wj)) (show gb<=gb+1 by omega) (aw X7 t.aE.length cX7) (aw Y7 t.aF.length dY7) (ax ay t.aH) (ax ay t.aG) (ax ay c2.aJ) (aw G7 c2.aI.length ng7) (az ⟨c2.at_.toArray⟩) (aw F6 fs2.length c6));clear hR hsc hfe hue
 refine wH ?_;intros;have hb5:gb<=w2.heap.size:=wj;have hbE:gb<=wE.heap.size:=wj;have hbb:b=true:=by rw [HBD.o];exact decide_eq_true ⟨rfl,rfl⟩
 refine bodyPost_ret (zA rfl _ _ (gb+1) _ _ _ _ wu HFN.o underlying33 rfl wm) rfl ?_;rw [hbb,if_pos rfl];exact⟨_,_,_,_,_,rfl,⟨(HS9.o.lower hbE).mono (fun b hb=>wj),zb HC9.o hbE,HF9.o.lower hb5⟩,zb HU9.o hb5,HB9.o⟩
theorem KQ (p:LoW) (l:LoP) (key:ac) (PA:ae) (pn pc:Nat) (w:World) (hg:GoodL l) (hr:RdLo w p l) (i:Nat) (hf:fnd 0 l.fs key=some i) :
  Calls zZZ 127 #[loV p l,az ⟨key.toArray⟩,aw PA pn pc] w fun e w'=>e= .returned (.tuple #[Yk (aw aB 0 0) (aw aB 0 0) (aw aB 0 0) (aw aB 0 0) loZ,ax ay 10])/\Below w.heap.size w w':=by
 have hkk:(⟨key.toArray⟩:ByteArray).data.toList=key:=List.toList_toArray;obtain⟨X,cX,Y,dY,G,ng,F,cF⟩:=p;obtain⟨s,co,fs⟩:=l;have hgs:GoodS s:=hg.s;have hlb:s.aE.length<=24:=hgs.b.len;have hle:s.aF.length<=10:=hgs.e.len;have hlf:fs.length<=6:=hg.f.len;have hcm:cF<=maxLen:=hr.fm;obtain⟨w1,hw1,hP,hR,hbx⟩:=zn w 33 33 [aw X s.aE.length cX,aw Y s.aF.length dY,ax ay s.aH,ax ay s.aG,ax ay co.aJ,aw G co.aI.length ng,az ⟨co.at_.toArray⟩,aw F fs.length cF] [aw aB 0 0,aw aB 0 0,ax ay 0,ax ay 0,ax ay 0,aw aB 0 0,az ⟨#[]⟩,aw aB 0 0];have hr1:=hr.below hbx;have HCK:=sqH (uS ⟨X,cX,Y,dY,G,ng,F,cF⟩ ⟨s,co,fs⟩ w1 hg hr1);have HRD:=sqH (fun W (h:Below w1.heap.size w1 W)=>hr1.below h);obtain⟨gb,hgb⟩:=wU w.heap.size
 rw [<-hgb]at hP hR hbx ⊢
 have HPX:=sqH (show ∀W,Below w1.heap.size w1 W->Arr W gb 33 [aw X s.aE.length cX,aw Y s.aF.length dY,ax ay s.aH,ax ay s.aG,ax ay co.aJ,aw G co.aI.length ng,az ⟨co.at_.toArray⟩,aw F fs.length cF]/\Arr W (gb+1) 33 [aw aB 0 0,aw aB 0 0,ax ay 0,ax ay 0,ax ay 0,aw aB 0 0,az ⟨#[]⟩,aw aB 0 0] from fun W h=>⟨hP.below h,hR.below h⟩);have hg1:gb+1<w1.heap.size:=hR.lt;obtain⟨HG,HGS,HBX,HW1,HGB⟩:=sqJ5 hg hgs hbx hw1 hgb;clear hg hgs hr hr1 hP hR hbx hw1 hgb;go_enter func127,ntmps127
 refine wH ?_;intros;rw [<-HW1.o,<-HGB.o];clear HW1;refine wV HCK.o fun w2 hb2=>?_;dsimp only;clear HCK;have HB2:=sqH hb2;have hfi:=kK F cF fs ⟨key.toArray⟩ w2 wj (HRD.o w2 hb2).f;rw [hkk]at hfi;dsimp only at hf;rw [hf]at hfi;dsimp only at hfi;have HFI:=sqH hfi;clear hfi hf hkk;obtain⟨x0,x1,x2,x3,x4,x5,x6,x7⟩:=sqC8 ((HPX.o _ hb2).1)
 refine wH ?_;intros;clear x0 x1 x2 x3 x4 x5 x6 x7;refine wV HFI.o fun wE hb6=>?_;dsimp only;have hbE:=wg hb2 hb6;have hR:=(HPX.o _ hbE).2;obtain⟨y0,y1,y2,y3,y4,y5,y6,y7⟩:=sqC8 hR;obtain⟨f0,f1,f2,f3,f4,f5,f6,f7⟩:=sqF8 hR;have HFN:=sqH (hR.all8 (aw aB 0 0) (aw aB 0 0) (ax ay 0) (ax ay 0) (ax ay 0) (aw aB 0 0) (az ⟨#[]⟩) (aw aB 0 0));have HB9:=sqH (zO (HBX.o.trans (Below.mono hbE wj)) (show gb<=gb+1 by omega) (aw aB 0 0) (aw aB 0 0) (ax ay 0) (ax ay 0) (ax ay 0) (aw aB 0 0) (az ⟨#[]⟩) (aw aB 0 0));clear hR
 refine wH ?_;intros;refine bodyPost_ret (zI rfl _ _ (gb+1) _ _ _ _ wu HFN.o underlying33 rfl wm) rfl ?_;exact⟨rfl,HB9.o⟩
theorem Ua (p:LoW) (l:LoP) (key:ac) (ps:List PartP) (PA:ae) (pc:Nat) (w:World) (hg:GoodL l) (hr:RdLo w p l) (hk:hexC key=0) (hpz:chk ps=0) (hclk:l.st.aG<1099511627776) (hlen:l.st.aF.length<10) (hP:Sl w 3 PA ps.length pc (pcs ps)) (hf:fnd 0 l.fs key=aB) (t:StoP) (c2:ColP) (z:Nat) (hbj:qx l.st l.co key ps=(t,c2,z)) :
  Calls zZZ 127 #[loV p l,az ⟨key.toArray⟩,aw PA ps.length pc] w fun e w'=>∃v1 v2 v3 v4,e= .returned (.tuple #[Yk v1 v2 v3 v4 (if z=0 then ⟨t,c2,l.fs⟩ else loZ),ax ay z])/\OwLo w' w.heap.size v1 v2 v3 v4 (if z=0 then ⟨t,c2,l.fs⟩ else loZ) (fun b=>b<w.heap.size)/\Below w.heap.size w w':=by
 have hkk:(⟨key.toArray⟩:ByteArray).data.toList=key:=List.toList_toArray;have HPS0:=sqH (fun W (h:Below w.heap.size w W)=>hP.below h);have HKX:=sqH (aD hk (aD hpz (aD hclk hlen)));clear hP hk hpz hclk hlen;obtain⟨X,cX,Y,dY,G,ng,F,cF⟩:=p;obtain⟨s,co,fs⟩:=l;have hgs:GoodS s:=hg.s;have hlb:s.aE.length<=24:=hgs.b.len;have hle:s.aF.length<=10:=hgs.e.len;have hlf:fs.length<=6:=hg.f.len;have hcm:cF<=maxLen:=hr.fm;obtain⟨w1,hw1,hP,hR,hbx⟩:=zn w 33 33 [aw X s.aE.length cX,aw Y s.aF.length dY,ax ay s.aH,ax ay s.aG,ax ay co.aJ,aw G co.aI.length ng,az ⟨co.at_.toArray⟩,aw F fs.length cF] [aw aB 0 0,aw aB 0 0,ax ay 0,ax ay 0,ax ay 0,aw aB 0 0,az ⟨#[]⟩,aw aB 0 0];have hr1:=hr.below hbx;have HCK:=sqH (uS ⟨X,cX,Y,dY,G,ng,F,cF⟩ ⟨s,co,fs⟩ w1 hg hr1);have HRD:=sqH (fun W (h:Below w1.heap.size w1 W)=>hr1.below h);obtain⟨gb,hgb⟩:=wU w.heap.size
 rw [<-hgb]at hP hR hbx ⊢
 have HPX:=sqH (show ∀W,Below w1.heap.size w1 W->Arr W gb 33 [aw X s.aE.length cX,aw Y s.aF.length dY,ax ay s.aH,ax ay s.aG,ax ay co.aJ,aw G co.aI.length ng,az ⟨co.at_.toArray⟩,aw F fs.length cF]/\Arr W (gb+1) 33 [aw aB 0 0,aw aB 0 0,ax ay 0,ax ay 0,ax ay 0,aw aB 0 0,az ⟨#[]⟩,aw aB 0 0] from fun W h=>⟨hP.below h,hR.below h⟩);have hg1:gb+1<w1.heap.size:=hR.lt;obtain⟨HG,HGS,HBX,HW1,HGB⟩:=sqJ5 hg hgs hbx hw1 hgb;clear hg hgs hr hr1 hP hR hbx hw1 hgb;go_enter func127,ntmps127
 refine wH ?_;intros;rw [<-HW1.o,<-HGB.o];clear HW1;refine wV HCK.o fun w2 hb2=>?_;dsimp only;clear HCK;obtain⟨HB2,HPS,HBJ⟩:=sqJ3 hb2 (fun W (h:Below gb w W)=>HPS0.o W (by rw [<-HGB.o];exact h)) hbj;have hfi:=kK F cF fs ⟨key.toArray⟩ w2 wj (HRD.o w2 hb2).f;rw [hkk]at hfi;dsimp only at hf;rw [hf]at hfi;dsimp only at hfi;have HFI:=sqH hfi;clear hfi hf hkk hbj HPS0;obtain⟨x0,x1,x2,x3,x4,x5,x6,x7⟩:=sqC8 ((HPX.o _ hb2).1)
 refine wH ?_;intros;clear x0 x1 x2 x3 x4 x5 x6 x7;refine wV HFI.o fun wE hb6=>?_;dsimp only;have hbE:=wg hb2 hb6;have hsE:w2.heap.size<=wE.heap.size:=hb6.size;have hs2:w1.heap.size<=w2.heap.size:=hb2.size;have hbw:=HBX.o.trans (hbE.mono (show gb<=w1.heap.size by omega));clear hb6 HFI;have hbp:=QV X cX Y dY s G ng co key ps PA pc wE HGS.o (HRD.o _ hbE).s HG.o.g HG.o.c (HRD.o _ hbE).c HKX.o.1 HKX.o.2.1 HKX.o.2.2.1 HKX.o.2.2.2 (HPS.o _ hbw);simp only [HBJ.o]at hbp;have HBP:=sqH hbp;clear hbp;obtain⟨x0,x1,x2,x3,x4,x5,x6,x7⟩:=sqC8 ((HPX.o _ hbE).1)
 refine wH ?_;intros;clear x0 x1 x2 x3 x4 x5 x6 x7;refine HBP.o.mono ?_;rintro e_ w7 ⟨v7,u7,t7,rfl,ho7,hl7,hb7⟩;dsimp only;obtain⟨X7,cX7,Y7,dY7,rfl,rfl,hr7⟩:=ho7.rows;obtain⟨G7,ng7,rfl,hc7⟩:=RdC.of_own (c:=c2) hl7;obtain⟨w9,hw9,hS9,hC9,hb79⟩:=zn w7 27 30 [aw X7 t.aE.length cX7,aw Y7 t.aF.length dY7,ax ay t.aH,ax ay t.aG] [ax ay c2.aJ,aw G7 c2.aI.length ng7,az ⟨c2.at_.toArray⟩];have hbq:=wg hb7 hb79;have hb19:=(hbE).trans (hbq.mono (hbE).size);have HW9:=sqH hw9;obtain⟨gs,hgs⟩:=wU w7.heap.size
 have HGQ:=sqH hgs;rw [<-hgs]at hS9 hC9;obtain⟨HSC,HO9,HL9,HBQ,HB19⟩:=sqJ5 (show ∀W,Below w9.heap.size w9 W->Arr W gs 27 [aw X7 t.aE.length cX7,aw Y7 t.aF.length dY7,ax ay t.aH,ax ay t.aG]/\Arr W (gs+1) 30 [ax ay c2.aJ,aw G7 c2.aI.length ng7,az ⟨c2.at_.toArray⟩] from fun W h=>⟨hS9.below h,hC9.below h⟩) (ho7.below hb79) (zc hl7 hb79) hbq hb19;clear hw9 hgs hS9 hC9 ho7 hl7 hr7 hc7 hb7 hb79 hbq hb19 HBP
 refine wJ 8 ?_;intros;rw [<-HW9.o,<-HGQ.o];clear HW9;by_cases hz:z=0
 rotate_left
 ·have hz1:((z:Int) != 0)=true:=by rw [bne_iff_ne];omega
  have HZ:=sqH hz;clear hz;have hR:=(HPX.o _ HB19.o).2;obtain⟨y0,y1,y2,y3,y4,y5,y6,y7⟩:=sqC8 hR;obtain⟨f0,f1,f2,f3,f4,f5,f6,f7⟩:=sqF8 hR;have HFN:=sqH (hR.all8 (aw aB 0 0) (aw aB 0 0) (ax ay 0) (ax ay 0) (ax ay 0) (aw aB 0 0) (az ⟨#[]⟩) (aw aB 0 0));have HB9:=sqH (zO (HBX.o.trans (Below.mono HB19.o wj)) (show gb<=gb+1 by omega) (aw aB 0 0) (aw aB 0 0) (ax ay 0) (ax ay 0) (ax ay 0) (aw aB 0 0) (az ⟨#[]⟩) (aw aB 0 0));clear hR
  refine wH ?_;intros;refine bodyPost_ret (zI rfl _ _ (gb+1) _ _ _ _ wu HFN.o underlying33 rfl wm) rfl ?_;rw [if_neg HZ.o];exact⟨_,_,_,_,rfl,OwLo.nil_,HB9.o⟩
 subst hz;have HFC:=sqH (fun W (h:Below w9.heap.size w9 W)=>kr F cF fs W wj (fun p hp=>by have:=(HG.o.f.all p hp).2.1;omega) (HRD.o W (wg HB19.o h)).f (HRD.o W (wg HB19.o h)).fc);have HZ9:=sqH (HBX.o.trans (HB19.o.mono (show gb<=w1.heap.size by omega)));have HRR:=sqH (HPX.o _ HB19.o).2;have hs9:wE.heap.size<=w9.heap.size:=HBQ.o.size;have HSB:=sqH (show ∀W,Below w9.heap.size w9 W->(wF W gb (aw X s.aE.length cX) (aw Y s.aF.length dY) (ax ay s.aH) (ax ay s.aG) (ax ay co.aJ) (aw G co.aI.length ng) (az ⟨co.at_.toArray⟩) (aw F fs.length cF))/\(wD W gs (aw X7 t.aE.length cX7) (aw Y7 t.aF.length dY7) (ax ay t.aH) (ax ay t.aG))/\(wC W (gs+1) (ax ay c2.aJ) (aw G7 c2.aI.length ng7) (az ⟨c2.at_.toArray⟩)) from fun W h=>by
  have h1:=(HPX.o W (wg HB19.o h)).1;obtain⟨h2,h3⟩:=HSC.o W h;exact⟨sqC8 h1,sqC4 h2,sqC3 h3⟩)
 refine wH ?_;intros;apply zE;intro REST;refine ze [6] (S:=(fun w'=>(wF w' gb (aw X s.aE.length cX) (aw Y s.aF.length dY) (ax ay s.aH) (ax ay s.aG) (ax ay co.aJ) (aw G co.aI.length ng) (az ⟨co.at_.toArray⟩) (aw F fs.length cF))/\(wD w' gs (aw X7 t.aE.length cX7) (aw Y7 t.aF.length dY7) (ax ay t.aH) (ax ay t.aG))/\(w'.cell? ⟨(gs+1),0,aB⟩=some (ax ay c2.aJ)/\w'.cell? ⟨(gs+1),1,aB⟩=some (aw G7 c2.aI.length ng7)/\w'.cell? ⟨(gs+1),2,aB⟩=some (az ⟨c2.at_.toArray⟩)))) wm ?_ (fun hHeld=> ?_)
 ·exact HSB.o _ (((wh w9)).drew)
 have hB:=((wh w9)).drew;have hz:=HZ9.o.drew;have hR:=HRR.o.below (Below.refl w9.heap.size w9).drew;have ho:=HO9.o.below (Below.refl w9.heap.size w9).drew;have hl:=zc HL9.o (Below.refl w9.heap.size w9).drew;generalize w9.drew=wn0 at *
 refine wO 0 ?_;refine wO 1 ?_;refine wP 2 ?_;refine wO 3 ?_;refine za (rs:= [4]) wm ws ?_;refine z8.cons (o:=_) rfl (fun K hK=> ?_) ?_
 ·
  go_simp;refine(HFC.o wn0 hB).mono ?_;rintro e5 w5 ⟨v5,rfl,hz5,hb5⟩;obtain⟨A6,c6,rfl, -, -⟩:=hz5.fls;dsimp only;refine zR hK ?_ (fun W=>Below w9.heap.size w9 W/\Arr W (gb+1) 33 [aw aB 0 0,aw aB 0 0,ax ay 0,ax ay 0,ax ay 0,aw aB 0 0,az ⟨#[]⟩,aw aB 0 0]/\Below gb w W/\OwSt W wE.heap.size (aw X7 t.aE.length cX7) (aw Y7 t.aF.length dY7) t (fun b=>b<wE.heap.size)/\W.ownsRow wE.heap.size 9 1 (aw G7 c2.aI.length ng7) c2.aI.length (strs c2.aI)/\FlsO W w9.heap.size (aw A6 fs.length c6) fs) (fun W=>True) ?_ ?_ (fun wn1 hHeld2 hF _=> ?_)
  ·exact HSB.o _ ((wg hB hb5))
  ·exact⟨wg hB hb5,hR.below hb5,hz.trans (hb5.mono (Nat.le_trans (show gb<=w9.heap.size by omega) hB.size)),ho.below hb5,zc hl hb5,hz5.lower hB.size⟩
  ·trivial
  clear hl ho hz hR hB hHeld;have hHeld:=hHeld2;clear hHeld2;obtain⟨hB,hR,hz,ho,hl,hf⟩:=hF;clear hb5 hz5;clear hK K
  refine wP 5 ?_;refine wS 6 fun K hK=>?_;obtain⟨z0,f0,z1,f1,z2,f2,z3,f3,z4,f4,z5,f5,z6,f6,z7,f7⟩:=wc hR;go_simp;clear z0 f0 z1 f1 z2 f2 z3 f3 z4 f4 z5 f5 z6 f6 z7 f7;refine vt hK (fun W=>Arr W (gb+1) 33 [aw X7 t.aE.length cX7,aw Y7 t.aF.length dY7,ax ay t.aH,ax ay t.aG,ax ay c2.aJ,aw G7 c2.aI.length ng7,az ⟨c2.at_.toArray⟩,(aw A6 fs.length c6)]/\Below gb w W/\OwSt W wE.heap.size (aw X7 t.aE.length cX7) (aw Y7 t.aF.length dY7) t (fun b=>b<wE.heap.size)/\W.ownsRow wE.heap.size 9 1 (aw G7 c2.aI.length ng7) c2.aI.length (strs c2.aI)/\FlsO W w9.heap.size (aw A6 fs.length c6) fs) (fun W=>True) ?_ ?_ (fun wn2 hF _=> ?_)
  ·exact⟨hR.all8 _ _ _ _ _ _ _ _,zO hz (show gb<=gb+1 by omega) _ _ _ _ _ _ _ _,ho.set8N (show gb+1<wE.heap.size by omega) (ho.nb hR wo wo).1 (ho.nb hR wo wo).2 _ _ _ _ _ _ _ _,q7 hl (zf hl hR wo) _ _ _ _ _ _ _ _,hf.set8 hR wo wo _ _ _ _ _ _ _ _⟩
  ·trivial
  clear hf hl ho hz hR hB hHeld;obtain⟨hR,hz,ho,hl,hf⟩:=hF
  clear hK K;refine wP 7 ?_;refine zp wm ?_ _
  try dsimp only [Exit.then]
  have hall:=aD hR (aD hz (aD ho (aD hl hf)));clear hf hl ho hz hR;generalize wn2=wz at hall ⊢
  revert hall;revert wz;revert c6;revert A6;exact REST.o
 exact z8.nil;intro A6 c6 wz hall;obtain⟨hR,hz,ho,hl,hf⟩:=hall
 refine wH ?_;intros;have hbE:gb<=wE.heap.size:=wj;have hb9:gb<=w9.heap.size:=wj;refine bodyPost_ret (zI rfl _ _ (gb+1) _ _ _ _ wu hR underlying33 rfl wm) rfl ?_;rw [if_pos rfl];exact⟨_,_,_,_,rfl,⟨(ho.lower hbE).mono (fun b hb=>wj),zb hl hbE,hf.lower hb9⟩,hz⟩
theorem Qf (p:LoW) (l:LoP) (key:ac) (w:World) (hg:GoodL l) (hr:RdLo w p l) :
  Calls zZZ 134 #[loV p l,az ⟨key.toArray⟩] w fun e w'=>∃v1 v2 v3 v4 u,e= .returned (.tuple #[Yk v1 v2 v3 v4 (yY l key).1,u,ax ay ((yY l key).2.2:Int)])/\OwLo w' w.heap.size v1 v2 v3 v4 (yY l key).1 (fun b=>b<w.heap.size)/\w'.ownsRow w.heap.size 3 1 u (yY l key).2.1.length (ins (yY l key).2.1)/\Below w.heap.size w w':=by
 have h:=Qe p l key w hg hr (xd l.fs key).1 (xd l.fs key).2.1 (xd l.fs key).2.2 rfl;unfold yY;by_cases hq:(xd l.fs key).2.2=0
 ·simp only [if_pos hq]at h ⊢
  rw [hq]at h;exact h
 ·simp only [if_neg hq]at h ⊢
  exact h
theorem YQ (p:LoW) (l:LoP) (key:ac) (ps:List PartP) (PA:ae) (pc:Nat) (w:World) (hg:GoodL l) (hr:RdLo w p l) (hk:hexC key=0) (hpz:chk ps=0) (hclk:l.st.aG<1099511627776) (hlen:l.st.aF.length<10) (hP:Sl w 3 PA ps.length pc (pcs ps)) :
  Calls zZZ 133 #[loV p l,az ⟨key.toArray⟩,aw PA ps.length pc] w fun e w'=>∃v1 v2 v3 v4 u,e= .returned (.tuple #[Yk v1 v2 v3 v4 (kL l key ps).1,u,ax ay ((kL l key ps).2.2:Int)])/\OwLo w' w.heap.size v1 v2 v3 v4 (kL l key ps).1 (fun b=>b<w.heap.size)/\w'.ownsRow w.heap.size 3 1 u (kL l key ps).2.1.length (ins (kL l key ps).2.1)/\Below w.heap.size w w':=by
 have h:=YP p l key ps PA pc w hg hr hk hpz hclk hlen hP (xd l.fs key).1 (xd l.fs key).2.1 (xd l.fs key).2.2 rfl (qx l.st l.co key ps).1 (qx l.st l.co key ps).2.1 (qx l.st l.co key ps).2.2 rfl _ rfl;unfold kL;by_cases hq:(xd l.fs key).2.2=0
 ·by_cases hz:(qx l.st l.co key ps).2.2=0
  ·rw [decide_eq_true ⟨hq,hz⟩]at h;simp only [if_pos hq,if_pos hz,if_true]at h ⊢
   rw [hz]at h;exact h
  ·rw [decide_eq_false (fun x=>hz x.2)]at h;simp only [if_pos hq,if_neg hz,Bool.false_eq_true,if_false]at h ⊢
   exact h
 ·rw [decide_eq_false (fun x=>hq x.1)]at h;simp only [if_neg hq,Bool.false_eq_true,if_false]at h ⊢
  exact h
theorem Ub (p:LoW) (l:LoP) (key:ac) (ps:List PartP) (PA:ae) (pc:Nat) (w:World) (hg:GoodL l) (hr:RdLo w p l) (hk:hexC key=0) (hpz:chk ps=0) (hclk:l.st.aG<1099511627776) (hlen:l.st.aF.length<10) (hP:Sl w 3 PA ps.length pc (pcs ps)) :
  Calls zZZ 127 #[loV p l,az ⟨key.toArray⟩,aw PA ps.length pc] w fun e w'=>∃v1 v2 v3 v4,e= .returned (.tuple #[Yk v1 v2 v3 v4 (YF l key ps).1,ax ay ((YF l key ps).2:Int)])/\OwLo w' w.heap.size v1 v2 v3 v4 (YF l key ps).1 (fun b=>b<w.heap.size)/\Below w.heap.size w w':=by
 unfold YF;cases hf:fnd 0 l.fs key with
 | some i =>
  refine(KQ p l key PA ps.length pc w hg hr i hf).mono ?_;rintro e w' ⟨he,hb⟩;exact⟨_,_,_,_,he,OwLo.nil_,hb⟩
 | none =>
  have h:=Ua p l key ps PA pc w hg hr hk hpz hclk hlen hP hf (qx l.st l.co key ps).1 (qx l.st l.co key ps).2.1 (qx l.st l.co key ps).2.2 rfl;simp only [Option.isSome_none,Bool.false_eq_true,if_false];by_cases hz:(qx l.st l.co key ps).2.2=0
  ·simp only [if_pos hz]at h ⊢
   rw [hz]at h;exact h
  ·simp only [if_neg hz]at h ⊢
   exact h
structure RepP where
 err:Nat
 dig:ac
 data:ac
 aL:List PartP
 n:Nat
 who:List Int
abbrev Yq (e:Nat):RepP:=⟨e, [], [], [],0, []⟩
open Classical in
noncomputable def pbP (s:StoP) (c:ColP) (D:ac):StoP×ColP×ac×Nat :=
 if Fits s D then ((zG (zH s D) c [shaS D]).1,(zG (zH s D) c [shaS D]).2,shaS D,0) else (stZ,coZ, [],7)
def atB (s:StoP) (k:ac):Option (Nat×BlobP):=(s.aE.findIdx? (fun b=>b.dig==k)).bind fun i=>(s.aE[i]?).map fun b=>(i,b)
def atE (s:StoP) (k:ac):Option (Nat×EntP):=(s.aF.findIdx? (fun x=>x.key==k)).bind fun i=>(s.aF[i]?).map fun x=>(i,x)
def gbP (s:StoP) (k:ac):ac×Nat:=match atB s k with | some (_,b)=>(b.data,0) | none=>([],5)
def mvB (n:Nat) (up:Bool):Bool:=if up then decide (n<5) else decide (0<n)
noncomputable def hbP (s:StoP) (c:ColP) (k:ac) (up:Bool):StoP×ColP×Nat:=match atB s k with
 | some (i,b)=>if mvB b.aM up then ((zG (kg s i b (mvN b.aM up)) c [k]).1,(zG (kg s i b (mvN b.aM up)) c [k]).2,0) else (stZ,coZ,noE up)
 | none=>(stZ,coZ,5)
def gtP (s:StoP) (k:ac):StoP×List PartP×Nat:=match atE s k with | some (i,x)=>(kz s i x,x.aL,0) | none=>(stZ, [],5)
def heP (s:StoP) (k:ac) (up:Bool):StoP×Nat:=match atE s k with
 | some (i,x)=>if mvB x.aM up then (ZM s i x (mvN x.aM up),0) else (stZ,noE up)
 | none=>(stZ,5)
noncomputable def evP (s:StoP) (n:Nat):StoP×Nat×Nat:=match kV n s with | some (t,g)=>(t,g.length,0) | none=>(stZ,0,10)
def ticks:Nat->StoP->ColP->Nat->StoP×ColP×Nat
 | 0,s,c,g=>(s,c,g)
 | n+1,s,c,g=>if c.aJ=0 then (s,c,g) else ticks n (zU s c).1 (zU s c).2.1 (g+if (zU s c).2.2= [] then 0 else 1)
def zJ (l:LoP) (s:StoP) (c:ColP) (e:Nat):LoP:=if e=0 then ⟨s,c,l.fs⟩ else l
def xI (l m:LoP) (e:Nat):LoP:=if e=0 then m else l
noncomputable def blobD (l:LoP) (o:OrdP):LoP×RepP :=
 if o.kind=1 then (zJ l (pbP l.st l.co o.data).1 (pbP l.st l.co o.data).2.1 (pbP l.st l.co o.data).2.2.2,⟨(pbP l.st l.co o.data).2.2.2,(pbP l.st l.co o.data).2.2.1, [], [],0, []⟩)
 else if o.kind=2 then (l,⟨(gbP l.st o.dig).2, [],(gbP l.st o.dig).1, [],0, []⟩)
 else (zJ l (hbP l.st l.co o.dig (decide (o.kind=3))).1 (hbP l.st l.co o.dig (decide (o.kind=3))).2.1 (hbP l.st l.co o.dig (decide (o.kind=3))).2.2,Yq (hbP l.st l.co o.dig (decide (o.kind=3))).2.2)
noncomputable def entD (l:LoP) (o:OrdP):LoP×RepP :=
 if o.kind=5 then (xI l (YF l o.dig o.aL).1 (YF l o.dig o.aL).2,Yq (YF l o.dig o.aL).2)
 else if o.kind=6 then (zJ l (gtP l.st o.dig).1 l.co (gtP l.st o.dig).2.2,⟨(gtP l.st o.dig).2.2, [], [],(gtP l.st o.dig).2.1,0, []⟩)
 else (zJ l (heP l.st o.dig (decide (o.kind=7))).1 l.co (heP l.st o.dig (decide (o.kind=7))).2,Yq (heP l.st o.dig (decide (o.kind=7))).2)
noncomputable def roomD (l:LoP) (o:OrdP):LoP×RepP :=
 if o.kind=9 then (zJ l (evP l.st o.n).1 l.co (evP l.st o.n).2.2,⟨(evP l.st o.n).2.2, [], [], [],(evP l.st o.n).2.1, []⟩)
 else if o.kind=10 then if l.co.aJ=0 then (⟨Xo l.st,UE l.st,l.fs⟩,Yq 0) else (l,Yq 6)
 else if l.co.aJ=0 then (l,Yq 11)
 else (⟨(ticks o.n l.st l.co 0).1,(ticks o.n l.st l.co 0).2.1,l.fs⟩,⟨0, [], [], [],(ticks o.n l.st l.co 0).2.2, []⟩)
def xF (fs:List FlP) (k:ac):Bool:=fs.any fun f=>f.key==k
noncomputable def fliD (l:LoP) (o:OrdP):LoP×RepP :=
 if o.kind=12 then (xI l (jL l o.dig o.n).1 (jL l o.dig o.n).2.2.2,⟨(jL l o.dig o.n).2.2.2, [], [],(jL l o.dig o.n).2.1,if (jL l o.dig o.n).2.2.2≠0 then 0 else if (jL l o.dig o.n).2.2.1 then 1 else if xF (jL l o.dig o.n).1.fs o.dig then 2 else 0, []⟩)
 else if o.kind=13 then (xI l (kL l o.dig o.aL).1 (kL l o.dig o.aL).2.2,⟨(kL l o.dig o.aL).2.2, [], [], [],0,(kL l o.dig o.aL).2.1⟩)
 else (xI l (yY l o.dig).1 (yY l o.dig).2.2,⟨(yY l o.dig).2.2, [], [], [],0,(yY l o.dig).2.1⟩)
noncomputable def qt (l:LoP) (o:OrdP):LoP×RepP :=
 if o.kind<=4 then blobD l o else if o.kind<=8 then entD l o else if o.kind<=11 then roomD l o else fliD l o
noncomputable def qI:LoP->List OrdP->LoP×List RepP
 | l, []=>(l, [])
 | l,o::os=>((qI (qt l o).1 os).1,(qt l o).2::(qI (qt l o).1 os).2)
theorem Z3:∀(l:LoP) (a b:List OrdP),qI l (a++b)=((qI (qI l a).1 b).1,(qI l a).2++(qI (qI l a).1 b).2)
 | l, [],b=>rfl
 | l,o::a,b=>by
  show((qI (qt l o).1 (a++b)).1,(qt l o).2::(qI (qt l o).1 (a++b)).2)=_
  rw [Z3 (qt l o).1 a b]
  rfl
theorem Q2 (l:LoP) (a:List OrdP) (o:OrdP):qI l (a++ [o])=((qt (qI l a).1 o).1,(qI l a).2++ [(qt (qI l a).1 o).2]):=Z3 l a [o]
theorem Z4:∀(l:LoP) (a:List OrdP),(qI l a).2.length=a.length
 | l, []=>rfl
 | l,o::a=>by show(qI (qt l o).1 a).2.length+1=_;rw [Z4 _ a];rfl
theorem jM {b:BlobP} (h:atB s k=some (i,b)):∃hi:i<s.aE.length,s.aE[i]=b/\b.dig=k/\s.aE.findIdx? (fun b=>b.dig==k)=some i:=by
 unfold atB at h;cases hf:s.aE.findIdx? (fun b=>b.dig==k) with
 | none=>rw [hf]at h;cases h
 | some j =>
  obtain⟨hj,h1,_⟩:=List.findIdx?_eq_some_iff_getElem.1 hf;rw [hf]at h;simp only [Option.bind_some,List.getElem?_eq_getElem hj,Option.map_some,Option.some.injEq,Prod.mk.injEq]at h;obtain⟨rfl,rfl⟩:=h;exact⟨hj,rfl,by simpa using h1,rfl⟩
theorem K2 (h:atB s k=none):∀b∈s.aE,b.dig≠k:=by
 unfold atB at h;cases hf:s.aE.findIdx? (fun b=>b.dig==k) with
 | none=>rw [List.findIdx?_eq_none_iff]at hf;exact fun b hb=>by simpa using hf b hb
 | some j =>
  obtain⟨hj,h1,_⟩:=List.findIdx?_eq_some_iff_getElem.1 hf;rw [hf]at h;simp [List.getElem?_eq_getElem hj]at h
theorem vB {x:EntP} (h:atE s k=some (i,x)):∃hi:i<s.aF.length,s.aF[i]=x/\x.key=k/\s.aF.findIdx? (fun x=>x.key==k)=some i:=by
 unfold atE at h;cases hf:s.aF.findIdx? (fun x=>x.key==k) with
 | none=>rw [hf]at h;cases h
 | some j =>
  obtain⟨hj,h1,_⟩:=List.findIdx?_eq_some_iff_getElem.1 hf;rw [hf]at h;simp only [Option.bind_some,List.getElem?_eq_getElem hj,Option.map_some,Option.some.injEq,Prod.mk.injEq]at h;obtain⟨rfl,rfl⟩:=h;exact⟨hj,rfl,by simpa using h1,rfl⟩
theorem K3 (h:atE s k=none):∀x∈s.aF,x.key≠k:=by
 unfold atE at h;cases hf:s.aF.findIdx? (fun x=>x.key==k) with
 | none=>rw [List.findIdx?_eq_none_iff]at hf;exact fun b hb=>by simpa using hf b hb
 | some j =>
  obtain⟨hj,h1,_⟩:=List.findIdx?_eq_some_iff_getElem.1 hf;rw [hf]at h;simp [List.getElem?_eq_getElem hj]at h
theorem XR (hs:RisesBy (·.dig) s.aE) (ht:RisesBy (·.dig) t.aE) (h:GoodC s c) (hb:∀b∈t.aE,b∈s.aE) (hr:∀x∈rts t,x∈rts s):GoodC t c:=by
 have hm:∀x,InB t.aE x->x∈mkd s.aE->x∈mkd t.aE:=fun x ⟨b,hb1,hx⟩ hx2=>by
  obtain⟨a,ha,hm,e⟩:=qD.1 hx2;have:a=b:=hs.inj ha (hb b hb1) (e.trans hx.symm);subst this;exact qD.2 ⟨a,hb1,hm,e⟩
 refine⟨h.ph,h.gh,h.ris,h.ah,h.g0,h.a0,fun h1 x hx hi=> ?_,fun h1 b hb1 hm1 x hx hi=> ?_,fun h1 x hx=> ?_⟩
 ·exact(h.mr h1 x (hr x hx) (hi.sub hb)).imp (hm x hi) id
 ·rw [vG hs ht hb ⟨b,hb1,rfl⟩]at hx;exact(h.mb h1 b (hb b hb1) hm1 x hx (hi.sub hb)).imp (hm x hi) id
 ·exact hm x hx.inB (h.sw h1 x (hx.sub hs ht hb hr))
theorem z1s (hb:∀b∈t.aE,b∈s.aE) (he:∀x∈t.aF,x∈s.aF):∀x∈rts t,x∈rts s:=fun x hx=>by
 rcases List.mem_append.1 hx with h1 | h1
 ·obtain⟨y,hy,h2⟩:=List.mem_flatMap.1 h1
  exact List.mem_append_left _ (List.mem_flatMap.2 ⟨y,he y hy,h2⟩)
 ·obtain⟨b,hb1,rfl⟩:=List.mem_map.1 h1
  obtain⟨h2,h3⟩:=List.mem_filter.1 hb1
  exact List.mem_append_right _ (List.mem_map.2 ⟨b,List.mem_filter.2 ⟨hb b h2,h3⟩,rfl⟩)
theorem Kg {more:Nat}:∀(n:Nat) (s t:StoP) (g g':List ac),uK more n s g=some (t,g')->t.aE.Sublist s.aE/\t.aF.Sublist s.aF
 | 0,s,t,g,g',h=>by unfold uK at h;cases h
 | n+1,s,t,g,g',h=>by
  unfold uK at h
  split at h
  ·cases h;exact⟨.refl _,.refl _⟩
  ·split at h
   ·cases h
   ·split at h
    ·cases h
    ·rename_i i _ x _
     obtain⟨a,b⟩:=Kg n _ t _ g' h
     exact⟨a.trans (List.filter_sublist),b.trans (List.eraseIdx_sublist ..)⟩
theorem XK (h:kV more s=some (t,g)):t.aE.Sublist s.aE/\t.aF.Sublist s.aF:=by
 unfold kV at h;split at h
 ·cases h;exact⟨.refl _,.refl _⟩
 ·obtain⟨a,b⟩:=Kg _ _ _ _ _ h;exact⟨a.trans List.filter_sublist,b⟩
theorem XI {more:Nat}:∀(n:Nat) (s t:StoP) (g g':List ac),uK more n s g=some (t,g')->t.aH=s.aH/\t.aG=s.aG
 | 0,s,t,g,g',h=>by unfold uK at h;cases h
 | n+1,s,t,g,g',h=>by
  unfold uK at h
  split at h
  ·cases h;exact⟨rfl,rfl⟩
  ·split at h
   ·cases h
   ·split at h
    ·cases h
    ·obtain⟨a,b⟩:=XI n _ t _ g' h
     exact⟨a,b⟩
theorem Kh (h:kV more s=some (t,g)):t.aH=s.aH/\t.aG=s.aG:=by
 unfold kV at h;split at h
 ·cases h;exact⟨rfl,rfl⟩
 ·obtain⟨a,b⟩:=XI _ _ _ _ _ h;exact⟨a,b⟩
theorem Bsy.of (h:Bsy m s c) (hg:GoodS t) (hc:GoodC t c) (hu:unm t.aE<=unm s.aE) (hk:∀x∈t.aF,∃y∈s.aF,y.key=x.key) (hck:t.aG<=s.aG):Bsy m t c :=
 ⟨hg,hc,by have:=h.gr;omega,fun x hx=>by obtain⟨y,hy,e⟩:=hk x hx;rw [<-e];exact h.k7 y hy,by have:=h.ck;omega⟩
theorem LInv.keep (h:LInv m l) (hb:Bsy m s c) (hk:∀x∈s.aF,∃y∈l.st.aF,y.key=x.key):LInv m ⟨s,c,l.fs⟩ :=
 ⟨hb,h.f,fun p hp x hx=>by obtain⟨y,hy,e⟩:=hk x hx;rw [<-e];exact h.ap p hp y hy,h.k7⟩
theorem Bsy.ticks {m:Nat}:∀(n:Nat) (s:StoP) (c:ColP) (g:Nat),Bsy m s c->Bsy m (ticks n s c g).1 (ticks n s c g).2.1/\(ticks n s c g).1.aF=s.aF
 | 0,s,c,g,h=>⟨h,rfl⟩
 | n+1,s,c,g,h=>by
  unfold Go.Proofs.YtcjndgldjhmbgaaGreat.ticks
  by_cases hp:c.aJ=0
  ·rw [if_pos hp];exact⟨h,rfl⟩
  ·rw [if_neg hp]
   have hp2:c.aJ=1\/c.aJ=2:=by have:=h.gc.ph;omega
   obtain⟨h1,h2,_,h4,h5,h6⟩:=Q5 h.g h.gc hp2
   have h7:=Q6 s c
   obtain⟨a,b⟩:=Bsy.ticks (m:=m) n (zU s c).1 (zU s c).2.1 (g+if (zU s c).2.2= [] then 0 else 1) ⟨h1,h2,by have:=h.gr;omega,by rw [h4];exact h.k7,by rw [h6];exact h.ck⟩
   exact⟨a,b.trans h4⟩
theorem JI (s:StoP) (c:ColP) (ds:List ac):(zG s c ds).1.aF=s.aF:=by rw [kD]
theorem Yh (hi:i<s.aF.length):rts (ZM s i s.aF[i] n)=rts s:=by
 show ux (s.aF.set i { s.aF[i] with aM:=n })++uH s.aE=ux s.aF++uH s.aE;rw [Ky (x:= { s.aF[i] with aM:=n }) hi rfl]
theorem V8 (h:mvB n up=true) (h5:n<=5):mvN n up<=5:=by
 unfold mvB at h;unfold mvN;cases up<;>simp at h ⊢ <;> omega
theorem Ko (up:Bool):noE up≠0:=by cases up<;>decide
theorem z1a {D:ac} (hg:GoodS s) (hd:D.length<=300) (h:¬Fits s D):QZ s D:=(z1b hg hd).resolve_left h
theorem LInv.blobD (h:LInv m l) (ho:GoodD o):LInv (m+1) (blobD l o).1:=by
 have hu:=h.up (Nat.le_succ m);unfold Go.Proofs.YtcjndgldjhmbgaaGreat.blobD;by_cases h1:o.kind=1
 ·rw [if_pos h1];show LInv _ (zJ _ _ _ _);unfold pbP zJ;by_cases hf:Fits l.st o.data
  ·rw [if_pos hf,if_pos rfl];exact hu.keep (h.b.put hf) fun x hx=>⟨x,by rwa [JI]at hx,rfl⟩
  ·rw [if_neg hf,if_neg ws];exact hu
 ·rw [if_neg h1];by_cases h2:o.kind=2
  ·rw [if_pos h2];exact hu
  ·rw [if_neg h2];show LInv _ (zJ _ _ _ _);unfold hbP;cases hat:atB l.st o.dig with
   | none =>
    show LInv _ (zJ l stZ coZ 5);unfold zJ;rw [if_neg wo];exact hu
   | some ib =>
    obtain⟨i,b⟩:=ib;obtain⟨hi,rfl,hk,_⟩:=jM hat
    dsimp only;by_cases hmv:mvB l.st.aE[i].aM (decide (o.kind=3))=true
    ·rw [if_pos hmv];show LInv _ (zJ l _ _ 0);unfold zJ;rw [if_pos rfl,<-hk];exact hu.keep (h.b.hold hi (V8 hmv ((h.b.g.b.one _ (List.getElem_mem hi)).2.2))) fun x hx=>⟨x,by rwa [JI]at hx,rfl⟩
    ·rw [if_neg hmv];show LInv _ (zJ l stZ coZ (noE _));unfold zJ;rw [if_neg (Ko _)];exact hu
theorem LInv.entD (h:LInv m l) (hm:m<=78) (ho:GoodD o) (h58:5<=o.kind/\o.kind<=8):LInv (m+1) (entD l o).1:=by
 have hu:=h.up (Nat.le_succ m);unfold Go.Proofs.YtcjndgldjhmbgaaGreat.entD;by_cases h1:o.kind=5
 ·rw [if_pos h1];show LInv _ (xI _ _ _);unfold xI;split
  ·rename_i h0;exact h.put hm (ho.k7 (.inl h58)) ho.g.p1 h0
  ·exact hu
 ·rw [if_neg h1];by_cases h2:o.kind=6
  ·rw [if_pos h2];show LInv _ (zJ _ _ _ _);unfold gtP;cases hat:atE l.st o.dig with
   | none =>
    show LInv _ (zJ l stZ l.co 5);unfold zJ;rw [if_neg wo];exact hu
   | some ix =>
    obtain⟨i,x⟩:=ix;obtain⟨hi,rfl,hk,_⟩:=vB hat
    show LInv _ (zJ l _ l.co 0);unfold zJ;rw [if_pos rfl];exact h.get wj hi
  ·rw [if_neg h2];show LInv _ (zJ _ _ _ _);unfold heP;cases hat:atE l.st o.dig with
   | none =>
    show LInv _ (zJ l stZ l.co 5);unfold zJ;rw [if_neg wo];exact hu
   | some ix =>
    obtain⟨i,x⟩:=ix;obtain⟨hi,rfl,hk,_⟩:=vB hat
    dsimp only;by_cases hmv:mvB l.st.aF[i].aM (decide (o.kind=7))=true
    ·rw [if_pos hmv];show LInv _ (zJ l _ _ 0);unfold zJ;rw [if_pos rfl];have hkx:∀x∈(ZM l.st i l.st.aF[i] (mvN l.st.aF[i].aM (decide (o.kind=7)))).aF,∃y∈l.st.aF,y.key=x.key:=fun x hx=>yZ (x:= { l.st.aF[i] with aM:=mvN l.st.aF[i].aM (decide (o.kind=7)) }) hi rfl hx;exact hu.keep (hu.b.of (Qy h.b.g hi (V8 hmv ((h.b.g.e.one _ (List.getElem_mem hi)).2.2.1))) (xN h.b.gc rfl fun x hx=>by rwa [Yh hi]at hx) ab hkx ab) hkx
    ·rw [if_neg hmv];show LInv _ (zJ l stZ _ (noE _));unfold zJ;rw [if_neg (Ko _)];exact hu
theorem LInv.roomD (h:LInv m l):LInv m (roomD l o).1:=by
 unfold Go.Proofs.YtcjndgldjhmbgaaGreat.roomD;by_cases h1:o.kind=9
 ·rw [if_pos h1];show LInv _ (zJ _ _ _ _);unfold evP;cases he:kV o.n l.st with
  | none =>
   show LInv m (zJ l stZ l.co 10);unfold zJ;rw [if_neg wo];exact h
  | some tg =>
   obtain⟨t,g⟩:=tg;show LInv m (zJ l t l.co 0);unfold zJ;rw [if_pos rfl];obtain⟨a1,_,_,_,a5⟩:=j8 h.b.g he;obtain⟨b1,b2⟩:=XK he;exact h.keep (h.b.of a1 (XR h.b.g.b.ris a1.b.ris h.b.gc (fun b hb=>b1.subset hb) (z1s (fun b hb=>b1.subset hb) fun x hx=>b2.subset hx)) ((b1.filter _).length_le) (fun x hx=>⟨x,b2.subset hx,rfl⟩) (by rw [a5];exact Nat.le_refl _)) fun x hx=>⟨x,b2.subset hx,rfl⟩
 ·rw [if_neg h1];by_cases h2:o.kind=10
  ·rw [if_pos h2];split
   ·exact h.keep h.b.begin fun x hx=>⟨x,hx,rfl⟩
   ·exact h
  ·rw [if_neg h2];split
   ·exact h
   ·obtain⟨a,b⟩:=Bsy.ticks o.n l.st l.co 0 h.b;exact h.keep a fun x hx=>⟨x,by rwa [b]at hx,rfl⟩
theorem LInv.fliD (h:LInv m l) (hm:m<=78) (ho:GoodD o) (h12:12<=o.kind):LInv (m+1) (fliD l o).1:=by
 have hu:=h.up (Nat.le_succ m);unfold Go.Proofs.YtcjndgldjhmbgaaGreat.fliD;by_cases h1:o.kind=12
 ·rw [if_pos h1];show LInv _ (xI _ _ _);unfold xI;split
  ·rename_i h0;exact h.ask hm (ho.k7 (.inr h12)) (by have:=(ho.ask h1).1;omega) (by have:=(ho.ask h1).2;omega) h0
  ·exact hu
 ·rw [if_neg h1];by_cases h2:o.kind=13
  ·rw [if_pos h2];show LInv _ (xI _ _ _);unfold xI;split
   ·rename_i h0;exact h.done hm (ho.k7 (.inr h12)) ho.g.p1 h0
   ·exact hu
  ·rw [if_neg h2];show LInv _ (xI _ _ _);unfold xI;split
   ·rename_i h0;exact h.fail h0
   ·exact hu
theorem LInv.step (h:LInv m l) (hm:m<=78) (ho:GoodD o):LInv (m+1) (qt l o).1:=by
 unfold qt;split
 ·exact h.blobD ho
 ·split
  ·exact h.entD hm ho wj
  ·split
   ·exact h.roomD.up (Nat.le_succ m)
   ·exact h.fliD hm ho wj
theorem LInv.run:∀ {m:Nat} {l:LoP} {os:List OrdP},LInv m l->m+os.length<=79->(∀o∈os,GoodD o)->LInv (m+os.length) (qI l os).1
 | m,l, [],h,_,_=>h
 | m,l,o::os,h,hm,ho=>by
  simp only [List.length_cons]at hm ⊢
  have:=(h.step wj (ho o (List.mem_cons_self ..))).run (os:=os) wj fun x hx=>ho x (List.mem_cons_of_mem _ hx)
  rw [show m+(os.length+1)=m+1+os.length by omega]
  exact this
abbrev lo0 (aH:Nat):LoP:=⟨⟨[], [],aH,0⟩,⟨0, [], []⟩, []⟩
theorem LInv.zero {aH:Nat} (h:aH<=4000):LInv 0 (lo0 aH):=by
 have hg:GoodS ⟨[], [],aH,0⟩:=⟨⟨ws,(fun b hb=>by cases hb),List.Pairwise.nil⟩,⟨ws,(fun b hb=>by cases hb),List.Pairwise.nil⟩,h,by simp [usd],ws,(fun x hx=>by cases hx)⟩
 have hc:GoodC ⟨[], [],aH,0⟩ ⟨0, [], []⟩:=⟨ws,(fun d hd=>by cases hd),List.Pairwise.nil,.inl rfl,fun _=>rfl,fun _=>rfl,(fun h=>by cases h),(fun h=>by cases h),(fun h=>by cases h)⟩
 exact⟨⟨hg,hc,by simp [unm],(fun x hx=>by cases hx),ws⟩,GoodF.nil_,(fun p hp=>by cases hp),(fun p hp=>by cases hp)⟩
abbrev z1x (A:ae) (c:Nat) (B:ae) (d:Nat) (s:StoP):Value:= .agg #[aw A s.aE.length c,aw B s.aF.length d,ax .i64 s.aH,ax .i64 s.aG]
structure OwSC (w:World) (base:Nat) (v1 v2 v3:Value) (s:StoP) (c:ColP):Prop where
 s:OwSt w base v1 v2 s (fun b=>b<base)
 c:w.ownsRow base 9 1 v3 c.aI.length (strs c.aI)
theorem OwSt.z_ {N:ai}:OwSt w base (aw none 0 0) (aw none 0 0) stZ N:=OwLo.nil_.s
theorem OwSC.z_:OwSC w base (aw none 0 0) (aw none 0 0) (aw none 0 0) stZ coZ:=⟨.z_,World.ownsRow_nil _ _ _ _⟩
theorem VE {v1 v2:Value} (h:t.aH=s.aH/\t.aG=s.aG):stV v1 v2 t=stV v1 v2 s:=by
 show Value.agg _=_;rw [h.1,h.2]
section
variable (A:ae) (c:Nat) (B:ae) (d:Nat) (s:StoP) (Ag:ae) (ng:Nat) (cp:ColP) (w:World)
theorem VZ (D:ac) (DA:ae) (dc:Nat) (hg:GoodS s) (hr:RdSt w A c B d s) (hgl:cp.aI.length<=1000) (hgc:GoodC s cp) (hc:RdC w Ag ng cp) (hd:D.length<=300) (hD:Sl w 1 DA D.length dc (bys D)) :
  Calls zZZ 122 #[z1x A c B d s,coV (aw Ag cp.aI.length ng) cp,aw DA D.length dc] w fun e w' =>
   ∃v1 v2 v3,e= .returned (.tuple #[stV v1 v2 (pbP s cp D).1,coV v3 (pbP s cp D).2.1,az ⟨(pbP s cp D).2.2.1.toArray⟩,ax .i64 ((pbP s cp D).2.2.2:Int)])/\OwSC w' w.heap.size v1 v2 v3 (pbP s cp D).1 (pbP s cp D).2.1/\Below w.heap.size w w':=by
 unfold pbP;by_cases hf:Fits s D
 ·rw [if_pos hf];refine(Qa A c B d s Ag ng cp D DA dc w hg hr hgl hgc hc hf hD).mono ?_;rintro e w' ⟨v1,v2,v3,rfl,h1,h2,h3⟩;exact⟨v1,v2,v3,by rw [VE (yL (zH s D) cp [shaS D])];rfl,⟨h1,h2⟩,h3⟩
 ·rw [if_neg hf];refine(jD A c B d s Ag ng cp D DA dc w hg hr hgl hgc hc hd (z1a hg hd hf) hD).mono ?_;rintro e w' ⟨rfl,h3⟩;exact⟨_,_,_,rfl,.z_,h3⟩
theorem VY (k:ac) (hg:GoodS s) (hr:RdSt w A c B d s) :
  Calls zZZ 124 #[z1x A c B d s,az ⟨k.toArray⟩] w fun e w' =>
   ∃v,e= .returned (.tuple #[v,ax .i64 ((gbP s k).2:Int)])/\w'.ownsRow w.heap.size 5 1 v (gbP s k).1.length (bys (gbP s k).1)/\Below w.heap.size w w':=by
 unfold gbP;cases hat:atB s k with
 | none =>
  refine(Zi A c B d s k w hg hr (K2 hat)).mono ?_;rintro e w' ⟨rfl,h3⟩;exact⟨_,rfl,World.ownsRow_nil _ _ _ _,h3⟩
 | some ib =>
  obtain⟨i,b⟩:=ib;obtain⟨hi,rfl,hk,_⟩:=jM hat
  refine(KT A c B d s k i w hg hr hi hk).mono ?_;rintro e w' ⟨v,rfl,h2,h3⟩;exact⟨v,rfl,h2,h3⟩
theorem Jb (h5:n<=5):(mvB n up=true->if up then n<5 else 0<n/\n<=5)/\(¬mvB n up=true->if up then n=5 else n=0):=by
 unfold mvB;cases up<;>simp<;>omega
theorem YL (k:ac) (up:Bool) (hg:GoodS s) (hr:RdSt w A c B d s) (hgl:cp.aI.length<=1000) (hgc:GoodC s cp) (hc:RdC w Ag ng cp) :
  Calls zZZ 125 #[z1x A c B d s,coV (aw Ag cp.aI.length ng) cp,az ⟨k.toArray⟩,.bool up] w fun e w' =>
   ∃v1 v2 v3,e= .returned (.tuple #[stV v1 v2 (hbP s cp k up).1,coV v3 (hbP s cp k up).2.1,ax .i64 ((hbP s cp k up).2.2:Int)])/\OwSC w' w.heap.size v1 v2 v3 (hbP s cp k up).1 (hbP s cp k up).2.1/\Below w.heap.size w w':=by
 unfold hbP;cases hat:atB s k with
 | none =>
  refine(QU A c B d s Ag ng cp k up 5 w hg hr hgl hgc hc wo fun W h=>KU A c B d s k up W hg h (K2 hat)).mono ?_;rintro e w' ⟨rfl,h3⟩;exact⟨_,_,_,rfl,.z_,h3⟩
 | some ib =>
  obtain⟨i,b⟩:=ib;obtain⟨hi,rfl,hk,_⟩:=jM hat
  dsimp only;have h5:=(hg.b.one _ (List.getElem_mem hi)).2.2;by_cases hmv:mvB s.aE[i].aM up=true
  ·rw [if_pos hmv];refine(VU A c B d s Ag ng cp k up i w hg hr hgl hgc hc hi hk ((Jb h5).1 hmv) _ rfl (un hg hi (V8 hmv h5))).mono ?_;rintro e w' ⟨v1,v2,v3,rfl,h1,h2,h3⟩;exact⟨v1,v2,v3,by rw [VE (yL _ cp [k])];rfl,⟨h1,h2⟩,h3⟩
  ·rw [if_neg hmv];refine(QU A c B d s Ag ng cp k up (noE up:Int) w hg hr hgl hgc hc (bne_iff_ne.1 (Va up)) fun W h=>Uf A c B d s k up i W hg h hi hk ((Jb h5).2 hmv)).mono ?_;rintro e w' ⟨rfl,h3⟩;exact⟨_,_,_,rfl,.z_,h3⟩
theorem z5b (k:ac) (hg:GoodS s) (hr:RdSt w A c B d s) (hck:s.aG<1099511627776) :
  Calls zZZ 128 #[z1x A c B d s,az ⟨k.toArray⟩] w fun e w' =>
   ∃v1 v2 vp,e= .returned (.tuple #[stV v1 v2 (gtP s k).1,vp,ax .i64 ((gtP s k).2.2:Int)])/\OwSt w' w.heap.size v1 v2 (gtP s k).1 (fun b=>b<w.heap.size)/\w'.ownsRow w.heap.size 51 3 vp (gtP s k).2.1.length (pcs (gtP s k).2.1)/\Below w.heap.size w w':=by
 unfold gtP;cases hat:atE s k with
 | none =>
  refine(YR A c B d s k w hg hr (K3 hat)).mono ?_;rintro e w' ⟨rfl,h3⟩;exact⟨_,_,_,rfl,.z_,World.ownsRow_nil _ _ _ _,h3⟩
 | some ib =>
  obtain⟨i,b⟩:=ib;obtain⟨hi,rfl,hk,_⟩:=vB hat
  refine(Ud A c B d s (kz s i s.aF[i]) k s.aF[i].aL i w hg hr hi hk rfl hck rfl).mono ?_;rintro e w' ⟨A',c',B',d',A5,c5,rfl,h1,h2,h3⟩;exact⟨_,_,_,rfl,h1,h2,h3⟩
theorem z4k (k:ac) (up:Bool) (hg:GoodS s) (hr:RdSt w A c B d s) :
  Calls zZZ 129 #[z1x A c B d s,az ⟨k.toArray⟩,.bool up] w fun e w' =>
   ∃v1 v2,e= .returned (.tuple #[stV v1 v2 (heP s k up).1,ax .i64 ((heP s k up).2:Int)])/\OwSt w' w.heap.size v1 v2 (heP s k up).1 (fun b=>b<w.heap.size)/\Below w.heap.size w w':=by
 unfold heP;cases hat:atE s k with
 | none =>
  refine(KV A c B d s k up w hg hr (K3 hat)).mono ?_;rintro e w' ⟨rfl,h3⟩;exact⟨_,_,rfl,.z_,h3⟩
 | some ib =>
  obtain⟨i,b⟩:=ib;obtain⟨hi,rfl,hk,_⟩:=vB hat
  dsimp only;have h5:=(hg.e.one _ (List.getElem_mem hi)).2.2.1;by_cases hmv:mvB s.aF[i].aM up=true
  ·rw [if_pos hmv];refine(Ui A c B d s k up i w hg hr hi hk ((Jb h5).1 hmv)).mono ?_;rintro e w' ⟨v1,v2,rfl,h1,h3⟩;exact⟨v1,v2,rfl,h1,h3⟩
  ·rw [if_neg hmv];refine(Uh A c B d s k up i w hg hr hi hk ((Jb h5).2 hmv)).mono ?_;rintro e w' ⟨rfl,h3⟩;exact⟨_,_,rfl,.z_,h3⟩
end
end Go.Proofs.YtcjndgldjhmbgaaGreat
