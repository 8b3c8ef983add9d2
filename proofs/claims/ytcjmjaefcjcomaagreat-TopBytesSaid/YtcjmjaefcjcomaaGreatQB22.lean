/- Lemmas, as stated. -/
import Derived.Test.YtcjmjaefcjcomaaGreatQB21
set_option linter.unusedVariables false
set_option linter.unusedSimpArgs false
set_option maxRecDepth 100000
set_option maxHeartbeats 16000000
open Go.Proofs.Tryz
open Go.Value renaming slice->aA,int->aB,string->aD
open Go.IntKind renaming i64->aC
open Option renaming none->aF,some->aG
open Go.Proofs.Tryz renaming prog->zZZ
open Go.Obj renaming cells->aE
open And renaming intro->aH
namespace Go.Proofs.YtcjmjaefcjcomaaGreat
open Go.RowKit
variable {l:List EntP} {fs:List FlP} {base g h' k n size:Nat} {s:StoP} {e:TypeId} {dv pv v wv x0 x1 x2 x3 x4 x5:Value} {w w':World} {A:aj} {xs:ak} {N:am}
theorem Vf {base' size' n':Nat} {e':TypeId} {v':Value} {xs':ak} (h:w.ownsRow base e size v n xs) (h':w.ownsRow base' e' size' v' n' xs') (hne:e≠e'):∀b,v.ownBlock=aG b->v'.ownBlock≠aG b:=fun b hb hb'=>by
 rcases h.2 with ⟨rfl,_⟩ | ⟨g,cap,cur,rfl,_,h2,_⟩
 ·cases hb
 ·cases hb
  rcases h'.2 with ⟨rfl,_⟩ | ⟨g',cap',cur',rfl,_,h3,_⟩
  ·cases hb'
  ·cases hb'
   have h4:=Eq.trans (Eq.symm h2) h3
   simp only [Option.some.injEq,Obj.cells.injEq]at h4
   exact hne h4.2.1
theorem RwX.own {α:Type} {S:Shp α} {l:List α} (h:RwX S e w base v l N):∃xs,w.ownsRow base e S.size v l.length xs:=by
 obtain⟨ps,_,_,h3,_⟩:=h;exact⟨_,h3⟩
theorem OwSt.turnE {v1 v2 v2':Value} (h:OwSt w base v1 v2 s N) (hb:RwX EntS 120 w' base v2' l (fun g=>N g\/v1.ownBlock=aG g)) (hg:w.grownBy w' v2.ownBlock) (ho:v2'.ownBlock=v2.ownBlock) :
  OwSt w' base v1 v2' { s with aJ:=l } N :=
 ⟨by rw [ho];exact h.b.other hg (fun b e1 e2=>h.ne b e2 e1) (fun b e=> .inr e),hb,fun g e1 e2=>h.ne g e1 (by rw [<-ho];exact e2)⟩
structure RunW (w:World) (B G:Nat) (v1 v2 v3:Value) (t:StoP) (g:List ai):Prop where
 box:Arr w G 38 [v1,v2,aB aC t.aL,aB aC t.aK]
 st:OwSt w B v1 v2 t (fun b=>b<B\/b=G\/v3.ownBlock=aG b)
 gone:w.ownsRow B 9 1 v3 g.length (strs g)
 gB:B<=G
section
variable {w w':World} {B G:Nat} {v1 v2 v3 v1' v2' v3':Value} {t:StoP} {g:List ai}
theorem RunW.below (h:RunW w B G v1 v2 v3 t g) (hb:Below w.heap.size w w'):RunW w' B G v1 v2 v3 t g:=⟨h.box.below hb,h.st.below hb,zc h.gone hb,h.gB⟩
theorem RunW.n1 (h:RunW w B G v1 v2 v3 t g):∀b,v3.ownBlock=aG b->v1.ownBlock≠aG b:=by
 obtain⟨xs,hx⟩:=h.st.b.own;exact Vf h.gone hx aa
theorem RunW.n2 (h:RunW w B G v1 v2 v3 t g):∀b,v3.ownBlock=aG b->v2.ownBlock≠aG b:=by
 obtain⟨xs,hx⟩:=h.st.e.own;exact Vf h.gone hx aa
theorem RunW.n3 (h:RunW w B G v1 v2 v3 t g):v3.ownBlock≠aG G:=zf h.gone h.box aa
theorem RunW.n4 (h:RunW w B G v1 v2 v3 t g):v1.ownBlock≠aG G:=by
 obtain⟨xs,hx⟩:=h.st.b.own;exact zf hx h.box aa
theorem RunW.n5 (h:RunW w B G v1 v2 v3 t g):v2.ownBlock≠aG G:=by
 obtain⟨xs,hx⟩:=h.st.e.own;exact zf hx h.box aa
theorem RunW.lt (h:RunW w B G v1 v2 v3 t g):G<w.heap.size:=h.box.lt
theorem RunW.key (h:RunW w B G v1 v2 v3 t g) {g':List ai} (ho:w'.ownsRow B 9 1 v3' g'.length (strs g')) (hg:w.grownBy w' v3.ownBlock) (hv:v3'.ownBlock=v3.ownBlock\/∃b,v3'.ownBlock=aG b/\w.heap.size<=b):RunW w' B G v1 v2 v3' t g':=by
 have h1:OwSt w B v1 v2 t (fun b=>b<B\/b=G\/v3'.ownBlock=aG b\/v3.ownBlock=aG b):=h.st.wider fun b hb=>by
  rcases hb with hb | hb | hb | hb
  ·exact .inl (.inl hb)
  ·exact .inl (.inr (.inl hb))
  ·rcases hv with e | ⟨b',e,hb'⟩
   ·exact .inl (.inr (.inr (by rw [<-e];exact hb)))
   ·rw [e]at hb;cases hb;exact .inr hb'
  ·exact .inl (.inr (.inr hb))
 have h2:OwSt w' B v1 v2 t (fun b=>b<B\/b=G\/v3'.ownBlock=aG b\/v3.ownBlock=aG b) :=
  ⟨h1.b.other hg (fun b e=>h.n1 b e) (fun b e=> .inl (.inr (.inr (.inr e)))),h1.e.other hg (fun b e=>h.n2 b e) (fun b e=> .inl (.inr (.inr (.inr e)))),h1.ne⟩
 exact⟨h.box.grown hg h.n3,h2.mono (fun b hb=>hb.imp id (fun h=>h.imp id .inl)),ho,h.gB⟩
theorem RunW.del (h:RunW w B G v1 v2 v3 t g) (hx:RwX EntS 120 w' B v2' l (fun b=>(b<B\/b=G\/v3.ownBlock=aG b)\/v1.ownBlock=aG b)) (hg:w.grownBy w' v2.ownBlock) (ho:v2'.ownBlock=v2.ownBlock) :
  RunW (w'.setCell ⟨G,1,aF⟩ v2') B G v1 v2' v3 { t with aJ:=l } g:=by
 have h1:=h.st.turnE hx hg ho;have hb:=(h.box.grown hg h.n5).set (k:=1) ab v2';have n5:v2'.ownBlock≠aG G:=by rw [ho];exact h.n5
 have hgn:=h.gone.kept hg (by
  cases hb:v3.ownBlock with
  | none=>exact .inl rfl
  | some b=>exact .inr (fun e=>h.n2 b hb e.symm))
 exact⟨hb,h1.setX (.inr (.inl rfl)) h.n4 n5 v2',zd hgn h.n3,h.gB⟩
theorem RunW.cln_ (h:RunW w B G v1 v2 v3 t g) (hx:OwSt w' B v1' v2 (cln t) (fun b=>b<B\/b=G\/v3.ownBlock=aG b)) (hg:w.grownBy w' v1.ownBlock) (ho:v1'.ownBlock=v1.ownBlock) :
  RunW ((((w'.setCell ⟨G,0,aF⟩ v1').setCell ⟨G,1,aF⟩ v2).setCell ⟨G,2,aF⟩ (aB aC t.aL)).setCell ⟨G,3,aF⟩ (aB aC t.aK)) B G v1' v2 v3 (cln t) g:=by
 have hb:=(h.box.grown hg h.n4).all4 v1' v2 (aB aC t.aL) (aB aC t.aK);have n4:v1'.ownBlock≠aG G:=by rw [ho];exact h.n4
 have hgn:=h.gone.kept hg (by
  cases hb:v3.ownBlock with
  | none=>exact .inl rfl
  | some b=>exact .inr (fun e=>h.n1 b hb e.symm))
 refine⟨hb,?_,zd (zd (zd (zd hgn h.n3) h.n3) h.n3) h.n3,h.gB⟩;exact(((hx.setX (.inr (.inl rfl)) n4 h.n5 _).setX (.inr (.inl rfl)) n4 h.n5 _).setX (.inr (.inl rfl)) n4 h.n5 _).setX (.inr (.inl rfl)) n4 h.n5 _
end
noncomputable def z5o (e:Ending) (w w':World) (s:StoP):Option (StoP×List ai)->Prop
 | some (t,g)=>∃v1 v2 v3,e= .returned (.tuple #[.agg #[v1,v2,aB aC s.aL,aB aC s.aK],v3,aB aC 0])/\OwSt w' w.heap.size v1 v2 t (fun b=>b<w.heap.size)/\w'.ownsRow w.heap.size 9 1 v3 g.length (strs g)
 | none=>e= .returned (.tuple #[.agg #[aA aF 0 0,aA aF 0 0,aB aC 0,aB aC 0],aA aF 0 0,aB aC 10])
theorem z0s (A:aj) (c:Nat) (B:aj) (d:Nat) (s:StoP) (more:Nat) (w:World) (hmore:more<=4000) (hg:GoodS s) (hr:RdSt w A c B d s) :
  Calls Tryz.prog 97 #[.agg #[aA A s.aI.length c,aA B s.aJ.length d,aB aC s.aL,aB aC s.aK],aB aC more] w fun e w' =>
   z5o e w w' s (yh more s)/\Below w.heap.size w w':=by
 have hlb:s.aI.length<=24:=hg.b.len;have hle:s.aJ.length<=10:=hg.e.len;have hus:=hg.used;have HRO:=sqH hg.aL;have HGD:=sqH hg;obtain⟨w0,hw0,hS,hR,hb0⟩:=zW w 38 [aA A s.aI.length c,aA B s.aJ.length d,aB aC s.aL,aB aC s.aK] [aA aF 0 0,aA aF 0 0,aB aC 0,aB aC 0];have hr0:=hr.below hb0;obtain⟨H,hH⟩:=wY w.heap.size
 have HCK:=sqH (zD A c B d s w0 hg hr0);rw [<-hH]at hS hR hb0 ⊢
 have hHl:H<w0.heap.size:=hS.lt;have hHr:H+1<w0.heap.size:=hR.lt;obtain⟨x0,x1,x2,x3⟩:=sqC4 hS;rw [hw0,hH]at x0 x1 x2 x3;have HPL:=sqH (show ∀b∈s.aI,b.data.length<=1000000 from fun b hb=>by have:=(hg.b.one b hb).2.1;omega);have HQL:=sqH (show ∀x∈s.aJ,x.aP.length<=1000000 from fun x hx=>by have:=(zi (hg.e.one x hx).2.1).1;omega);clear hg hr;go_enter Tryz.func97,Tryz.ntmps97;go_wp2_with fail;rw [<-hw0,<-hH];have HH:=sqH hH;clear hw0 hH x0 x1 x2 x3;refine wZ HCK.o fun w1 hb1=>?_;dsimp only;have hr1:=hr0.below hb1;have hS1:=hS.below hb1;have z0:=hS1.c0;have z2:=hS1.c2;have HLK:=sqH (vD A c s.aI s.aL more w1 wu (wc HRO) HRO.o hmore hr1.b);clear hr0 hS HCK;go_wp2_with fail;clear z0 z2;refine wZ HLK.o fun w2 hb2=>?_;dsimp only;have hc2:=wm hb1 hb2;have hr2:=hr1.below hb2;have hS2:=hS1.below hb2;obtain⟨z0,z1,z2,z3⟩:=sqC4 hS2;have HCP:=sqH (qL A c B d s w2 wu wu HPL.o HQL.o hr2);clear hr1 hS1 hb1 hb2 HLK;go_wp2_with fail;clear z0 z1 z2 z3;refine HCP.o.mono ?_;rintro e_ w3 ⟨q1,q2,rfl,ho3,hb3⟩;dsimp only;have hc3:=wm hc2 hb3;have ho3:=ho3.lower (base':=w0.heap.size) hc2.size;obtain⟨G,hG⟩:=wY w3.heap.size
 have HRW:=sqH (show RunW (w3.alloc (.cells #[aA (aG ⟨q1,0,aF⟩) s.aI.length s.aI.length,aA (aG ⟨q2,0,aF⟩) s.aJ.length s.aJ.length,aB aC s.aL,aB aC s.aK] 38)) w0.heap.size G (aA (aG ⟨q1,0,aF⟩) s.aI.length s.aI.length) (aA (aG ⟨q2,0,aF⟩) s.aJ.length s.aJ.length) (aA aF 0 0) s [] by
  refine⟨by rw [hG];exact Arr.new w3 38 _,?_,World.ownsRow_nil _ _ _ _,by rw [hG];exact hc3.size⟩;refine(ho3.wider fun b hb=> ?_).below ((Below.refl w3.heap.size w3).alloc ag _);rcases hb with hb | hb | hb
  ·exact .inl (Nat.lt_of_lt_of_le hb hc2.size)
  ·exact .inr (by rw [hb,hG];exact Nat.le_refl _)
  ·cases hb)
 obtain⟨HBK,HRES,HB0,HG⟩:=sqJ4 (hc3.alloc hc3.size (.cells #[aA (aG ⟨q1,0,aF⟩) s.aI.length s.aI.length,aA (aG ⟨q2,0,aF⟩) s.aJ.length s.aJ.length,aB aC s.aL,aB aC s.aK] 38)) (show ∀W,Below w0.heap.size w0 W->Arr W (H+1) 38 [aA aF 0 0,aA aF 0 0,aB aC 0,aB aC 0] from fun W h=>hR.below h) hb0 hG;clear hS2 hR hc2 hc3 ho3 hb3 hr2 HCP hb0 hG;go_wp2_with fail;rw [<-HG.o];generalize (w3.alloc (.cells #[aA (aG ⟨q1,0,aF⟩) s.aI.length s.aI.length,aA (aG ⟨q2,0,aF⟩) s.aJ.length s.aJ.length,aB aC s.aL,aB aC s.aK] 38))=w4 at *
 go_loopg [8,11,12] (s.aJ.length+1) (fun gn u8 u11 u12 wr=>∃(t:StoP) (g:List ai) (v1 v2 v3:Value) (f:Bool) (lk:Nat),gn=t.aJ.length+(if f then 1 else 0)/\u8= aB aC lk/\u11=v3/\u12= .bool f/\lk=usd t.aI+more - t.aL/\GoodS t/\RunW wr w0.heap.size G v1 v2 v3 t g/\Below w0.heap.size w0 wr/\(if f then t=s/\g= [] else uK more (t.aJ.length+1) t g=yh more s)/\t.aL=s.aL/\t.aK=s.aK/\g.length+t.aJ.length<=10)
 case atStart=>exact⟨s, [],_,_,_,true,_,rfl,rfl,rfl,rfl,rfl,HGD.o,HRW.o,HBK.o,⟨rfl,rfl⟩,rfl,rfl,by simpa using hle⟩
 case round =>
  obtain⟨t,g,v1,v2,v3,f,lk,hgn,rfl,rfl,rfl,hlk,hgt,RW,hbk,hev,hrm,hck,hgl⟩:=hrel;obtain⟨HGN,HLKE,HT,HEV0,HRM,HCK2⟩:=sqJ6 hgn hlk hgt hev hrm hck;have hlt:=hgt.e.len;have hlkm:lk<=100000:=by have:=hgt.used;have:=hgt.aL;omega
  clear hgn hlk hgt hev hrm hck HRW HBK;rcases Nat.eq_zero_or_pos lk with h0 | h0
  ·have hd0:decide ((lk:Int)>0)=false:=decide_eq_false wu;have hd1:decide ((0:Int)<(lk:Int))=false:=decide_eq_false wu;have hd2:decide (0<lk)=false:=decide_eq_false wu;have HEN:=sqH (show yh more s=aG (t,g) by
    have hev:=HEV0.o;have h1:usd t.aI+more<=t.aL:=by have:=HLKE.o;omega
    cases f with
    | true =>
     obtain⟨rfl,rfl⟩:t=s/\g= []:=hev;unfold yh;rw [if_pos h1]
    | false =>
     have hev':uK more (t.aJ.length+1) t g=yh more s:=hev;rw [<-hev',uK,if_pos h1])
   obtain⟨A6,c6,B6,d6,e61,e62,hrd6⟩:=RW.st.rows;subst e61 e62;have hbx:=RW.box;rw [HRM.o,HCK2.o]at hbx;obtain⟨b0,b1,b2,b3⟩:=sqC4 hbx;have hcp:=qL A6 c6 B6 d6 t wr (by have:=HT.o.b.len;omega) wu (fun b hb=>by have:=(HT.o.b.one b hb).2.1;omega) (fun x hx=>by have:=(zi (HT.o.e.one x hx).2.1).1;omega) hrd6;rw [HRM.o,HCK2.o]at hcp;obtain⟨HCP,HGO,HBK9⟩:=sqJ3 hcp RW.gone hbk;clear hcp hbx hrd6 RW hbk;go_wp2_with fail;clear b0 b1 b2 b3;refine HCP.o.mono ?_;rintro e_ w9 ⟨g1,g2,rfl,ho9,hb9⟩;dsimp only;have hbk9:=wm HBK9.o hb9;have hR9:=HRES.o _ hbk9;have hb19:=HB0.o.trans (hbk9.mono (Nat.le_of_lt hHl));obtain⟨A9,c9,B9,d9,e91,e92,hrd9⟩:=ho9.rows;have hgo9:=zc HGO.o hb9;have n1:u11.ownBlock≠aG (H+1):=zf hgo9 hR9 aa;obtain⟨f0,f1,f2,f3⟩:=sqF4 hR9;obtain⟨y0,y1,y2,y3⟩:=sqC4 hR9;have hfin:=hR9.all4 (aA (aG ⟨g1,0,aF⟩) t.aI.length t.aI.length) (aA (aG ⟨g2,0,aF⟩) t.aJ.length t.aJ.length) (aB aC s.aL) (aB aC s.aK);have hwb:=HBK9.o.size;have hoF:=(((ho9.set (g:=H+1) (k:=0) wu wu (aA (aG ⟨g1,0,aF⟩) t.aI.length t.aI.length)).set (g:=H+1) (k:=1) wu wu (aA (aG ⟨g2,0,aF⟩) t.aJ.length t.aJ.length)).set (g:=H+1) (k:=2) wu wu (aB aC s.aL)).set (g:=H+1) (k:=3) wu wu (aB aC s.aK);have hbF:=(((hb19.setCell (p:=⟨H+1,0,aF⟩) ae (aA (aG ⟨g1,0,aF⟩) t.aI.length t.aI.length)).setCell (p:=⟨H+1,1,aF⟩) ae (aA (aG ⟨g2,0,aF⟩) t.aJ.length t.aJ.length)).setCell (p:=⟨H+1,2,aF⟩) ae (aB aC s.aL)).setCell (p:=⟨H+1,3,aF⟩) ae (aB aC s.aK);obtain⟨HGO9,HOF,HBF,HFIN⟩:=sqJ4 (zb (zd (k:=3) (u:= aB aC s.aK) (zd (k:=2) (u:= aB aC s.aL) (zd (k:=1) (u:= aA (aG ⟨g2,0,aF⟩) t.aJ.length t.aJ.length) (zd (k:=0) (u:= aA (aG ⟨g1,0,aF⟩) t.aI.length t.aI.length) hgo9 n1) n1) n1) n1) (Nat.le_of_lt hHl)) hoF hbF hfin;clear hfin hoF hbF hgo9 ho9 hb9 hbk9 hR9 hb19 e91 e92 hrd9 hwb n1;go_wp2_with fail;refine bodyPost_ret (zz rfl _ _ (H+1) _ _ _ _ ac HFIN.o Tryz.underlying38 rfl ww) rfl ?_;rw [HEN.o];have hwr:H<=wr.heap.size:=by have:=HBK9.o.size;omega
   refine⟨⟨_,_,u11,rfl,(HOF.o.lower (by rw [<-HH.o];exact hwr)).mono (fun b hb=> ?_),by rw [<-HH.o];exact HGO9.o⟩,HBF.o⟩;rw [<-HH.o]at hb;omega
  ·have hd0:decide ((lk:Int)>0)=true:=decide_eq_true wu;have hd1:decide ((0:Int)<(lk:Int))=true:=decide_eq_true wu;have hd2:decide (0<lk)=true:=decide_eq_true wu;have HNF:=sqH (show ¬usd t.aI+more<=t.aL by have:=HLKE.o;omega);cases f with
   | true =>
    have HEV:=sqH (show uK more ((cln t).aJ.length+1) (cln t) g=yh more s by
     obtain⟨rfl,rfl⟩:t=s/\g= []:=HEV0.o;unfold yh;rw [if_neg HNF.o];rfl)
    have HMS:=sqH (show(cln t).aJ.length<gk by rw [ye];have:=HGN.o;rw [if_pos rfl]at this;omega);have HGL:=sqH hgl;obtain⟨A1,c1,B2,d2,e1,e2,_⟩:=RW.st.rows;subst e1 e2;have hcln:=K6 w0.heap.size (aA A1 t.aI.length c1) (aA B2 t.aJ.length d2) t wr _ HT.o RW.st;simp only [stV,yf,vX]at hcln;rw [HRM.o,HCK2.o]at hcln;have HCL:=sqH hcln;clear hcln;have hbx:=RW.box;rw [HRM.o,HCK2.o]at hbx;obtain⟨b0,b1,b2,b3⟩:=sqC4 hbx;clear hbx;have HRW:=sqH RW;clear RW;go_wp2_with fail;clear b0 b1 b2 b3;refine HCL.o.mono ?_;rintro e_ w6 ⟨v1',rfl,ho6,hg6,hob6⟩;dsimp only;have hv1b:∀b,((aA A1 t.aI.length c1):Value).ownBlock=aG b->w0.heap.size<=b:=fun b e=>(HRW.o.st.b.rwo.blk e).1;have hbk6:=hbk.grown hg6 hbk.size hv1b;have hbx6:=HRW.o.box.grown hg6 HRW.o.n4;have RW6:=HRW.o.cln_ ho6 hg6 hob6;rw [HRM.o,HCK2.o]at hbx6 RW6;obtain⟨f0,f1,f2,f3⟩:=sqF4 hbx6;obtain⟨b0,b1,b2,b3⟩:=sqC4 hbx6;have hHG:w0.heap.size<=G:=HRW.o.gB;have hbk7:=(((hbk6.setCell (p:=⟨G,0,aF⟩) hHG v1').setCell (p:=⟨G,1,aF⟩) hHG (aA B2 t.aJ.length d2)).setCell (p:=⟨G,2,aF⟩) hHG (aB aC s.aL)).setCell (p:=⟨G,3,aF⟩) hHG (aB aC s.aK);clear hbx6 hbk6 ho6 hg6 hob6;obtain⟨A6,c6,B6,d6,e61,e62,hrd6⟩:=RW6.st.rows;have hgt:=HT.o;have hgt6:=yN hgt;have hus6:=hgt6.used;have hrm6:=hgt6.aL;have hln6:=hgt6.b.len;have HLK:=sqH (show ∀W,Rw BlobS W A6 (cln t).aI->Calls Tryz.prog 134 #[aA A6 (cln t).aI.length c6,aB aC s.aL,aB aC more] W fun e w'=>e= .returned (.tuple #[aB aC ((usd (cln t).aI+more - s.aL:Nat):Int),aB aC 0])/\Below W.heap.size W w' from fun W h=>vD A6 c6 (cln t).aI s.aL more W wu (by rw [yf]at hus6 hrm6;omega) HRO.o hmore h);subst e61;clear e62;clear hgt hgt6 hus6 hrm6;go_wp2_with fail;clear f0 f1 f2 f3 b0 b1 b2 b3;generalize ((((w6.setCell ⟨G,0,aF⟩ (aA A6 (cln t).aI.length c6)).setCell ⟨G,1,aF⟩ (aA B2 t.aJ.length d2)).setCell ⟨G,2,aF⟩ (aB aC s.aL)).setCell ⟨G,3,aF⟩ (aB aC s.aK))=w7 at *
    refine wZ (HLK.o _ hrd6.b) fun w8 hb8=>?_;dsimp only;have hbk8:=wm hbk7 hb8;have RW8:=RW6.below hb8;obtain⟨HR8,HBK8,HGT⟩:=sqJ3 RW8 hbk8 (yN HT.o);clear RW6 RW8 hrd6 hb8 hbk7 hbk8 HCL HLK hln6;go_wp2_with fail;go_roundg (cln t).aJ.length
    case measure=>exact HMS.o
    case rel=>exact⟨cln t,g,aA A6 (cln t).aI.length c6,(aA B2 t.aJ.length d2),u11,false,_,rfl,rfl,rfl,rfl,by rw [yf,HRM.o],HGT.o,HR8.o,HBK8.o,HEV.o,HRM.o,HCK2.o,by rw [ye];exact HGL.o⟩
   | false =>
    have hev':uK more (t.aJ.length+1) t g=yh more s:=HEV0.o;rw [uK,if_neg HNF.o]at hev';obtain⟨A1,c1,B2,d2,e1,e2,hrd1⟩:=RW.st.rows;subst e2;clear e1;have HOL:=sqH (X0 B2 d2 t.aJ wr wu hrd1.e);have b1:=RW.box.c1;cases ho:ZQ t.aJ t.aJ.length with
    | none =>
     rw [ho]at hev' HOL;have HEV:=sqH hev';have HRW:=sqH RW;clear hev' hrd1 RW;go_wp2_with fail;clear b1;refine wZ HOL.o fun w5 hb5=>?_;dsimp only;rw [xx];have hbk9:=wm hbk hb5;have hR9:=HRES.o _ hbk9;have hb19:=HB0.o.trans (hbk9.mono (Nat.le_of_lt hHl));obtain⟨f0,f1,f2,f3⟩:=sqF4 hR9;obtain⟨y0,y1,y2,y3⟩:=sqC4 hR9;have hfin:=hR9.all4 (aA aF 0 0) (aA aF 0 0) (aB aC 0) (aB aC 0);have hbF:=(((hb19.setCell (p:=⟨H+1,0,aF⟩) ae (aA aF 0 0)).setCell (p:=⟨H+1,1,aF⟩) ae (aA aF 0 0)).setCell (p:=⟨H+1,2,aF⟩) ae (aB aC 0)).setCell (p:=⟨H+1,3,aF⟩) ae (aB aC 0);have HBF:=sqH hbF;have HFIN:=sqH hfin;clear hfin hbF hbk9 hR9 hb19 hb5 hbk;go_wp2_with fail;refine bodyPost_ret (zz rfl _ _ (H+1) _ _ _ _ ac HFIN.o Tryz.underlying38 rfl ww) rfl ?_;rw [<-HEV.o];exact⟨rfl,HBF.o⟩
    | some i0 =>
     have hi:=(xj t.aJ _ i0 ho).2;rw [ho]at hev' HOL;simp only [List.getElem?_eq_getElem hi]at hev';have hlen0:0<t.aJ.length:=wu;obtain⟨g2,d2',e2,_,_,_,_⟩:=RW.st.e.rwo.nonnil hlen0;injection e2 with e21 e22 e23;subst e21 e23;clear e22;have HEV2:=sqH hev';have HO:=sqH ho;clear hev' ho hrd1;go_wp2_with fail;clear b1;refine wZ HOL.o fun w5 hb5=>?_;dsimp only;rw [xx];have hbk5:=wm hbk hb5;have RW5:=RW.below hb5;obtain⟨A1',c1',B2',d2'',e1,e2,hrd5⟩:=RW5.st.rows;clear e1;cases e2
     have b1:=RW5.box.c1;obtain⟨b,off,Bx,cc,e9,hbb,y0,y1,y2,y3,_⟩:=hrd5.e.ent_at i0 hi;cases e9
     have hi0:=we i0
     have hi1:(i0:Int)<(t.aJ.length:Int):=wu;have hw1:IntKind.i64.wrap ((i0:Int)+1)=(i0:Int)+1:=IntWalk.i64_in _ wu;have HRW5:=sqH RW5;have hgn5:=RW5.gone;have HBK5:=sqH hbk5;have hB5:w0.heap.size<=w5.heap.size:=hbk5.size;obtain⟨kx,hkx⟩:=wY (t.aJ[i0].key)
     rw [<-hkx]at y0 HEV2;have HKX:=sqH hkx;simp only [Nat.zero_add]at y0;clear hb5 hbk hbk5 RW RW5 hrd5 hbb hkx y1 y2 y3
     refine wL ?_;intros;refine zj rfl (.tmp 49) (.tmp 56) rfl j5 ac hgn5 (us:= [.string ⟨kx.toArray⟩]) ac rfl (by intro u hu;rw [List.mem_singleton.1 hu];rfl) wu hB5 ?_;intro v9 w9 ho9 hg9 hv9;clear y0 b1;have ho9':w9.ownsRow w0.heap.size 9 1 v9 (g++ [kx]).length (strs (g++ [kx])):=by rw [vN,List.length_append];exact ho9
     have RW9:=HRW5.o.key ho9' hg9 hv9;have hbk9:=HBK5.o.grown hg9 hB5 (fun b e=>(hgn5.lt b e).1);have b1:=RW9.box.c1;have f1:=RW9.box.frozen 1;have HRW9:=sqH RW9;have HDL:=sqH (z0a g2 i0 t.aJ w0.heap.size d2 w9 _ hi RW9.st.e);have hB9:w0.heap.size<=w9.heap.size:=hbk9.size;clear ho9 ho9' hg9 hv9 RW9 hgn5 f1;go_wp2_with fail;clear b1;refine HDL.o.mono ?_;rintro e_ w10 ⟨rfl,hx10,hg10⟩;dsimp only;have hbx10:=HRW9.o.box.grown hg10 HRW9.o.n5;rw [HRM.o,HCK2.o]at hbx10;obtain⟨b0,b1,b2,b3⟩:=sqC4 hbx10;have f1:=hbx10.frozen 1;have RW:=HRW9.o.del hx10 hg10 rfl;have hbkA:=(hbk9.grown hg10 hB9 (fun b e=>by cases e;exact(HRW9.o.st.e.rwo.blk rfl).1)).setCell (p:=⟨G,1,aF⟩) HRW9.o.gB (aA (aG ⟨g2,0,aF⟩) (t.aJ.eraseIdx i0).length d2);have HT1:=sqH (Zx HT.o (List.eraseIdx_sublist t.aJ i0));have HEV:=sqH (show uK more ((cln { t with aJ:=t.aJ.eraseIdx i0 }).aJ.length+1) (cln { t with aJ:=t.aJ.eraseIdx i0 }) (g++ [kx])=yh more s by
      rw [ye];show uK more ((t.aJ.eraseIdx i0).length+1) _ _=_;rw [List.length_eraseIdx_of_lt hi,Nat.sub_add_cancel hlen0];exact HEV2.o)
     have HMS:=sqH (show(cln { t with aJ:=t.aJ.eraseIdx i0 }).aJ.length<gk by
      rw [ye];show(t.aJ.eraseIdx i0).length<gk;rw [List.length_eraseIdx_of_lt hi];have:=HGN.o;rw [if_neg aa]at this;omega)
     have HGL:=sqH (show(g++ [kx]).length+(t.aJ.eraseIdx i0).length<=10 by
      rw [List.length_eraseIdx_of_lt hi,List.length_append];simp only [List.length_cons,List.length_nil];omega)
     have hlt1:(t.aJ.eraseIdx i0).length<=10:=by rw [List.length_eraseIdx_of_lt hi];omega
     obtain⟨A1,c1,_,_,e1,_,_⟩:=HRW9.o.st.rows;subst e1;clear hx10 hg10 hbk9 HEV2 HDL HOL hbx10;go_wp2_with fail;clear b0 b1 b2 b3 f1;generalize hwx:(w10.setCell ⟨G,1,aF⟩ (aA (aG ⟨g2,0,aF⟩) (t.aJ.eraseIdx i0).length d2))=w11 at *
     clear hwx;have HRM1:=sqH (show({ t with aJ:=t.aJ.eraseIdx i0 }:StoP).aL=s.aL from HRM.o);have HCK3:=sqH (show({ t with aJ:=t.aJ.eraseIdx i0 }:StoP).aK=s.aK from HCK2.o);have hlt1':({ t with aJ:=t.aJ.eraseIdx i0 }:StoP).aJ.length<=10:=hlt1;have HGL:=sqH (show(g++ [kx]).length+({ t with aJ:=t.aJ.eraseIdx i0 }:StoP).aJ.length<=10 from HGL.o);clear HT HRM HCK2 hlt1 hlt;generalize ({ t with aJ:=t.aJ.eraseIdx i0 }:StoP)=t1 at *
     generalize (g++ [kx])=gn1 at *
     have HT:=HT1;have HRM:=HRM1;have HCK2:=HCK3;have hlt:=hlt1';have hbk:=hbkA;clear HT1 HRM1 HCK3 hlt1' hbkA;have hcln:=K6 w0.heap.size (aA A1 t.aI.length c1) (aA (aG ⟨g2,0,aF⟩) (t.aJ.eraseIdx i0).length d2) t1 w11 _ HT.o RW.st;simp only [stV,yf,vX]at hcln;rw [HRM.o,HCK2.o]at hcln;have HCL:=sqH hcln;clear hcln;have hbx:=RW.box;rw [HRM.o,HCK2.o]at hbx;obtain⟨b0,b1,b2,b3⟩:=sqC4 hbx;clear hbx;have HRW:=sqH RW;clear RW;go_wp2_with fail;clear b0 b1 b2 b3;refine HCL.o.mono ?_;rintro e_ w6 ⟨v1',rfl,ho6,hg6,hob6⟩;dsimp only;have hv1b:∀b,((aA A1 t.aI.length c1):Value).ownBlock=aG b->w0.heap.size<=b:=fun b e=>(HRW.o.st.b.rwo.blk e).1;have hbk6:=hbk.grown hg6 hbk.size hv1b;have hbx6:=HRW.o.box.grown hg6 HRW.o.n4;have RW6:=HRW.o.cln_ ho6 hg6 hob6;rw [HRM.o,HCK2.o]at hbx6 RW6;obtain⟨f0,f1,f2,f3⟩:=sqF4 hbx6;obtain⟨b0,b1,b2,b3⟩:=sqC4 hbx6;have hHG:w0.heap.size<=G:=HRW.o.gB;have hbk7:=(((hbk6.setCell (p:=⟨G,0,aF⟩) hHG v1').setCell (p:=⟨G,1,aF⟩) hHG (aA (aG ⟨g2,0,aF⟩) (t.aJ.eraseIdx i0).length d2)).setCell (p:=⟨G,2,aF⟩) hHG (aB aC s.aL)).setCell (p:=⟨G,3,aF⟩) hHG (aB aC s.aK);clear hbx6 hbk6 ho6 hg6 hob6;obtain⟨A6,c6,B6,d6,e61,e62,hrd6⟩:=RW6.st.rows;have hgt:=HT.o;have hgt6:=yN hgt;have hus6:=hgt6.used;have hrm6:=hgt6.aL;have hln6:=hgt6.b.len;have HLK:=sqH (show ∀W,Rw BlobS W A6 (cln t1).aI->Calls Tryz.prog 134 #[aA A6 (cln t1).aI.length c6,aB aC s.aL,aB aC more] W fun e w'=>e= .returned (.tuple #[aB aC ((usd (cln t1).aI+more - s.aL:Nat):Int),aB aC 0])/\Below W.heap.size W w' from fun W h=>vD A6 c6 (cln t1).aI s.aL more W wu (by rw [yf]at hus6 hrm6;omega) HRO.o hmore h);subst e61;clear e62;clear hgt hgt6 hus6 hrm6;go_wp2_with fail;clear f0 f1 f2 f3 b0 b1 b2 b3;generalize ((((w6.setCell ⟨G,0,aF⟩ (aA A6 (cln t1).aI.length c6)).setCell ⟨G,1,aF⟩ (aA (aG ⟨g2,0,aF⟩) (t.aJ.eraseIdx i0).length d2)).setCell ⟨G,2,aF⟩ (aB aC s.aL)).setCell ⟨G,3,aF⟩ (aB aC s.aK))=w7 at *
     refine wZ (HLK.o _ hrd6.b) fun w8 hb8=>?_;dsimp only;have hbk8:=wm hbk7 hb8;have RW8:=RW6.below hb8;obtain⟨HR8,HBK8,HGT⟩:=sqJ3 RW8 hbk8 (yN HT.o);clear RW6 RW8 hrd6 hb8 hbk7 hbk8 HCL HLK hln6;go_wp2_with fail;go_roundg (cln t1).aJ.length
     case measure=>exact HMS.o
     case rel=>exact⟨cln t1,gn1,aA A6 (cln t1).aI.length c6,(aA (aG ⟨g2,0,aF⟩) (t.aJ.eraseIdx i0).length d2),v9,false,_,rfl,rfl,rfl,rfl,by rw [yf,HRM.o],HGT.o,HR8.o,HBK8.o,HEV.o,HRM.o,HCK2.o,by rw [ye];exact HGL.o⟩
open Go.Maps
section
variable {w w':World} {g base:Nat} {v v1 v2 v3 v4:Value} {l:LoP} {N:am}
theorem Ve (h:w.ownsRow base e size v n xs) (hg:g<base):v.ownBlock≠aG g:=fun e=>by
 rcases h.2 with ⟨rfl,_⟩ | ⟨g',cap,cur,rfl,h1,_⟩
 ·cases e
 ·have e':g'=g:=by simpa [Value.ownBlock] using e
  omega
theorem kh (h:w.ownsRow base e size v n xs) (hg:w.grownBy w' (aG g)) (hb:g<base):w'.ownsRow base e size v n xs:=h.kept hg (.inr (Ve h hb))
theorem FlsO.grownE (h:FlsO w base v fs) (hg:w.grownBy w' (aG g)) (hb:g<base):FlsO w' base v fs:=by
 obtain⟨As,h1,h2,h3,h4⟩:=h;exact⟨As,h1,kh h2 hg hb,fun k p a hp ha=>⟨kh (h3 k p a hp ha).1 hg hb,(h3 k p a hp ha).2⟩,h4⟩
theorem OwSt.grownE (h:OwSt w base v1 v2 s N) (hg:w.grownBy w' (aG g)) (hb:g<base) (hN:N g):OwSt w' base v1 v2 s N:=by
 obtain⟨xs1,hx⟩:=h.b.own_m;obtain⟨xs2,hy⟩:=h.e.own_m;have e1:∀b,aG g=aG b->v1.ownBlock≠aG b:=fun b e=>by cases e;exact Ve hx hb
 have e2:∀b,aG g=aG b->v2.ownBlock≠aG b:=fun b e=>by cases e;exact Ve hy hb
 exact⟨h.b.other hg e1 fun b e=>by cases e;exact .inl hN,h.e.other hg e2 fun b e=>by cases e;exact .inl hN,h.ne⟩
theorem OwLo.grownE (h:OwLo w base v1 v2 v3 v4 l N) (hg:w.grownBy w' (aG g)) (hb:g<base) (hN:N g):OwLo w' base v1 v2 v3 v4 l N:=⟨h.s.grownE hg hb hN,kh h.c hg hb,h.f.grownE hg hb⟩
end
structure DkB (w:World) (g:Nat) (p:LoW) (l:LoP) (N:am):Prop where
 box:Arr w g 79 (loC p l)
 own:OwLo w (g+1) (aA p.X l.st.aI.length p.cX) (aA p.Y l.st.aJ.length p.dY) (aA p.G l.co.aM.length p.ng) (aA p.F l.fs.length p.cF) l N
section
variable {w w':World} {g B:Nat} {p:LoW} {l:LoP} {N N':am} {v1 v2 v3 v4:Value} {s:StoP} {c:ColP}
theorem OwLo.rdAt (h:OwLo w B (aA p.X l.st.aI.length p.cX) (aA p.Y l.st.aJ.length p.dY) (aA p.G l.co.aM.length p.ng) (aA p.F l.fs.length p.cF) l N):RdLo w p l:=by
 obtain⟨q,e1,e2,e3,e4,hr⟩:=h.rd;cases p;cases q
 injection e1 with a1 _ a2;injection e2 with b1 _ b2;injection e3 with c1 _ c2;injection e4 with d1 _ d2;dsimp only at a1 a2 b1 b2 c1 c2 d1 d2;subst a1 a2 b1 b2 c1 c2 d1 d2;exact hr
theorem DkB.rd (h:DkB w g p l N):RdLo w p l:=h.own.rdAt
theorem DkB.below (h:DkB w g p l N) (hb:Below w.heap.size w w'):DkB w' g p l N:=⟨h.box.below hb,h.own.below hb⟩
theorem DkB.lt (h:DkB w g p l N):g<w.heap.size:=h.box.lt
theorem DkB.mono (h:DkB w g p l N) (hN:∀b,N' b->N b):DkB w g p l N':=⟨h.box,h.own.mono hN⟩
theorem DkB.wider (h:DkB w g p l N) (hN:∀b,N' b->N b\/w.heap.size<=b):DkB w g p l N':=⟨h.box,h.own.wider hN⟩
theorem DkB.set (h:DkB w g p l N) (hA:Arr w h' 82 xs) (hN:N h') (hne:g≠h') (u:Value):DkB (w.setCell ⟨h',k,aF⟩ u) g p l N :=
 ⟨h.box.other hne u,⟨h.own.s.setX hN (h.own.s.nb hA aa aa).1 (h.own.s.nb hA aa aa).2 _,zd h.own.c (zf h.own.c hA aa),h.own.f.set1 hA aa aa u⟩⟩
theorem DkB.mk' (h:OwLo w (g+1) v1 v2 v3 v4 l N) (hb:Arr w g 79 [v1,v2,aB aC l.st.aL,aB aC l.st.aK,aB aC l.co.aN,v3,aD ⟨l.co.at_.toArray⟩,v4]):∃p,DkB w g p l N:=by
 obtain⟨p,rfl,rfl,rfl,rfl,_⟩:=h.rd;exact⟨p,hb,h⟩
end
structure OwSD (w:World) (g:Nat) (v1 v2 v3:Value) (s:StoP) (c:ColP) (N:am):Prop where
 s:OwSt w (g+1) v1 v2 s N
 c:w.ownsRow (g+1) 9 1 v3 c.aM.length (strs c.aM)
section
variable {w w':World} {g B:Nat} {l:LoP} {N:am} {v1 v2 v3 v4:Value} {s:StoP} {c:ColP}
theorem OwSD.below (h:OwSD w g v1 v2 v3 s c N) (hb:Below w.heap.size w w'):OwSD w' g v1 v2 v3 s c N:=⟨h.s.below hb,zc h.c hb⟩
theorem OwSC.at_ (h:OwSC w B v1 v2 v3 s c) (hg:g<B) (hN:∀b,N b->b<B):OwSD w g v1 v2 v3 s c N:=⟨(h.s.lower hg).mono hN,zb h.c hg⟩
theorem OwLo.at_ (h:OwLo w B v1 v2 v3 v4 l (fun b=>b<B)) (hg:g<B) (hN:∀b,N b->b<B):OwLo w (g+1) v1 v2 v3 v4 l N:=⟨(h.s.lower hg).mono hN,zb h.c hg,h.f.lower hg⟩
end
abbrev z5y (r:RepP) (dv pv wv:Value):Value:= .agg #[aB aC r.err,aD ⟨r.dig.toArray⟩,dv,pv,aB aC r.n,wv]
abbrev z40 (w:World) (g:Nat) (u0 u1 u2 u3 u4 u5:Value):World:=(((((w.setCell ⟨g,0,aF⟩ u0).setCell ⟨g,1,aF⟩ u1).setCell ⟨g,2,aF⟩ u2).setCell ⟨g,3,aF⟩ u3).setCell ⟨g,4,aF⟩ u4).setCell ⟨g,5,aF⟩ u5
structure RepAt (w:World) (base:Nat) (r:RepP) (dv pv wv:Value):Prop where
 d:w.ownsRow base 5 1 dv r.data.length (bys r.data)
 p:w.ownsRow base 85 3 pv r.aP.length (pcs r.aP)
 w:w.ownsRow base 3 1 wv r.who.length (ins r.who)
theorem RepAt.below {r:RepP} (h:RepAt w base r dv pv wv) (hb:Below w.heap.size w w'):RepAt w' base r dv pv wv:=⟨zc h.d hb,zc h.p hb,zc h.w hb⟩
abbrev z5i (q:Nat):Value:= .agg #[aB aC q,aD ⟨#[]⟩,aA aF 0 0,aA aF 0 0,aB aC 0,aA aF 0 0]
abbrev z5j:ak:= [aB aC 0,aD ⟨#[]⟩,aA aF 0 0,aA aF 0 0,aB aC 0,aA aF 0 0]
theorem RepAt.e_ (q:Nat):RepAt w base (Yq q) (aA aF 0 0) (aA aF 0 0) (aA aF 0 0):=⟨World.ownsRow_nil _ _ _ _,World.ownsRow_nil _ _ _ _,World.ownsRow_nil _ _ _ _⟩
theorem z2o {w0 w3:World} {P:World->Prop} (h:Hid (∀W,Below w0.heap.size w0 W->P W)) (hB:Below w0.heap.size w0 w3):Hid (∀W,Below w3.heap.size w3 W->P W):=fun W h'=>h.o W (wm hB h')
theorem jn (w:World) (e1 e2 e3:TypeId) (c1 c2 c3:ak):∃W,W=((w.alloc (.cells c1.toArray e1)).alloc (.cells c2.toArray e2)).alloc (.cells c3.toArray e3)/\Arr W w.heap.size e1 c1/\Arr W (w.heap.size+1) e2 c2/\Arr W (w.heap.size+1+1) e3 c3/\Below w.heap.size w W:=by
 obtain⟨W2,h2,a1,a2,b2⟩:=zI w e1 e2 c1 c2;have a3:=Arr.new W2 e3 c3;have hs:W2.heap.size=w.heap.size+1+1:=by rw [h2];simp
 have b3:=ws W2 (.cells c3.toArray e3);rw [hs]at a3;exact⟨_,rfl,by rw [<-h2];exact a1.below b3,by rw [<-h2];exact a2.below b3,by rw [<-h2];exact a3,by rw [<-h2];exact wm b2 b3⟩
theorem Arr.fst7 {x6 x7:Value} (h:Arr w g e [x0,x1,x2,x3,x4,x5,x6,x7]) (u0 u1 u2 u3 u4 u5 u6:Value):Arr (((Z3 w g u0 u1 u2 u3).setCell ⟨g,4,aF⟩ u4).setCell ⟨g,5,aF⟩ u5 |>.setCell ⟨g,6,aF⟩ u6) g e [u0,u1,u2,u3,u4,u5,u6,x7] :=
 (((h.fst4 u0 u1 u2 u3).set (k:=4) ab u4).set (k:=5) ab u5).set (k:=6) ab u6
theorem Arr.all6 (h:Arr w g e [x0,x1,x2,x3,x4,x5]) (u0 u1 u2 u3 u4 u5:Value):Arr (z40 w g u0 u1 u2 u3 u4 u5) g e [u0,u1,u2,u3,u4,u5] :=
 (((((h.set (k:=0) ab u0).set (k:=1) ab u1).set (k:=2) ab u2).set (k:=3) ab u3).set (k:=4) ab u4).set (k:=5) ab u5
theorem DkB.set6 {p:LoW} {l:LoP} (h:DkB w g p l N) (hA:Arr w h' 82 [x0,x1,x2,x3,x4,x5]) (hN:N h') (hne:g≠h') (u0 u1 u2 u3 u4 u5:Value):DkB (z40 w h' u0 u1 u2 u3 u4 u5) g p l N:=by
 have a0:=hA.set (k:=0) ab u0;have a1:=a0.set (k:=1) ab u1;have a2:=a1.set (k:=2) ab u2;have a3:=a2.set (k:=3) ab u3;have a4:=a3.set (k:=4) ab u4;exact(((((h.set hA hN hne u0).set a0 hN hne u1).set a1 hN hne u2).set a2 hN hne u3).set a3 hN hne u4).set a4 hN hne u5
theorem qB {t:TypeId} {ys:ak} (ho:w.ownsRow base t size v n ys) (h1:v.ownBlock≠aG g) (u0 u1 u2 u3 u4 u5:Value):(z40 w g u0 u1 u2 u3 u4 u5).ownsRow base t size v n ys:=zd (zd (zd (zd (zd (zd ho h1) h1) h1) h1) h1) h1
theorem RepAt.set6 {r:RepP} (h:RepAt w base r dv pv wv) (hA:Arr w g 82 xs) (u0 u1 u2 u3 u4 u5:Value):RepAt (z40 w g u0 u1 u2 u3 u4 u5) base r dv pv wv :=
 ⟨qB h.d (zf h.d hA aa) _ _ _ _ _ _,qB h.p (zf h.p hA aa) _ _ _ _ _ _,qB h.w (zf h.w hA aa) _ _ _ _ _ _⟩
theorem zl {W:World} {g:Option Nat} {H:Nat} (h:w.grownBy W g) (hH:w.heap.size<=H) (u0 u1 u2 u3 u4 u5:Value):w.grownBy (z40 W H u0 u1 u2 u3 u4 u5) g:=zr (zr (zr (zr (zr (zr h hH) hH) hH) hH) hH) hH
theorem zq {u:Value} (h:w.grownBy w' (aG g)):w.grownBy (w'.setCell ⟨g,k,aF⟩ u) (aG g):=h.trans (zF w' g k u)
theorem z2u (A:aj) (c:Nat) (B:aj) (d:Nat) (s:StoP) (Ag:aj) (ng:Nat) (cp:ColP) (w:World) (more:Nat) (hmore:more<=4000) (hg:GoodS s) (hr:RdSt w A c B d s) (hgl:cp.aM.length<=1000) (hgc:GoodC s cp) (hc:RdC w Ag ng cp) :
  Calls zZZ 70 #[z2a A c B d s,coV (aA Ag cp.aM.length ng) cp,aB aC more] w fun e w' =>
   ∃v1 v2 v3 xs,e= .returned (.tuple #[stV v1 v2 (evP s more).1,v3,aB aC ((evP s more).2.2:Int)])/\OwSt w' w.heap.size v1 v2 (evP s more).1 (fun b=>b<w.heap.size)/\w'.ownsRow w.heap.size 9 1 v3 (evP s more).2.1 xs/\Below w.heap.size w w':=by
 obtain⟨r,hv⟩:=wY (evP s more)
 rw [<-hv];have HV:=sqH hv;clear hv;obtain⟨tt,kk,qq⟩:=r;dsimp only;obtain⟨aN,aM,at_⟩:=cp;obtain⟨w0,hw0,hS,hC,hR,hbx⟩:=Yw w 38 41 [aA A s.aI.length c,aA B s.aJ.length d,aB aC s.aL,aB aC s.aK] [aB aC aN,aA Ag aM.length ng,aD ⟨at_.toArray⟩] [aA aF 0 0,aA aF 0 0,aB aC 0,aB aC 0];have hr0:=hr.below hbx;have hc0:=hc.below hbx;obtain⟨H,hH⟩:=wY w.heap.size
 have HCK:=sqH (qu A c B d s Ag ng ⟨aN,aM,at_⟩ w0 hg hr0 hgl hgc hc0);have HRN:=sqH (fun W (h:Below w0.heap.size w0 W)=>z0s A c B d s more W hmore hg (hr0.below h));rw [<-hH]at hS hC hR hbx ⊢
 have hHl:H+1+1<w0.heap.size:=hR.lt;obtain⟨x0,x1,x2,x3⟩:=sqC4 hS;obtain⟨y0,y1,y2⟩:=sqC3 hC;obtain⟨HS,HR,HBX⟩:=sqJ3 hS hR hbx;rw [hw0,hH]at x0 x1 x2 x3 y0 y1 y2;clear hg hr hgl hgc hc hr0 hc0 hS hC hR hbx;go_enter func70,ntmps70
 refine wL ?_;intros;rw [<-hw0,<-hH];have HH:=sqH hH;clear hw0 hH x0 x1 x2 x3 y0 y1 y2;refine wZ HCK.o fun w1 hb1=>?_;dsimp only;have hS1:=HS.o.below hb1;obtain⟨x0,x1,x2,x3⟩:=sqC4 hS1;have HR1:=sqH (HRN.o w1 hb1);clear HCK HRN hS1
 refine wL ?_;intros;clear x0 x1 x2 x3;refine(HR1.o).mono ?_;rintro e_ w2 ⟨hrb,hb2⟩;have hb:=wm hb1 hb2;have hR2:=HR.o.below hb;have hB2:=HBX.o.trans (hb.mono wu);have hHw:H<=w1.heap.size:=by have:=hb1.size;omega
 obtain⟨f0,f1,f2,f3⟩:=sqF4 hR2;obtain⟨y0,y1,y2,y3⟩:=sqC4 hR2;have HE:=HV.o;clear HV;unfold evP at HE;cases hev:yh more s with
 | none =>
  rw [hev]at hrb HE;cases HE
  have he:_=_:=hrb;subst he;dsimp only;have hfin:=hR2.all4 (aA aF 0 0) (aA aF 0 0) (aB aC 0) (aB aC 0);clear hR2 hb1 hb2 hb hev hrb
  refine wL ?_;intros;refine bodyPost_ret (zz rfl _ _ (H+1+1) _ _ _ _ ac hfin underlying38 rfl ww) rfl ?_;refine⟨_,_,_, [],rfl,.z_,World.ownsRow_nil _ _ _ _,?_⟩;exact yL hB2 wu _ _ _ _
 | some tg =>
  obtain⟨t,gn⟩:=tg;rw [hev]at hrb HE;cases HE
  obtain⟨v1,v2,v3,he,ho,hl⟩:=hrb;obtain⟨A1,c1,B1,d1,rfl,rfl, -⟩:=ho.rows;obtain⟨G1,n1,rfl, -, -⟩:=Rd.of_own' hl;subst he;dsimp only;have hne:=ho.nb hR2 aa aa;have hnl:=zf hl hR2 aa;have hfin:=hR2.all4 (aA A1 tt.aI.length c1) (aA B1 tt.aJ.length d1) (aB aC s.aL) (aB aC s.aK);have HGV:=sqH hev;have ho2:=ho.set4N (g:=H+1+1) (show H+1+1<w1.heap.size from by have:=hb1.size;omega) hne.1 hne.2 (aA A1 tt.aI.length c1) (aA B1 tt.aJ.length d1) (aB aC s.aL) (aB aC s.aK);have hl2:=qA hl hnl (aA A1 tt.aI.length c1) (aA B1 tt.aJ.length d1) (aB aC s.aL) (aB aC s.aK);clear hR2 hb1 hb2 hb hev ho hl hne hnl
  refine wL ?_;intros;refine bodyPost_ret (zz rfl _ _ (H+1+1) _ _ _ _ ac hfin underlying38 rfl ww) rfl ?_;refine⟨aA A1 tt.aI.length c1,aA B1 tt.aJ.length d1,aA G1 gn.length n1,_,?_,(ho2.lower hHw).mono (fun b hb=>wu),zb hl2 hHw,?_⟩
  ·rw [VD (UQ HGV.o)];rfl
  ·exact yL hB2 wu _ _ _ _
theorem z3f (hg:GoodS s) (n:Nat):(evP s n).2.1<=10:=by
 unfold evP;cases he:yh n s with
 | none=>exact Nat.zero_le _
 | some tg =>
  obtain⟨t,gn⟩:=tg;obtain⟨_,_,h,_⟩:=j6 hg he;have:=hg.e.len;dsimp only;omega
theorem z05 (A:aj) (c:Nat) (B:aj) (d:Nat) (s:StoP) (Ag:aj) (ng:Nat) (cp:ColP) (w:World) (more:Nat) (hmore:more<=4000) (hg:GoodS s) (hr:RdSt w A c B d s) (hgl:cp.aM.length<=1000) (hgc:GoodC s cp) (hc:RdC w Ag ng cp) :
  Calls zZZ 70 #[z2a A c B d s,coV (aA Ag cp.aM.length ng) cp,aB aC more] w fun e w' =>
   ∃v1 v2 A9 c9,e= .returned (.tuple #[stV v1 v2 (evP s more).1,aA A9 (evP s more).2.1 c9,aB aC ((evP s more).2.2:Int)])/\OwSt w' w.heap.size v1 v2 (evP s more).1 (fun b=>b<w.heap.size)/\Below w.heap.size w w':=by
 refine(z2u A c B d s Ag ng cp w more hmore hg hr hgl hgc hc).mono ?_;rintro e w' ⟨v1,v2,v3,xs,rfl,h1,h2,h3⟩;obtain⟨A9,c9,rfl,_⟩:=Rd.of_own' h2;exact⟨v1,v2,A9,c9,rfl,h1,h3⟩
theorem KK (g:Nat) (p:LoW) (l:LoP) (v1 v2 v3:Value) (t:StoP) (c:ColP) (q:Nat) (w:World) (N:am) (hN:N g) (hb:DkB w g p l N) (ho:q=0->OwSD w g v1 v2 v3 t c N) :
  Calls zZZ 63 #[.pointer (aG ⟨g,0,aF⟩),stV v1 v2 t,coV v3 c,aB aC q] w fun e w' =>
   e= .returned (z5i q)/\w.grownBy w' (aG g)/\∃p',DkB w' g p' (zM l t c q) N:=by
 by_cases hq:q=0
 ·obtain⟨⟨A1,c1,B1,d1,rfl,rfl, -⟩,hos⟩:=And.intro (ho hq).s.rows (ho hq);obtain⟨G1,n1,rfl, -, -⟩:=Rd.of_own' hos.c;obtain⟨w0,hw0,hS,hC,hR,hbx⟩:=jn w 38 41 82 [aA A1 t.aI.length c1,aA B1 t.aJ.length d1,aB aC t.aL,aB aC t.aK] [aB aC c.aN,aA G1 c.aM.length n1,aD ⟨c.at_.toArray⟩] [aB aC 0,aD ⟨#[]⟩,aA aF 0 0,aA aF 0 0,aB aC 0,aA aF 0 0];have hgl:=hb.lt;obtain⟨X,cX,Y,dY,G,ng,F,cF⟩:=p;obtain⟨s,co,fs⟩:=l;have hb0:=(hb.wider (N':=fun b=>N b\/w.heap.size<=b) (fun b h=>h)).below hbx;have hws:=hbx.size;have hbb:Arr w0 g 79 [aA X s.aI.length cX,aA Y s.aJ.length dY,aB aC s.aL,aB aC s.aK,aB aC co.aN,aA G co.aM.length ng,aD ⟨co.at_.toArray⟩,aA F fs.length cF]:=hb0.box;obtain⟨H,hH⟩:=wY w.heap.size
  rw [<-hH]at hS hC hR hgl;have hHl:H+1+1<w0.heap.size:=hR.lt;have hHw:w.heap.size<=H+1+1:=wu;have hq0:((q:Int)==0)=true:=by rw [beq_iff_eq];omega
  have hg7:=(zq (k:=6) (u:= aD ⟨c.at_.toArray⟩) (zq (k:=5) (u:= aA G1 c.aM.length n1) (zq (k:=4) (u:= aB aC c.aN) (zq (k:=3) (u:= aB aC t.aK) (zq (k:=2) (u:= aB aC t.aL) (zq (k:=1) (u:= aA B1 t.aJ.length d1) (zq (k:=0) (u:= aA A1 t.aI.length c1) (World.grownBy.refl w0 (aG g)))))))))
  have HA7:=sqH (Arr.fst7 hbb (aA A1 t.aI.length c1) (aA B1 t.aJ.length d1) (aB aC t.aL) (aB aC t.aK) (aB aC c.aN) (aA G1 c.aM.length n1) (aD ⟨c.at_.toArray⟩));have hR7:=hR.grown hg7 af;have HOW:=sqH (show OwLo w0 (g+1) (aA A1 t.aI.length c1) (aA B1 t.aJ.length d1) (aA G1 c.aM.length n1) (aA F fs.length cF) ⟨t,c,fs⟩ (fun b=>N b\/w.heap.size<=b) from⟨(hos.s.wider (fun b h=>h)).below hbx,zc hos.c hbx,hb0.own.f⟩);have HB0:=sqH (zZ hbx (aG g));obtain⟨f0,f1,f2,f3,f4,f5⟩:=sqF6 hR;obtain⟨u0,u1,u2,u3,u4,u5⟩:=sqC6 hR;obtain⟨HF,HR7,HG7⟩:=sqJ3 (hR7.all6 (aB aC q) (aD ⟨#[]⟩) (aA aF 0 0) (aA aF 0 0) (aB aC 0) (aA aF 0 0)) hR7 hg7;have d0:=hbb.c0;have d1':=hbb.c1;have d2:=hbb.c2;have d3:=hbb.c3;have d4:=hbb.c4;have d5:=hbb.c5;have d6:=hbb.c6;obtain⟨e0,e1,e2,e3,e4,e5,e6⟩:=sqF7 hbb;obtain⟨x0,x1,x2,x3⟩:=sqC4 hS;obtain⟨y0,y1,y2⟩:=sqC3 hC;have n1:¬(H=g):=wu;have n2:¬(H+1=g):=wu;obtain⟨HQ,HW0,HH⟩:=sqJ3 hq hw0 hH;clear hq ho hb hb0 hos hbb hbx hS hC hR hR7 hg7 hw0 hH;go_enter func63,ntmps63
  refine wM 2 ?_;intros;rw [<-HW0.o,<-HH.o];go_region
  all_goals (try dsimp only [Exit.then])
  clear d0 d1' d2 d3 d4 d5 d6 e0 e1 e2 e3 e4 e5 e6 x0 x1 x2 x3 y0 y1 y2
  refine wL ?_;intros;refine bodyPost_ret (results_cell_row rfl _ _ (H+1+1) _ _ _ _ ac (Arr.drew HF.o) underlying82 rfl ww) rfl ?_;refine⟨rfl,zQ (zl (HB0.o.trans HG7.o) hHw _ _ _ _ _ _) (Below.refl _ _).drew,?_⟩;obtain⟨p',hD⟩:=DkB.mk' (HOW.o.grownE HG7.o (Nat.lt_succ_self g) (.inl hN)) HA7.o;have e1:zM ⟨s,co,fs⟩ t c q=⟨t,c,fs⟩:=if_pos HQ.o;rw [e1];exact⟨p',((hD.set6 HR7.o (.inr hHw) wu _ _ _ _ _ _).below (Below.refl _ _).drew).mono fun b h=> .inl h⟩
 ·obtain⟨w0,hw0,hS,hC,hR,hbx⟩:=jn w 38 41 82 [v1,v2,aB aC t.aL,aB aC t.aK] [aB aC c.aN,v3,aD ⟨c.at_.toArray⟩] [aB aC 0,aD ⟨#[]⟩,aA aF 0 0,aA aF 0 0,aB aC 0,aA aF 0 0];have hgl:=hb.lt;obtain⟨H,hH⟩:=wY w.heap.size
  rw [<-hH]at hS hC hR hgl;have hHw:w.heap.size<=H+1+1:=wu;have hq0:((q:Int)==0)=false:=by rw [beq_eq_false_iff_ne];omega
  obtain⟨HR,HG,HD⟩:=sqJ3 (hR.all6 (aB aC q) (aD ⟨#[]⟩) (aA aF 0 0) (aA aF 0 0) (aB aC 0) (aA aF 0 0)) (zl (zZ hbx (aG g)) hHw (aB aC q) (aD ⟨#[]⟩) (aA aF 0 0) (aA aF 0 0) (aB aC 0) (aA aF 0 0)) (((hb.wider (N':=fun b=>N b\/w.heap.size<=b) (fun b h=>h)).below hbx).set6 hR (.inr hHw) wu (aB aC q) (aD ⟨#[]⟩) (aA aF 0 0) (aA aF 0 0) (aB aC 0) (aA aF 0 0));obtain⟨f0,f1,f2,f3,f4,f5⟩:=sqF6 hR;obtain⟨u0,u1,u2,u3,u4,u5⟩:=sqC6 hR;obtain⟨HQ,HW0,HH⟩:=sqJ3 hq hw0 hH;clear hq ho hb hbx hS hC hR hw0 hH;go_enter func63,ntmps63
  refine wM 3 ?_;intros;rw [<-HW0.o,<-HH.o]
  refine wL ?_;intros;refine bodyPost_ret (results_cell_row rfl _ _ (H+1+1) _ _ _ _ ac HR.o underlying82 rfl ww) rfl ?_;have e1:zM l t c q=l:=if_neg HQ.o;rw [e1];exact⟨rfl,HG.o,_,HD.o.mono fun b h=> .inl h⟩
theorem jy (g:Nat) (p:LoW) (l:LoP) (v1 v2 v3 v4:Value) (m:LoP) (q:Nat) (w:World) (N:am) (hN:N g) (hb:DkB w g p l N) (ho:q=0->OwLo w (g+1) v1 v2 v3 v4 m N) :
  Calls zZZ 66 #[.pointer (aG ⟨g,0,aF⟩),Yk v1 v2 v3 v4 m,aB aC q] w fun e w' =>
   e= .returned (z5i q)/\w.grownBy w' (aG g)/\∃p',DkB w' g p' (vx l m q) N:=by
 by_cases hq:q=0
 ·obtain⟨⟨⟨A1,c1,B1,d1,G1,n1,F1,f1⟩,rfl,rfl,rfl,rfl, -⟩,hos⟩:=And.intro (ho hq).rd (ho hq);dsimp only at hos ⊢
  obtain⟨w0,hw0,hS,hR,hbx⟩:=zI w 44 82 [aA A1 m.st.aI.length c1,aA B1 m.st.aJ.length d1,aB aC m.st.aL,aB aC m.st.aK,aB aC m.co.aN,aA G1 m.co.aM.length n1,aD ⟨m.co.at_.toArray⟩,aA F1 m.fs.length f1] [aB aC 0,aD ⟨#[]⟩,aA aF 0 0,aA aF 0 0,aB aC 0,aA aF 0 0];have hgl:=hb.lt;obtain⟨X,cX,Y,dY,G,ng,F,cF⟩:=p;obtain⟨s,co,fs⟩:=l;have hb0:=(hb.wider (N':=fun b=>N b\/w.heap.size<=b) (fun b h=>h)).below hbx;have hbb:Arr w0 g 79 [aA X s.aI.length cX,aA Y s.aJ.length dY,aB aC s.aL,aB aC s.aK,aB aC co.aN,aA G co.aM.length ng,aD ⟨co.at_.toArray⟩,aA F fs.length cF]:=hb0.box;obtain⟨H,hH⟩:=wY w.heap.size
  rw [<-hH]at hS hR hgl;have hHw:w.heap.size<=H+1:=wu;have hq0:((q:Int)==0)=true:=by rw [beq_iff_eq];omega
  have hg8:=(zq (k:=7) (u:= aA F1 m.fs.length f1) (zq (k:=6) (u:= aD ⟨m.co.at_.toArray⟩) (zq (k:=5) (u:= aA G1 m.co.aM.length n1) (zq (k:=4) (u:= aB aC m.co.aN) (zq (k:=3) (u:= aB aC m.st.aK) (zq (k:=2) (u:= aB aC m.st.aL) (zq (k:=1) (u:= aA B1 m.st.aJ.length d1) (zq (k:=0) (u:= aA A1 m.st.aI.length c1) (World.grownBy.refl w0 (aG g))))))))))
  have HA8:=sqH (hbb.all8 (aA A1 m.st.aI.length c1) (aA B1 m.st.aJ.length d1) (aB aC m.st.aL) (aB aC m.st.aK) (aB aC m.co.aN) (aA G1 m.co.aM.length n1) (aD ⟨m.co.at_.toArray⟩) (aA F1 m.fs.length f1));have hR8:=hR.grown hg8 af;have HOW:=sqH (show OwLo w0 (g+1) (aA A1 m.st.aI.length c1) (aA B1 m.st.aJ.length d1) (aA G1 m.co.aM.length n1) (aA F1 m.fs.length f1) m (fun b=>N b\/w.heap.size<=b) from⟨(hos.s.wider (fun b h=>h)).below hbx,zc hos.c hbx,hos.f.below hbx⟩);have HB0:=sqH (zZ hbx (aG g));obtain⟨z0,z1,z2,z3,z4,z5⟩:=sqF6 hR;obtain⟨u0,u1,u2,u3,u4,u5⟩:=sqC6 hR;obtain⟨HF,HR8,HG8⟩:=sqJ3 (hR8.all6 (aB aC q) (aD ⟨#[]⟩) (aA aF 0 0) (aA aF 0 0) (aB aC 0) (aA aF 0 0)) hR8 hg8;obtain⟨y0,y1,y2,y3,y4,y5,y6,y7⟩:=sqC8 hbb;obtain⟨e0,e1,e2,e3,e4,e5,e6,e7⟩:=sqF8 hbb;obtain⟨x0,x1,x2,x3,x4,x5,x6,x7⟩:=sqC8 hS;have n1':¬(H=g):=wu;obtain⟨HQ,HW0,HH⟩:=sqJ3 hq hw0 hH;rw [hw0,hH]at x0 x1 x2 x3 x4 x5 x6 x7;clear hq ho hb hb0 hos hbb hbx hS hR hR8 hg8 hw0 hH;go_enter func66,ntmps66
  refine wM 2 ?_;intros;rw [<-HW0.o,<-HH.o];rw [<-HW0.o,<-HH.o]at x0 x1 x2 x3 x4 x5 x6 x7
  refine wL ?_;intros;refine bodyPost_ret (results_cell_row rfl _ _ (H+1) _ _ _ _ ac HF.o underlying82 rfl ww) rfl ?_;refine⟨rfl,zl (HB0.o.trans HG8.o) hHw _ _ _ _ _ _,?_⟩;obtain⟨p',hD⟩:=DkB.mk' (HOW.o.grownE HG8.o (Nat.lt_succ_self g) (.inl hN)) HA8.o;have e1:vx ⟨s,co,fs⟩ m q=m:=if_pos HQ.o;rw [e1];exact⟨p',(hD.set6 HR8.o (.inr hHw) wu _ _ _ _ _ _).mono fun b h=> .inl h⟩
 ·obtain⟨w0,hw0,hS,hR,hbx⟩:=zI w 44 82 [v1,v2,aB aC m.st.aL,aB aC m.st.aK,aB aC m.co.aN,v3,aD ⟨m.co.at_.toArray⟩,v4] [aB aC 0,aD ⟨#[]⟩,aA aF 0 0,aA aF 0 0,aB aC 0,aA aF 0 0];have hgl:=hb.lt;obtain⟨H,hH⟩:=wY w.heap.size
  rw [<-hH]at hS hR hgl;have hHw:w.heap.size<=H+1:=wu;have hq0:((q:Int)==0)=false:=by rw [beq_eq_false_iff_ne];omega
  obtain⟨HR,HG,HD⟩:=sqJ3 (hR.all6 (aB aC q) (aD ⟨#[]⟩) (aA aF 0 0) (aA aF 0 0) (aB aC 0) (aA aF 0 0)) (zl (zZ hbx (aG g)) hHw (aB aC q) (aD ⟨#[]⟩) (aA aF 0 0) (aA aF 0 0) (aB aC 0) (aA aF 0 0)) (((hb.wider (N':=fun b=>N b\/w.heap.size<=b) (fun b h=>h)).below hbx).set6 hR (.inr hHw) wu (aB aC q) (aD ⟨#[]⟩) (aA aF 0 0) (aA aF 0 0) (aB aC 0) (aA aF 0 0));obtain⟨z0,z1,z2,z3,z4,z5⟩:=sqF6 hR;obtain⟨u0,u1,u2,u3,u4,u5⟩:=sqC6 hR;obtain⟨HQ,HW0,HH⟩:=sqJ3 hq hw0 hH;clear hq ho hb hbx hS hR hw0 hH;go_enter func66,ntmps66
  refine wM 3 ?_;intros;rw [<-HW0.o,<-HH.o]
  refine wL ?_;intros;refine bodyPost_ret (results_cell_row rfl _ _ (H+1) _ _ _ _ ac HR.o underlying82 rfl ww) rfl ?_;have e1:vx l m q=l:=if_neg HQ.o;rw [e1];exact⟨rfl,HG.o,_,HD.o.mono fun b h=> .inl h⟩
def yZ (r:RepP) (A:aj) (c:Nat) (A':aj) (c':Nat) (B:aj) (d:Nat):ak:= [aB aC r.err,aD ⟨r.dig.toArray⟩,aA A r.data.length c,aA A' r.aP.length c',aB aC r.n,aA B r.who.length d]
theorem JT (r:RepP) (A:aj) (c:Nat) (A':aj) (c':Nat) (B:aj) (d:Nat):∀u∈yZ r A c A' c' B d,u.oneCell'=true:=by
 intro u hu;simp only [yZ,List.mem_cons,List.not_mem_nil,or_false]at hu;rcases hu with rfl | rfl | rfl | rfl | rfl | rfl<;>rfl
theorem Kt {r:RepP} {c:Nat} {A':aj} {c':Nat} {B:aj} {d b:Nat} (h:leads b (yZ r A c A' c' B d)):∃a,(A=aG a\/A'=aG a\/B=aG a)/\a.block=b:=by
 obtain⟨a,n,c2,hm,rfl⟩:=h;simp only [yZ,List.mem_cons,List.not_mem_nil,or_false,Value.slice.injEq,reduceCtorEq,false_or]at hm;rcases hm with ⟨e,_⟩ | ⟨e,_⟩ | ⟨e,_⟩
 ·exact⟨a,.inl e.symm,rfl⟩
 ·exact⟨a,.inr (.inl e.symm),rfl⟩
 ·exact⟨a,.inr (.inr e.symm),rfl⟩
def z0p:Shp RepP where
 size:=6
 R w r cs:=∃A c A' c' B d,cs=yZ r A c A' c' B d/\Sl w 1 A r.data.length c (bys r.data)/\Sl w 3 A' r.aP.length c' (pcs r.aP)/\Sl w 1 B r.who.length d (ins r.who)
 len:=by rintro w r cs ⟨A,c,A',c',B,d,rfl,_⟩;rfl
 one:=by
  rintro w r cs ⟨A,c,A',c',B,d,rfl,_⟩
  exact JT r A c A' c' B d
 live:=by
  rintro w r cs ⟨A,c,A',c',B,d,rfl,h1,h2,h3⟩ g hl
  obtain⟨a,e | e | e,rfl⟩:=Kt hl
  ·exact h1.live a e
  ·exact h2.live a e
  ·exact h3.live a e
 keep:=by
  rintro w w' r cs ⟨A,c,A',c',B,d,rfl,h1,h2,h3⟩ hs hk
  exact⟨A,c,A',c',B,d,rfl,h1.keep hs fun g hg ⟨a,ha,hb⟩=>hk g hg ⟨a,r.data.length,c,by subst ha;simp [yZ],hb⟩,h2.keep hs fun g hg ⟨a,ha,hb⟩=>hk g hg ⟨a,r.aP.length,c',by subst ha;simp [yZ],hb⟩,h3.keep hs fun g hg ⟨a,ha,hb⟩=>hk g hg ⟨a,r.who.length,d,by subst ha;simp [yZ],hb⟩⟩
theorem Rw.rep_at {l:List RepP} (h:Rw z0p w A l) (k:Nat) (hk:k<l.length) :
  ∃b off B c B' c' C d,A=aG ⟨b,off,aF⟩/\b<w.heap.size/\w.cell? ⟨b,off+k*6,aF⟩=aG (aB aC (l[k].err:Int))/\w.cell? ⟨b,off+k*6+1,aF⟩=aG (aD ⟨l[k].dig.toArray⟩) /\
   w.cell? ⟨b,off+k*6+2,aF⟩=aG (aA B l[k].data.length c)/\w.cell? ⟨b,off+k*6+3,aF⟩=aG (aA B' l[k].aP.length c')/\w.cell? ⟨b,off+k*6+4,aF⟩=aG (aB aC (l[k].n:Int))/\w.cell? ⟨b,off+k*6+5,aF⟩=aG (aA C l[k].who.length d) /\
   Sl w 1 B l[k].data.length c (bys l[k].data)/\Sl w 3 B' l[k].aP.length c' (pcs l[k].aP)/\Sl w 1 C l[k].who.length d (ins l[k].who):=by
 obtain⟨b,off,cs,rfl,hb,⟨B,c,B',c',C,d,rfl,h1,h2,h3⟩,hc⟩:=h.at_ k hk;exact⟨b,off,B,c,B',c',C,d,rfl,hb,hc 0 _ rfl,hc 1 _ rfl,hc 2 _ rfl,hc 3 _ rfl,hc 4 _ rfl,hc 5 _ rfl,h1,h2,h3⟩
theorem z4v:El zZZ 34 82 6 104:=El.mk' (z:= .agg #[aB aC 0,aD ByteArray.empty,aA aF 0 0,aA aF 0 0,aB aC 0,aA aF 0 0]) underlying34 ww rfl wu wu
abbrev orC (kd n:Nat) (dg D:ai) (ps:List PartP) (A:aj) (c:Nat) (A':aj) (c':Nat):ak:= [aB aC kd,aB aC n,aD ⟨dg.toArray⟩,aA A D.length c,aA A' ps.length c']
theorem Yf {X Y G F:aj} {cX dY ng cF:Nat} {co:ColP} (kd n:Nat) (dg D:ai) (ps:List PartP) (A:aj) (c:Nat) (A':aj) (c':Nat) (hL:GoodL ⟨s,co,fs⟩) (hNw:∀b,N b->b<w.heap.size) (hb:DkB w g ⟨X,cX,Y,dY,G,ng,F,cF⟩ ⟨s,co,fs⟩ N) (hd:Sl w 1 A D.length c (bys D)) (hq:Sl w 3 A' ps.length c' (pcs ps)) :
  ∃(w0:World) (H:Nat),Hid (∀W,Below w0.heap.size w0 W->DkB W g ⟨X,cX,Y,dY,G,ng,F,cF⟩ ⟨s,co,fs⟩ (fun b=>N b\/w.heap.size<=b)) /\
   Hid (∀W,Below w0.heap.size w0 W->wJ W g (aA X s.aI.length cX) (aA Y s.aJ.length dY) (aB aC s.aL) (aB aC s.aK) (aB aC co.aN) (aA G co.aM.length ng) (aD ⟨co.at_.toArray⟩) (aA F fs.length cF)) /\
   w.heap.size<=w0.heap.size/\Hid (Below w.heap.size w w0)/\Hid (Sl w0 1 A D.length c (bys D))/\Hid (Sl w0 3 A' ps.length c' (pcs ps))/\w.heap.size<=H/\w.heap.size<=H+1/\g≠H+1/\H+1<w0.heap.size/\g<H/\g<w.heap.size /\
   Hid (∀W,Below w0.heap.size w0 W->Arr W H 28 (orC kd n dg D ps A c A' c'))/\Hid (∀W,Below w0.heap.size w0 W->Arr W (H+1) 82 z5j)/\Hid (GoodL ⟨s,co,fs⟩)/\Hid (∀b,N b->b<w.heap.size) /\
   ((w.alloc (aE #[aB aC kd,aB aC n,aD ⟨dg.toArray⟩,aA A D.length c,aA A' ps.length c'] 28)).alloc (aE #[aB aC 0,aD ⟨#[]⟩,aA aF 0 0,aA aF 0 0,aB aC 0,aA aF 0 0] 82)).cell? ⟨w.heap.size,0,aF⟩=aG (aB aC kd)/\((w.alloc (aE #[aB aC kd,aB aC n,aD ⟨dg.toArray⟩,aA A D.length c,aA A' ps.length c'] 28)).alloc (aE #[aB aC 0,aD ⟨#[]⟩,aA aF 0 0,aA aF 0 0,aB aC 0,aA aF 0 0] 82)).cell? ⟨w.heap.size,1,aF⟩=aG (aB aC n)/\((w.alloc (aE #[aB aC kd,aB aC n,aD ⟨dg.toArray⟩,aA A D.length c,aA A' ps.length c'] 28)).alloc (aE #[aB aC 0,aD ⟨#[]⟩,aA aF 0 0,aA aF 0 0,aB aC 0,aA aF 0 0] 82)).cell? ⟨w.heap.size,2,aF⟩=aG (aD ⟨dg.toArray⟩)/\((w.alloc (aE #[aB aC kd,aB aC n,aD ⟨dg.toArray⟩,aA A D.length c,aA A' ps.length c'] 28)).alloc (aE #[aB aC 0,aD ⟨#[]⟩,aA aF 0 0,aA aF 0 0,aB aC 0,aA aF 0 0] 82)).cell? ⟨w.heap.size,3,aF⟩=aG (aA A D.length c)/\((w.alloc (aE #[aB aC kd,aB aC n,aD ⟨dg.toArray⟩,aA A D.length c,aA A' ps.length c'] 28)).alloc (aE #[aB aC 0,aD ⟨#[]⟩,aA aF 0 0,aA aF 0 0,aB aC 0,aA aF 0 0] 82)).cell? ⟨w.heap.size,4,aF⟩=aG (aA A' ps.length c') /\
   Hid (w0=((w.alloc (aE #[aB aC kd,aB aC n,aD ⟨dg.toArray⟩,aA A D.length c,aA A' ps.length c'] 28)).alloc (aE #[aB aC 0,aD ⟨#[]⟩,aA aF 0 0,aA aF 0 0,aB aC 0,aA aF 0 0] 82)))/\Hid (H=w.heap.size):=by
 have hgl:=hb.lt;have hbw:=hb.wider (N':=fun b=>N b\/w.heap.size<=b) (fun b h=>h);obtain⟨w0,hw0,hP,hR,hbx⟩:=zI w 28 82 [aB aC kd,aB aC n,aD ⟨dg.toArray⟩,aA A D.length c,aA A' ps.length c'] [aB aC 0,aD ⟨#[]⟩,aA aF 0 0,aA aF 0 0,aB aC 0,aA aF 0 0];refine⟨w0,w.heap.size,Lib.hid fun W h=>(hbw.below hbx).below h,Lib.hid fun W h=> ?_,hbx.size,Lib.hid hbx,Lib.hid (hd.below hbx),Lib.hid (hq.below hbx),Nat.le_refl _,wu,wu,hR.lt,hgl,hgl,Lib.hid fun W h=>hP.below h,Lib.hid fun W h=>hR.below h,Lib.hid hL,Lib.hid hNw,?_,?_,?_,?_,?_,Lib.hid hw0,Lib.hid rfl⟩
 ·have b:=((hbw.below hbx).below h).box;exact sqC8 b
 ·rw [<-hw0];exact hP.c0
 ·rw [<-hw0];exact hP.c1
 ·rw [<-hw0];exact hP.c2
 ·rw [<-hw0];exact hP.c3
 ·rw [<-hw0];exact hP.c4
abbrev orV (kd n:Nat) (dg D:ai) (ps:List PartP) (A:aj) (c:Nat) (A':aj) (c':Nat):Value:= .agg #[aB aC kd,aB aC n,aD ⟨dg.toArray⟩,aA A D.length c,aA A' ps.length c']
def ka (w:World) (g:Nat) (N:am) (r:LoP×RepP) (e:Ending) (w':World):Prop :=
 ∃dv pv wv,e= .returned (z5y r.2 dv pv wv)/\w.grownBy w' (aG g)/\(∃p',DkB w' g p' r.1 N)/\RepAt w' w.heap.size r.2 dv pv wv
theorem z2r (g:Nat) (p:LoW) (l:LoP) (kd n:Nat) (dg D:ai) (ps:List PartP) (A:aj) (c:Nat) (A':aj) (c':Nat) (w:World) (hL:GoodL l) (h3:D.length<=300) (h1:kd=1) (N:am) (hNg:N g) (hNw:∀b,N b->b<w.heap.size) (hb:DkB w g p l N) (hd:Sl w 1 A D.length c (bys D)) (hq:Sl w 3 A' ps.length c' (pcs ps)) :
  Calls Tryz.prog 49 #[.pointer (aG ⟨g,0,aF⟩),orV kd n dg D ps A c A' c'] w (ka w g N (blobD l ⟨kd,n,dg,D,ps⟩)):=by
 have k1:((kd:Int)==1)=true:=by rw [beq_iff_eq];omega
 have HK:=sqH h1;clear h1;have HPX:=sqH h3;clear h3;obtain⟨X,cX,Y,dY,G,ng,F,cF⟩:=p;obtain⟨s,co,fs⟩:=l;obtain⟨w0,H,HDK,HBC,hws,HBX,HD,HQ,hHw,hHw1,hgH,hHl,hgl,hgw,HP,HR,HL,HNW,x0,x1,x2,x3,x4,HW0,HH⟩:=Yf kd n dg D ps A c A' c' hL hNw hb hd hq;clear hb hd hq hL hNw;go_enter func49,ntmps49
 refine wM 3 ?_;intros;rw [<-HW0.o,<-HH.o];clear x0 x1 x2 x3 x4;have HPB:=sqH (fun W (h:Below w0.heap.size w0 W)=>VY X cX Y dY s G ng co W D A c HL.o.s (HDK.o W h).rd.s HL.o.g HL.o.c (HDK.o W h).rd.c HPX.o (HD.o.below h));generalize hpb:pbP s co D=r at HPB;obtain⟨t,c2,dq,q⟩:=r;dsimp only at HPB;have HSB:=sqH (show ∀W,Below w0.heap.size w0 W->(wK W g (aA X s.aI.length cX) (aA Y s.aJ.length dY) (aB aC s.aL) (aB aC s.aK) (aB aC co.aN) (aA G co.aM.length ng) (aD ⟨co.at_.toArray⟩))/\W.cell? ⟨H,3,aF⟩=aG (aA A D.length c) from fun W h=>by
  obtain⟨y0,y1,y2,y3,y4,y5,y6,_⟩:=HBC.o W h;exact⟨⟨y0,y1,y2,y3,y4,y5,y6⟩,(HP.o W h).c3⟩)
 have HPD:=sqH hpb;clear hpb
 iterate 1 (first | go_values | go_skip | go_guarded | go_step | go_upon | go_back)
 apply zC;intro REST;apply zC;intro Rb1;apply zC;intro Rb2;apply zC;intro Rb3;apply zC;intro Rb4;refine ze [20,21] (S:=(fun w'=>(wK w' g (aA X s.aI.length cX) (aA Y s.aJ.length dY) (aB aC s.aL) (aB aC s.aK) (aB aC co.aN) (aA G co.aM.length ng) (aD ⟨co.at_.toArray⟩))/\w'.cell? ⟨H,3,aF⟩=aG (aA A D.length c))) ww ?_ (fun hHeld=> ?_)
 ·exact HSB.o _ (((wo w0)).drew)
 have hB:=((wo w0)).drew;generalize w0.drew=wn0 at *
 refine wT 0 ?_;refine wT 1 ?_;refine wT 2 ?_;refine wT 3 ?_;refine wS 4 ?_;refine wT 5 ?_;refine wT 6 ?_;refine wT 7 ?_;refine wT 8 ?_;refine wS 9 ?_;refine wT 10 ?_;refine wS 11 ?_;refine za (rs:= [12,18,19]) ww ab ?_;refine z8.cons (o:=_) rfl (fun K hK=> ?_) ?_
 ·
  go_simp;refine(HPB.o wn0 hB).mono ?_;rintro e5 w5 ⟨v1,v2,v3,rfl,ho5,hb5⟩;obtain⟨A1,c1,B1,d1,rfl,rfl, -⟩:=ho5.s.rows;obtain⟨G1,n1,rfl, -, -⟩:=Rd.of_own' ho5.c;dsimp only;refine wC hK (HSB.o _ ((wm hB hb5))) (fun W=>Below w0.heap.size w0 W/\OwSt W w.heap.size (aA A1 t.aI.length c1) (aA B1 t.aJ.length d1) t (fun b=>(N b\/b=H+1))/\W.ownsRow w.heap.size 9 1 (aA G1 c2.aM.length n1) c2.aM.length (strs c2.aM)) (by exact⟨wm hB hb5,(ho5.s.lower (base':=w.heap.size) (by have:=hB.size;omega)).mono (N':=(fun b=>(N b\/b=H+1))) (fun b hb=>by have:=hB.size;rcases hb with hb | hb;(have:=HNW.o b hb;omega);omega),zb ho5.c (by have:=hB.size;omega)⟩) fun wn1 hF=> ?_;clear hB hHeld hb5 ho5 hK K;obtain⟨hHeld,hB,ho,hl⟩:=hF
  refine wT 13 ?_;refine wT 14 ?_;refine wT 15 ?_;refine wT 16 ?_;refine wT 17 ?_;refine za (rs:= [18,19]) ww ab ?_;refine z8.cons (o:=_) rfl (fun K hK=> ?_) ?_
  ·
   obtain⟨g5,hge,hba,hn,hnl,hN⟩:=wG wn1 38 [aA aF 0 0,aA aF 0 0,aB aC 0,aB aC 0] hB.size;go_simp;rw [<-hge];clear hge;refine wC hK (HSB.o _ ((wm hB hba))) (fun W=>Below w0.heap.size w0 W/\Arr W g5 38 [aA aF 0 0,aA aF 0 0,aB aC 0,aB aC 0]/\w0.heap.size<=g5/\OwSt W w.heap.size (aA A1 t.aI.length c1) (aA B1 t.aJ.length d1) t (fun b=>(N b\/b=H+1)\/b=g5)/\W.ownsRow w.heap.size 9 1 (aA G1 c2.aM.length n1) c2.aM.length (strs c2.aM)) ⟨wm hB hba,hn,hnl,(ho.wider (N':=(fun b=>(N b\/b=H+1)\/b=g5)) (fun b hb=>hb.elim (fun hb=> .inl hb) (fun hb=> .inr (hN _ hb)))).below hba,zc hl hba⟩ fun wn2 hF=> ?_;clear hl ho hB hHeld hba hn hnl hN hK K;obtain⟨hHeld,hB,h5,h5l,ho,hl⟩:=hF
   try simp only [sqP]
   have hall:=aH hB (aH h5 (aH h5l (aH ho (aH hl hHeld))));clear hHeld hl ho h5l h5 hB;generalize wn2=wz at hall ⊢
   revert hall;revert wz;revert g5;revert n1;revert G1;revert d1;revert B1;revert c1;revert A1;exact Rb2.o
  refine z8.cons (o:=_) rfl (fun K hK=> ?_) ?_
  ·
   obtain⟨g6,hge,hba,hn,hnl,hN⟩:=wG wn1 41 [aB aC 0,aA aF 0 0,aD ⟨#[]⟩] hB.size;go_simp;rw [<-hge];clear hge;refine wC hK (HSB.o _ ((wm hB hba))) (fun W=>Below w0.heap.size w0 W/\Arr W g6 41 [aB aC 0,aA aF 0 0,aD ⟨#[]⟩]/\w0.heap.size<=g6/\OwSt W w.heap.size (aA A1 t.aI.length c1) (aA B1 t.aJ.length d1) t (fun b=>(N b\/b=H+1)\/b=g6)/\W.ownsRow w.heap.size 9 1 (aA G1 c2.aM.length n1) c2.aM.length (strs c2.aM)) ⟨wm hB hba,hn,hnl,(ho.wider (N':=(fun b=>(N b\/b=H+1)\/b=g6)) (fun b hb=>hb.elim (fun hb=> .inl hb) (fun hb=> .inr (hN _ hb)))).below hba,zc hl hba⟩ fun wn3 hF=> ?_;clear hl ho hB hHeld hba hn hnl hN hK K;obtain⟨hHeld,hB,h6,h6l,ho,hl⟩:=hF
   try simp only [sqP]
   have hall:=aH hB (aH h6 (aH h6l (aH ho (aH hl hHeld))));clear hHeld hl ho h6l h6 hB;generalize wn3=wz at hall ⊢
   revert hall;revert wz;revert g6;revert n1;revert G1;revert d1;revert B1;revert c1;revert A1;exact Rb3.o
  exact z8.nil
 refine z8.cons (o:=_) rfl (fun K hK=> ?_) ?_
 ·
  obtain⟨g5,hge,hba,hn,hnl,hN⟩:=wG wn0 38 [aA aF 0 0,aA aF 0 0,aB aC 0,aB aC 0] hB.size;go_simp;rw [<-hge];clear hge;refine wC hK (HSB.o _ ((wm hB hba))) (fun W=>Below w0.heap.size w0 W/\Arr W g5 38 [aA aF 0 0,aA aF 0 0,aB aC 0,aB aC 0]/\w0.heap.size<=g5) ⟨wm hB hba,hn,hnl⟩ fun wn4 hF=> ?_;clear hB hHeld hba hn hnl hN hK K;obtain⟨hHeld,hB,h5,h5l⟩:=hF
  try simp only [sqP]
  refine za (rs:= [12,19]) ww ab ?_;refine z8.cons (o:=_) rfl (fun K hK=> ?_) ?_
  ·
   go_simp;refine(HPB.o wn4 hB).mono ?_;rintro e5 w5 ⟨v1,v2,v3,rfl,ho5,hb5⟩;obtain⟨A1,c1,B1,d1,rfl,rfl, -⟩:=ho5.s.rows;obtain⟨G1,n1,rfl, -, -⟩:=Rd.of_own' ho5.c;dsimp only;refine wC hK (HSB.o _ ((wm hB hb5))) (fun W=>Below w0.heap.size w0 W/\Arr W g5 38 [aA aF 0 0,aA aF 0 0,aB aC 0,aB aC 0]/\w0.heap.size<=g5/\OwSt W w.heap.size (aA A1 t.aI.length c1) (aA B1 t.aJ.length d1) t (fun b=>(N b\/b=H+1)\/b=g5)/\W.ownsRow w.heap.size 9 1 (aA G1 c2.aM.length n1) c2.aM.length (strs c2.aM)) (by exact⟨wm hB hb5,h5.below hb5,h5l,(ho5.s.lower (base':=w.heap.size) (by have:=hB.size;omega)).mono (N':=(fun b=>(N b\/b=H+1)\/b=g5)) (fun b hb=>hb.elim (fun hb=>by have:=hB.size;rcases hb with hb | hb;(have:=HNW.o b hb;omega);omega) (fun hb=>(by rw [hb];exact h5.lt))),zb ho5.c (by have:=hB.size;omega)⟩) fun wn5 hF=> ?_;clear h5l h5 hB hHeld hb5 ho5 hK K;obtain⟨hHeld,hB,h5,h5l,ho,hl⟩:=hF
   refine wT 13 ?_;refine wT 14 ?_;refine wT 15 ?_;refine wT 16 ?_;refine wT 17 ?_;exact Rb2.o A1 c1 B1 d1 G1 n1 g5 wn5 ⟨hB,h5,h5l,ho,hl,hHeld⟩
  refine z8.cons (o:=_) rfl (fun K hK=> ?_) ?_
  ·
   obtain⟨g6,hge,hba,hn,hnl,hN⟩:=wG wn4 41 [aB aC 0,aA aF 0 0,aD ⟨#[]⟩] hB.size;go_simp;rw [<-hge];clear hge;refine wC hK (HSB.o _ ((wm hB hba))) (fun W=>Below w0.heap.size w0 W/\Arr W g5 38 [aA aF 0 0,aA aF 0 0,aB aC 0,aB aC 0]/\w0.heap.size<=g5/\Arr W g6 41 [aB aC 0,aA aF 0 0,aD ⟨#[]⟩]/\w0.heap.size<=g6/\g5≠g6) (by exact⟨wm hB hba,h5.below hba,h5l,hn,hnl,(fun e=>Nat.lt_irrefl _ (by have h1:=h5.lt;rw [e]at h1;exact Nat.lt_of_lt_of_le h1 (hN _ rfl)))⟩) fun wn6 hF=> ?_;clear h5l h5 hB hHeld hba hn hnl hN hK K;obtain⟨hHeld,hB,h5,h5l,h6,h6l,h56n⟩:=hF
   try simp only [sqP]
   have hall:=aH hB (aH h5 (aH h5l (aH h6 (aH h6l (aH h56n hHeld)))));clear hHeld h56n h6l h6 h5l h5 hB;generalize wn6=wz at hall ⊢
   revert hall;revert wz;revert g6;revert g5;exact Rb4.o
  exact z8.nil
 refine z8.cons (o:=_) rfl (fun K hK=> ?_) ?_
 ·
  obtain⟨g6,hge,hba,hn,hnl,hN⟩:=wG wn0 41 [aB aC 0,aA aF 0 0,aD ⟨#[]⟩] hB.size;go_simp;rw [<-hge];clear hge;refine wC hK (HSB.o _ ((wm hB hba))) (fun W=>Below w0.heap.size w0 W/\Arr W g6 41 [aB aC 0,aA aF 0 0,aD ⟨#[]⟩]/\w0.heap.size<=g6) ⟨wm hB hba,hn,hnl⟩ fun wn7 hF=> ?_;clear hB hHeld hba hn hnl hN hK K;obtain⟨hHeld,hB,h6,h6l⟩:=hF
  try simp only [sqP]
  refine za (rs:= [12,18]) ww ab ?_;refine z8.cons (o:=_) rfl (fun K hK=> ?_) ?_
  ·
   go_simp;refine(HPB.o wn7 hB).mono ?_;rintro e5 w5 ⟨v1,v2,v3,rfl,ho5,hb5⟩;obtain⟨A1,c1,B1,d1,rfl,rfl, -⟩:=ho5.s.rows;obtain⟨G1,n1,rfl, -, -⟩:=Rd.of_own' ho5.c;dsimp only;refine wC hK (HSB.o _ ((wm hB hb5))) (fun W=>Below w0.heap.size w0 W/\Arr W g6 41 [aB aC 0,aA aF 0 0,aD ⟨#[]⟩]/\w0.heap.size<=g6/\OwSt W w.heap.size (aA A1 t.aI.length c1) (aA B1 t.aJ.length d1) t (fun b=>(N b\/b=H+1)\/b=g6)/\W.ownsRow w.heap.size 9 1 (aA G1 c2.aM.length n1) c2.aM.length (strs c2.aM)) (by exact⟨wm hB hb5,h6.below hb5,h6l,(ho5.s.lower (base':=w.heap.size) (by have:=hB.size;omega)).mono (N':=(fun b=>(N b\/b=H+1)\/b=g6)) (fun b hb=>hb.elim (fun hb=>by have:=hB.size;rcases hb with hb | hb;(have:=HNW.o b hb;omega);omega) (fun hb=>(by rw [hb];exact h6.lt))),zb ho5.c (by have:=hB.size;omega)⟩) fun wn8 hF=> ?_;clear h6l h6 hB hHeld hb5 ho5 hK K;obtain⟨hHeld,hB,h6,h6l,ho,hl⟩:=hF
   refine wT 13 ?_;refine wT 14 ?_;refine wT 15 ?_;refine wT 16 ?_;refine wT 17 ?_;exact Rb3.o A1 c1 B1 d1 G1 n1 g6 wn8 ⟨hB,h6,h6l,ho,hl,hHeld⟩
  refine z8.cons (o:=_) rfl (fun K hK=> ?_) ?_
  ·
   obtain⟨g5,hge,hba,hn,hnl,hN⟩:=wG wn7 38 [aA aF 0 0,aA aF 0 0,aB aC 0,aB aC 0] hB.size;go_simp;rw [<-hge];clear hge;refine wC hK (HSB.o _ ((wm hB hba))) (fun W=>Below w0.heap.size w0 W/\Arr W g5 38 [aA aF 0 0,aA aF 0 0,aB aC 0,aB aC 0]/\w0.heap.size<=g5/\Arr W g6 41 [aB aC 0,aA aF 0 0,aD ⟨#[]⟩]/\w0.heap.size<=g6/\g5≠g6) (by exact⟨wm hB hba,hn,hnl,h6.below hba,h6l,(fun e=>Nat.lt_irrefl _ (by have h1:=h6.lt;rw [<-e]at h1;exact Nat.lt_of_lt_of_le h1 (hN _ rfl)))⟩) fun wn9 hF=> ?_;clear h6l h6 hB hHeld hba hn hnl hN hK K;obtain⟨hHeld,hB,h5,h5l,h6,h6l,h56n⟩:=hF
   try simp only [sqP]
   exact Rb4.o g5 g6 wn9 ⟨hB,h5,h5l,h6,h6l,h56n,hHeld⟩
  exact z8.nil
 exact z8.nil;intro g5 g6 wRb4 hall;obtain⟨hB,h5,h5l,h6,h6l,h56n,hHeld⟩:=hall;refine za (rs:= [12]) ww ab ?_;refine z8.cons (o:=_) rfl (fun K hK=> ?_) ?_
 ·
  go_simp;refine(HPB.o wRb4 hB).mono ?_;rintro e5 w5 ⟨v1,v2,v3,rfl,ho5,hb5⟩;obtain⟨A1,c1,B1,d1,rfl,rfl, -⟩:=ho5.s.rows;obtain⟨G1,n1,rfl, -, -⟩:=Rd.of_own' ho5.c;dsimp only;refine wC hK (HSB.o _ ((wm hB hb5))) (fun W=>Below w0.heap.size w0 W/\Arr W g5 38 [aA aF 0 0,aA aF 0 0,aB aC 0,aB aC 0]/\w0.heap.size<=g5/\Arr W g6 41 [aB aC 0,aA aF 0 0,aD ⟨#[]⟩]/\w0.heap.size<=g6/\g5≠g6/\OwSt W w.heap.size (aA A1 t.aI.length c1) (aA B1 t.aJ.length d1) t (fun b=>(N b\/b=H+1)\/b=g5\/b=g6)/\W.ownsRow w.heap.size 9 1 (aA G1 c2.aM.length n1) c2.aM.length (strs c2.aM)) (by exact⟨wm hB hb5,h5.below hb5,h5l,h6.below hb5,h6l,h56n,(ho5.s.lower (base':=w.heap.size) (by have:=hB.size;omega)).mono (N':=(fun b=>(N b\/b=H+1)\/b=g5\/b=g6)) (fun b hb=>hb.elim (fun hb=>by have:=hB.size;rcases hb with hb | hb;(have:=HNW.o b hb;omega);omega) (fun hb=>hb.elim (fun hb=>by rw [hb];exact h5.lt) (fun hb=>(by rw [hb];exact h6.lt)))),zb ho5.c (by have:=hB.size;omega)⟩) fun wn10 hF=> ?_;clear h56n h6l h6 h5l h5 hB hHeld hb5 ho5 hK K;obtain⟨hHeld,hB,h5,h5l,h6,h6l,h56n,ho,hl⟩:=hF
  refine wT 13 ?_;refine wT 14 ?_;refine wT 15 ?_;refine wT 16 ?_;refine wT 17 ?_;have hall:=aH hB (aH h5 (aH h5l (aH h6 (aH h6l (aH h56n (aH ho (aH hl hHeld)))))));clear hHeld hl ho h56n h6l h6 h5l h5 hB;generalize wn10=wz at hall ⊢
  revert hall;revert wz;revert g6;revert g5;revert n1;revert G1;revert d1;revert B1;revert c1;revert A1;exact Rb1.o
 exact z8.nil;intro A1 c1 B1 d1 G1 n1 g6 wRb3 hall;obtain⟨hB,h6,h6l,ho,hl,hHeld⟩:=hall;refine za (rs:= [18]) ww ab ?_;refine z8.cons (o:=_) rfl (fun K hK=> ?_) ?_
 ·
  obtain⟨g5,hge,hba,hn,hnl,hN⟩:=wG wRb3 38 [aA aF 0 0,aA aF 0 0,aB aC 0,aB aC 0] hB.size;go_simp;rw [<-hge];clear hge;refine wC hK (HSB.o _ ((wm hB hba))) (fun W=>Below w0.heap.size w0 W/\Arr W g5 38 [aA aF 0 0,aA aF 0 0,aB aC 0,aB aC 0]/\w0.heap.size<=g5/\Arr W g6 41 [aB aC 0,aA aF 0 0,aD ⟨#[]⟩]/\w0.heap.size<=g6/\g5≠g6/\OwSt W w.heap.size (aA A1 t.aI.length c1) (aA B1 t.aJ.length d1) t (fun b=>(N b\/b=H+1)\/b=g5\/b=g6)/\W.ownsRow w.heap.size 9 1 (aA G1 c2.aM.length n1) c2.aM.length (strs c2.aM)) (by exact⟨wm hB hba,hn,hnl,h6.below hba,h6l,(fun e=>Nat.lt_irrefl _ (by have h1:=h6.lt;rw [<-e]at h1;exact Nat.lt_of_lt_of_le h1 (hN _ rfl))),(ho.wider (N':=(fun b=>(N b\/b=H+1)\/b=g5\/b=g6)) (fun b hb=>hb.elim (fun hb=> .inl (.inl hb)) (fun hb=>hb.elim (fun hb=> .inr (hN _ hb)) (fun hb=> .inl (.inr hb))))).below hba,zc hl hba⟩) fun wn11 hF=> ?_;clear hl ho h6l h6 hB hHeld hba hn hnl hN hK K;obtain⟨hHeld,hB,h5,h5l,h6,h6l,h56n,ho,hl⟩:=hF
  try simp only [sqP]
  exact Rb1.o A1 c1 B1 d1 G1 n1 g5 g6 wn11 ⟨hB,h5,h5l,h6,h6l,h56n,ho,hl,hHeld⟩
 exact z8.nil;intro A1 c1 B1 d1 G1 n1 g5 wRb2 hall;obtain⟨hB,h5,h5l,ho,hl,hHeld⟩:=hall;refine za (rs:= [19]) ww ab ?_;refine z8.cons (o:=_) rfl (fun K hK=> ?_) ?_
 ·
  obtain⟨g6,hge,hba,hn,hnl,hN⟩:=wG wRb2 41 [aB aC 0,aA aF 0 0,aD ⟨#[]⟩] hB.size;go_simp;rw [<-hge];clear hge;refine wC hK (HSB.o _ ((wm hB hba))) (fun W=>Below w0.heap.size w0 W/\Arr W g5 38 [aA aF 0 0,aA aF 0 0,aB aC 0,aB aC 0]/\w0.heap.size<=g5/\Arr W g6 41 [aB aC 0,aA aF 0 0,aD ⟨#[]⟩]/\w0.heap.size<=g6/\g5≠g6/\OwSt W w.heap.size (aA A1 t.aI.length c1) (aA B1 t.aJ.length d1) t (fun b=>(N b\/b=H+1)\/b=g5\/b=g6)/\W.ownsRow w.heap.size 9 1 (aA G1 c2.aM.length n1) c2.aM.length (strs c2.aM)) (by exact⟨wm hB hba,h5.below hba,h5l,hn,hnl,(fun e=>Nat.lt_irrefl _ (by have h1:=h5.lt;rw [e]at h1;exact Nat.lt_of_lt_of_le h1 (hN _ rfl))),(ho.wider (N':=(fun b=>(N b\/b=H+1)\/b=g5\/b=g6)) (fun b hb=>hb.elim (fun hb=> .inl (.inl hb)) (fun hb=>hb.elim (fun hb=> .inl (.inr hb)) (fun hb=> .inr (hN _ hb))))).below hba,zc hl hba⟩) fun wn12 hF=> ?_;clear hl ho h5l h5 hB hHeld hba hn hnl hN hK K;obtain⟨hHeld,hB,h5,h5l,h6,h6l,h56n,ho,hl⟩:=hF
  try simp only [sqP]
  exact Rb1.o A1 c1 B1 d1 G1 n1 g5 g6 wn12 ⟨hB,h5,h5l,h6,h6l,h56n,ho,hl,hHeld⟩
 exact z8.nil;intro A1 c1 B1 d1 G1 n1 g5 g6 wRb1 hall;obtain⟨hB,h5,h5l,h6,h6l,h56n,ho,hl,hHeld⟩:=hall;refine za (rs:= [20]) ww ab ?_;refine z8.store (o:=_) rfl ac (fun K hK=> ?_) ?_
 ·
  have hqho:=ho.nb h5 aa aa;have hqhl:=zf hl h5 aa;obtain⟨z0,f0,z1,f1,z2,f2,z3,f3⟩:=wg h5;go_simp;clear z0 f0 z1 f1 z2 f2 z3 f3;refine wD hK (fun W=>Below w0.heap.size w0 W/\Arr W g5 38 [(aA A1 t.aI.length c1),(aA B1 t.aJ.length d1),aB aC t.aL,aB aC t.aK]/\w0.heap.size<=g5/\Arr W g6 41 [aB aC 0,aA aF 0 0,aD ⟨#[]⟩]/\w0.heap.size<=g6/\g5≠g6/\OwSt W w.heap.size (aA A1 t.aI.length c1) (aA B1 t.aJ.length d1) t (fun b=>(N b\/b=H+1)\/b=g5\/b=g6)/\W.ownsRow w.heap.size 9 1 (aA G1 c2.aM.length n1) c2.aM.length (strs c2.aM)) ⟨((((hB).setCell (p:=⟨g5,0,aF⟩) h5l _).setCell (p:=⟨g5,1,aF⟩) h5l _).setCell (p:=⟨g5,2,aF⟩) h5l _).setCell (p:=⟨g5,3,aF⟩) h5l _,h5.all4 _ _ _ _,h5l,((((h6).other (h56n.symm) _).other (h56n.symm) _).other (h56n.symm) _).other (h56n.symm) _,h6l,h56n,ho.set4N (.inr (.inl rfl)) hqho.1 hqho.2 _ _ _ _,qA hl hqhl _ _ _ _⟩ fun wn13 hF=> ?_;clear hl ho h56n h6l h6 h5l h5 hB hHeld;obtain⟨hB,h5,h5l,h6,h6l,h56n,ho,hl⟩:=hF;clear hqho hqhl;clear hK K
  try simp only [sqP]
  refine wW 21 fun K hK=>?_;have hqho:=ho.nb h6 aa aa;have hqhl:=zf hl h6 aa;obtain⟨z0,f0,z1,f1,z2,f2⟩:=wh h6;go_simp;clear z0 f0 z1 f1 z2 f2;refine wD hK (fun W=>Below w0.heap.size w0 W/\Arr W g5 38 [(aA A1 t.aI.length c1),(aA B1 t.aJ.length d1),aB aC t.aL,aB aC t.aK]/\w0.heap.size<=g5/\Arr W g6 41 [aB aC c2.aN,(aA G1 c2.aM.length n1),aD ⟨c2.at_.toArray⟩]/\w0.heap.size<=g6/\g5≠g6/\OwSt W w.heap.size (aA A1 t.aI.length c1) (aA B1 t.aJ.length d1) t (fun b=>(N b\/b=H+1)\/b=g5\/b=g6)/\W.ownsRow w.heap.size 9 1 (aA G1 c2.aM.length n1) c2.aM.length (strs c2.aM)) ⟨(((hB).setCell (p:=⟨g6,0,aF⟩) h6l _).setCell (p:=⟨g6,1,aF⟩) h6l _).setCell (p:=⟨g6,2,aF⟩) h6l _,(((h5).other (h56n) _).other (h56n) _).other (h56n) _,h5l,h6.all3 _ _ _,h6l,h56n,ho.set3N (.inr (.inr rfl)) hqho.1 hqho.2 _ _ _,kz hl hqhl _ _ _⟩ fun wn14 hF=> ?_;clear hl ho h56n h6l h6 h5l h5 hB;obtain⟨hB,h5,h5l,h6,h6l,h56n,ho,hl⟩:=hF;clear hqho hqhl;clear hK K
  refine wT 22 ?_;refine wT 23 ?_;refine zo ww ?_ _
  try dsimp only [Exit.then]
  have hall:=aH hB (aH h5 (aH h5l (aH h6 (aH h6l (aH h56n (aH ho hl))))));clear hl ho h56n h6l h6 h5l h5 hB;generalize wn14=wz at hall ⊢
  revert hall;revert wz;revert g6;revert g5;revert n1;revert G1;revert d1;revert B1;revert c1;revert A1;exact REST.o
 exact z8.nil;intro A1 c1 B1 d1 G1 n1 g5 g6 w3 hall;obtain⟨hB,h5,h5l,h6,h6l,h56n,ho,hl⟩:=hall;have hgw3:g<w3.heap.size:=by have:=hB.size;omega
 have HKP:=sqH (fun (W:World) (h:Below w3.heap.size w3 W)=>KK g ⟨X,cX,Y,dY,G,ng,F,cF⟩ ⟨s,co,fs⟩ _ _ _ t c2 q W (fun b=>N b\/b=H+1) (.inl hNg) (((HDK.o _ (wm hB h)).mono fun b hb=>hb.imp id fun h=>wu)) (fun _=>⟨((ho.below h).lower wu).mono (fun b hb=> .inl hb),zb (zc hl h) wu⟩));obtain⟨a0,a1,a2,a3⟩:=sqC4 h5;obtain⟨b0,b1,b2⟩:=sqC3 h6;have HB:=sqH hB;clear hB h5 h5l h6 h6l h56n ho hl HPB HSB
 refine wL ?_;intros;refine(((HKP.o _ (Below.refl _ _)))).mono ?_;rintro e_ w4 ⟨rfl,hg4,hd4⟩;dsimp only;clear a0 a1 a2 a3 b0 b1 b2 HKP;obtain⟨w5,hw5⟩:=wY (w4.alloc (aE #[aB aC q,aD ⟨dq.toArray⟩,aA aF 0 0,aA aF 0 0,aB aC 0,aA aF 0 0] 82))
 have hb5:Below w4.heap.size w4 w5:=by rw [hw5];exact(Below.refl _ _).alloc ag _
 have hz5:Arr w5 w4.heap.size 82 [aB aC q,aD ⟨dq.toArray⟩,aA aF 0 0,aA aF 0 0,aB aC 0,aA aF 0 0]:=by rw [hw5];exact Arr.new w4 82 _
 have hr3:=((HR.o _ HB.o).grown hg4 af).below hb5;have hg5:=zQ (zR (HBX.o.trans (HB.o.mono hws)) hg4) hb5;obtain⟨HX,HW5,HZ5⟩:=sqJ3 (aH hd4 (aH hb5 (aH hg5 hr3))) hw5 hz5;obtain⟨gr,hgr⟩:=wY w4.heap.size
 have HGR:=sqH hgr;clear hd4 hb5 hg5 hr3 hg4 hw5 hz5 hgr
 refine wN 6 ?_;intros;rw [<-HW5.o,<-HGR.o];have hr3:=HX.o.2.2.2;have hz5:=HZ5.o;rw [<-HGR.o]at hz5;obtain⟨z0,z1,z2,z3,z4,z5⟩:=sqC6 hz5;clear hz5;obtain⟨f0,f1,f2,f3,f4,f5⟩:=sqF6 hr3;obtain⟨y0,y1,y2,y3,y4,y5⟩:=sqC6 hr3;have HR3:=sqH hr3;have HF:=sqH (hr3.all6 (aB aC q) (aD ⟨dq.toArray⟩) (aA aF 0 0) (aA aF 0 0) (aB aC 0) (aA aF 0 0));clear hr3
 refine wL ?_;intros;refine bodyPost_ret (results_cell_row rfl _ _ (H+1) _ _ _ _ ac HF.o underlying82 rfl ww) rfl ?_;have e1:blobD ⟨s,co,fs⟩ ⟨kd,n,dg,D,ps⟩=(zM ⟨s,co,fs⟩ t c2 q,⟨q,dq, [], [],0, []⟩):=by
  unfold blobD;rw [if_pos (show kd=1 from HK.o)];dsimp only;rw [HPD.o]
 rw [e1];obtain⟨⟨p',hd4⟩,hb5,hg5,hr5⟩:=HX.o;exact⟨_,_,_,rfl,zl hg5 hHw1 _ _ _ _ _ _,⟨p',((hd4.below hb5).set6 hr5 (.inr rfl) hgH _ _ _ _ _ _).mono fun b h=> .inl h⟩,⟨World.ownsRow_nil _ _ _ _,World.ownsRow_nil _ _ _ _,World.ownsRow_nil _ _ _ _⟩⟩
theorem z2s (g:Nat) (p:LoW) (l:LoP) (kd n:Nat) (dg D:ai) (ps:List PartP) (A:aj) (c:Nat) (A':aj) (c':Nat) (w:World) (hL:GoodL l) (h1:kd=2) (N:am) (hNg:N g) (hNw:∀b,N b->b<w.heap.size) (hb:DkB w g p l N) (hd:Sl w 1 A D.length c (bys D)) (hq:Sl w 3 A' ps.length c' (pcs ps)) :
  Calls Tryz.prog 49 #[.pointer (aG ⟨g,0,aF⟩),orV kd n dg D ps A c A' c'] w (ka w g N (blobD l ⟨kd,n,dg,D,ps⟩)):=by
 have k1:((kd:Int)==1)=false:=by rw [beq_eq_false_iff_ne];omega
 have k2:((kd:Int)==2)=true:=by rw [beq_iff_eq];omega
 have HK:=sqH h1;clear h1;obtain⟨X,cX,Y,dY,G,ng,F,cF⟩:=p;obtain⟨s,co,fs⟩:=l;obtain⟨w0,H,HDK,HBC,hws,HBX,HD,HQ,hHw,hHw1,hgH,hHl,hgl,hgw,HP,HR,HL,HNW,x0,x1,x2,x3,x4,HW0,HH⟩:=Yf kd n dg D ps A c A' c' hL hNw hb hd hq;clear hb hd hq hL hNw;go_enter func49,ntmps49
 refine wM 8 ?_;intros;rw [<-HW0.o,<-HH.o];clear x0 x1 x2 x3 x4;have HPB:=sqH (fun W (h:Below w0.heap.size w0 W)=>VX X cX Y dY s W dg HL.o.s (HDK.o W h).rd.s);generalize hpb:gbP s dg=r at HPB;obtain⟨D2,q⟩:=r;dsimp only at HPB;have HSB:=sqH (show ∀W,Below w0.heap.size w0 W->(wI W g (aA X s.aI.length cX) (aA Y s.aJ.length dY) (aB aC s.aL) (aB aC s.aK))/\W.cell? ⟨H,2,aF⟩=aG (aD ⟨dg.toArray⟩) from fun W h=>by
  obtain⟨y0,y1,y2,y3,_⟩:=HBC.o W h;exact⟨⟨y0,y1,y2,y3⟩,(HP.o W h).c2⟩)
 have HPD:=sqH hpb;clear hpb
 iterate 1 (first | go_values | go_skip | go_guarded | go_step | go_upon | go_back)
 apply zC;intro REST;refine ze [] (S:=(fun w'=>(wI w' g (aA X s.aI.length cX) (aA Y s.aJ.length dY) (aB aC s.aL) (aB aC s.aK))/\w'.cell? ⟨H,2,aF⟩=aG (aD ⟨dg.toArray⟩))) ww ?_ (fun hHeld=> ?_)
 ·exact HSB.o _ (((wo w0)).drew)
 have hB:=((wo w0)).drew;generalize w0.drew=wn0 at *
 refine wT 0 ?_;refine wT 1 ?_;refine wT 2 ?_;refine wT 3 ?_;refine wS 4 ?_;refine wT 5 ?_;refine wS 6 ?_;refine za (rs:= [7]) ww ab ?_;refine z8.cons (o:=_) rfl (fun K hK=> ?_) ?_
 ·
  go_simp;refine(HPB.o wn0 hB).mono ?_;rintro e5 w5 ⟨v1,rfl,ho5,hb5⟩;obtain⟨P1,k1_,rfl, -, -⟩:=Rd.of_own' ho5;dsimp only;refine wC hK (HSB.o _ ((wm hB hb5))) (fun W=>Below w0.heap.size w0 W/\W.ownsRow w.heap.size 5 1 (aA P1 D2.length k1_) D2.length (bys D2)) ⟨wm hB hb5,zb ho5 (by have:=hB.size;omega)⟩ fun wn1 hF=> ?_;clear hB hHeld hb5 ho5 hK K;obtain⟨hHeld,hB,hl⟩:=hF
  refine wT 8 ?_;refine wT 9 ?_;refine wT 10 ?_;refine wT 11 ?_;refine wT 12 ?_;refine zo ww ?_ _
  try dsimp only [Exit.then]
  have hall:=aH hB hl;clear hl hB;generalize wn1=wz at hall ⊢
  revert hall;revert wz;revert k1_;revert P1;exact REST.o
 exact z8.nil;intro P1 k1_ w3 hall;obtain⟨hB,hl⟩:=hall;have hr3:=HR.o _ hB;have hd3:=(HDK.o _ hB).set6 hr3 (.inr hHw1) hgH (aB aC q) (aD ⟨#[]⟩) (aA P1 D2.length k1_) (aA aF 0 0) (aB aC 0) (aA aF 0 0);have hg3:=zl (zZ (HBX.o.trans (hB.mono hws)) (aG g)) hHw1 (aB aC q) (aD ⟨#[]⟩) (aA P1 D2.length k1_) (aA aF 0 0) (aB aC 0) (aA aF 0 0);have hl3:=qB hl (zf hl hr3 aa) (aB aC q) (aD ⟨#[]⟩) (aA P1 D2.length k1_) (aA aF 0 0) (aB aC 0) (aA aF 0 0);have HX:=sqH (aH hd3 (aH hg3 hl3));clear hd3 hg3 hl3 hB hl;obtain⟨f0,f1,f2,f3,f4,f5⟩:=sqF6 hr3;obtain⟨y0,y1,y2,y3,y4,y5⟩:=sqC6 hr3;have HR3:=sqH hr3;have HF:=sqH (hr3.all6 (aB aC q) (aD ⟨#[]⟩) (aA P1 D2.length k1_) (aA aF 0 0) (aB aC 0) (aA aF 0 0));clear hr3
 refine wL ?_;intros;refine bodyPost_ret (results_cell_row rfl _ _ (H+1) _ _ _ _ ac HF.o underlying82 rfl ww) rfl ?_;have e1:blobD ⟨s,co,fs⟩ ⟨kd,n,dg,D,ps⟩=(⟨s,co,fs⟩,⟨q, [],D2, [],0, []⟩):=by
  unfold blobD;rw [if_neg (show ¬(kd=1) by have:=HK.o;omega),if_pos (show kd=2 from HK.o)];dsimp only;rw [HPD.o]
 rw [e1];obtain⟨hd3,hg3,hl3⟩:=HX.o;exact⟨_,_,_,rfl,hg3,⟨_,hd3.mono fun b h=> .inl h⟩,⟨hl3,World.ownsRow_nil _ _ _ _,World.ownsRow_nil _ _ _ _⟩⟩
theorem z2t (g:Nat) (p:LoW) (l:LoP) (kd n:Nat) (dg D:ai) (ps:List PartP) (A:aj) (c:Nat) (A':aj) (c':Nat) (w:World) (hL:GoodL l) (h1:kd=3\/kd=4) (N:am) (hNg:N g) (hNw:∀b,N b->b<w.heap.size) (hb:DkB w g p l N) (hd:Sl w 1 A D.length c (bys D)) (hq:Sl w 3 A' ps.length c' (pcs ps)) :
  Calls Tryz.prog 49 #[.pointer (aG ⟨g,0,aF⟩),orV kd n dg D ps A c A' c'] w (ka w g N (blobD l ⟨kd,n,dg,D,ps⟩)):=by
 have k1:((kd:Int)==1)=false:=by rw [beq_eq_false_iff_ne];omega
 have k2:((kd:Int)==2)=false:=by rw [beq_eq_false_iff_ne];omega
 have k3:((kd:Int)==3)=decide (kd=3):=by rw [Bool.eq_iff_iff,beq_iff_eq,decide_eq_true_iff];omega
 have HK:=sqH h1;have HK3:=sqH k3;clear h1 k3;obtain⟨X,cX,Y,dY,G,ng,F,cF⟩:=p;obtain⟨s,co,fs⟩:=l;obtain⟨w0,H,HDK,HBC,hws,HBX,HD,HQ,hHw,hHw1,hgH,hHl,hgl,hgw,HP,HR,HL,HNW,x0,x1,x2,x3,x4,HW0,HH⟩:=Yf kd n dg D ps A c A' c' hL hNw hb hd hq;clear hb hd hq hL hNw;go_enter func49,ntmps49
 refine wM 10 ?_;intros;rw [<-HW0.o,<-HH.o];clear x0 x1 x2 x3 x4;have HPB:=sqH (fun W (h:Below w0.heap.size w0 W)=>YI X cX Y dY s G ng co W dg (decide (kd=3)) HL.o.s (HDK.o W h).rd.s HL.o.g HL.o.c (HDK.o W h).rd.c);rw [<-HK3.o]at HPB;generalize hpb:hbP s co dg ((kd:Int)==3)=r at HPB;obtain⟨t,c2,q⟩:=r;dsimp only at HPB;obtain⟨HSB,HSG,HPD⟩:=sqJ3 (show ∀W,Below w0.heap.size w0 W->W.cell? ⟨H,2,aF⟩=aG (aD ⟨dg.toArray⟩)/\W.cell? ⟨H,0,aF⟩=aG (aB aC kd) from fun W h=>⟨(HP.o W h).c2,(HP.o W h).c0⟩) (show ∀W W',Below w0.heap.size w0 W->W.grownBy W' (aG g)->W'.cell? ⟨H,2,aF⟩=aG (aD ⟨dg.toArray⟩)/\W'.cell? ⟨H,0,aF⟩=aG (aB aC kd) from fun W W' h h'=>⟨((HP.o W h).grown h' af).c2,((HP.o W h).grown h' af).c0⟩) hpb;clear hpb;have HKP:=sqH (fun (W:World) (h:Below w0.heap.size w0 W) (v1 v2 v3:Value) (t:StoP) (c2:ColP) (q:Nat) (ho:q=0->OwSD W g v1 v2 v3 t c2 (fun b=>N b\/b=H+1)) (hb:DkB W g ⟨X,cX,Y,dY,G,ng,F,cF⟩ ⟨s,co,fs⟩ (fun b=>N b\/b=H+1))=>KK g ⟨X,cX,Y,dY,G,ng,F,cF⟩ ⟨s,co,fs⟩ v1 v2 v3 t c2 q W (fun b=>N b\/b=H+1) (.inl hNg) hb ho)
 iterate 1 (first | go_values | go_skip | go_guarded | go_step | go_upon | go_back)
 apply zC;intro REST;apply zC;intro Rc1;refine ze [21] (S:=(fun w'=>w'.cell? ⟨H,2,aF⟩=aG (aD ⟨dg.toArray⟩)/\w'.cell? ⟨H,0,aF⟩=aG (aB aC kd))) ww ?_ (fun hHeld=> ?_)
 ·exact HSB.o _ (Below.refl w0.heap.size w0).drew
 have hB:=(Below.refl w0.heap.size w0).drew;generalize w0.drew=wn0 at *
 refine wT 0 ?_;refine wT 1 ?_;refine wT 2 ?_;refine wT 3 ?_;refine wT 4 ?_;refine wT 6 ?_;refine wT 7 ?_;refine wT 8 ?_;refine wT 9 ?_;refine wT 11 ?_;refine wS 12 ?_;refine wT 13 ?_;refine wS 14 ?_;refine wT 15 ?_;refine za (rs:= [5,10]) ww ab ?_;refine z8.cons (o:=_) rfl (fun K hK=> ?_) ?_
 ·
  obtain⟨y0,y1,y2,y3,y4,y5,y6,y7⟩:=HBC.o _ hB;go_simp;clear y0 y1 y2 y3 y4 y5 y6 y7;refine wC hK (HSB.o _ hB) (fun W=>Below w0.heap.size w0 W) hB fun wn1 hF=> ?_;obtain⟨hHeld2,hF⟩:=hF;clear hB hHeld;have hHeld:=hHeld2;clear hHeld2;have hB:=hF;clear hK K
  try simp only [sqP]
  refine wX 10 fun K hK=>?_;obtain⟨y0,y1,y2,y3,y4,y5,y6,y7⟩:=HBC.o _ hB;go_simp;clear y0 y1 y2 y3 y4 y5 y6 y7;refine wC hK (HSB.o _ hB) (fun W=>Below w0.heap.size w0 W) hB fun wn2 hF=> ?_;obtain⟨hHeld2,hF⟩:=hF;clear hB hHeld;have hHeld:=hHeld2;clear hHeld2;have hB:=hF;clear hK K
  try simp only [sqP]
  have hall:=aH hB hHeld;clear hHeld hB;generalize wn2=wz at hall ⊢
  revert hall;revert wz;exact Rc1.o
 refine z8.cons (o:=_) rfl (fun K hK=> ?_) ?_
 ·
  obtain⟨y0,y1,y2,y3,y4,y5,y6,y7⟩:=HBC.o _ hB;go_simp;clear y0 y1 y2 y3 y4 y5 y6 y7;refine wC hK (HSB.o _ hB) (fun W=>Below w0.heap.size w0 W) hB fun wn3 hF=> ?_;obtain⟨hHeld2,hF⟩:=hF;clear hB hHeld;have hHeld:=hHeld2;clear hHeld2;have hB:=hF;clear hK K
  try simp only [sqP]
  refine wX 5 fun K hK=>?_;obtain⟨y0,y1,y2,y3,y4,y5,y6,y7⟩:=HBC.o _ hB;go_simp;clear y0 y1 y2 y3 y4 y5 y6 y7;refine wC hK (HSB.o _ hB) (fun W=>Below w0.heap.size w0 W) hB fun wn4 hF=> ?_;obtain⟨hHeld2,hF⟩:=hF;clear hB hHeld;have hHeld:=hHeld2;clear hHeld2;have hB:=hF;clear hK K
  try simp only [sqP]
  exact Rc1.o wn4 ⟨hB,hHeld⟩
 exact z8.nil;intro wRc1 hall;obtain⟨hB,hHeld⟩:=hall;refine za (rs:= [16]) ww ab ?_;refine z8.cons (o:=_) rfl (fun K hK=> ?_) ?_
 ·
  go_simp;refine(HPB.o wRc1 hB).mono ?_;rintro e5 w5 ⟨v1,v2,v3,rfl,ho5,hb5⟩;obtain⟨A1,c1,B1,d1,rfl,rfl, -⟩:=ho5.s.rows;obtain⟨G1,n1,rfl, -, -⟩:=Rd.of_own' ho5.c;dsimp only;refine wC hK (HSB.o _ (wm hB hb5)) (fun W=>Below w0.heap.size w0 W/\OwSD W g (aA A1 t.aI.length c1) (aA B1 t.aJ.length d1) (aA G1 c2.aM.length n1) t c2 (fun b=>N b\/b=H+1)) (by exact⟨wm hB hb5,ho5.at_ (by have:=hB.size;omega) (fun b hb=>by have:=hB.size;rcases hb with hb | hb;(have:=HNW.o b hb;omega);omega)⟩) fun wn5 hF=> ?_;clear hB hHeld hb5 ho5 hK K;obtain⟨hHeld,hB,ho⟩:=hF
  refine wT 17 ?_;refine wT 18 ?_;refine wT 19 ?_;refine wX 20 fun K hK=>?_;go_simp;refine(HKP.o wn5 hB _ _ _ t c2 q (fun _=>ho) ((HDK.o _ hB).mono (fun b hb=>hb.imp id (fun h=>wu)))).mono ?_;rintro e5 w5 ⟨rfl,hg5,hd5⟩;dsimp only;refine wC hK (HSG.o _ _ hB hg5) (fun W=>w.grownBy W (aG g)/\(∃p2,DkB W g p2 (zM ⟨s,co,fs⟩ t c2 q) (fun b=>N b\/b=H+1))/\Arr W (H+1) 82 [aB aC 0,aD ⟨#[]⟩,aA aF 0 0,aA aF 0 0,aB aC 0,aA aF 0 0]) ⟨zR (HBX.o.trans (hB.mono wu)) hg5,hd5,(HR.o _ hB).grown hg5 af⟩ fun wn6 hF=> ?_;clear ho hB hHeld hg5 hd5 hK K;obtain⟨hHeld,hKg,hD,hR⟩:=hF
  try simp only [sqP]
  refine wW 21 fun K hK=>?_;obtain⟨z0,f0,z1,f1,z2,f2,z3,f3,z4,f4,z5,f5⟩:=wj hR;go_simp;clear z0 f0 z1 f1 z2 f2 z3 f3 z4 f4 z5 f5;refine wD hK (fun W=>w.grownBy W (aG g)/\(∃p2,DkB W g p2 (zM ⟨s,co,fs⟩ t c2 q) (fun b=>N b\/b=H+1))/\Arr W (H+1) 82 [aB aC q,aD ⟨#[]⟩,aA aF 0 0,aA aF 0 0,aB aC 0,aA aF 0 0]) ⟨zl hKg wu _ _ _ _ _ _,hD.imp fun _ h=>h.set6 hR (.inr rfl) wu _ _ _ _ _ _,hR.all6 _ _ _ _ _ _⟩ fun wn7 hF=> ?_;clear hR hD hKg hHeld;obtain⟨hKg,hD,hR⟩:=hF;clear hK K
  try simp only [sqP]
  refine zo ww ?_ _
  try dsimp only [Exit.then]
  have hall:=aH hKg (aH hD hR);clear hR hD hKg;generalize wn7=wz at hall ⊢
  revert hall;revert wz;revert n1;revert G1;revert d1;revert B1;revert c1;revert A1;exact REST.o
 exact z8.nil;intro A1 c1 B1 d1 G1 n1 w3 hall;obtain⟨hKg,hD,hR⟩:=hall;have HX:=sqH (aH hD hKg);have HF:=sqH hR;clear hD hKg hR
 refine wL ?_;intros;refine bodyPost_ret (results_cell_row rfl _ _ (H+1) _ _ _ _ ac HF.o underlying82 rfl ww) rfl ?_;have e1:blobD ⟨s,co,fs⟩ ⟨kd,n,dg,D,ps⟩=(zM ⟨s,co,fs⟩ t c2 q,Yq q):=by
  unfold blobD;rw [if_neg (show ¬(kd=1) by have:=HK.o;omega),if_neg (show ¬(kd=2) by have:=HK.o;omega)];dsimp only;rw [<-HK3.o,HPD.o]
 rw [e1];obtain⟨⟨p2,hD⟩,hK⟩:=HX.o;exact⟨_,_,_,rfl,hK,⟨p2,hD.mono fun b h=> .inl h⟩,.e_ q⟩
end Go.Proofs.YtcjmjaefcjcomaaGreat
