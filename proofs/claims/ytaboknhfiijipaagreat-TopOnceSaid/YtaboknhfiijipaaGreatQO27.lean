/- Lemmas, as stated. -/
import Derived.Test.YtaboknhfiijipaaGreatQO16
set_option linter.unusedVariables false
set_option linter.unusedSimpArgs false
set_option maxRecDepth 100000
set_option maxHeartbeats 16000000
open Go.Value renaming slice->aA,int->aB
open Go.IntKind renaming i64->aC
open Option renaming none->aF,some->aG
namespace Go.Proofs.YtaboknhfiijipaaGreat
open Go.RowKit
variable {l:List EntP} {base:Nat} {e:TypeId} {v:Value} {w:World} {N:am}
theorem XF {base' size size' n n':Nat} {e':TypeId} {v':Value} {xs xs':ak} (h:w.ownsRow base e size v n xs) (h':w.ownsRow base' e' size' v' n' xs') (hne:e≠e'):∀b,v.ownBlock=aG b->v'.ownBlock≠aG b:=fun b hb hb'=>by
 rcases h.2 with ⟨rfl,_⟩ | ⟨g,cap,cur,rfl,_,h2,_⟩
 ·cases hb
 ·cases hb
  rcases h'.2 with ⟨rfl,_⟩ | ⟨g',cap',cur',rfl,_,h3,_⟩
  ·cases hb'
  ·cases hb'
   have h4:=Eq.trans (Eq.symm h2) h3
   simp only [Option.some.injEq,Obj.cells.injEq]at h4
   exact hne h4.2.1
theorem RwX.own {α:Type} {S:Shp α} {l:List α} (h:RwX S e w base v l N):∃xs,w.ownsRow base e S.size v l.length xs:=by
 obtain⟨ps,_,_,h3,_⟩:=h;exact⟨_,h3⟩
theorem OwSt.turnE {w':World} {v1 v2 v2':Value} {s:StoP} (h:OwSt w base v1 v2 s N) (hb:RwX EntS 100 w' base v2' l (fun g=>N g\/v1.ownBlock=aG g)) (hg:w.grownBy w' v2.ownBlock) (ho:v2'.ownBlock=v2.ownBlock) :
  OwSt w' base v1 v2' { s with aJ:=l } N :=
 ⟨by rw [ho];exact h.b.other hg (fun b e1 e2=>h.ne b e2 e1) (fun b e=> .inr e),hb,fun g e1 e2=>h.ne g e1 (by rw [<-ho];exact e2)⟩
structure RunW (w:World) (B G:Nat) (v1 v2 v3:Value) (t:StoP) (g:List ai):Prop where
 box:Arr w G 34 [v1,v2,aB aC t.aL,aB aC t.aK]
 st:OwSt w B v1 v2 t (fun b=>b<B\/b=G\/v3.ownBlock=aG b)
 gone:w.ownsRow B 9 1 v3 g.length (strs g)
 gB:B<=G
section
variable {w w':World} {B G:Nat} {v1 v2 v3 v1' v2' v3':Value} {t:StoP} {g:List ai}
theorem RunW.below (h:RunW w B G v1 v2 v3 t g) (hb:Below w.heap.size w w'):RunW w' B G v1 v2 v3 t g:=⟨h.box.below hb,h.st.below hb,zc h.gone hb,h.gB⟩
theorem RunW.n1 (h:RunW w B G v1 v2 v3 t g):∀b,v3.ownBlock=aG b->v1.ownBlock≠aG b:=by
 obtain⟨xs,hx⟩:=h.st.b.own;exact XF h.gone hx aa
theorem RunW.n2 (h:RunW w B G v1 v2 v3 t g):∀b,v3.ownBlock=aG b->v2.ownBlock≠aG b:=by
 obtain⟨xs,hx⟩:=h.st.e.own;exact XF h.gone hx aa
theorem RunW.n3 (h:RunW w B G v1 v2 v3 t g):v3.ownBlock≠aG G:=zf h.gone h.box aa
theorem RunW.n4 (h:RunW w B G v1 v2 v3 t g):v1.ownBlock≠aG G:=by
 obtain⟨xs,hx⟩:=h.st.b.own;exact zf hx h.box aa
theorem RunW.n5 (h:RunW w B G v1 v2 v3 t g):v2.ownBlock≠aG G:=by
 obtain⟨xs,hx⟩:=h.st.e.own;exact zf hx h.box aa
theorem RunW.lt (h:RunW w B G v1 v2 v3 t g):G<w.heap.size:=h.box.lt
theorem RunW.key (h:RunW w B G v1 v2 v3 t g) {g':List ai} (ho:w'.ownsRow B 9 1 v3' g'.length (strs g')) (hg:w.grownBy w' v3.ownBlock) (hv:v3'.ownBlock=v3.ownBlock\/∃b,v3'.ownBlock=aG b/\w.heap.size<=b):RunW w' B G v1 v2 v3' t g':=by
 have h1:OwSt w B v1 v2 t (fun b=>b<B\/b=G\/v3'.ownBlock=aG b\/v3.ownBlock=aG b):=h.st.wider fun b hb=>by
  rcases hb with hb | hb | hb | hb
  ·exact .inl (.inl hb)
  ·exact .inl (.inr (.inl hb))
  ·rcases hv with e | ⟨b',e,hb'⟩
   ·exact .inl (.inr (.inr (by rw [<-e];exact hb)))
   ·rw [e]at hb;cases hb;exact .inr hb'
  ·exact .inl (.inr (.inr hb))
 have h2:OwSt w' B v1 v2 t (fun b=>b<B\/b=G\/v3'.ownBlock=aG b\/v3.ownBlock=aG b) :=
  ⟨h1.b.other hg (fun b e=>h.n1 b e) (fun b e=> .inl (.inr (.inr (.inr e)))),h1.e.other hg (fun b e=>h.n2 b e) (fun b e=> .inl (.inr (.inr (.inr e)))),h1.ne⟩
 exact⟨h.box.grown hg h.n3,h2.mono (fun b hb=>hb.imp id (fun h=>h.imp id .inl)),ho,h.gB⟩
theorem RunW.del (h:RunW w B G v1 v2 v3 t g) (hx:RwX EntS 100 w' B v2' l (fun b=>(b<B\/b=G\/v3.ownBlock=aG b)\/v1.ownBlock=aG b)) (hg:w.grownBy w' v2.ownBlock) (ho:v2'.ownBlock=v2.ownBlock) :
  RunW (w'.setCell ⟨G,1,aF⟩ v2') B G v1 v2' v3 { t with aJ:=l } g:=by
 have h1:=h.st.turnE hx hg ho;have hb:=(h.box.grown hg h.n5).set (k:=1) ab v2';have n5:v2'.ownBlock≠aG G:=by rw [ho];exact h.n5
 have hgn:=h.gone.kept hg (by
  cases hb:v3.ownBlock with
  | none=>exact .inl rfl
  | some b=>exact .inr (fun e=>h.n2 b hb e.symm))
 exact⟨hb,h1.setX (.inr (.inl rfl)) h.n4 n5 v2',zd hgn h.n3,h.gB⟩
theorem RunW.cln_ (h:RunW w B G v1 v2 v3 t g) (hx:OwSt w' B v1' v2 (cln t) (fun b=>b<B\/b=G\/v3.ownBlock=aG b)) (hg:w.grownBy w' v1.ownBlock) (ho:v1'.ownBlock=v1.ownBlock) :
  RunW ((((w'.setCell ⟨G,0,aF⟩ v1').setCell ⟨G,1,aF⟩ v2).setCell ⟨G,2,aF⟩ (aB aC t.aL)).setCell ⟨G,3,aF⟩ (aB aC t.aK)) B G v1' v2 v3 (cln t) g:=by
 have hb:=(h.box.grown hg h.n4).all4 v1' v2 (aB aC t.aL) (aB aC t.aK);have n4:v1'.ownBlock≠aG G:=by rw [ho];exact h.n4
 have hgn:=h.gone.kept hg (by
  cases hb:v3.ownBlock with
  | none=>exact .inl rfl
  | some b=>exact .inr (fun e=>h.n1 b hb e.symm))
 refine⟨hb,?_,zd (zd (zd (zd hgn h.n3) h.n3) h.n3) h.n3,h.gB⟩;exact(((hx.setX (.inr (.inl rfl)) n4 h.n5 _).setX (.inr (.inl rfl)) n4 h.n5 _).setX (.inr (.inl rfl)) n4 h.n5 _).setX (.inr (.inl rfl)) n4 h.n5 _
end
noncomputable def z4a (e:Ending) (w w':World) (s:StoP):Option (StoP×List ai)->Prop
 | some (t,g)=>∃v1 v2 v3,e= .returned (.tuple #[.agg #[v1,v2,aB aC s.aL,aB aC s.aK],v3,aB aC 0])/\OwSt w' w.heap.size v1 v2 t (fun b=>b<w.heap.size)/\w'.ownsRow w.heap.size 9 1 v3 g.length (strs g)
 | none=>e= .returned (.tuple #[.agg #[aA aF 0 0,aA aF 0 0,aB aC 0,aB aC 0],aA aF 0 0,aB aC 10])
theorem JI (A:aj) (c:Nat) (B:aj) (d:Nat) (s:StoP) (more:Nat) (w:World) (hmore:more<=4000) (hg:GoodS s) (hr:RdSt w A c B d s) :
  Calls Tryz.prog 153 #[.agg #[aA A s.aI.length c,aA B s.aJ.length d,aB aC s.aL,aB aC s.aK],aB aC more] w fun e w' =>
   z4a e w w' s (yd more s)/\Below w.heap.size w w':=by
 have hlb:s.aI.length<=24:=hg.b.len;have hle:s.aJ.length<=10:=hg.e.len;have hus:=hg.used;have HRO:=sqH hg.aL;have HGD:=sqH hg;obtain⟨w0,hw0,hS,hR,hb0⟩:=qG w 34 [aA A s.aI.length c,aA B s.aJ.length d,aB aC s.aL,aB aC s.aK] [aA aF 0 0,aA aF 0 0,aB aC 0,aB aC 0];have hr0:=hr.below hb0;obtain⟨H,hH⟩:=wY w.heap.size
 have HCK:=sqH (zF A c B d s w0 hg hr0);rw [<-hH]at hS hR hb0 ⊢
 have hHl:H<w0.heap.size:=hS.lt;have hHr:H+1<w0.heap.size:=hR.lt;obtain⟨x0,x1,x2,x3⟩:=sqC4 hS;rw [hw0,hH]at x0 x1 x2 x3;have HPL:=sqH (show ∀b∈s.aI,b.data.length<=1000000 from fun b hb=>by have:=(hg.b.one b hb).2.1;omega);have HQL:=sqH (show ∀x∈s.aJ,x.aP.length<=1000000 from fun x hx=>by have:=(zk (hg.e.one x hx).2.1).1;omega);clear hg hr;go_enter Tryz.func153,Tryz.ntmps153;go_wp2_with fail;rw [<-hw0,<-hH];have HH:=sqH hH;clear hw0 hH x0 x1 x2 x3;refine wZ HCK.o fun w1 hb1=>?_;dsimp only;have hr1:=hr0.below hb1;have hS1:=hS.below hb1;have z0:=hS1.c0;have z2:=hS1.c2;have HLK:=sqH (vv A c s.aI s.aL more w1 wu (wc HRO) HRO.o hmore hr1.b);clear hr0 hS HCK;go_wp2_with fail;clear z0 z2;refine wZ HLK.o fun w2 hb2=>?_;dsimp only;have hc2:=wm hb1 hb2;have hr2:=hr1.below hb2;have hS2:=hS1.below hb2;obtain⟨z0,z1,z2,z3⟩:=sqC4 hS2;have HCP:=sqH (qL A c B d s w2 wu wu HPL.o HQL.o hr2);clear hr1 hS1 hb1 hb2 HLK;go_wp2_with fail;clear z0 z1 z2 z3;refine HCP.o.mono ?_;rintro e_ w3 ⟨q1,q2,rfl,ho3,hb3⟩;dsimp only;have hc3:=wm hc2 hb3;have ho3:=ho3.lower (base':=w0.heap.size) hc2.size;obtain⟨G,hG⟩:=wY w3.heap.size
 have HRW:=sqH (show RunW (w3.alloc (.cells #[aA (aG ⟨q1,0,aF⟩) s.aI.length s.aI.length,aA (aG ⟨q2,0,aF⟩) s.aJ.length s.aJ.length,aB aC s.aL,aB aC s.aK] 34)) w0.heap.size G (aA (aG ⟨q1,0,aF⟩) s.aI.length s.aI.length) (aA (aG ⟨q2,0,aF⟩) s.aJ.length s.aJ.length) (aA aF 0 0) s [] by
  refine⟨by rw [hG];exact Arr.new w3 34 _,?_,World.ownsRow_nil _ _ _ _,by rw [hG];exact hc3.size⟩;refine(ho3.wider fun b hb=> ?_).below ((Below.refl w3.heap.size w3).alloc ag _);rcases hb with hb | hb | hb
  ·exact .inl (Nat.lt_of_lt_of_le hb hc2.size)
  ·exact .inr (by rw [hb,hG];exact Nat.le_refl _)
  ·cases hb)
 obtain⟨HBK,HRES,HB0,HG⟩:=sqJ4 (hc3.alloc hc3.size (.cells #[aA (aG ⟨q1,0,aF⟩) s.aI.length s.aI.length,aA (aG ⟨q2,0,aF⟩) s.aJ.length s.aJ.length,aB aC s.aL,aB aC s.aK] 34)) (show ∀W,Below w0.heap.size w0 W->Arr W (H+1) 34 [aA aF 0 0,aA aF 0 0,aB aC 0,aB aC 0] from fun W h=>hR.below h) hb0 hG;clear hS2 hR hc2 hc3 ho3 hb3 hr2 HCP hb0 hG;go_wp2_with fail;rw [<-HG.o];generalize (w3.alloc (.cells #[aA (aG ⟨q1,0,aF⟩) s.aI.length s.aI.length,aA (aG ⟨q2,0,aF⟩) s.aJ.length s.aJ.length,aB aC s.aL,aB aC s.aK] 34))=w4 at *
 go_loopg [8,11,12] (s.aJ.length+1) (fun gn u8 u11 u12 wr=>∃(t:StoP) (g:List ai) (v1 v2 v3:Value) (f:Bool) (lk:Nat),gn=t.aJ.length+(if f then 1 else 0)/\u8= aB aC lk/\u11=v3/\u12= .bool f/\lk=usd t.aI+more - t.aL/\GoodS t/\RunW wr w0.heap.size G v1 v2 v3 t g/\Below w0.heap.size w0 wr/\(if f then t=s/\g= [] else uD more (t.aJ.length+1) t g=yd more s)/\t.aL=s.aL/\t.aK=s.aK/\g.length+t.aJ.length<=10)
 case atStart=>exact⟨s, [],_,_,_,true,_,rfl,rfl,rfl,rfl,rfl,HGD.o,HRW.o,HBK.o,⟨rfl,rfl⟩,rfl,rfl,by simpa using hle⟩
 case round =>
  obtain⟨t,g,v1,v2,v3,f,lk,hgn,rfl,rfl,rfl,hlk,hgt,RW,hbk,hev,hrm,hck,hgl⟩:=hrel;obtain⟨HGN,HLKE,HT,HEV0,HRM,HCK2⟩:=sqJ6 hgn hlk hgt hev hrm hck;have hlt:=hgt.e.len;have hlkm:lk<=100000:=by have:=hgt.used;have:=hgt.aL;omega
  clear hgn hlk hgt hev hrm hck HRW HBK;rcases Nat.eq_zero_or_pos lk with h0 | h0
  ·have hd0:decide ((lk:Int)>0)=false:=decide_eq_false wu;have hd1:decide ((0:Int)<(lk:Int))=false:=decide_eq_false wu;have hd2:decide (0<lk)=false:=decide_eq_false wu;have HEN:=sqH (show yd more s=aG (t,g) by
    have hev:=HEV0.o;have h1:usd t.aI+more<=t.aL:=by have:=HLKE.o;omega
    cases f with
    | true =>
     obtain⟨rfl,rfl⟩:t=s/\g= []:=hev;unfold yd;rw [if_pos h1]
    | false =>
     have hev':uD more (t.aJ.length+1) t g=yd more s:=hev;rw [<-hev',uD,if_pos h1])
   obtain⟨A6,c6,B6,d6,e61,e62,hrd6⟩:=RW.st.rows;subst e61 e62;have hbx:=RW.box;rw [HRM.o,HCK2.o]at hbx;obtain⟨b0,b1,b2,b3⟩:=sqC4 hbx;have hcp:=qL A6 c6 B6 d6 t wr (by have:=HT.o.b.len;omega) wu (fun b hb=>by have:=(HT.o.b.one b hb).2.1;omega) (fun x hx=>by have:=(zk (HT.o.e.one x hx).2.1).1;omega) hrd6;rw [HRM.o,HCK2.o]at hcp;obtain⟨HCP,HGO,HBK9⟩:=sqJ3 hcp RW.gone hbk;clear hcp hbx hrd6 RW hbk;go_wp2_with fail;clear b0 b1 b2 b3;refine HCP.o.mono ?_;rintro e_ w9 ⟨g1,g2,rfl,ho9,hb9⟩;dsimp only;have hbk9:=wm HBK9.o hb9;have hR9:=HRES.o _ hbk9;have hb19:=HB0.o.trans (hbk9.mono (Nat.le_of_lt hHl));obtain⟨A9,c9,B9,d9,e91,e92,hrd9⟩:=ho9.rows;have hgo9:=zc HGO.o hb9;have n1:u11.ownBlock≠aG (H+1):=zf hgo9 hR9 aa;obtain⟨f0,f1,f2,f3⟩:=sqF4 hR9;obtain⟨y0,y1,y2,y3⟩:=sqC4 hR9;have hfin:=hR9.all4 (aA (aG ⟨g1,0,aF⟩) t.aI.length t.aI.length) (aA (aG ⟨g2,0,aF⟩) t.aJ.length t.aJ.length) (aB aC s.aL) (aB aC s.aK);have hwb:=HBK9.o.size;have hoF:=(((ho9.set (g:=H+1) (k:=0) wu wu (aA (aG ⟨g1,0,aF⟩) t.aI.length t.aI.length)).set (g:=H+1) (k:=1) wu wu (aA (aG ⟨g2,0,aF⟩) t.aJ.length t.aJ.length)).set (g:=H+1) (k:=2) wu wu (aB aC s.aL)).set (g:=H+1) (k:=3) wu wu (aB aC s.aK);have hbF:=(((hb19.setCell (p:=⟨H+1,0,aF⟩) ae (aA (aG ⟨g1,0,aF⟩) t.aI.length t.aI.length)).setCell (p:=⟨H+1,1,aF⟩) ae (aA (aG ⟨g2,0,aF⟩) t.aJ.length t.aJ.length)).setCell (p:=⟨H+1,2,aF⟩) ae (aB aC s.aL)).setCell (p:=⟨H+1,3,aF⟩) ae (aB aC s.aK);obtain⟨HGO9,HOF,HBF,HFIN⟩:=sqJ4 (zb (zd (k:=3) (u:= aB aC s.aK) (zd (k:=2) (u:= aB aC s.aL) (zd (k:=1) (u:= aA (aG ⟨g2,0,aF⟩) t.aJ.length t.aJ.length) (zd (k:=0) (u:= aA (aG ⟨g1,0,aF⟩) t.aI.length t.aI.length) hgo9 n1) n1) n1) n1) (Nat.le_of_lt hHl)) hoF hbF hfin;clear hfin hoF hbF hgo9 ho9 hb9 hbk9 hR9 hb19 e91 e92 hrd9 hwb n1;go_wp2_with fail;refine bodyPost_ret (zz rfl _ _ (H+1) _ _ _ _ ac HFIN.o Tryz.underlying34 rfl ww) rfl ?_;rw [HEN.o];have hwr:H<=wr.heap.size:=by have:=HBK9.o.size;omega
   refine⟨⟨_,_,u11,rfl,(HOF.o.lower (by rw [<-HH.o];exact hwr)).mono (fun b hb=> ?_),by rw [<-HH.o];exact HGO9.o⟩,HBF.o⟩;rw [<-HH.o]at hb;omega
  ·have hd0:decide ((lk:Int)>0)=true:=decide_eq_true wu;have hd1:decide ((0:Int)<(lk:Int))=true:=decide_eq_true wu;have hd2:decide (0<lk)=true:=decide_eq_true wu;have HNF:=sqH (show ¬usd t.aI+more<=t.aL by have:=HLKE.o;omega);cases f with
   | true =>
    have HEV:=sqH (show uD more ((cln t).aJ.length+1) (cln t) g=yd more s by
     obtain⟨rfl,rfl⟩:t=s/\g= []:=HEV0.o;unfold yd;rw [if_neg HNF.o];rfl)
    have HMS:=sqH (show(cln t).aJ.length<gk by rw [ya];have:=HGN.o;rw [if_pos rfl]at this;omega);have HGL:=sqH hgl;obtain⟨A1,c1,B2,d2,e1,e2,_⟩:=RW.st.rows;subst e1 e2;have hcln:=QA w0.heap.size (aA A1 t.aI.length c1) (aA B2 t.aJ.length d2) t wr _ HT.o RW.st;simp only [stV,yb,vT]at hcln;rw [HRM.o,HCK2.o]at hcln;have HCL:=sqH hcln;clear hcln;have hbx:=RW.box;rw [HRM.o,HCK2.o]at hbx;obtain⟨b0,b1,b2,b3⟩:=sqC4 hbx;clear hbx;have HRW:=sqH RW;clear RW;go_wp2_with fail;clear b0 b1 b2 b3;refine HCL.o.mono ?_;rintro e_ w6 ⟨v1',rfl,ho6,hg6,hob6⟩;dsimp only;have hv1b:∀b,((aA A1 t.aI.length c1):Value).ownBlock=aG b->w0.heap.size<=b:=fun b e=>(HRW.o.st.b.rwo.blk e).1;have hbk6:=hbk.grown hg6 hbk.size hv1b;have hbx6:=HRW.o.box.grown hg6 HRW.o.n4;have RW6:=HRW.o.cln_ ho6 hg6 hob6;rw [HRM.o,HCK2.o]at hbx6 RW6;obtain⟨f0,f1,f2,f3⟩:=sqF4 hbx6;obtain⟨b0,b1,b2,b3⟩:=sqC4 hbx6;have hHG:w0.heap.size<=G:=HRW.o.gB;have hbk7:=(((hbk6.setCell (p:=⟨G,0,aF⟩) hHG v1').setCell (p:=⟨G,1,aF⟩) hHG (aA B2 t.aJ.length d2)).setCell (p:=⟨G,2,aF⟩) hHG (aB aC s.aL)).setCell (p:=⟨G,3,aF⟩) hHG (aB aC s.aK);clear hbx6 hbk6 ho6 hg6 hob6;obtain⟨A6,c6,B6,d6,e61,e62,hrd6⟩:=RW6.st.rows;have hgt:=HT.o;have hgt6:=yF hgt;have hus6:=hgt6.used;have hrm6:=hgt6.aL;have hln6:=hgt6.b.len;have HLK:=sqH (show ∀W,Rw BlobS W A6 (cln t).aI->Calls Tryz.prog 126 #[aA A6 (cln t).aI.length c6,aB aC s.aL,aB aC more] W fun e w'=>e= .returned (.tuple #[aB aC ((usd (cln t).aI+more - s.aL:Nat):Int),aB aC 0])/\Below W.heap.size W w' from fun W h=>vv A6 c6 (cln t).aI s.aL more W wu (by rw [yb]at hus6 hrm6;omega) HRO.o hmore h);subst e61;clear e62;clear hgt hgt6 hus6 hrm6;go_wp2_with fail;clear f0 f1 f2 f3 b0 b1 b2 b3;generalize ((((w6.setCell ⟨G,0,aF⟩ (aA A6 (cln t).aI.length c6)).setCell ⟨G,1,aF⟩ (aA B2 t.aJ.length d2)).setCell ⟨G,2,aF⟩ (aB aC s.aL)).setCell ⟨G,3,aF⟩ (aB aC s.aK))=w7 at *
    refine wZ (HLK.o _ hrd6.b) fun w8 hb8=>?_;dsimp only;have hbk8:=wm hbk7 hb8;have RW8:=RW6.below hb8;obtain⟨HR8,HBK8,HGT⟩:=sqJ3 RW8 hbk8 (yF HT.o);clear RW6 RW8 hrd6 hb8 hbk7 hbk8 HCL HLK hln6;go_wp2_with fail;go_roundg (cln t).aJ.length
    case measure=>exact HMS.o
    case rel=>exact⟨cln t,g,aA A6 (cln t).aI.length c6,(aA B2 t.aJ.length d2),u11,false,_,rfl,rfl,rfl,rfl,by rw [yb,HRM.o],HGT.o,HR8.o,HBK8.o,HEV.o,HRM.o,HCK2.o,by rw [ya];exact HGL.o⟩
   | false =>
    have hev':uD more (t.aJ.length+1) t g=yd more s:=HEV0.o;rw [uD,if_neg HNF.o]at hev';obtain⟨A1,c1,B2,d2,e1,e2,hrd1⟩:=RW.st.rows;subst e2;clear e1;have HOL:=sqH (Yo B2 d2 t.aJ wr wu hrd1.e);have b1:=RW.box.c1;cases ho:Zv t.aJ t.aJ.length with
    | none =>
     rw [ho]at hev' HOL;have HEV:=sqH hev';have HRW:=sqH RW;clear hev' hrd1 RW;go_wp2_with fail;clear b1;refine wZ HOL.o fun w5 hb5=>?_;dsimp only;rw [xl];have hbk9:=wm hbk hb5;have hR9:=HRES.o _ hbk9;have hb19:=HB0.o.trans (hbk9.mono (Nat.le_of_lt hHl));obtain⟨f0,f1,f2,f3⟩:=sqF4 hR9;obtain⟨y0,y1,y2,y3⟩:=sqC4 hR9;have hfin:=hR9.all4 (aA aF 0 0) (aA aF 0 0) (aB aC 0) (aB aC 0);have hbF:=(((hb19.setCell (p:=⟨H+1,0,aF⟩) ae (aA aF 0 0)).setCell (p:=⟨H+1,1,aF⟩) ae (aA aF 0 0)).setCell (p:=⟨H+1,2,aF⟩) ae (aB aC 0)).setCell (p:=⟨H+1,3,aF⟩) ae (aB aC 0);have HBF:=sqH hbF;have HFIN:=sqH hfin;clear hfin hbF hbk9 hR9 hb19 hb5 hbk;go_wp2_with fail;refine bodyPost_ret (zz rfl _ _ (H+1) _ _ _ _ ac HFIN.o Tryz.underlying34 rfl ww) rfl ?_;rw [<-HEV.o];exact⟨rfl,HBF.o⟩
    | some i0 =>
     have hi:=(yZ t.aJ _ i0 ho).2;rw [ho]at hev' HOL;simp only [List.getElem?_eq_getElem hi]at hev';have hlen0:0<t.aJ.length:=wu;obtain⟨g2,d2',e2,_,_,_,_⟩:=RW.st.e.rwo.nonnil hlen0;injection e2 with e21 e22 e23;subst e21 e23;clear e22;have HEV2:=sqH hev';have HO:=sqH ho;clear hev' ho hrd1;go_wp2_with fail;clear b1;refine wZ HOL.o fun w5 hb5=>?_;dsimp only;rw [xl];have hbk5:=wm hbk hb5;have RW5:=RW.below hb5;obtain⟨A1',c1',B2',d2'',e1,e2,hrd5⟩:=RW5.st.rows;clear e1;cases e2
     have b1:=RW5.box.c1;obtain⟨b,off,Bx,cc,e9,hbb,y0,y1,y2,y3,_⟩:=hrd5.e.ent_at i0 hi;cases e9
     have hi0:=we i0
     have hi1:(i0:Int)<(t.aJ.length:Int):=wu;have hw1:IntKind.i64.wrap ((i0:Int)+1)=(i0:Int)+1:=IntWalk.i64_in _ wu;have HRW5:=sqH RW5;have hgn5:=RW5.gone;have HBK5:=sqH hbk5;have hB5:w0.heap.size<=w5.heap.size:=hbk5.size;obtain⟨kx,hkx⟩:=wY (t.aJ[i0].key)
     rw [<-hkx]at y0 HEV2;have HKX:=sqH hkx;simp only [Nat.zero_add]at y0;clear hb5 hbk hbk5 RW RW5 hrd5 hbb hkx y1 y2 y3
     refine wL ?_;intros;refine zh rfl (.tmp 49) (.tmp 56) rfl uU ac hgn5 (us:= [.string ⟨kx.toArray⟩]) ac rfl (by intro u hu;rw [List.mem_singleton.1 hu];rfl) wu hB5 ?_;intro v9 w9 ho9 hg9 hv9;clear y0 b1;have ho9':w9.ownsRow w0.heap.size 9 1 v9 (g++ [kx]).length (strs (g++ [kx])):=by rw [vI,List.length_append];exact ho9
     have RW9:=HRW5.o.key ho9' hg9 hv9;have hbk9:=HBK5.o.grown hg9 hB5 (fun b e=>(hgn5.lt b e).1);have b1:=RW9.box.c1;have f1:=RW9.box.frozen 1;have HRW9:=sqH RW9;have HDL:=sqH (Js g2 i0 t.aJ w0.heap.size d2 w9 _ hi RW9.st.e);have hB9:w0.heap.size<=w9.heap.size:=hbk9.size;clear ho9 ho9' hg9 hv9 RW9 hgn5 f1;go_wp2_with fail;clear b1;refine HDL.o.mono ?_;rintro e_ w10 ⟨rfl,hx10,hg10⟩;dsimp only;have hbx10:=HRW9.o.box.grown hg10 HRW9.o.n5;rw [HRM.o,HCK2.o]at hbx10;obtain⟨b0,b1,b2,b3⟩:=sqC4 hbx10;have f1:=hbx10.frozen 1;have RW:=HRW9.o.del hx10 hg10 rfl;have hbkA:=(hbk9.grown hg10 hB9 (fun b e=>by cases e;exact(HRW9.o.st.e.rwo.blk rfl).1)).setCell (p:=⟨G,1,aF⟩) HRW9.o.gB (aA (aG ⟨g2,0,aF⟩) (t.aJ.eraseIdx i0).length d2);have HT1:=sqH (Zb HT.o (List.eraseIdx_sublist t.aJ i0));have HEV:=sqH (show uD more ((cln { t with aJ:=t.aJ.eraseIdx i0 }).aJ.length+1) (cln { t with aJ:=t.aJ.eraseIdx i0 }) (g++ [kx])=yd more s by
      rw [ya];show uD more ((t.aJ.eraseIdx i0).length+1) _ _=_;rw [List.length_eraseIdx_of_lt hi,Nat.sub_add_cancel hlen0];exact HEV2.o)
     have HMS:=sqH (show(cln { t with aJ:=t.aJ.eraseIdx i0 }).aJ.length<gk by
      rw [ya];show(t.aJ.eraseIdx i0).length<gk;rw [List.length_eraseIdx_of_lt hi];have:=HGN.o;rw [if_neg aa]at this;omega)
     have HGL:=sqH (show(g++ [kx]).length+(t.aJ.eraseIdx i0).length<=10 by
      rw [List.length_eraseIdx_of_lt hi,List.length_append];simp only [List.length_cons,List.length_nil];omega)
     have hlt1:(t.aJ.eraseIdx i0).length<=10:=by rw [List.length_eraseIdx_of_lt hi];omega
     obtain⟨A1,c1,_,_,e1,_,_⟩:=HRW9.o.st.rows;subst e1;clear hx10 hg10 hbk9 HEV2 HDL HOL hbx10;go_wp2_with fail;clear b0 b1 b2 b3 f1;generalize hwx:(w10.setCell ⟨G,1,aF⟩ (aA (aG ⟨g2,0,aF⟩) (t.aJ.eraseIdx i0).length d2))=w11 at *
     clear hwx;have HRM1:=sqH (show({ t with aJ:=t.aJ.eraseIdx i0 }:StoP).aL=s.aL from HRM.o);have HCK3:=sqH (show({ t with aJ:=t.aJ.eraseIdx i0 }:StoP).aK=s.aK from HCK2.o);have hlt1':({ t with aJ:=t.aJ.eraseIdx i0 }:StoP).aJ.length<=10:=hlt1;have HGL:=sqH (show(g++ [kx]).length+({ t with aJ:=t.aJ.eraseIdx i0 }:StoP).aJ.length<=10 from HGL.o);clear HT HRM HCK2 hlt1 hlt;generalize ({ t with aJ:=t.aJ.eraseIdx i0 }:StoP)=t1 at *
     generalize (g++ [kx])=gn1 at *
     have HT:=HT1;have HRM:=HRM1;have HCK2:=HCK3;have hlt:=hlt1';have hbk:=hbkA;clear HT1 HRM1 HCK3 hlt1' hbkA;have hcln:=QA w0.heap.size (aA A1 t.aI.length c1) (aA (aG ⟨g2,0,aF⟩) (t.aJ.eraseIdx i0).length d2) t1 w11 _ HT.o RW.st;simp only [stV,yb,vT]at hcln;rw [HRM.o,HCK2.o]at hcln;have HCL:=sqH hcln;clear hcln;have hbx:=RW.box;rw [HRM.o,HCK2.o]at hbx;obtain⟨b0,b1,b2,b3⟩:=sqC4 hbx;clear hbx;have HRW:=sqH RW;clear RW;go_wp2_with fail;clear b0 b1 b2 b3;refine HCL.o.mono ?_;rintro e_ w6 ⟨v1',rfl,ho6,hg6,hob6⟩;dsimp only;have hv1b:∀b,((aA A1 t.aI.length c1):Value).ownBlock=aG b->w0.heap.size<=b:=fun b e=>(HRW.o.st.b.rwo.blk e).1;have hbk6:=hbk.grown hg6 hbk.size hv1b;have hbx6:=HRW.o.box.grown hg6 HRW.o.n4;have RW6:=HRW.o.cln_ ho6 hg6 hob6;rw [HRM.o,HCK2.o]at hbx6 RW6;obtain⟨f0,f1,f2,f3⟩:=sqF4 hbx6;obtain⟨b0,b1,b2,b3⟩:=sqC4 hbx6;have hHG:w0.heap.size<=G:=HRW.o.gB;have hbk7:=(((hbk6.setCell (p:=⟨G,0,aF⟩) hHG v1').setCell (p:=⟨G,1,aF⟩) hHG (aA (aG ⟨g2,0,aF⟩) (t.aJ.eraseIdx i0).length d2)).setCell (p:=⟨G,2,aF⟩) hHG (aB aC s.aL)).setCell (p:=⟨G,3,aF⟩) hHG (aB aC s.aK);clear hbx6 hbk6 ho6 hg6 hob6;obtain⟨A6,c6,B6,d6,e61,e62,hrd6⟩:=RW6.st.rows;have hgt:=HT.o;have hgt6:=yF hgt;have hus6:=hgt6.used;have hrm6:=hgt6.aL;have hln6:=hgt6.b.len;have HLK:=sqH (show ∀W,Rw BlobS W A6 (cln t1).aI->Calls Tryz.prog 126 #[aA A6 (cln t1).aI.length c6,aB aC s.aL,aB aC more] W fun e w'=>e= .returned (.tuple #[aB aC ((usd (cln t1).aI+more - s.aL:Nat):Int),aB aC 0])/\Below W.heap.size W w' from fun W h=>vv A6 c6 (cln t1).aI s.aL more W wu (by rw [yb]at hus6 hrm6;omega) HRO.o hmore h);subst e61;clear e62;clear hgt hgt6 hus6 hrm6;go_wp2_with fail;clear f0 f1 f2 f3 b0 b1 b2 b3;generalize ((((w6.setCell ⟨G,0,aF⟩ (aA A6 (cln t1).aI.length c6)).setCell ⟨G,1,aF⟩ (aA (aG ⟨g2,0,aF⟩) (t.aJ.eraseIdx i0).length d2)).setCell ⟨G,2,aF⟩ (aB aC s.aL)).setCell ⟨G,3,aF⟩ (aB aC s.aK))=w7 at *
     refine wZ (HLK.o _ hrd6.b) fun w8 hb8=>?_;dsimp only;have hbk8:=wm hbk7 hb8;have RW8:=RW6.below hb8;obtain⟨HR8,HBK8,HGT⟩:=sqJ3 RW8 hbk8 (yF HT.o);clear RW6 RW8 hrd6 hb8 hbk7 hbk8 HCL HLK hln6;go_wp2_with fail;go_roundg (cln t1).aJ.length
     case measure=>exact HMS.o
     case rel=>exact⟨cln t1,gn1,aA A6 (cln t1).aI.length c6,(aA (aG ⟨g2,0,aF⟩) (t.aJ.eraseIdx i0).length d2),v9,false,_,rfl,rfl,rfl,rfl,by rw [yb,HRM.o],HGT.o,HR8.o,HBK8.o,HEV.o,HRM.o,HCK2.o,by rw [ya];exact HGL.o⟩
end Go.Proofs.YtaboknhfiijipaaGreat
