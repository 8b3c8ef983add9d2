/- Lemmas, as stated. -/
import Derived.Test.YtcjndgldjhmbgaaGreatQF13
set_option linter.unusedVariables false
set_option linter.unusedSimpArgs false
set_option maxRecDepth 100000
set_option maxHeartbeats 16000000
open Go.Proofs.Tryz
open Go.Value renaming slice->aw,int->ax,string->az
open Go.IntKind renaming i64->ay
open Option renaming none->aB,some->aC
open Go.Proofs.Tryz renaming prog->zZZ
open Go.Obj renaming cells->aA
open And renaming intro->aD
namespace Go.Proofs.YtcjndgldjhmbgaaGreat
open Go.RowKit
variable {c:ColP} {l:List EntP} {base g h' k n size:Nat} {s:StoP} {e:TypeId} {dv pv v wv x0 x1 x2 x3 x4 x5:Value} {w w':World} {A:ae} {xs:af} {N:ai}
theorem Vg {base' size' n':Nat} {e':TypeId} {v':Value} {xs':af} (h:w.ownsRow base e size v n xs) (h':w.ownsRow base' e' size' v' n' xs') (hne:e≠e'):∀b,v.ownBlock=aC b->v'.ownBlock≠aC b:=fun b hb hb'=>by
 rcases h.2 with ⟨rfl,_⟩ | ⟨g,cap,cur,rfl,_,h2,_⟩
 ·cases hb
 ·cases hb
  rcases h'.2 with ⟨rfl,_⟩ | ⟨g',cap',cur',rfl,_,h3,_⟩
  ·cases hb'
  ·cases hb'
   have h4:=Eq.trans (Eq.symm h2) h3
   simp only [Option.some.injEq,Obj.cells.injEq]at h4
   exact hne h4.2.1
theorem RwX.own {α:Type} {S:Shp α} {l:List α} (h:RwX S e w base v l N):∃xs,w.ownsRow base e S.size v l.length xs:=by
 obtain⟨ps,_,_,h3,_⟩:=h;exact⟨_,h3⟩
theorem OwSt.turnE {v1 v2 v2':Value} (h:OwSt w base v1 v2 s N) (hb:RwX EntS 109 w' base v2' l (fun g=>N g\/v1.ownBlock=aC g)) (hg:w.grownBy w' v2.ownBlock) (ho:v2'.ownBlock=v2.ownBlock) :
  OwSt w' base v1 v2' { s with aF:=l } N :=
 ⟨by rw [ho];exact h.b.other hg (fun b e1 e2=>h.ne b e2 e1) (fun b e=> .inr e),hb,fun g e1 e2=>h.ne g e1 (by rw [<-ho];exact e2)⟩
structure RunW (w:World) (B G:Nat) (v1 v2 v3:Value) (t:StoP) (g:List ac):Prop where
 box:Arr w G 27 [v1,v2,ax ay t.aH,ax ay t.aG]
 st:OwSt w B v1 v2 t (fun b=>b<B\/b=G\/v3.ownBlock=aC b)
 gone:w.ownsRow B 9 1 v3 g.length (strs g)
 gB:B<=G
section
variable {w w':World} {B G:Nat} {v1 v2 v3 v1' v2' v3':Value} {t:StoP} {g:List ac}
theorem RunW.below (h:RunW w B G v1 v2 v3 t g) (hb:Below w.heap.size w w'):RunW w' B G v1 v2 v3 t g:=⟨h.box.below hb,h.st.below hb,zc h.gone hb,h.gB⟩
theorem RunW.n1 (h:RunW w B G v1 v2 v3 t g):∀b,v3.ownBlock=aC b->v1.ownBlock≠aC b:=by
 obtain⟨xs,hx⟩:=h.st.b.own;exact Vg h.gone hx wo
theorem RunW.n2 (h:RunW w B G v1 v2 v3 t g):∀b,v3.ownBlock=aC b->v2.ownBlock≠aC b:=by
 obtain⟨xs,hx⟩:=h.st.e.own;exact Vg h.gone hx wo
theorem RunW.n3 (h:RunW w B G v1 v2 v3 t g):v3.ownBlock≠aC G:=zf h.gone h.box wo
theorem RunW.n4 (h:RunW w B G v1 v2 v3 t g):v1.ownBlock≠aC G:=by
 obtain⟨xs,hx⟩:=h.st.b.own;exact zf hx h.box wo
theorem RunW.n5 (h:RunW w B G v1 v2 v3 t g):v2.ownBlock≠aC G:=by
 obtain⟨xs,hx⟩:=h.st.e.own;exact zf hx h.box wo
theorem RunW.lt (h:RunW w B G v1 v2 v3 t g):G<w.heap.size:=h.box.lt
theorem RunW.key (h:RunW w B G v1 v2 v3 t g) {g':List ac} (ho:w'.ownsRow B 9 1 v3' g'.length (strs g')) (hg:w.grownBy w' v3.ownBlock) (hv:v3'.ownBlock=v3.ownBlock\/∃b,v3'.ownBlock=aC b/\w.heap.size<=b):RunW w' B G v1 v2 v3' t g':=by
 have h1:OwSt w B v1 v2 t (fun b=>b<B\/b=G\/v3'.ownBlock=aC b\/v3.ownBlock=aC b):=h.st.wider fun b hb=>by
  rcases hb with hb | hb | hb | hb
  ·exact .inl (.inl hb)
  ·exact .inl (.inr (.inl hb))
  ·rcases hv with e | ⟨b',e,hb'⟩
   ·exact .inl (.inr (.inr (by rw [<-e];exact hb)))
   ·rw [e]at hb;cases hb;exact .inr hb'
  ·exact .inl (.inr (.inr hb))
 have h2:OwSt w' B v1 v2 t (fun b=>b<B\/b=G\/v3'.ownBlock=aC b\/v3.ownBlock=aC b) :=
  ⟨h1.b.other hg (fun b e=>h.n1 b e) (fun b e=> .inl (.inr (.inr (.inr e)))),h1.e.other hg (fun b e=>h.n2 b e) (fun b e=> .inl (.inr (.inr (.inr e)))),h1.ne⟩
 exact⟨h.box.grown hg h.n3,h2.mono (fun b hb=>hb.imp id (fun h=>h.imp id .inl)),ho,h.gB⟩
theorem RunW.del (h:RunW w B G v1 v2 v3 t g) (hx:RwX EntS 109 w' B v2' l (fun b=>(b<B\/b=G\/v3.ownBlock=aC b)\/v1.ownBlock=aC b)) (hg:w.grownBy w' v2.ownBlock) (ho:v2'.ownBlock=v2.ownBlock) :
  RunW (w'.setCell ⟨G,1,aB⟩ v2') B G v1 v2' v3 { t with aF:=l } g:=by
 have h1:=h.st.turnE hx hg ho;have hb:=(h.box.grown hg h.n5).set (k:=1) ws v2';have n5:v2'.ownBlock≠aC G:=by rw [ho];exact h.n5
 have hgn:=h.gone.kept hg (by
  cases hb:v3.ownBlock with
  | none=>exact .inl rfl
  | some b=>exact .inr (fun e=>h.n2 b hb e.symm))
 exact⟨hb,h1.setX (.inr (.inl rfl)) h.n4 n5 v2',zd hgn h.n3,h.gB⟩
theorem RunW.cln_ (h:RunW w B G v1 v2 v3 t g) (hx:OwSt w' B v1' v2 (cln t) (fun b=>b<B\/b=G\/v3.ownBlock=aC b)) (hg:w.grownBy w' v1.ownBlock) (ho:v1'.ownBlock=v1.ownBlock) :
  RunW ((((w'.setCell ⟨G,0,aB⟩ v1').setCell ⟨G,1,aB⟩ v2).setCell ⟨G,2,aB⟩ (ax ay t.aH)).setCell ⟨G,3,aB⟩ (ax ay t.aG)) B G v1' v2 v3 (cln t) g:=by
 have hb:=(h.box.grown hg h.n4).all4 v1' v2 (ax ay t.aH) (ax ay t.aG);have n4:v1'.ownBlock≠aC G:=by rw [ho];exact h.n4
 have hgn:=h.gone.kept hg (by
  cases hb:v3.ownBlock with
  | none=>exact .inl rfl
  | some b=>exact .inr (fun e=>h.n1 b hb e.symm))
 refine⟨hb,?_,zd (zd (zd (zd hgn h.n3) h.n3) h.n3) h.n3,h.gB⟩;exact(((hx.setX (.inr (.inl rfl)) n4 h.n5 _).setX (.inr (.inl rfl)) n4 h.n5 _).setX (.inr (.inl rfl)) n4 h.n5 _).setX (.inr (.inl rfl)) n4 h.n5 _
end
noncomputable def z5c (e:Ending) (w w':World) (s:StoP):Option (StoP×List ac)->Prop
 | some (t,g)=>∃v1 v2 v3,e= .returned (.tuple #[.agg #[v1,v2,ax ay s.aH,ax ay s.aG],v3,ax ay 0])/\OwSt w' w.heap.size v1 v2 t (fun b=>b<w.heap.size)/\w'.ownsRow w.heap.size 9 1 v3 g.length (strs g)
 | none=>e= .returned (.tuple #[.agg #[aw aB 0 0,aw aB 0 0,ax ay 0,ax ay 0],aw aB 0 0,ax ay 10])
theorem z0m (A:ae) (c:Nat) (B:ae) (d:Nat) (s:StoP) (more:Nat) (w:World) (hmore:more<=4000) (hg:GoodS s) (hr:RdSt w A c B d s) :
  Calls Tryz.prog 165 #[.agg #[aw A s.aE.length c,aw B s.aF.length d,ax ay s.aH,ax ay s.aG],ax ay more] w fun e w' =>
   z5c e w w' s (kV more s)/\Below w.heap.size w w':=by
 have hlb:s.aE.length<=24:=hg.b.len;have hle:s.aF.length<=10:=hg.e.len;have hus:=hg.used;have HRO:=sqH hg.aH;have HGD:=sqH hg;obtain⟨w0,hw0,hS,hR,hb0⟩:=zY w 27 [aw A s.aE.length c,aw B s.aF.length d,ax ay s.aH,ax ay s.aG] [aw aB 0 0,aw aB 0 0,ax ay 0,ax ay 0];have hr0:=hr.below hb0;obtain⟨H,hH⟩:=wU w.heap.size
 have HCK:=sqH (zF A c B d s w0 hg hr0);rw [<-hH]at hS hR hb0 ⊢
 have hHl:H<w0.heap.size:=hS.lt;have hHr:H+1<w0.heap.size:=hR.lt;obtain⟨x0,x1,x2,x3⟩:=sqC4 hS;rw [hw0,hH]at x0 x1 x2 x3;have HPL:=sqH (show ∀b∈s.aE,b.data.length<=1000000 from fun b hb=>by have:=(hg.b.one b hb).2.1;omega);have HQL:=sqH (show ∀x∈s.aF,x.aL.length<=1000000 from fun x hx=>by have:=(zk (hg.e.one x hx).2.1).1;omega);clear hg hr;go_enter Tryz.func165,Tryz.ntmps165;go_wp2_with fail;rw [<-hw0,<-hH];have HH:=sqH hH;clear hw0 hH x0 x1 x2 x3;refine wV HCK.o fun w1 hb1=>?_;dsimp only;have hr1:=hr0.below hb1;have hS1:=hS.below hb1;have z0:=hS1.c0;have z2:=hS1.c2;have HLK:=sqH (vy A c s.aE s.aH more w1 wj (wW HRO) HRO.o hmore hr1.b);clear hr0 hS HCK;go_wp2_with fail;clear z0 z2;refine wV HLK.o fun w2 hb2=>?_;dsimp only;have hc2:=wg hb1 hb2;have hr2:=hr1.below hb2;have hS2:=hS1.below hb2;obtain⟨z0,z1,z2,z3⟩:=sqC4 hS2;have HCP:=sqH (qM A c B d s w2 wj wj HPL.o HQL.o hr2);clear hr1 hS1 hb1 hb2 HLK;go_wp2_with fail;clear z0 z1 z2 z3;refine HCP.o.mono ?_;rintro e_ w3 ⟨q1,q2,rfl,ho3,hb3⟩;dsimp only;have hc3:=wg hc2 hb3;have ho3:=ho3.lower (base':=w0.heap.size) hc2.size;obtain⟨G,hG⟩:=wU w3.heap.size
 have HRW:=sqH (show RunW (w3.alloc (.cells #[aw (aC ⟨q1,0,aB⟩) s.aE.length s.aE.length,aw (aC ⟨q2,0,aB⟩) s.aF.length s.aF.length,ax ay s.aH,ax ay s.aG] 27)) w0.heap.size G (aw (aC ⟨q1,0,aB⟩) s.aE.length s.aE.length) (aw (aC ⟨q2,0,aB⟩) s.aF.length s.aF.length) (aw aB 0 0) s [] by
  refine⟨by rw [hG];exact Arr.new w3 27 _,?_,World.ownsRow_nil _ _ _ _,by rw [hG];exact hc3.size⟩;refine(ho3.wider fun b hb=> ?_).below ((Below.refl w3.heap.size w3).alloc ab _);rcases hb with hb | hb | hb
  ·exact .inl (Nat.lt_of_lt_of_le hb hc2.size)
  ·exact .inr (by rw [hb,hG];exact Nat.le_refl _)
  ·cases hb)
 obtain⟨HBK,HRES,HB0,HG⟩:=sqJ4 (hc3.alloc hc3.size (.cells #[aw (aC ⟨q1,0,aB⟩) s.aE.length s.aE.length,aw (aC ⟨q2,0,aB⟩) s.aF.length s.aF.length,ax ay s.aH,ax ay s.aG] 27)) (show ∀W,Below w0.heap.size w0 W->Arr W (H+1) 27 [aw aB 0 0,aw aB 0 0,ax ay 0,ax ay 0] from fun W h=>hR.below h) hb0 hG;clear hS2 hR hc2 hc3 ho3 hb3 hr2 HCP hb0 hG;go_wp2_with fail;rw [<-HG.o];generalize (w3.alloc (.cells #[aw (aC ⟨q1,0,aB⟩) s.aE.length s.aE.length,aw (aC ⟨q2,0,aB⟩) s.aF.length s.aF.length,ax ay s.aH,ax ay s.aG] 27))=w4 at *
 go_loopg [8,11,12] (s.aF.length+1) (fun gn u8 u11 u12 wr=>∃(t:StoP) (g:List ac) (v1 v2 v3:Value) (f:Bool) (lk:Nat),gn=t.aF.length+(if f then 1 else 0)/\u8= ax ay lk/\u11=v3/\u12= .bool f/\lk=usd t.aE+more - t.aH/\GoodS t/\RunW wr w0.heap.size G v1 v2 v3 t g/\Below w0.heap.size w0 wr/\(if f then t=s/\g= [] else uK more (t.aF.length+1) t g=kV more s)/\t.aH=s.aH/\t.aG=s.aG/\g.length+t.aF.length<=10)
 case atStart=>exact⟨s, [],_,_,_,true,_,rfl,rfl,rfl,rfl,rfl,HGD.o,HRW.o,HBK.o,⟨rfl,rfl⟩,rfl,rfl,by simpa using hle⟩
 case round =>
  obtain⟨t,g,v1,v2,v3,f,lk,hgn,rfl,rfl,rfl,hlk,hgt,RW,hbk,hev,hrm,hck,hgl⟩:=hrel;obtain⟨HGN,HLKE,HT,HEV0,HRM,HCK2⟩:=sqJ6 hgn hlk hgt hev hrm hck;have hlt:=hgt.e.len;have hlkm:lk<=100000:=by have:=hgt.used;have:=hgt.aH;omega
  clear hgn hlk hgt hev hrm hck HRW HBK;rcases Nat.eq_zero_or_pos lk with h0 | h0
  ·have hd0:decide ((lk:Int)>0)=false:=decide_eq_false wj;have hd1:decide ((0:Int)<(lk:Int))=false:=decide_eq_false wj;have hd2:decide (0<lk)=false:=decide_eq_false wj;have HEN:=sqH (show kV more s=aC (t,g) by
    have hev:=HEV0.o;have h1:usd t.aE+more<=t.aH:=by have:=HLKE.o;omega
    cases f with
    | true =>
     obtain⟨rfl,rfl⟩:t=s/\g= []:=hev;unfold kV;rw [if_pos h1]
    | false =>
     have hev':uK more (t.aF.length+1) t g=kV more s:=hev;rw [<-hev',uK,if_pos h1])
   obtain⟨A6,c6,B6,d6,e61,e62,hrd6⟩:=RW.st.rows;subst e61 e62;have hbx:=RW.box;rw [HRM.o,HCK2.o]at hbx;obtain⟨b0,b1,b2,b3⟩:=sqC4 hbx;have hcp:=qM A6 c6 B6 d6 t wr (by have:=HT.o.b.len;omega) wj (fun b hb=>by have:=(HT.o.b.one b hb).2.1;omega) (fun x hx=>by have:=(zk (HT.o.e.one x hx).2.1).1;omega) hrd6;rw [HRM.o,HCK2.o]at hcp;obtain⟨HCP,HGO,HBK9⟩:=sqJ3 hcp RW.gone hbk;clear hcp hbx hrd6 RW hbk;go_wp2_with fail;clear b0 b1 b2 b3;refine HCP.o.mono ?_;rintro e_ w9 ⟨g1,g2,rfl,ho9,hb9⟩;dsimp only;have hbk9:=wg HBK9.o hb9;have hR9:=HRES.o _ hbk9;have hb19:=HB0.o.trans (hbk9.mono (Nat.le_of_lt hHl));obtain⟨A9,c9,B9,d9,e91,e92,hrd9⟩:=ho9.rows;have hgo9:=zc HGO.o hb9;have n1:u11.ownBlock≠aC (H+1):=zf hgo9 hR9 wo;obtain⟨f0,f1,f2,f3⟩:=sqF4 hR9;obtain⟨y0,y1,y2,y3⟩:=sqC4 hR9;have hfin:=hR9.all4 (aw (aC ⟨g1,0,aB⟩) t.aE.length t.aE.length) (aw (aC ⟨g2,0,aB⟩) t.aF.length t.aF.length) (ax ay s.aH) (ax ay s.aG);have hwb:=HBK9.o.size;have hoF:=(((ho9.set (g:=H+1) (k:=0) wj wj (aw (aC ⟨g1,0,aB⟩) t.aE.length t.aE.length)).set (g:=H+1) (k:=1) wj wj (aw (aC ⟨g2,0,aB⟩) t.aF.length t.aF.length)).set (g:=H+1) (k:=2) wj wj (ax ay s.aH)).set (g:=H+1) (k:=3) wj wj (ax ay s.aG);have hbF:=(((hb19.setCell (p:=⟨H+1,0,aB⟩) ww (aw (aC ⟨g1,0,aB⟩) t.aE.length t.aE.length)).setCell (p:=⟨H+1,1,aB⟩) ww (aw (aC ⟨g2,0,aB⟩) t.aF.length t.aF.length)).setCell (p:=⟨H+1,2,aB⟩) ww (ax ay s.aH)).setCell (p:=⟨H+1,3,aB⟩) ww (ax ay s.aG);obtain⟨HGO9,HOF,HBF,HFIN⟩:=sqJ4 (zb (zd (k:=3) (u:= ax ay s.aG) (zd (k:=2) (u:= ax ay s.aH) (zd (k:=1) (u:= aw (aC ⟨g2,0,aB⟩) t.aF.length t.aF.length) (zd (k:=0) (u:= aw (aC ⟨g1,0,aB⟩) t.aE.length t.aE.length) hgo9 n1) n1) n1) n1) (Nat.le_of_lt hHl)) hoF hbF hfin;clear hfin hoF hbF hgo9 ho9 hb9 hbk9 hR9 hb19 e91 e92 hrd9 hwb n1;go_wp2_with fail;refine bodyPost_ret (zA rfl _ _ (H+1) _ _ _ _ wu HFIN.o Tryz.underlying27 rfl wm) rfl ?_;rw [HEN.o];have hwr:H<=wr.heap.size:=by have:=HBK9.o.size;omega
   refine⟨⟨_,_,u11,rfl,(HOF.o.lower (by rw [<-HH.o];exact hwr)).mono (fun b hb=> ?_),by rw [<-HH.o];exact HGO9.o⟩,HBF.o⟩;rw [<-HH.o]at hb;omega
  ·have hd0:decide ((lk:Int)>0)=true:=decide_eq_true wj;have hd1:decide ((0:Int)<(lk:Int))=true:=decide_eq_true wj;have hd2:decide (0<lk)=true:=decide_eq_true wj;have HNF:=sqH (show ¬usd t.aE+more<=t.aH by have:=HLKE.o;omega);cases f with
   | true =>
    have HEV:=sqH (show uK more ((cln t).aF.length+1) (cln t) g=kV more s by
     obtain⟨rfl,rfl⟩:t=s/\g= []:=HEV0.o;unfold kV;rw [if_neg HNF.o];rfl)
    have HMS:=sqH (show(cln t).aF.length<gk by rw [yf];have:=HGN.o;rw [if_pos rfl]at this;omega);have HGL:=sqH hgl;obtain⟨A1,c1,B2,d2,e1,e2,_⟩:=RW.st.rows;subst e1 e2;have hcln:=K8 w0.heap.size (aw A1 t.aE.length c1) (aw B2 t.aF.length d2) t wr _ HT.o RW.st;simp only [stV,yg,vX]at hcln;rw [HRM.o,HCK2.o]at hcln;have HCL:=sqH hcln;clear hcln;have hbx:=RW.box;rw [HRM.o,HCK2.o]at hbx;obtain⟨b0,b1,b2,b3⟩:=sqC4 hbx;clear hbx;have HRW:=sqH RW;clear RW;go_wp2_with fail;clear b0 b1 b2 b3;refine HCL.o.mono ?_;rintro e_ w6 ⟨v1',rfl,ho6,hg6,hob6⟩;dsimp only;have hv1b:∀b,((aw A1 t.aE.length c1):Value).ownBlock=aC b->w0.heap.size<=b:=fun b e=>(HRW.o.st.b.rwo.blk e).1;have hbk6:=hbk.grown hg6 hbk.size hv1b;have hbx6:=HRW.o.box.grown hg6 HRW.o.n4;have RW6:=HRW.o.cln_ ho6 hg6 hob6;rw [HRM.o,HCK2.o]at hbx6 RW6;obtain⟨f0,f1,f2,f3⟩:=sqF4 hbx6;obtain⟨b0,b1,b2,b3⟩:=sqC4 hbx6;have hHG:w0.heap.size<=G:=HRW.o.gB;have hbk7:=(((hbk6.setCell (p:=⟨G,0,aB⟩) hHG v1').setCell (p:=⟨G,1,aB⟩) hHG (aw B2 t.aF.length d2)).setCell (p:=⟨G,2,aB⟩) hHG (ax ay s.aH)).setCell (p:=⟨G,3,aB⟩) hHG (ax ay s.aG);clear hbx6 hbk6 ho6 hg6 hob6;obtain⟨A6,c6,B6,d6,e61,e62,hrd6⟩:=RW6.st.rows;have hgt:=HT.o;have hgt6:=yI hgt;have hus6:=hgt6.used;have hrm6:=hgt6.aH;have hln6:=hgt6.b.len;have HLK:=sqH (show ∀W,Rw BlobS W A6 (cln t).aE->Calls Tryz.prog 144 #[aw A6 (cln t).aE.length c6,ax ay s.aH,ax ay more] W fun e w'=>e= .returned (.tuple #[ax ay ((usd (cln t).aE+more - s.aH:Nat):Int),ax ay 0])/\Below W.heap.size W w' from fun W h=>vy A6 c6 (cln t).aE s.aH more W wj (by rw [yg]at hus6 hrm6;omega) HRO.o hmore h);subst e61;clear e62;clear hgt hgt6 hus6 hrm6;go_wp2_with fail;clear f0 f1 f2 f3 b0 b1 b2 b3;generalize ((((w6.setCell ⟨G,0,aB⟩ (aw A6 (cln t).aE.length c6)).setCell ⟨G,1,aB⟩ (aw B2 t.aF.length d2)).setCell ⟨G,2,aB⟩ (ax ay s.aH)).setCell ⟨G,3,aB⟩ (ax ay s.aG))=w7 at *
    refine wV (HLK.o _ hrd6.b) fun w8 hb8=>?_;dsimp only;have hbk8:=wg hbk7 hb8;have RW8:=RW6.below hb8;obtain⟨HR8,HBK8,HGT⟩:=sqJ3 RW8 hbk8 (yI HT.o);clear RW6 RW8 hrd6 hb8 hbk7 hbk8 HCL HLK hln6;go_wp2_with fail;go_roundg (cln t).aF.length
    case measure=>exact HMS.o
    case rel=>exact⟨cln t,g,aw A6 (cln t).aE.length c6,(aw B2 t.aF.length d2),u11,false,_,rfl,rfl,rfl,rfl,by rw [yg,HRM.o],HGT.o,HR8.o,HBK8.o,HEV.o,HRM.o,HCK2.o,by rw [yf];exact HGL.o⟩
   | false =>
    have hev':uK more (t.aF.length+1) t g=kV more s:=HEV0.o;rw [uK,if_neg HNF.o]at hev';obtain⟨A1,c1,B2,d2,e1,e2,hrd1⟩:=RW.st.rows;subst e2;clear e1;have HOL:=sqH (X5 B2 d2 t.aF wr wj hrd1.e);have b1:=RW.box.c1;cases ho:ZU t.aF t.aF.length with
    | none =>
     rw [ho]at hev' HOL;have HEV:=sqH hev';have HRW:=sqH RW;clear hev' hrd1 RW;go_wp2_with fail;clear b1;refine wV HOL.o fun w5 hb5=>?_;dsimp only;rw [xn];have hbk9:=wg hbk hb5;have hR9:=HRES.o _ hbk9;have hb19:=HB0.o.trans (hbk9.mono (Nat.le_of_lt hHl));obtain⟨f0,f1,f2,f3⟩:=sqF4 hR9;obtain⟨y0,y1,y2,y3⟩:=sqC4 hR9;have hfin:=hR9.all4 (aw aB 0 0) (aw aB 0 0) (ax ay 0) (ax ay 0);have hbF:=(((hb19.setCell (p:=⟨H+1,0,aB⟩) ww (aw aB 0 0)).setCell (p:=⟨H+1,1,aB⟩) ww (aw aB 0 0)).setCell (p:=⟨H+1,2,aB⟩) ww (ax ay 0)).setCell (p:=⟨H+1,3,aB⟩) ww (ax ay 0);have HBF:=sqH hbF;have HFIN:=sqH hfin;clear hfin hbF hbk9 hR9 hb19 hb5 hbk;go_wp2_with fail;refine bodyPost_ret (zA rfl _ _ (H+1) _ _ _ _ wu HFIN.o Tryz.underlying27 rfl wm) rfl ?_;rw [<-HEV.o];exact⟨rfl,HBF.o⟩
    | some i0 =>
     have hi:=(x8 t.aF _ i0 ho).2;rw [ho]at hev' HOL;simp only [List.getElem?_eq_getElem hi]at hev';have hlen0:0<t.aF.length:=wj;obtain⟨g2,d2',e2,_,_,_,_⟩:=RW.st.e.rwo.nonnil hlen0;injection e2 with e21 e22 e23;subst e21 e23;clear e22;have HEV2:=sqH hev';have HO:=sqH ho;clear hev' ho hrd1;go_wp2_with fail;clear b1;refine wV HOL.o fun w5 hb5=>?_;dsimp only;rw [xn];have hbk5:=wg hbk hb5;have RW5:=RW.below hb5;obtain⟨A1',c1',B2',d2'',e1,e2,hrd5⟩:=RW5.st.rows;clear e1;cases e2
     have b1:=RW5.box.c1;obtain⟨b,off,Bx,cc,e9,hbb,y0,y1,y2,y3,_⟩:=hrd5.e.ent_at i0 hi;cases e9
     have hi0:=wX i0
     have hi1:(i0:Int)<(t.aF.length:Int):=wj;have hw1:IntKind.i64.wrap ((i0:Int)+1)=(i0:Int)+1:=IntWalk.i64_in _ wj;have HRW5:=sqH RW5;have hgn5:=RW5.gone;have HBK5:=sqH hbk5;have hB5:w0.heap.size<=w5.heap.size:=hbk5.size;obtain⟨kx,hkx⟩:=wU (t.aF[i0].key)
     rw [<-hkx]at y0 HEV2;have HKX:=sqH hkx;simp only [Nat.zero_add]at y0;clear hb5 hbk hbk5 RW RW5 hrd5 hbb hkx y1 y2 y3
     refine wH ?_;intros;refine zg rfl (.tmp 49) (.tmp 56) rfl j6 wu hgn5 (us:= [.string ⟨kx.toArray⟩]) wu rfl (by intro u hu;rw [List.mem_singleton.1 hu];rfl) wj hB5 ?_;intro v9 w9 ho9 hg9 hv9;clear y0 b1;have ho9':w9.ownsRow w0.heap.size 9 1 v9 (g++ [kx]).length (strs (g++ [kx])):=by rw [vK,List.length_append];exact ho9
     have RW9:=HRW5.o.key ho9' hg9 hv9;have hbk9:=HBK5.o.grown hg9 hB5 (fun b e=>(hgn5.lt b e).1);have b1:=RW9.box.c1;have f1:=RW9.box.frozen 1;have HRW9:=sqH RW9;have HDL:=sqH (z05 g2 i0 t.aF w0.heap.size d2 w9 _ hi RW9.st.e);have hB9:w0.heap.size<=w9.heap.size:=hbk9.size;clear ho9 ho9' hg9 hv9 RW9 hgn5 f1;go_wp2_with fail;clear b1;refine HDL.o.mono ?_;rintro e_ w10 ⟨rfl,hx10,hg10⟩;dsimp only;have hbx10:=HRW9.o.box.grown hg10 HRW9.o.n5;rw [HRM.o,HCK2.o]at hbx10;obtain⟨b0,b1,b2,b3⟩:=sqC4 hbx10;have f1:=hbx10.frozen 1;have RW:=HRW9.o.del hx10 hg10 rfl;have hbkA:=(hbk9.grown hg10 hB9 (fun b e=>by cases e;exact(HRW9.o.st.e.rwo.blk rfl).1)).setCell (p:=⟨G,1,aB⟩) HRW9.o.gB (aw (aC ⟨g2,0,aB⟩) (t.aF.eraseIdx i0).length d2);have HT1:=sqH (ZA HT.o (List.eraseIdx_sublist t.aF i0));have HEV:=sqH (show uK more ((cln { t with aF:=t.aF.eraseIdx i0 }).aF.length+1) (cln { t with aF:=t.aF.eraseIdx i0 }) (g++ [kx])=kV more s by
      rw [yf];show uK more ((t.aF.eraseIdx i0).length+1) _ _=_;rw [List.length_eraseIdx_of_lt hi,Nat.sub_add_cancel hlen0];exact HEV2.o)
     have HMS:=sqH (show(cln { t with aF:=t.aF.eraseIdx i0 }).aF.length<gk by
      rw [yf];show(t.aF.eraseIdx i0).length<gk;rw [List.length_eraseIdx_of_lt hi];have:=HGN.o;rw [if_neg wo]at this;omega)
     have HGL:=sqH (show(g++ [kx]).length+(t.aF.eraseIdx i0).length<=10 by
      rw [List.length_eraseIdx_of_lt hi,List.length_append];simp only [List.length_cons,List.length_nil];omega)
     have hlt1:(t.aF.eraseIdx i0).length<=10:=by rw [List.length_eraseIdx_of_lt hi];omega
     obtain⟨A1,c1,_,_,e1,_,_⟩:=HRW9.o.st.rows;subst e1;clear hx10 hg10 hbk9 HEV2 HDL HOL hbx10;go_wp2_with fail;clear b0 b1 b2 b3 f1;generalize hwx:(w10.setCell ⟨G,1,aB⟩ (aw (aC ⟨g2,0,aB⟩) (t.aF.eraseIdx i0).length d2))=w11 at *
     clear hwx;have HRM1:=sqH (show({ t with aF:=t.aF.eraseIdx i0 }:StoP).aH=s.aH from HRM.o);have HCK3:=sqH (show({ t with aF:=t.aF.eraseIdx i0 }:StoP).aG=s.aG from HCK2.o);have hlt1':({ t with aF:=t.aF.eraseIdx i0 }:StoP).aF.length<=10:=hlt1;have HGL:=sqH (show(g++ [kx]).length+({ t with aF:=t.aF.eraseIdx i0 }:StoP).aF.length<=10 from HGL.o);clear HT HRM HCK2 hlt1 hlt;generalize ({ t with aF:=t.aF.eraseIdx i0 }:StoP)=t1 at *
     generalize (g++ [kx])=gn1 at *
     have HT:=HT1;have HRM:=HRM1;have HCK2:=HCK3;have hlt:=hlt1';have hbk:=hbkA;clear HT1 HRM1 HCK3 hlt1' hbkA;have hcln:=K8 w0.heap.size (aw A1 t.aE.length c1) (aw (aC ⟨g2,0,aB⟩) (t.aF.eraseIdx i0).length d2) t1 w11 _ HT.o RW.st;simp only [stV,yg,vX]at hcln;rw [HRM.o,HCK2.o]at hcln;have HCL:=sqH hcln;clear hcln;have hbx:=RW.box;rw [HRM.o,HCK2.o]at hbx;obtain⟨b0,b1,b2,b3⟩:=sqC4 hbx;clear hbx;have HRW:=sqH RW;clear RW;go_wp2_with fail;clear b0 b1 b2 b3;refine HCL.o.mono ?_;rintro e_ w6 ⟨v1',rfl,ho6,hg6,hob6⟩;dsimp only;have hv1b:∀b,((aw A1 t.aE.length c1):Value).ownBlock=aC b->w0.heap.size<=b:=fun b e=>(HRW.o.st.b.rwo.blk e).1;have hbk6:=hbk.grown hg6 hbk.size hv1b;have hbx6:=HRW.o.box.grown hg6 HRW.o.n4;have RW6:=HRW.o.cln_ ho6 hg6 hob6;rw [HRM.o,HCK2.o]at hbx6 RW6;obtain⟨f0,f1,f2,f3⟩:=sqF4 hbx6;obtain⟨b0,b1,b2,b3⟩:=sqC4 hbx6;have hHG:w0.heap.size<=G:=HRW.o.gB;have hbk7:=(((hbk6.setCell (p:=⟨G,0,aB⟩) hHG v1').setCell (p:=⟨G,1,aB⟩) hHG (aw (aC ⟨g2,0,aB⟩) (t.aF.eraseIdx i0).length d2)).setCell (p:=⟨G,2,aB⟩) hHG (ax ay s.aH)).setCell (p:=⟨G,3,aB⟩) hHG (ax ay s.aG);clear hbx6 hbk6 ho6 hg6 hob6;obtain⟨A6,c6,B6,d6,e61,e62,hrd6⟩:=RW6.st.rows;have hgt:=HT.o;have hgt6:=yI hgt;have hus6:=hgt6.used;have hrm6:=hgt6.aH;have hln6:=hgt6.b.len;have HLK:=sqH (show ∀W,Rw BlobS W A6 (cln t1).aE->Calls Tryz.prog 144 #[aw A6 (cln t1).aE.length c6,ax ay s.aH,ax ay more] W fun e w'=>e= .returned (.tuple #[ax ay ((usd (cln t1).aE+more - s.aH:Nat):Int),ax ay 0])/\Below W.heap.size W w' from fun W h=>vy A6 c6 (cln t1).aE s.aH more W wj (by rw [yg]at hus6 hrm6;omega) HRO.o hmore h);subst e61;clear e62;clear hgt hgt6 hus6 hrm6;go_wp2_with fail;clear f0 f1 f2 f3 b0 b1 b2 b3;generalize ((((w6.setCell ⟨G,0,aB⟩ (aw A6 (cln t1).aE.length c6)).setCell ⟨G,1,aB⟩ (aw (aC ⟨g2,0,aB⟩) (t.aF.eraseIdx i0).length d2)).setCell ⟨G,2,aB⟩ (ax ay s.aH)).setCell ⟨G,3,aB⟩ (ax ay s.aG))=w7 at *
     refine wV (HLK.o _ hrd6.b) fun w8 hb8=>?_;dsimp only;have hbk8:=wg hbk7 hb8;have RW8:=RW6.below hb8;obtain⟨HR8,HBK8,HGT⟩:=sqJ3 RW8 hbk8 (yI HT.o);clear RW6 RW8 hrd6 hb8 hbk7 hbk8 HCL HLK hln6;go_wp2_with fail;go_roundg (cln t1).aF.length
     case measure=>exact HMS.o
     case rel=>exact⟨cln t1,gn1,aw A6 (cln t1).aE.length c6,(aw (aC ⟨g2,0,aB⟩) (t.aF.eraseIdx i0).length d2),v9,false,_,rfl,rfl,rfl,rfl,by rw [yg,HRM.o],HGT.o,HR8.o,HBK8.o,HEV.o,HRM.o,HCK2.o,by rw [yf];exact HGL.o⟩
open Go.Maps
section
variable {w w':World} {g base:Nat} {v v1 v2 v3 v4:Value} {l:LoP} {N:ai}
theorem Kp (h:w.ownsRow base e size v n xs) (hg:g<base):v.ownBlock≠aC g:=fun e=>by
 rcases h.2 with ⟨rfl,_⟩ | ⟨g',cap,cur,rfl,h1,_⟩
 ·cases e
 ·have e':g'=g:=by simpa [Value.ownBlock] using e
  omega
theorem ki (h:w.ownsRow base e size v n xs) (hg:w.grownBy w' (aC g)) (hb:g<base):w'.ownsRow base e size v n xs:=h.kept hg (.inr (Kp h hb))
theorem FlsO.grownE {fs:List FlP} (h:FlsO w base v fs) (hg:w.grownBy w' (aC g)) (hb:g<base):FlsO w' base v fs:=by
 obtain⟨As,h1,h2,h3,h4⟩:=h;exact⟨As,h1,ki h2 hg hb,fun k p a hp ha=>⟨ki (h3 k p a hp ha).1 hg hb,(h3 k p a hp ha).2⟩,h4⟩
theorem OwSt.grownE (h:OwSt w base v1 v2 s N) (hg:w.grownBy w' (aC g)) (hb:g<base) (hN:N g):OwSt w' base v1 v2 s N:=by
 obtain⟨xs1,hx⟩:=h.b.own_m;obtain⟨xs2,hy⟩:=h.e.own_m;have e1:∀b,aC g=aC b->v1.ownBlock≠aC b:=fun b e=>by cases e;exact Kp hx hb
 have e2:∀b,aC g=aC b->v2.ownBlock≠aC b:=fun b e=>by cases e;exact Kp hy hb
 exact⟨h.b.other hg e1 fun b e=>by cases e;exact .inl hN,h.e.other hg e2 fun b e=>by cases e;exact .inl hN,h.ne⟩
theorem OwLo.grownE (h:OwLo w base v1 v2 v3 v4 l N) (hg:w.grownBy w' (aC g)) (hb:g<base) (hN:N g):OwLo w' base v1 v2 v3 v4 l N:=⟨h.s.grownE hg hb hN,ki h.c hg hb,h.f.grownE hg hb⟩
end
structure DkB (w:World) (g:Nat) (p:LoW) (l:LoP) (N:ai):Prop where
 box:Arr w g 82 (loC p l)
 own:OwLo w (g+1) (aw p.X l.st.aE.length p.cX) (aw p.Y l.st.aF.length p.dY) (aw p.G l.co.aI.length p.ng) (aw p.F l.fs.length p.cF) l N
section
variable {w w':World} {g B:Nat} {p:LoW} {l:LoP} {N N':ai} {v1 v2 v3 v4:Value} {s:StoP} {c:ColP}
theorem OwLo.rdAt (h:OwLo w B (aw p.X l.st.aE.length p.cX) (aw p.Y l.st.aF.length p.dY) (aw p.G l.co.aI.length p.ng) (aw p.F l.fs.length p.cF) l N):RdLo w p l:=by
 obtain⟨q,e1,e2,e3,e4,hr⟩:=h.rd;cases p;cases q
 injection e1 with a1 _ a2;injection e2 with b1 _ b2;injection e3 with c1 _ c2;injection e4 with d1 _ d2;dsimp only at a1 a2 b1 b2 c1 c2 d1 d2;subst a1 a2 b1 b2 c1 c2 d1 d2;exact hr
theorem DkB.rd (h:DkB w g p l N):RdLo w p l:=h.own.rdAt
theorem DkB.below (h:DkB w g p l N) (hb:Below w.heap.size w w'):DkB w' g p l N:=⟨h.box.below hb,h.own.below hb⟩
theorem DkB.lt (h:DkB w g p l N):g<w.heap.size:=h.box.lt
theorem DkB.mono (h:DkB w g p l N) (hN:∀b,N' b->N b):DkB w g p l N':=⟨h.box,h.own.mono hN⟩
theorem DkB.wider (h:DkB w g p l N) (hN:∀b,N' b->N b\/w.heap.size<=b):DkB w g p l N':=⟨h.box,h.own.wider hN⟩
theorem DkB.set (h:DkB w g p l N) (hA:Arr w h' 48 xs) (hN:N h') (hne:g≠h') (u:Value):DkB (w.setCell ⟨h',k,aB⟩ u) g p l N :=
 ⟨h.box.other hne u,⟨h.own.s.setX hN (h.own.s.nb hA wo wo).1 (h.own.s.nb hA wo wo).2 _,zd h.own.c (zf h.own.c hA wo),h.own.f.set1 hA wo wo u⟩⟩
theorem DkB.mk' (h:OwLo w (g+1) v1 v2 v3 v4 l N) (hb:Arr w g 82 [v1,v2,ax ay l.st.aH,ax ay l.st.aG,ax ay l.co.aJ,v3,az ⟨l.co.at_.toArray⟩,v4]):∃p,DkB w g p l N:=by
 obtain⟨p,rfl,rfl,rfl,rfl,_⟩:=h.rd;exact⟨p,hb,h⟩
end
structure OwSD (w:World) (g:Nat) (v1 v2 v3:Value) (s:StoP) (c:ColP) (N:ai):Prop where
 s:OwSt w (g+1) v1 v2 s N
 c:w.ownsRow (g+1) 9 1 v3 c.aI.length (strs c.aI)
section
variable {w w':World} {g B:Nat} {l:LoP} {N:ai} {v1 v2 v3 v4:Value} {s:StoP} {c:ColP}
theorem OwSD.below (h:OwSD w g v1 v2 v3 s c N) (hb:Below w.heap.size w w'):OwSD w' g v1 v2 v3 s c N:=⟨h.s.below hb,zc h.c hb⟩
theorem OwSC.at_ (h:OwSC w B v1 v2 v3 s c) (hg:g<B) (hN:∀b,N b->b<B):OwSD w g v1 v2 v3 s c N:=⟨(h.s.lower hg).mono hN,zb h.c hg⟩
theorem OwLo.at_ (h:OwLo w B v1 v2 v3 v4 l (fun b=>b<B)) (hg:g<B) (hN:∀b,N b->b<B):OwLo w (g+1) v1 v2 v3 v4 l N:=⟨(h.s.lower hg).mono hN,zb h.c hg,h.f.lower hg⟩
end
abbrev z5j (r:RepP) (dv pv wv:Value):Value:= .agg #[ax ay r.err,az ⟨r.dig.toArray⟩,dv,pv,ax ay r.n,wv]
abbrev z3v (w:World) (g:Nat) (u0 u1 u2 u3 u4 u5:Value):World:=(((((w.setCell ⟨g,0,aB⟩ u0).setCell ⟨g,1,aB⟩ u1).setCell ⟨g,2,aB⟩ u2).setCell ⟨g,3,aB⟩ u3).setCell ⟨g,4,aB⟩ u4).setCell ⟨g,5,aB⟩ u5
structure RepAt (w:World) (base:Nat) (r:RepP) (dv pv wv:Value):Prop where
 d:w.ownsRow base 5 1 dv r.data.length (bys r.data)
 p:w.ownsRow base 51 3 pv r.aL.length (pcs r.aL)
 w:w.ownsRow base 3 1 wv r.who.length (ins r.who)
theorem RepAt.below {r:RepP} (h:RepAt w base r dv pv wv) (hb:Below w.heap.size w w'):RepAt w' base r dv pv wv:=⟨zc h.d hb,zc h.p hb,zc h.w hb⟩
abbrev z56 (q:Nat):Value:= .agg #[ax ay q,az ⟨#[]⟩,aw aB 0 0,aw aB 0 0,ax ay 0,aw aB 0 0]
abbrev Kw:af:= [ax ay 0,az ⟨#[]⟩,aw aB 0 0,aw aB 0 0,ax ay 0,aw aB 0 0]
theorem RepAt.e_ (q:Nat):RepAt w base (Yq q) (aw aB 0 0) (aw aB 0 0) (aw aB 0 0):=⟨World.ownsRow_nil _ _ _ _,World.ownsRow_nil _ _ _ _,World.ownsRow_nil _ _ _ _⟩
theorem z2i {w0 w3:World} {P:World->Prop} (h:Hid (∀W,Below w0.heap.size w0 W->P W)) (hB:Below w0.heap.size w0 w3):Hid (∀W,Below w3.heap.size w3 W->P W):=fun W h'=>h.o W (wg hB h')
theorem js (w:World) (e1 e2 e3:TypeId) (c1 c2 c3:af):∃W,W=((w.alloc (.cells c1.toArray e1)).alloc (.cells c2.toArray e2)).alloc (.cells c3.toArray e3)/\Arr W w.heap.size e1 c1/\Arr W (w.heap.size+1) e2 c2/\Arr W (w.heap.size+1+1) e3 c3/\Below w.heap.size w W:=by
 obtain⟨W2,h2,a1,a2,b2⟩:=zn w e1 e2 c1 c2;have a3:=Arr.new W2 e3 c3;have hs:W2.heap.size=w.heap.size+1+1:=by rw [h2];simp
 have b3:=wi W2 (.cells c3.toArray e3);rw [hs]at a3;exact⟨_,rfl,by rw [<-h2];exact a1.below b3,by rw [<-h2];exact a2.below b3,by rw [<-h2];exact a3,by rw [<-h2];exact wg b2 b3⟩
theorem Arr.fst7 {x6 x7:Value} (h:Arr w g e [x0,x1,x2,x3,x4,x5,x6,x7]) (u0 u1 u2 u3 u4 u5 u6:Value):Arr (((Z7 w g u0 u1 u2 u3).setCell ⟨g,4,aB⟩ u4).setCell ⟨g,5,aB⟩ u5 |>.setCell ⟨g,6,aB⟩ u6) g e [u0,u1,u2,u3,u4,u5,u6,x7] :=
 (((h.fst4 u0 u1 u2 u3).set (k:=4) ws u4).set (k:=5) ws u5).set (k:=6) ws u6
theorem Arr.all6 (h:Arr w g e [x0,x1,x2,x3,x4,x5]) (u0 u1 u2 u3 u4 u5:Value):Arr (z3v w g u0 u1 u2 u3 u4 u5) g e [u0,u1,u2,u3,u4,u5] :=
 (((((h.set (k:=0) ws u0).set (k:=1) ws u1).set (k:=2) ws u2).set (k:=3) ws u3).set (k:=4) ws u4).set (k:=5) ws u5
theorem DkB.set6 {p:LoW} {l:LoP} (h:DkB w g p l N) (hA:Arr w h' 48 [x0,x1,x2,x3,x4,x5]) (hN:N h') (hne:g≠h') (u0 u1 u2 u3 u4 u5:Value):DkB (z3v w h' u0 u1 u2 u3 u4 u5) g p l N:=by
 have a0:=hA.set (k:=0) ws u0;have a1:=a0.set (k:=1) ws u1;have a2:=a1.set (k:=2) ws u2;have a3:=a2.set (k:=3) ws u3;have a4:=a3.set (k:=4) ws u4;exact(((((h.set hA hN hne u0).set a0 hN hne u1).set a1 hN hne u2).set a2 hN hne u3).set a3 hN hne u4).set a4 hN hne u5
theorem qB {t:TypeId} {ys:af} (ho:w.ownsRow base t size v n ys) (h1:v.ownBlock≠aC g) (u0 u1 u2 u3 u4 u5:Value):(z3v w g u0 u1 u2 u3 u4 u5).ownsRow base t size v n ys:=zd (zd (zd (zd (zd (zd ho h1) h1) h1) h1) h1) h1
theorem RepAt.set6 {r:RepP} (h:RepAt w base r dv pv wv) (hA:Arr w g 48 xs) (u0 u1 u2 u3 u4 u5:Value):RepAt (z3v w g u0 u1 u2 u3 u4 u5) base r dv pv wv :=
 ⟨qB h.d (zf h.d hA wo) _ _ _ _ _ _,qB h.p (zf h.p hA wo) _ _ _ _ _ _,qB h.w (zf h.w hA wo) _ _ _ _ _ _⟩
theorem zl {W:World} {g:Option Nat} {H:Nat} (h:w.grownBy W g) (hH:w.heap.size<=H) (u0 u1 u2 u3 u4 u5:Value):w.grownBy (z3v W H u0 u1 u2 u3 u4 u5) g:=zt (zt (zt (zt (zt (zt h hH) hH) hH) hH) hH) hH
theorem zr {u:Value} (h:w.grownBy w' (aC g)):w.grownBy (w'.setCell ⟨g,k,aB⟩ u) (aC g):=h.trans (zT w' g k u)
theorem z2p (A:ae) (c:Nat) (B:ae) (d:Nat) (s:StoP) (Ag:ae) (ng:Nat) (cp:ColP) (w:World) (more:Nat) (hmore:more<=4000) (hg:GoodS s) (hr:RdSt w A c B d s) (hgl:cp.aI.length<=1000) (hgc:GoodC s cp) (hc:RdC w Ag ng cp) :
  Calls zZZ 130 #[z1x A c B d s,coV (aw Ag cp.aI.length ng) cp,ax ay more] w fun e w' =>
   ∃v1 v2 v3 xs,e= .returned (.tuple #[stV v1 v2 (evP s more).1,v3,ax ay ((evP s more).2.2:Int)])/\OwSt w' w.heap.size v1 v2 (evP s more).1 (fun b=>b<w.heap.size)/\w'.ownsRow w.heap.size 9 1 v3 (evP s more).2.1 xs/\Below w.heap.size w w':=by
 obtain⟨r,hv⟩:=wU (evP s more)
 rw [<-hv];have HV:=sqH hv;clear hv;obtain⟨tt,kk,qq⟩:=r;dsimp only;obtain⟨aJ,aI,at_⟩:=cp;obtain⟨w0,hw0,hS,hC,hR,hbx⟩:=Yx w 27 30 [aw A s.aE.length c,aw B s.aF.length d,ax ay s.aH,ax ay s.aG] [ax ay aJ,aw Ag aI.length ng,az ⟨at_.toArray⟩] [aw aB 0 0,aw aB 0 0,ax ay 0,ax ay 0];have hr0:=hr.below hbx;have hc0:=hc.below hbx;obtain⟨H,hH⟩:=wU w.heap.size
 have HCK:=sqH (qu A c B d s Ag ng ⟨aJ,aI,at_⟩ w0 hg hr0 hgl hgc hc0);have HRN:=sqH (fun W (h:Below w0.heap.size w0 W)=>z0m A c B d s more W hmore hg (hr0.below h));rw [<-hH]at hS hC hR hbx ⊢
 have hHl:H+1+1<w0.heap.size:=hR.lt;obtain⟨x0,x1,x2,x3⟩:=sqC4 hS;obtain⟨y0,y1,y2⟩:=sqC3 hC;obtain⟨HS,HR,HBX⟩:=sqJ3 hS hR hbx;rw [hw0,hH]at x0 x1 x2 x3 y0 y1 y2;clear hg hr hgl hgc hc hr0 hc0 hS hC hR hbx;go_enter func130,ntmps130
 refine wH ?_;intros;rw [<-hw0,<-hH];have HH:=sqH hH;clear hw0 hH x0 x1 x2 x3 y0 y1 y2;refine wV HCK.o fun w1 hb1=>?_;dsimp only;have hS1:=HS.o.below hb1;obtain⟨x0,x1,x2,x3⟩:=sqC4 hS1;have HR1:=sqH (HRN.o w1 hb1);clear HCK HRN hS1
 refine wH ?_;intros;clear x0 x1 x2 x3;refine(HR1.o).mono ?_;rintro e_ w2 ⟨hrb,hb2⟩;have hb:=wg hb1 hb2;have hR2:=HR.o.below hb;have hB2:=HBX.o.trans (hb.mono wj);have hHw:H<=w1.heap.size:=by have:=hb1.size;omega
 obtain⟨f0,f1,f2,f3⟩:=sqF4 hR2;obtain⟨y0,y1,y2,y3⟩:=sqC4 hR2;have HE:=HV.o;clear HV;unfold evP at HE;cases hev:kV more s with
 | none =>
  rw [hev]at hrb HE;cases HE
  have he:_=_:=hrb;subst he;dsimp only;have hfin:=hR2.all4 (aw aB 0 0) (aw aB 0 0) (ax ay 0) (ax ay 0);clear hR2 hb1 hb2 hb hev hrb
  refine wH ?_;intros;refine bodyPost_ret (zA rfl _ _ (H+1+1) _ _ _ _ wu hfin underlying27 rfl wm) rfl ?_;refine⟨_,_,_, [],rfl,.z_,World.ownsRow_nil _ _ _ _,?_⟩;exact yH hB2 wj _ _ _ _
 | some tg =>
  obtain⟨t,gn⟩:=tg;rw [hev]at hrb HE;cases HE
  obtain⟨v1,v2,v3,he,ho,hl⟩:=hrb;obtain⟨A1,c1,B1,d1,rfl,rfl, -⟩:=ho.rows;obtain⟨G1,n1,rfl, -, -⟩:=Rd.of_own' hl;subst he;dsimp only;have hne:=ho.nb hR2 wo wo;have hnl:=zf hl hR2 wo;have hfin:=hR2.all4 (aw A1 tt.aE.length c1) (aw B1 tt.aF.length d1) (ax ay s.aH) (ax ay s.aG);have HGV:=sqH hev;have ho2:=ho.set4N (g:=H+1+1) (show H+1+1<w1.heap.size from by have:=hb1.size;omega) hne.1 hne.2 (aw A1 tt.aE.length c1) (aw B1 tt.aF.length d1) (ax ay s.aH) (ax ay s.aG);have hl2:=qA hl hnl (aw A1 tt.aE.length c1) (aw B1 tt.aF.length d1) (ax ay s.aH) (ax ay s.aG);clear hR2 hb1 hb2 hb hev ho hl hne hnl
  refine wH ?_;intros;refine bodyPost_ret (zA rfl _ _ (H+1+1) _ _ _ _ wu hfin underlying27 rfl wm) rfl ?_;refine⟨aw A1 tt.aE.length c1,aw B1 tt.aF.length d1,aw G1 gn.length n1,_,?_,(ho2.lower hHw).mono (fun b hb=>wj),zb hl2 hHw,?_⟩
  ·rw [VE (Kh HGV.o)];rfl
  ·exact yH hB2 wj _ _ _ _
theorem z3c (hg:GoodS s) (n:Nat):(evP s n).2.1<=10:=by
 unfold evP;cases he:kV n s with
 | none=>exact Nat.zero_le _
 | some tg =>
  obtain⟨t,gn⟩:=tg;obtain⟨_,_,h,_⟩:=j8 hg he;have:=hg.e.len;dsimp only;omega
theorem JY (A:ae) (c:Nat) (B:ae) (d:Nat) (s:StoP) (Ag:ae) (ng:Nat) (cp:ColP) (w:World) (more:Nat) (hmore:more<=4000) (hg:GoodS s) (hr:RdSt w A c B d s) (hgl:cp.aI.length<=1000) (hgc:GoodC s cp) (hc:RdC w Ag ng cp) :
  Calls zZZ 130 #[z1x A c B d s,coV (aw Ag cp.aI.length ng) cp,ax ay more] w fun e w' =>
   ∃v1 v2 A9 c9,e= .returned (.tuple #[stV v1 v2 (evP s more).1,aw A9 (evP s more).2.1 c9,ax ay ((evP s more).2.2:Int)])/\OwSt w' w.heap.size v1 v2 (evP s more).1 (fun b=>b<w.heap.size)/\Below w.heap.size w w':=by
 refine(z2p A c B d s Ag ng cp w more hmore hg hr hgl hgc hc).mono ?_;rintro e w' ⟨v1,v2,v3,xs,rfl,h1,h2,h3⟩;obtain⟨A9,c9,rfl,_⟩:=Rd.of_own' h2;exact⟨v1,v2,A9,c9,rfl,h1,h3⟩
theorem KL (g:Nat) (p:LoW) (l:LoP) (v1 v2 v3:Value) (t:StoP) (c:ColP) (q:Nat) (w:World) (N:ai) (hN:N g) (hb:DkB w g p l N) (ho:q=0->OwSD w g v1 v2 v3 t c N) :
  Calls zZZ 123 #[.pointer (aC ⟨g,0,aB⟩),stV v1 v2 t,coV v3 c,ax ay q] w fun e w' =>
   e= .returned (z56 q)/\w.grownBy w' (aC g)/\∃p',DkB w' g p' (zJ l t c q) N:=by
 by_cases hq:q=0
 ·obtain⟨⟨A1,c1,B1,d1,rfl,rfl, -⟩,hos⟩:=And.intro (ho hq).s.rows (ho hq);obtain⟨G1,n1,rfl, -, -⟩:=Rd.of_own' hos.c;obtain⟨w0,hw0,hS,hC,hR,hbx⟩:=js w 27 30 48 [aw A1 t.aE.length c1,aw B1 t.aF.length d1,ax ay t.aH,ax ay t.aG] [ax ay c.aJ,aw G1 c.aI.length n1,az ⟨c.at_.toArray⟩] [ax ay 0,az ⟨#[]⟩,aw aB 0 0,aw aB 0 0,ax ay 0,aw aB 0 0];have hgl:=hb.lt;obtain⟨X,cX,Y,dY,G,ng,F,cF⟩:=p;obtain⟨s,co,fs⟩:=l;have hb0:=(hb.wider (N':=fun b=>N b\/w.heap.size<=b) (fun b h=>h)).below hbx;have hws:=hbx.size;have hbb:Arr w0 g 82 [aw X s.aE.length cX,aw Y s.aF.length dY,ax ay s.aH,ax ay s.aG,ax ay co.aJ,aw G co.aI.length ng,az ⟨co.at_.toArray⟩,aw F fs.length cF]:=hb0.box;obtain⟨H,hH⟩:=wU w.heap.size
  rw [<-hH]at hS hC hR hgl;have hHl:H+1+1<w0.heap.size:=hR.lt;have hHw:w.heap.size<=H+1+1:=wj;have hq0:((q:Int)==0)=true:=by rw [beq_iff_eq];omega
  have hg7:=(zr (k:=6) (u:= az ⟨c.at_.toArray⟩) (zr (k:=5) (u:= aw G1 c.aI.length n1) (zr (k:=4) (u:= ax ay c.aJ) (zr (k:=3) (u:= ax ay t.aG) (zr (k:=2) (u:= ax ay t.aH) (zr (k:=1) (u:= aw B1 t.aF.length d1) (zr (k:=0) (u:= aw A1 t.aE.length c1) (World.grownBy.refl w0 (aC g)))))))))
  have HA7:=sqH (Arr.fst7 hbb (aw A1 t.aE.length c1) (aw B1 t.aF.length d1) (ax ay t.aH) (ax ay t.aG) (ax ay c.aJ) (aw G1 c.aI.length n1) (az ⟨c.at_.toArray⟩));have hR7:=hR.grown hg7 aa;have HOW:=sqH (show OwLo w0 (g+1) (aw A1 t.aE.length c1) (aw B1 t.aF.length d1) (aw G1 c.aI.length n1) (aw F fs.length cF) ⟨t,c,fs⟩ (fun b=>N b\/w.heap.size<=b) from⟨(hos.s.wider (fun b h=>h)).below hbx,zc hos.c hbx,hb0.own.f⟩);have HB0:=sqH (q6 hbx (aC g));obtain⟨f0,f1,f2,f3,f4,f5⟩:=sqF6 hR;obtain⟨u0,u1,u2,u3,u4,u5⟩:=sqC6 hR;obtain⟨HF,HR7,HG7⟩:=sqJ3 (hR7.all6 (ax ay q) (az ⟨#[]⟩) (aw aB 0 0) (aw aB 0 0) (ax ay 0) (aw aB 0 0)) hR7 hg7;have d0:=hbb.c0;have d1':=hbb.c1;have d2:=hbb.c2;have d3:=hbb.c3;have d4:=hbb.c4;have d5:=hbb.c5;have d6:=hbb.c6;obtain⟨e0,e1,e2,e3,e4,e5,e6⟩:=sqF7 hbb;obtain⟨x0,x1,x2,x3⟩:=sqC4 hS;obtain⟨y0,y1,y2⟩:=sqC3 hC;have n1:¬(H=g):=wj;have n2:¬(H+1=g):=wj;obtain⟨HQ,HW0,HH⟩:=sqJ3 hq hw0 hH;clear hq ho hb hb0 hos hbb hbx hS hC hR hR7 hg7 hw0 hH;go_enter func123,ntmps123
  refine wI 2 ?_;intros;rw [<-HW0.o,<-HH.o];go_region
  all_goals (try dsimp only [Exit.then])
  clear d0 d1' d2 d3 d4 d5 d6 e0 e1 e2 e3 e4 e5 e6 x0 x1 x2 x3 y0 y1 y2
  refine wH ?_;intros;refine bodyPost_ret (results_cell_row rfl _ _ (H+1+1) _ _ _ _ wu (Arr.drew HF.o) underlying48 rfl wm) rfl ?_;refine⟨rfl,zP (zl (HB0.o.trans HG7.o) hHw _ _ _ _ _ _) (Below.refl _ _).drew,?_⟩;obtain⟨p',hD⟩:=DkB.mk' (HOW.o.grownE HG7.o (Nat.lt_succ_self g) (.inl hN)) HA7.o;have e1:zJ ⟨s,co,fs⟩ t c q=⟨t,c,fs⟩:=if_pos HQ.o;rw [e1];exact⟨p',((hD.set6 HR7.o (.inr hHw) wj _ _ _ _ _ _).below (Below.refl _ _).drew).mono fun b h=> .inl h⟩
 ·obtain⟨w0,hw0,hS,hC,hR,hbx⟩:=js w 27 30 48 [v1,v2,ax ay t.aH,ax ay t.aG] [ax ay c.aJ,v3,az ⟨c.at_.toArray⟩] [ax ay 0,az ⟨#[]⟩,aw aB 0 0,aw aB 0 0,ax ay 0,aw aB 0 0];have hgl:=hb.lt;obtain⟨H,hH⟩:=wU w.heap.size
  rw [<-hH]at hS hC hR hgl;have hHw:w.heap.size<=H+1+1:=wj;have hq0:((q:Int)==0)=false:=by rw [beq_eq_false_iff_ne];omega
  obtain⟨HR,HG,HD⟩:=sqJ3 (hR.all6 (ax ay q) (az ⟨#[]⟩) (aw aB 0 0) (aw aB 0 0) (ax ay 0) (aw aB 0 0)) (zl (q6 hbx (aC g)) hHw (ax ay q) (az ⟨#[]⟩) (aw aB 0 0) (aw aB 0 0) (ax ay 0) (aw aB 0 0)) (((hb.wider (N':=fun b=>N b\/w.heap.size<=b) (fun b h=>h)).below hbx).set6 hR (.inr hHw) wj (ax ay q) (az ⟨#[]⟩) (aw aB 0 0) (aw aB 0 0) (ax ay 0) (aw aB 0 0));obtain⟨f0,f1,f2,f3,f4,f5⟩:=sqF6 hR;obtain⟨u0,u1,u2,u3,u4,u5⟩:=sqC6 hR;obtain⟨HQ,HW0,HH⟩:=sqJ3 hq hw0 hH;clear hq ho hb hbx hS hC hR hw0 hH;go_enter func123,ntmps123
  refine wI 3 ?_;intros;rw [<-HW0.o,<-HH.o]
  refine wH ?_;intros;refine bodyPost_ret (results_cell_row rfl _ _ (H+1+1) _ _ _ _ wu HR.o underlying48 rfl wm) rfl ?_;have e1:zJ l t c q=l:=if_neg HQ.o;rw [e1];exact⟨rfl,HG.o,_,HD.o.mono fun b h=> .inl h⟩
theorem jE (g:Nat) (p:LoW) (l:LoP) (v1 v2 v3 v4:Value) (m:LoP) (q:Nat) (w:World) (N:ai) (hN:N g) (hb:DkB w g p l N) (ho:q=0->OwLo w (g+1) v1 v2 v3 v4 m N) :
  Calls zZZ 126 #[.pointer (aC ⟨g,0,aB⟩),Yk v1 v2 v3 v4 m,ax ay q] w fun e w' =>
   e= .returned (z56 q)/\w.grownBy w' (aC g)/\∃p',DkB w' g p' (xI l m q) N:=by
 by_cases hq:q=0
 ·obtain⟨⟨⟨A1,c1,B1,d1,G1,n1,F1,f1⟩,rfl,rfl,rfl,rfl, -⟩,hos⟩:=And.intro (ho hq).rd (ho hq);dsimp only at hos ⊢
  obtain⟨w0,hw0,hS,hR,hbx⟩:=zn w 33 48 [aw A1 m.st.aE.length c1,aw B1 m.st.aF.length d1,ax ay m.st.aH,ax ay m.st.aG,ax ay m.co.aJ,aw G1 m.co.aI.length n1,az ⟨m.co.at_.toArray⟩,aw F1 m.fs.length f1] [ax ay 0,az ⟨#[]⟩,aw aB 0 0,aw aB 0 0,ax ay 0,aw aB 0 0];have hgl:=hb.lt;obtain⟨X,cX,Y,dY,G,ng,F,cF⟩:=p;obtain⟨s,co,fs⟩:=l;have hb0:=(hb.wider (N':=fun b=>N b\/w.heap.size<=b) (fun b h=>h)).below hbx;have hbb:Arr w0 g 82 [aw X s.aE.length cX,aw Y s.aF.length dY,ax ay s.aH,ax ay s.aG,ax ay co.aJ,aw G co.aI.length ng,az ⟨co.at_.toArray⟩,aw F fs.length cF]:=hb0.box;obtain⟨H,hH⟩:=wU w.heap.size
  rw [<-hH]at hS hR hgl;have hHw:w.heap.size<=H+1:=wj;have hq0:((q:Int)==0)=true:=by rw [beq_iff_eq];omega
  have hg8:=(zr (k:=7) (u:= aw F1 m.fs.length f1) (zr (k:=6) (u:= az ⟨m.co.at_.toArray⟩) (zr (k:=5) (u:= aw G1 m.co.aI.length n1) (zr (k:=4) (u:= ax ay m.co.aJ) (zr (k:=3) (u:= ax ay m.st.aG) (zr (k:=2) (u:= ax ay m.st.aH) (zr (k:=1) (u:= aw B1 m.st.aF.length d1) (zr (k:=0) (u:= aw A1 m.st.aE.length c1) (World.grownBy.refl w0 (aC g))))))))))
  have HA8:=sqH (hbb.all8 (aw A1 m.st.aE.length c1) (aw B1 m.st.aF.length d1) (ax ay m.st.aH) (ax ay m.st.aG) (ax ay m.co.aJ) (aw G1 m.co.aI.length n1) (az ⟨m.co.at_.toArray⟩) (aw F1 m.fs.length f1));have hR8:=hR.grown hg8 aa;have HOW:=sqH (show OwLo w0 (g+1) (aw A1 m.st.aE.length c1) (aw B1 m.st.aF.length d1) (aw G1 m.co.aI.length n1) (aw F1 m.fs.length f1) m (fun b=>N b\/w.heap.size<=b) from⟨(hos.s.wider (fun b h=>h)).below hbx,zc hos.c hbx,hos.f.below hbx⟩);have HB0:=sqH (q6 hbx (aC g));obtain⟨z0,z1,z2,z3,z4,z5⟩:=sqF6 hR;obtain⟨u0,u1,u2,u3,u4,u5⟩:=sqC6 hR;obtain⟨HF,HR8,HG8⟩:=sqJ3 (hR8.all6 (ax ay q) (az ⟨#[]⟩) (aw aB 0 0) (aw aB 0 0) (ax ay 0) (aw aB 0 0)) hR8 hg8;obtain⟨y0,y1,y2,y3,y4,y5,y6,y7⟩:=sqC8 hbb;obtain⟨e0,e1,e2,e3,e4,e5,e6,e7⟩:=sqF8 hbb;obtain⟨x0,x1,x2,x3,x4,x5,x6,x7⟩:=sqC8 hS;have n1':¬(H=g):=wj;obtain⟨HQ,HW0,HH⟩:=sqJ3 hq hw0 hH;rw [hw0,hH]at x0 x1 x2 x3 x4 x5 x6 x7;clear hq ho hb hb0 hos hbb hbx hS hR hR8 hg8 hw0 hH;go_enter func126,ntmps126
  refine wI 2 ?_;intros;rw [<-HW0.o,<-HH.o];rw [<-HW0.o,<-HH.o]at x0 x1 x2 x3 x4 x5 x6 x7
  refine wH ?_;intros;refine bodyPost_ret (results_cell_row rfl _ _ (H+1) _ _ _ _ wu HF.o underlying48 rfl wm) rfl ?_;refine⟨rfl,zl (HB0.o.trans HG8.o) hHw _ _ _ _ _ _,?_⟩;obtain⟨p',hD⟩:=DkB.mk' (HOW.o.grownE HG8.o (Nat.lt_succ_self g) (.inl hN)) HA8.o;have e1:xI ⟨s,co,fs⟩ m q=m:=if_pos HQ.o;rw [e1];exact⟨p',(hD.set6 HR8.o (.inr hHw) wj _ _ _ _ _ _).mono fun b h=> .inl h⟩
 ·obtain⟨w0,hw0,hS,hR,hbx⟩:=zn w 33 48 [v1,v2,ax ay m.st.aH,ax ay m.st.aG,ax ay m.co.aJ,v3,az ⟨m.co.at_.toArray⟩,v4] [ax ay 0,az ⟨#[]⟩,aw aB 0 0,aw aB 0 0,ax ay 0,aw aB 0 0];have hgl:=hb.lt;obtain⟨H,hH⟩:=wU w.heap.size
  rw [<-hH]at hS hR hgl;have hHw:w.heap.size<=H+1:=wj;have hq0:((q:Int)==0)=false:=by rw [beq_eq_false_iff_ne];omega
  obtain⟨HR,HG,HD⟩:=sqJ3 (hR.all6 (ax ay q) (az ⟨#[]⟩) (aw aB 0 0) (aw aB 0 0) (ax ay 0) (aw aB 0 0)) (zl (q6 hbx (aC g)) hHw (ax ay q) (az ⟨#[]⟩) (aw aB 0 0) (aw aB 0 0) (ax ay 0) (aw aB 0 0)) (((hb.wider (N':=fun b=>N b\/w.heap.size<=b) (fun b h=>h)).below hbx).set6 hR (.inr hHw) wj (ax ay q) (az ⟨#[]⟩) (aw aB 0 0) (aw aB 0 0) (ax ay 0) (aw aB 0 0));obtain⟨z0,z1,z2,z3,z4,z5⟩:=sqF6 hR;obtain⟨u0,u1,u2,u3,u4,u5⟩:=sqC6 hR;obtain⟨HQ,HW0,HH⟩:=sqJ3 hq hw0 hH;clear hq ho hb hbx hS hR hw0 hH;go_enter func126,ntmps126
  refine wI 3 ?_;intros;rw [<-HW0.o,<-HH.o]
  refine wH ?_;intros;refine bodyPost_ret (results_cell_row rfl _ _ (H+1) _ _ _ _ wu HR.o underlying48 rfl wm) rfl ?_;have e1:xI l m q=l:=if_neg HQ.o;rw [e1];exact⟨rfl,HG.o,_,HD.o.mono fun b h=> .inl h⟩
def yQ (r:RepP) (A:ae) (c:Nat) (A':ae) (c':Nat) (B:ae) (d:Nat):af:= [ax ay r.err,az ⟨r.dig.toArray⟩,aw A r.data.length c,aw A' r.aL.length c',ax ay r.n,aw B r.who.length d]
theorem JM (r:RepP) (A:ae) (c:Nat) (A':ae) (c':Nat) (B:ae) (d:Nat):∀u∈yQ r A c A' c' B d,u.oneCell'=true:=by
 intro u hu;simp only [yQ,List.mem_cons,List.not_mem_nil,or_false]at hu;rcases hu with rfl | rfl | rfl | rfl | rfl | rfl<;>rfl
theorem Kx {r:RepP} {c:Nat} {A':ae} {c':Nat} {B:ae} {d b:Nat} (h:leads b (yQ r A c A' c' B d)):∃a,(A=aC a\/A'=aC a\/B=aC a)/\a.block=b:=by
 obtain⟨a,n,c2,hm,rfl⟩:=h;simp only [yQ,List.mem_cons,List.not_mem_nil,or_false,Value.slice.injEq,reduceCtorEq,false_or]at hm;rcases hm with ⟨e,_⟩ | ⟨e,_⟩ | ⟨e,_⟩
 ·exact⟨a,.inl e.symm,rfl⟩
 ·exact⟨a,.inr (.inl e.symm),rfl⟩
 ·exact⟨a,.inr (.inr e.symm),rfl⟩
def Uq:Shp RepP where
 size:=6
 R w r cs:=∃A c A' c' B d,cs=yQ r A c A' c' B d/\Sl w 1 A r.data.length c (bys r.data)/\Sl w 3 A' r.aL.length c' (pcs r.aL)/\Sl w 1 B r.who.length d (ins r.who)
 len:=by rintro w r cs ⟨A,c,A',c',B,d,rfl,_⟩;rfl
 one:=by
  rintro w r cs ⟨A,c,A',c',B,d,rfl,_⟩
  exact JM r A c A' c' B d
 live:=by
  rintro w r cs ⟨A,c,A',c',B,d,rfl,h1,h2,h3⟩ g hl
  obtain⟨a,e | e | e,rfl⟩:=Kx hl
  ·exact h1.live a e
  ·exact h2.live a e
  ·exact h3.live a e
 keep:=by
  rintro w w' r cs ⟨A,c,A',c',B,d,rfl,h1,h2,h3⟩ hs hk
  exact⟨A,c,A',c',B,d,rfl,h1.keep hs fun g hg ⟨a,ha,hb⟩=>hk g hg ⟨a,r.data.length,c,by subst ha;simp [yQ],hb⟩,h2.keep hs fun g hg ⟨a,ha,hb⟩=>hk g hg ⟨a,r.aL.length,c',by subst ha;simp [yQ],hb⟩,h3.keep hs fun g hg ⟨a,ha,hb⟩=>hk g hg ⟨a,r.who.length,d,by subst ha;simp [yQ],hb⟩⟩
theorem Rw.rep_at {l:List RepP} (h:Rw Uq w A l) (k:Nat) (hk:k<l.length) :
  ∃b off B c B' c' C d,A=aC ⟨b,off,aB⟩/\b<w.heap.size/\w.cell? ⟨b,off+k*6,aB⟩=aC (ax ay (l[k].err:Int))/\w.cell? ⟨b,off+k*6+1,aB⟩=aC (az ⟨l[k].dig.toArray⟩) /\
   w.cell? ⟨b,off+k*6+2,aB⟩=aC (aw B l[k].data.length c)/\w.cell? ⟨b,off+k*6+3,aB⟩=aC (aw B' l[k].aL.length c')/\w.cell? ⟨b,off+k*6+4,aB⟩=aC (ax ay (l[k].n:Int))/\w.cell? ⟨b,off+k*6+5,aB⟩=aC (aw C l[k].who.length d) /\
   Sl w 1 B l[k].data.length c (bys l[k].data)/\Sl w 3 B' l[k].aL.length c' (pcs l[k].aL)/\Sl w 1 C l[k].who.length d (ins l[k].who):=by
 obtain⟨b,off,cs,rfl,hb,⟨B,c,B',c',C,d,rfl,h1,h2,h3⟩,hc⟩:=h.at_ k hk;exact⟨b,off,B,c,B',c',C,d,rfl,hb,hc 0 _ rfl,hc 1 _ rfl,hc 2 _ rfl,hc 3 _ rfl,hc 4 _ rfl,hc 5 _ rfl,h1,h2,h3⟩
theorem z4o:El zZZ 23 48 6 104:=El.mk' (z:= .agg #[ax ay 0,az ByteArray.empty,aw aB 0 0,aw aB 0 0,ax ay 0,aw aB 0 0]) underlying23 wm rfl wj wj
abbrev orC (kd n:Nat) (dg D:ac) (ps:List PartP) (A:ae) (c:Nat) (A':ae) (c':Nat):af:= [ax ay kd,ax ay n,az ⟨dg.toArray⟩,aw A D.length c,aw A' ps.length c']
abbrev orV (kd n:Nat) (dg D:ac) (ps:List PartP) (A:ae) (c:Nat) (A':ae) (c':Nat):Value:= .agg #[ax ay kd,ax ay n,az ⟨dg.toArray⟩,aw A D.length c,aw A' ps.length c']
def kb (w:World) (g:Nat) (N:ai) (r:LoP×RepP) (e:Ending) (w':World):Prop :=
 ∃dv pv wv,e= .returned (z5j r.2 dv pv wv)/\w.grownBy w' (aC g)/\(∃p',DkB w' g p' r.1 N)/\RepAt w' w.heap.size r.2 dv pv wv
theorem z2m (g:Nat) (p:LoW) (l:LoP) (kd n:Nat) (dg D:ac) (ps:List PartP) (A:ae) (c:Nat) (A':ae) (c':Nat) (w:World) (hL:GoodL l) (h3:D.length<=300) (h1:kd=1) (N:ai) (hNg:N g) (hNw:∀b,N b->b<w.heap.size) (hb:DkB w g p l N) (hd:Sl w 1 A D.length c (bys D)) (hq:Sl w 3 A' ps.length c' (pcs ps)) :
  Calls Tryz.prog 74 #[.pointer (aC ⟨g,0,aB⟩),orV kd n dg D ps A c A' c'] w (kb w g N (blobD l ⟨kd,n,dg,D,ps⟩)):=by
 have k1:((kd:Int)==1)=true:=by rw [beq_iff_eq];omega
 have HK:=sqH h1;clear h1;have HPX:=sqH h3;clear h3;obtain⟨X,cX,Y,dY,G,ng,F,cF⟩:=p;obtain⟨s,co,fs⟩:=l;have hgl:=hb.lt;have hgw:=hb.lt;have hbw:=hb.wider (N':=fun b=>N b\/w.heap.size<=b) (fun b h=>h);obtain⟨w0,hw0,hP,hR,hbx⟩:=zn w 55 48 [ax ay kd,ax ay n,az ⟨dg.toArray⟩,aw A D.length c,aw A' ps.length c'] [ax ay 0,az ⟨#[]⟩,aw aB 0 0,aw aB 0 0,ax ay 0,aw aB 0 0];have HDK:=sqH (show ∀W,Below w0.heap.size w0 W->DkB W g ⟨X,cX,Y,dY,G,ng,F,cF⟩ ⟨s,co,fs⟩ (fun b=>N b\/w.heap.size<=b) from fun W h=>(hbw.below hbx).below h);have HBC:=sqH (show ∀W,Below w0.heap.size w0 W->wF W g (aw X s.aE.length cX) (aw Y s.aF.length dY) (ax ay s.aH) (ax ay s.aG) (ax ay co.aJ) (aw G co.aI.length ng) (az ⟨co.at_.toArray⟩) (aw F fs.length cF) from fun W h=>by
  have b:=(HDK.o W h).box;exact sqC8 b)
 have hws:=hbx.size;obtain⟨HBX,HD,HQ⟩:=sqJ3 hbx (hd.below hbx) (hq.below hbx);obtain⟨H,hH⟩:=wU w.heap.size
 rw [<-hH]at hP hR hgl;have hHw:w.heap.size<=H:=wj;have hHw1:w.heap.size<=H+1:=wj;have hgH:g≠H+1:=wj;have hHl:H+1<w0.heap.size:=hR.lt;obtain⟨HP,HR,HL,HNW⟩:=sqJ4 (show ∀W,Below w0.heap.size w0 W->Arr W H 55 (orC kd n dg D ps A c A' c') from fun W h=>hP.below h) (show ∀W,Below w0.heap.size w0 W->Arr W (H+1) 48 Kw from fun W h=>hR.below h) hL hNw;obtain⟨x0,x1,x2,x3,x4⟩:=sqC5 hP;have HW0:=sqH hw0;have HH:=sqH hH;rw [hw0,hH]at x0 x1 x2 x3 x4;clear hb hbw hbx hd hq hP hR hL hw0 hH hNw;go_enter func74,ntmps74
 refine wI 3 ?_;intros;rw [<-HW0.o,<-HH.o];clear x0 x1 x2 x3 x4;have HPB:=sqH (fun W (h:Below w0.heap.size w0 W)=>VZ X cX Y dY s G ng co W D A c HL.o.s (HDK.o W h).rd.s HL.o.g HL.o.c (HDK.o W h).rd.c HPX.o (HD.o.below h));generalize hpb:pbP s co D=r at HPB;obtain⟨t,c2,dq,q⟩:=r;dsimp only at HPB;have HSB:=sqH (show ∀W,Below w0.heap.size w0 W->(wG W g (aw X s.aE.length cX) (aw Y s.aF.length dY) (ax ay s.aH) (ax ay s.aG) (ax ay co.aJ) (aw G co.aI.length ng) (az ⟨co.at_.toArray⟩))/\W.cell? ⟨H,3,aB⟩=aC (aw A D.length c) from fun W h=>by
  obtain⟨y0,y1,y2,y3,y4,y5,y6,_⟩:=HBC.o W h;exact⟨⟨y0,y1,y2,y3,y4,y5,y6⟩,(HP.o W h).c3⟩)
 have HPD:=sqH hpb;clear hpb
 iterate 1 (first | go_values | go_skip | go_guarded | go_step | go_upon | go_back)
 apply zE;intro REST;apply zE;intro Rb1;apply zE;intro Rb2;apply zE;intro Rb3;apply zE;intro Rb4;refine ze [20,21] (S:=(fun w'=>(wG w' g (aw X s.aE.length cX) (aw Y s.aF.length dY) (ax ay s.aH) (ax ay s.aG) (ax ay co.aJ) (aw G co.aI.length ng) (az ⟨co.at_.toArray⟩))/\w'.cell? ⟨H,3,aB⟩=aC (aw A D.length c))) wm ?_ (fun hHeld=> ?_)
 ·exact HSB.o _ (((wh w0)).drew)
 have hB:=((wh w0)).drew;generalize w0.drew=wn0 at *
 refine wP 0 ?_;refine wP 1 ?_;refine wP 2 ?_;refine wP 3 ?_;refine wO 4 ?_;refine wP 5 ?_;refine wP 6 ?_;refine wP 7 ?_;refine wP 8 ?_;refine wO 9 ?_;refine wP 10 ?_;refine wO 11 ?_;refine za (rs:= [12,18,19]) wm ws ?_;refine z8.cons (o:=_) rfl (fun K hK=> ?_) ?_
 ·
  go_simp;refine(HPB.o wn0 hB).mono ?_;rintro e5 w5 ⟨v1,v2,v3,rfl,ho5,hb5⟩;obtain⟨A1,c1,B1,d1,rfl,rfl, -⟩:=ho5.s.rows;obtain⟨G1,n1,rfl, -, -⟩:=Rd.of_own' ho5.c;dsimp only;refine zR hK ?_ (fun W=>Below w0.heap.size w0 W/\OwSt W w.heap.size (aw A1 t.aE.length c1) (aw B1 t.aF.length d1) t (fun b=>(N b\/b=H+1))/\W.ownsRow w.heap.size 9 1 (aw G1 c2.aI.length n1) c2.aI.length (strs c2.aI)) (fun W=>True) ?_ ?_ (fun wn1 hHeld2 hF _=> ?_)
  ·exact HSB.o _ ((wg hB hb5))
  ·exact⟨wg hB hb5,(ho5.s.lower (base':=w.heap.size) (by have:=hB.size;omega)).mono (N':=(fun b=>(N b\/b=H+1))) (fun b hb=>by have:=hB.size;rcases hb with hb | hb;(have:=HNW.o b hb;omega);omega),zb ho5.c (by have:=hB.size;omega)⟩
  ·trivial
  clear hB hHeld;have hHeld:=hHeld2;clear hHeld2;obtain⟨hB,ho,hl⟩:=hF;clear hb5 ho5;clear hK K
  refine wP 13 ?_;refine wP 14 ?_;refine wP 15 ?_;refine wP 16 ?_;refine wP 17 ?_;refine za (rs:= [18,19]) wm ws ?_;refine z8.cons (o:=_) rfl (fun K hK=> ?_) ?_
  ·
   have hba:=wi wn1 (aA #[aw aB 0 0,aw aB 0 0,ax ay 0,ax ay 0] 27);have hn:=Arr.new wn1 27 [aw aB 0 0,aw aB 0 0,ax ay 0,ax ay 0];have hnl:w0.heap.size<=wn1.heap.size:=hB.size;obtain⟨g5,hge⟩:=wU wn1.heap.size
   have hN:∀b,b=g5->wn1.heap.size<=b:=fun b h=>by rw [h,hge];exact Nat.le_refl _
   rw [<-hge]at hn hnl;go_simp;rw [<-hge];clear hge;refine zR hK ?_ (fun W=>Below w0.heap.size w0 W/\Arr W g5 27 [aw aB 0 0,aw aB 0 0,ax ay 0,ax ay 0]/\w0.heap.size<=g5/\OwSt W w.heap.size (aw A1 t.aE.length c1) (aw B1 t.aF.length d1) t (fun b=>(N b\/b=H+1)\/b=g5)/\W.ownsRow w.heap.size 9 1 (aw G1 c2.aI.length n1) c2.aI.length (strs c2.aI)) (fun W=>True) ?_ ?_ (fun wn2 hHeld2 hF _=> ?_)
   ·exact HSB.o _ ((wg hB hba))
   ·exact⟨wg hB hba,hn,hnl,(ho.wider (N':=(fun b=>(N b\/b=H+1)\/b=g5)) (fun b hb=>hb.elim (fun hb=> .inl hb) (fun hb=> .inr (hN _ hb)))).below hba,zc hl hba⟩
   ·trivial
   clear hl ho hB hHeld;have hHeld:=hHeld2;clear hHeld2;obtain⟨hB,h5,h5l,ho,hl⟩:=hF;clear hba hn hnl hN;clear hK K
   try simp only [sqP]
   have hall:=aD hB (aD h5 (aD h5l (aD ho (aD hl hHeld))));clear hHeld hl ho h5l h5 hB;generalize wn2=wz at hall ⊢
   revert hall;revert wz;revert g5;revert n1;revert G1;revert d1;revert B1;revert c1;revert A1;exact Rb2.o
  refine z8.cons (o:=_) rfl (fun K hK=> ?_) ?_
  ·
   have hba:=wi wn1 (aA #[ax ay 0,aw aB 0 0,az ⟨#[]⟩] 30);have hn:=Arr.new wn1 30 [ax ay 0,aw aB 0 0,az ⟨#[]⟩];have hnl:w0.heap.size<=wn1.heap.size:=hB.size;obtain⟨g6,hge⟩:=wU wn1.heap.size
   have hN:∀b,b=g6->wn1.heap.size<=b:=fun b h=>by rw [h,hge];exact Nat.le_refl _
   rw [<-hge]at hn hnl;go_simp;rw [<-hge];clear hge;refine zR hK ?_ (fun W=>Below w0.heap.size w0 W/\Arr W g6 30 [ax ay 0,aw aB 0 0,az ⟨#[]⟩]/\w0.heap.size<=g6/\OwSt W w.heap.size (aw A1 t.aE.length c1) (aw B1 t.aF.length d1) t (fun b=>(N b\/b=H+1)\/b=g6)/\W.ownsRow w.heap.size 9 1 (aw G1 c2.aI.length n1) c2.aI.length (strs c2.aI)) (fun W=>True) ?_ ?_ (fun wn3 hHeld2 hF _=> ?_)
   ·exact HSB.o _ ((wg hB hba))
   ·exact⟨wg hB hba,hn,hnl,(ho.wider (N':=(fun b=>(N b\/b=H+1)\/b=g6)) (fun b hb=>hb.elim (fun hb=> .inl hb) (fun hb=> .inr (hN _ hb)))).below hba,zc hl hba⟩
   ·trivial
   clear hl ho hB hHeld;have hHeld:=hHeld2;clear hHeld2;obtain⟨hB,h6,h6l,ho,hl⟩:=hF;clear hba hn hnl hN;clear hK K
   try simp only [sqP]
   have hall:=aD hB (aD h6 (aD h6l (aD ho (aD hl hHeld))));clear hHeld hl ho h6l h6 hB;generalize wn3=wz at hall ⊢
   revert hall;revert wz;revert g6;revert n1;revert G1;revert d1;revert B1;revert c1;revert A1;exact Rb3.o
  exact z8.nil
 refine z8.cons (o:=_) rfl (fun K hK=> ?_) ?_
 ·
  have hba:=wi wn0 (aA #[aw aB 0 0,aw aB 0 0,ax ay 0,ax ay 0] 27);have hn:=Arr.new wn0 27 [aw aB 0 0,aw aB 0 0,ax ay 0,ax ay 0];have hnl:w0.heap.size<=wn0.heap.size:=hB.size;obtain⟨g5,hge⟩:=wU wn0.heap.size
  have hN:∀b,b=g5->wn0.heap.size<=b:=fun b h=>by rw [h,hge];exact Nat.le_refl _
  rw [<-hge]at hn hnl;go_simp;rw [<-hge];clear hge;refine zR hK ?_ (fun W=>Below w0.heap.size w0 W/\Arr W g5 27 [aw aB 0 0,aw aB 0 0,ax ay 0,ax ay 0]/\w0.heap.size<=g5) (fun W=>True) ?_ ?_ (fun wn4 hHeld2 hF _=> ?_)
  ·exact HSB.o _ ((wg hB hba))
  ·exact⟨wg hB hba,hn,hnl⟩
  ·trivial
  clear hB hHeld;have hHeld:=hHeld2;clear hHeld2;obtain⟨hB,h5,h5l⟩:=hF;clear hba hn hnl hN;clear hK K
  try simp only [sqP]
  refine za (rs:= [12,19]) wm ws ?_;refine z8.cons (o:=_) rfl (fun K hK=> ?_) ?_
  ·
   go_simp;refine(HPB.o wn4 hB).mono ?_;rintro e5 w5 ⟨v1,v2,v3,rfl,ho5,hb5⟩;obtain⟨A1,c1,B1,d1,rfl,rfl, -⟩:=ho5.s.rows;obtain⟨G1,n1,rfl, -, -⟩:=Rd.of_own' ho5.c;dsimp only;refine zR hK ?_ (fun W=>Below w0.heap.size w0 W/\Arr W g5 27 [aw aB 0 0,aw aB 0 0,ax ay 0,ax ay 0]/\w0.heap.size<=g5/\OwSt W w.heap.size (aw A1 t.aE.length c1) (aw B1 t.aF.length d1) t (fun b=>(N b\/b=H+1)\/b=g5)/\W.ownsRow w.heap.size 9 1 (aw G1 c2.aI.length n1) c2.aI.length (strs c2.aI)) (fun W=>True) ?_ ?_ (fun wn5 hHeld2 hF _=> ?_)
   ·exact HSB.o _ ((wg hB hb5))
   ·exact⟨wg hB hb5,h5.below hb5,h5l,(ho5.s.lower (base':=w.heap.size) (by have:=hB.size;omega)).mono (N':=(fun b=>(N b\/b=H+1)\/b=g5)) (fun b hb=>hb.elim (fun hb=>by have:=hB.size;rcases hb with hb | hb;(have:=HNW.o b hb;omega);omega) (fun hb=>(by rw [hb];exact h5.lt))),zb ho5.c (by have:=hB.size;omega)⟩
   ·trivial
   clear h5l h5 hB hHeld;have hHeld:=hHeld2;clear hHeld2;obtain⟨hB,h5,h5l,ho,hl⟩:=hF;clear hb5 ho5;clear hK K
   refine wP 13 ?_;refine wP 14 ?_;refine wP 15 ?_;refine wP 16 ?_;refine wP 17 ?_;have hall:=aD hB (aD h5 (aD h5l (aD ho (aD hl hHeld))));clear hHeld hl ho h5l h5 hB;generalize wn5=wz at hall ⊢
   revert hall;revert wz;revert g5;revert n1;revert G1;revert d1;revert B1;revert c1;revert A1;exact Rb2.o
  refine z8.cons (o:=_) rfl (fun K hK=> ?_) ?_
  ·
   have hba:=wi wn4 (aA #[ax ay 0,aw aB 0 0,az ⟨#[]⟩] 30);have hn:=Arr.new wn4 30 [ax ay 0,aw aB 0 0,az ⟨#[]⟩];have hnl:w0.heap.size<=wn4.heap.size:=hB.size;obtain⟨g6,hge⟩:=wU wn4.heap.size
   have hN:∀b,b=g6->wn4.heap.size<=b:=fun b h=>by rw [h,hge];exact Nat.le_refl _
   rw [<-hge]at hn hnl;go_simp;rw [<-hge];clear hge;refine zR hK ?_ (fun W=>Below w0.heap.size w0 W/\Arr W g5 27 [aw aB 0 0,aw aB 0 0,ax ay 0,ax ay 0]/\w0.heap.size<=g5/\Arr W g6 30 [ax ay 0,aw aB 0 0,az ⟨#[]⟩]/\w0.heap.size<=g6/\g5≠g6) (fun W=>True) ?_ ?_ (fun wn6 hHeld2 hF _=> ?_)
   ·exact HSB.o _ ((wg hB hba))
   ·exact⟨wg hB hba,h5.below hba,h5l,hn,hnl,(fun e=>Nat.lt_irrefl _ (by have h1:=h5.lt;rw [e]at h1;exact Nat.lt_of_lt_of_le h1 (hN _ rfl)))⟩
   ·trivial
   clear h5l h5 hB hHeld;have hHeld:=hHeld2;clear hHeld2;obtain⟨hB,h5,h5l,h6,h6l,h56n⟩:=hF;clear hba hn hnl hN;clear hK K
   try simp only [sqP]
   have hall:=aD hB (aD h5 (aD h5l (aD h6 (aD h6l (aD h56n hHeld)))));clear hHeld h56n h6l h6 h5l h5 hB;generalize wn6=wz at hall ⊢
   revert hall;revert wz;revert g6;revert g5;exact Rb4.o
  exact z8.nil
 refine z8.cons (o:=_) rfl (fun K hK=> ?_) ?_
 ·
  have hba:=wi wn0 (aA #[ax ay 0,aw aB 0 0,az ⟨#[]⟩] 30);have hn:=Arr.new wn0 30 [ax ay 0,aw aB 0 0,az ⟨#[]⟩];have hnl:w0.heap.size<=wn0.heap.size:=hB.size;obtain⟨g6,hge⟩:=wU wn0.heap.size
  have hN:∀b,b=g6->wn0.heap.size<=b:=fun b h=>by rw [h,hge];exact Nat.le_refl _
  rw [<-hge]at hn hnl;go_simp;rw [<-hge];clear hge;refine zR hK ?_ (fun W=>Below w0.heap.size w0 W/\Arr W g6 30 [ax ay 0,aw aB 0 0,az ⟨#[]⟩]/\w0.heap.size<=g6) (fun W=>True) ?_ ?_ (fun wn7 hHeld2 hF _=> ?_)
  ·exact HSB.o _ ((wg hB hba))
  ·exact⟨wg hB hba,hn,hnl⟩
  ·trivial
  clear hB hHeld;have hHeld:=hHeld2;clear hHeld2;obtain⟨hB,h6,h6l⟩:=hF;clear hba hn hnl hN;clear hK K
  try simp only [sqP]
  refine za (rs:= [12,18]) wm ws ?_;refine z8.cons (o:=_) rfl (fun K hK=> ?_) ?_
  ·
   go_simp;refine(HPB.o wn7 hB).mono ?_;rintro e5 w5 ⟨v1,v2,v3,rfl,ho5,hb5⟩;obtain⟨A1,c1,B1,d1,rfl,rfl, -⟩:=ho5.s.rows;obtain⟨G1,n1,rfl, -, -⟩:=Rd.of_own' ho5.c;dsimp only;refine zR hK ?_ (fun W=>Below w0.heap.size w0 W/\Arr W g6 30 [ax ay 0,aw aB 0 0,az ⟨#[]⟩]/\w0.heap.size<=g6/\OwSt W w.heap.size (aw A1 t.aE.length c1) (aw B1 t.aF.length d1) t (fun b=>(N b\/b=H+1)\/b=g6)/\W.ownsRow w.heap.size 9 1 (aw G1 c2.aI.length n1) c2.aI.length (strs c2.aI)) (fun W=>True) ?_ ?_ (fun wn8 hHeld2 hF _=> ?_)
   ·exact HSB.o _ ((wg hB hb5))
   ·exact⟨wg hB hb5,h6.below hb5,h6l,(ho5.s.lower (base':=w.heap.size) (by have:=hB.size;omega)).mono (N':=(fun b=>(N b\/b=H+1)\/b=g6)) (fun b hb=>hb.elim (fun hb=>by have:=hB.size;rcases hb with hb | hb;(have:=HNW.o b hb;omega);omega) (fun hb=>(by rw [hb];exact h6.lt))),zb ho5.c (by have:=hB.size;omega)⟩
   ·trivial
   clear h6l h6 hB hHeld;have hHeld:=hHeld2;clear hHeld2;obtain⟨hB,h6,h6l,ho,hl⟩:=hF;clear hb5 ho5;clear hK K
   refine wP 13 ?_;refine wP 14 ?_;refine wP 15 ?_;refine wP 16 ?_;refine wP 17 ?_;have hall:=aD hB (aD h6 (aD h6l (aD ho (aD hl hHeld))));clear hHeld hl ho h6l h6 hB;generalize wn8=wz at hall ⊢
   revert hall;revert wz;revert g6;revert n1;revert G1;revert d1;revert B1;revert c1;revert A1;exact Rb3.o
  refine z8.cons (o:=_) rfl (fun K hK=> ?_) ?_
  ·
   have hba:=wi wn7 (aA #[aw aB 0 0,aw aB 0 0,ax ay 0,ax ay 0] 27);have hn:=Arr.new wn7 27 [aw aB 0 0,aw aB 0 0,ax ay 0,ax ay 0];have hnl:w0.heap.size<=wn7.heap.size:=hB.size;obtain⟨g5,hge⟩:=wU wn7.heap.size
   have hN:∀b,b=g5->wn7.heap.size<=b:=fun b h=>by rw [h,hge];exact Nat.le_refl _
   rw [<-hge]at hn hnl;go_simp;rw [<-hge];clear hge;refine zR hK ?_ (fun W=>Below w0.heap.size w0 W/\Arr W g5 27 [aw aB 0 0,aw aB 0 0,ax ay 0,ax ay 0]/\w0.heap.size<=g5/\Arr W g6 30 [ax ay 0,aw aB 0 0,az ⟨#[]⟩]/\w0.heap.size<=g6/\g5≠g6) (fun W=>True) ?_ ?_ (fun wn9 hHeld2 hF _=> ?_)
   ·exact HSB.o _ ((wg hB hba))
   ·exact⟨wg hB hba,hn,hnl,h6.below hba,h6l,(fun e=>Nat.lt_irrefl _ (by have h1:=h6.lt;rw [<-e]at h1;exact Nat.lt_of_lt_of_le h1 (hN _ rfl)))⟩
   ·trivial
   clear h6l h6 hB hHeld;have hHeld:=hHeld2;clear hHeld2;obtain⟨hB,h5,h5l,h6,h6l,h56n⟩:=hF;clear hba hn hnl hN;clear hK K
   try simp only [sqP]
   have hall:=aD hB (aD h5 (aD h5l (aD h6 (aD h6l (aD h56n hHeld)))));clear hHeld h56n h6l h6 h5l h5 hB;generalize wn9=wz at hall ⊢
   revert hall;revert wz;revert g6;revert g5;exact Rb4.o
  exact z8.nil
 exact z8.nil;intro g5 g6 wRb4 hall;obtain⟨hB,h5,h5l,h6,h6l,h56n,hHeld⟩:=hall;refine za (rs:= [12]) wm ws ?_;refine z8.cons (o:=_) rfl (fun K hK=> ?_) ?_
 ·
  go_simp;refine(HPB.o wRb4 hB).mono ?_;rintro e5 w5 ⟨v1,v2,v3,rfl,ho5,hb5⟩;obtain⟨A1,c1,B1,d1,rfl,rfl, -⟩:=ho5.s.rows;obtain⟨G1,n1,rfl, -, -⟩:=Rd.of_own' ho5.c;dsimp only;refine zR hK ?_ (fun W=>Below w0.heap.size w0 W/\Arr W g5 27 [aw aB 0 0,aw aB 0 0,ax ay 0,ax ay 0]/\w0.heap.size<=g5/\Arr W g6 30 [ax ay 0,aw aB 0 0,az ⟨#[]⟩]/\w0.heap.size<=g6/\g5≠g6/\OwSt W w.heap.size (aw A1 t.aE.length c1) (aw B1 t.aF.length d1) t (fun b=>(N b\/b=H+1)\/b=g5\/b=g6)/\W.ownsRow w.heap.size 9 1 (aw G1 c2.aI.length n1) c2.aI.length (strs c2.aI)) (fun W=>True) ?_ ?_ (fun wn10 hHeld2 hF _=> ?_)
  ·exact HSB.o _ ((wg hB hb5))
  ·exact⟨wg hB hb5,h5.below hb5,h5l,h6.below hb5,h6l,h56n,(ho5.s.lower (base':=w.heap.size) (by have:=hB.size;omega)).mono (N':=(fun b=>(N b\/b=H+1)\/b=g5\/b=g6)) (fun b hb=>hb.elim (fun hb=>by have:=hB.size;rcases hb with hb | hb;(have:=HNW.o b hb;omega);omega) (fun hb=>hb.elim (fun hb=>by rw [hb];exact h5.lt) (fun hb=>(by rw [hb];exact h6.lt)))),zb ho5.c (by have:=hB.size;omega)⟩
  ·trivial
  clear h56n h6l h6 h5l h5 hB hHeld;have hHeld:=hHeld2;clear hHeld2;obtain⟨hB,h5,h5l,h6,h6l,h56n,ho,hl⟩:=hF;clear hb5 ho5;clear hK K
  refine wP 13 ?_;refine wP 14 ?_;refine wP 15 ?_;refine wP 16 ?_;refine wP 17 ?_;have hall:=aD hB (aD h5 (aD h5l (aD h6 (aD h6l (aD h56n (aD ho (aD hl hHeld)))))));clear hHeld hl ho h56n h6l h6 h5l h5 hB;generalize wn10=wz at hall ⊢
  revert hall;revert wz;revert g6;revert g5;revert n1;revert G1;revert d1;revert B1;revert c1;revert A1;exact Rb1.o
 exact z8.nil;intro A1 c1 B1 d1 G1 n1 g6 wRb3 hall;obtain⟨hB,h6,h6l,ho,hl,hHeld⟩:=hall;refine za (rs:= [18]) wm ws ?_;refine z8.cons (o:=_) rfl (fun K hK=> ?_) ?_
 ·
  have hba:=wi wRb3 (aA #[aw aB 0 0,aw aB 0 0,ax ay 0,ax ay 0] 27);have hn:=Arr.new wRb3 27 [aw aB 0 0,aw aB 0 0,ax ay 0,ax ay 0];have hnl:w0.heap.size<=wRb3.heap.size:=hB.size;obtain⟨g5,hge⟩:=wU wRb3.heap.size
  have hN:∀b,b=g5->wRb3.heap.size<=b:=fun b h=>by rw [h,hge];exact Nat.le_refl _
  rw [<-hge]at hn hnl;go_simp;rw [<-hge];clear hge;refine zR hK ?_ (fun W=>Below w0.heap.size w0 W/\Arr W g5 27 [aw aB 0 0,aw aB 0 0,ax ay 0,ax ay 0]/\w0.heap.size<=g5/\Arr W g6 30 [ax ay 0,aw aB 0 0,az ⟨#[]⟩]/\w0.heap.size<=g6/\g5≠g6/\OwSt W w.heap.size (aw A1 t.aE.length c1) (aw B1 t.aF.length d1) t (fun b=>(N b\/b=H+1)\/b=g5\/b=g6)/\W.ownsRow w.heap.size 9 1 (aw G1 c2.aI.length n1) c2.aI.length (strs c2.aI)) (fun W=>True) ?_ ?_ (fun wn11 hHeld2 hF _=> ?_)
  ·exact HSB.o _ ((wg hB hba))
  ·exact⟨wg hB hba,hn,hnl,h6.below hba,h6l,(fun e=>Nat.lt_irrefl _ (by have h1:=h6.lt;rw [<-e]at h1;exact Nat.lt_of_lt_of_le h1 (hN _ rfl))),(ho.wider (N':=(fun b=>(N b\/b=H+1)\/b=g5\/b=g6)) (fun b hb=>hb.elim (fun hb=> .inl (.inl hb)) (fun hb=>hb.elim (fun hb=> .inr (hN _ hb)) (fun hb=> .inl (.inr hb))))).below hba,zc hl hba⟩
  ·trivial
  clear hl ho h6l h6 hB hHeld;have hHeld:=hHeld2;clear hHeld2;obtain⟨hB,h5,h5l,h6,h6l,h56n,ho,hl⟩:=hF;clear hba hn hnl hN;clear hK K
  try simp only [sqP]
  have hall:=aD hB (aD h5 (aD h5l (aD h6 (aD h6l (aD h56n (aD ho (aD hl hHeld)))))));clear hHeld hl ho h56n h6l h6 h5l h5 hB;generalize wn11=wz at hall ⊢
  revert hall;revert wz;revert g6;revert g5;revert n1;revert G1;revert d1;revert B1;revert c1;revert A1;exact Rb1.o
 exact z8.nil;intro A1 c1 B1 d1 G1 n1 g5 wRb2 hall;obtain⟨hB,h5,h5l,ho,hl,hHeld⟩:=hall;refine za (rs:= [19]) wm ws ?_;refine z8.cons (o:=_) rfl (fun K hK=> ?_) ?_
 ·
  have hba:=wi wRb2 (aA #[ax ay 0,aw aB 0 0,az ⟨#[]⟩] 30);have hn:=Arr.new wRb2 30 [ax ay 0,aw aB 0 0,az ⟨#[]⟩];have hnl:w0.heap.size<=wRb2.heap.size:=hB.size;obtain⟨g6,hge⟩:=wU wRb2.heap.size
  have hN:∀b,b=g6->wRb2.heap.size<=b:=fun b h=>by rw [h,hge];exact Nat.le_refl _
  rw [<-hge]at hn hnl;go_simp;rw [<-hge];clear hge;refine zR hK ?_ (fun W=>Below w0.heap.size w0 W/\Arr W g5 27 [aw aB 0 0,aw aB 0 0,ax ay 0,ax ay 0]/\w0.heap.size<=g5/\Arr W g6 30 [ax ay 0,aw aB 0 0,az ⟨#[]⟩]/\w0.heap.size<=g6/\g5≠g6/\OwSt W w.heap.size (aw A1 t.aE.length c1) (aw B1 t.aF.length d1) t (fun b=>(N b\/b=H+1)\/b=g5\/b=g6)/\W.ownsRow w.heap.size 9 1 (aw G1 c2.aI.length n1) c2.aI.length (strs c2.aI)) (fun W=>True) ?_ ?_ (fun wn12 hHeld2 hF _=> ?_)
  ·exact HSB.o _ ((wg hB hba))
  ·exact⟨wg hB hba,h5.below hba,h5l,hn,hnl,(fun e=>Nat.lt_irrefl _ (by have h1:=h5.lt;rw [e]at h1;exact Nat.lt_of_lt_of_le h1 (hN _ rfl))),(ho.wider (N':=(fun b=>(N b\/b=H+1)\/b=g5\/b=g6)) (fun b hb=>hb.elim (fun hb=> .inl (.inl hb)) (fun hb=>hb.elim (fun hb=> .inl (.inr hb)) (fun hb=> .inr (hN _ hb))))).below hba,zc hl hba⟩
  ·trivial
  clear hl ho h5l h5 hB hHeld;have hHeld:=hHeld2;clear hHeld2;obtain⟨hB,h5,h5l,h6,h6l,h56n,ho,hl⟩:=hF;clear hba hn hnl hN;clear hK K
  try simp only [sqP]
  have hall:=aD hB (aD h5 (aD h5l (aD h6 (aD h6l (aD h56n (aD ho (aD hl hHeld)))))));clear hHeld hl ho h56n h6l h6 h5l h5 hB;generalize wn12=wz at hall ⊢
  revert hall;revert wz;revert g6;revert g5;revert n1;revert G1;revert d1;revert B1;revert c1;revert A1;exact Rb1.o
 exact z8.nil;intro A1 c1 B1 d1 G1 n1 g5 g6 wRb1 hall;obtain⟨hB,h5,h5l,h6,h6l,h56n,ho,hl,hHeld⟩:=hall;refine za (rs:= [20]) wm ws ?_;refine z8.store (o:=_) rfl wu (fun K hK=> ?_) ?_
 ·
  have hqho:=ho.nb h5 wo wo;have hqhl:=zf hl h5 wo;obtain⟨z0,f0,z1,f1,z2,f2,z3,f3⟩:=wY h5;go_simp;clear z0 f0 z1 f1 z2 f2 z3 f3;refine vt hK (fun W=>Below w0.heap.size w0 W/\Arr W g5 27 [(aw A1 t.aE.length c1),(aw B1 t.aF.length d1),ax ay t.aH,ax ay t.aG]/\w0.heap.size<=g5/\Arr W g6 30 [ax ay 0,aw aB 0 0,az ⟨#[]⟩]/\w0.heap.size<=g6/\g5≠g6/\OwSt W w.heap.size (aw A1 t.aE.length c1) (aw B1 t.aF.length d1) t (fun b=>(N b\/b=H+1)\/b=g5\/b=g6)/\W.ownsRow w.heap.size 9 1 (aw G1 c2.aI.length n1) c2.aI.length (strs c2.aI)) (fun W=>True) ?_ ?_ (fun wn13 hF _=> ?_)
  ·exact⟨((((hB).setCell (p:=⟨g5,0,aB⟩) h5l _).setCell (p:=⟨g5,1,aB⟩) h5l _).setCell (p:=⟨g5,2,aB⟩) h5l _).setCell (p:=⟨g5,3,aB⟩) h5l _,h5.all4 _ _ _ _,h5l,((((h6).other (h56n.symm) _).other (h56n.symm) _).other (h56n.symm) _).other (h56n.symm) _,h6l,h56n,ho.set4N (.inr (.inl rfl)) hqho.1 hqho.2 _ _ _ _,qA hl hqhl _ _ _ _⟩
  ·trivial
  clear hl ho h56n h6l h6 h5l h5 hB hHeld;obtain⟨hB,h5,h5l,h6,h6l,h56n,ho,hl⟩:=hF;clear hqho hqhl;clear hK K
  try simp only [sqP]
  refine wS 21 fun K hK=>?_;have hqho:=ho.nb h6 wo wo;have hqhl:=zf hl h6 wo;obtain⟨z0,f0,z1,f1,z2,f2⟩:=wZ h6;go_simp;clear z0 f0 z1 f1 z2 f2;refine vt hK (fun W=>Below w0.heap.size w0 W/\Arr W g5 27 [(aw A1 t.aE.length c1),(aw B1 t.aF.length d1),ax ay t.aH,ax ay t.aG]/\w0.heap.size<=g5/\Arr W g6 30 [ax ay c2.aJ,(aw G1 c2.aI.length n1),az ⟨c2.at_.toArray⟩]/\w0.heap.size<=g6/\g5≠g6/\OwSt W w.heap.size (aw A1 t.aE.length c1) (aw B1 t.aF.length d1) t (fun b=>(N b\/b=H+1)\/b=g5\/b=g6)/\W.ownsRow w.heap.size 9 1 (aw G1 c2.aI.length n1) c2.aI.length (strs c2.aI)) (fun W=>True) ?_ ?_ (fun wn14 hF _=> ?_)
  ·exact⟨(((hB).setCell (p:=⟨g6,0,aB⟩) h6l _).setCell (p:=⟨g6,1,aB⟩) h6l _).setCell (p:=⟨g6,2,aB⟩) h6l _,(((h5).other (h56n) _).other (h56n) _).other (h56n) _,h5l,h6.all3 _ _ _,h6l,h56n,ho.set3N (.inr (.inr rfl)) hqho.1 hqho.2 _ _ _,kv hl hqhl _ _ _⟩
  ·trivial
  clear hl ho h56n h6l h6 h5l h5 hB;obtain⟨hB,h5,h5l,h6,h6l,h56n,ho,hl⟩:=hF;clear hqho hqhl;clear hK K
  refine wP 22 ?_;refine wP 23 ?_;refine zp wm ?_ _
  try dsimp only [Exit.then]
  have hall:=aD hB (aD h5 (aD h5l (aD h6 (aD h6l (aD h56n (aD ho hl))))));clear hl ho h56n h6l h6 h5l h5 hB;generalize wn14=wz at hall ⊢
  revert hall;revert wz;revert g6;revert g5;revert n1;revert G1;revert d1;revert B1;revert c1;revert A1;exact REST.o
 exact z8.nil;intro A1 c1 B1 d1 G1 n1 g5 g6 w3 hall;obtain⟨hB,h5,h5l,h6,h6l,h56n,ho,hl⟩:=hall;have hgw3:g<w3.heap.size:=by have:=hB.size;omega
 have HKP:=sqH (fun (W:World) (h:Below w3.heap.size w3 W)=>KL g ⟨X,cX,Y,dY,G,ng,F,cF⟩ ⟨s,co,fs⟩ _ _ _ t c2 q W (fun b=>N b\/b=H+1) (.inl hNg) (((HDK.o _ (wg hB h)).mono fun b hb=>hb.imp id fun h=>wj)) (fun _=>⟨((ho.below h).lower wj).mono (fun b hb=> .inl hb),zb (zc hl h) wj⟩));obtain⟨a0,a1,a2,a3⟩:=sqC4 h5;obtain⟨b0,b1,b2⟩:=sqC3 h6;have HB:=sqH hB;clear hB h5 h5l h6 h6l h56n ho hl HPB HSB
 refine wH ?_;intros;refine(((HKP.o _ (Below.refl _ _)))).mono ?_;rintro e_ w4 ⟨rfl,hg4,hd4⟩;dsimp only;clear a0 a1 a2 a3 b0 b1 b2 HKP;obtain⟨w5,hw5⟩:=wU (w4.alloc (aA #[ax ay q,az ⟨dq.toArray⟩,aw aB 0 0,aw aB 0 0,ax ay 0,aw aB 0 0] 48))
 have hb5:Below w4.heap.size w4 w5:=by rw [hw5];exact(Below.refl _ _).alloc ab _
 have hz5:Arr w5 w4.heap.size 48 [ax ay q,az ⟨dq.toArray⟩,aw aB 0 0,aw aB 0 0,ax ay 0,aw aB 0 0]:=by rw [hw5];exact Arr.new w4 48 _
 have hr3:=((HR.o _ HB.o).grown hg4 aa).below hb5;have hg5:=zP (zQ (HBX.o.trans (HB.o.mono hws)) hg4) hb5;obtain⟨HX,HW5,HZ5⟩:=sqJ3 (aD hd4 (aD hb5 (aD hg5 hr3))) hw5 hz5;obtain⟨gr,hgr⟩:=wU w4.heap.size
 have HGR:=sqH hgr;clear hd4 hb5 hg5 hr3 hg4 hw5 hz5 hgr
 refine wJ 6 ?_;intros;rw [<-HW5.o,<-HGR.o];have hr3:=HX.o.2.2.2;have hz5:=HZ5.o;rw [<-HGR.o]at hz5;obtain⟨z0,z1,z2,z3,z4,z5⟩:=sqC6 hz5;clear hz5;obtain⟨f0,f1,f2,f3,f4,f5⟩:=sqF6 hr3;obtain⟨y0,y1,y2,y3,y4,y5⟩:=sqC6 hr3;have HR3:=sqH hr3;have HF:=sqH (hr3.all6 (ax ay q) (az ⟨dq.toArray⟩) (aw aB 0 0) (aw aB 0 0) (ax ay 0) (aw aB 0 0));clear hr3
 refine wH ?_;intros;refine bodyPost_ret (results_cell_row rfl _ _ (H+1) _ _ _ _ wu HF.o underlying48 rfl wm) rfl ?_;have e1:blobD ⟨s,co,fs⟩ ⟨kd,n,dg,D,ps⟩=(zJ ⟨s,co,fs⟩ t c2 q,⟨q,dq, [], [],0, []⟩):=by
  unfold blobD;rw [if_pos (show kd=1 from HK.o)];dsimp only;rw [HPD.o]
 rw [e1];obtain⟨⟨p',hd4⟩,hb5,hg5,hr5⟩:=HX.o;exact⟨_,_,_,rfl,zl hg5 hHw1 _ _ _ _ _ _,⟨p',((hd4.below hb5).set6 hr5 (.inr rfl) hgH _ _ _ _ _ _).mono fun b h=> .inl h⟩,⟨World.ownsRow_nil _ _ _ _,World.ownsRow_nil _ _ _ _,World.ownsRow_nil _ _ _ _⟩⟩
theorem z2n (g:Nat) (p:LoW) (l:LoP) (kd n:Nat) (dg D:ac) (ps:List PartP) (A:ae) (c:Nat) (A':ae) (c':Nat) (w:World) (hL:GoodL l) (h1:kd=2) (N:ai) (hNg:N g) (hNw:∀b,N b->b<w.heap.size) (hb:DkB w g p l N) (hd:Sl w 1 A D.length c (bys D)) (hq:Sl w 3 A' ps.length c' (pcs ps)) :
  Calls Tryz.prog 74 #[.pointer (aC ⟨g,0,aB⟩),orV kd n dg D ps A c A' c'] w (kb w g N (blobD l ⟨kd,n,dg,D,ps⟩)):=by
 have k1:((kd:Int)==1)=false:=by rw [beq_eq_false_iff_ne];omega
 have k2:((kd:Int)==2)=true:=by rw [beq_iff_eq];omega
 have HK:=sqH h1;clear h1;obtain⟨X,cX,Y,dY,G,ng,F,cF⟩:=p;obtain⟨s,co,fs⟩:=l;have hgl:=hb.lt;have hgw:=hb.lt;have hbw:=hb.wider (N':=fun b=>N b\/w.heap.size<=b) (fun b h=>h);obtain⟨w0,hw0,hP,hR,hbx⟩:=zn w 55 48 [ax ay kd,ax ay n,az ⟨dg.toArray⟩,aw A D.length c,aw A' ps.length c'] [ax ay 0,az ⟨#[]⟩,aw aB 0 0,aw aB 0 0,ax ay 0,aw aB 0 0];have HDK:=sqH (show ∀W,Below w0.heap.size w0 W->DkB W g ⟨X,cX,Y,dY,G,ng,F,cF⟩ ⟨s,co,fs⟩ (fun b=>N b\/w.heap.size<=b) from fun W h=>(hbw.below hbx).below h);have HBC:=sqH (show ∀W,Below w0.heap.size w0 W->wF W g (aw X s.aE.length cX) (aw Y s.aF.length dY) (ax ay s.aH) (ax ay s.aG) (ax ay co.aJ) (aw G co.aI.length ng) (az ⟨co.at_.toArray⟩) (aw F fs.length cF) from fun W h=>by
  have b:=(HDK.o W h).box;exact sqC8 b)
 have hws:=hbx.size;obtain⟨HBX,HD,HQ⟩:=sqJ3 hbx (hd.below hbx) (hq.below hbx);obtain⟨H,hH⟩:=wU w.heap.size
 rw [<-hH]at hP hR hgl;have hHw:w.heap.size<=H:=wj;have hHw1:w.heap.size<=H+1:=wj;have hgH:g≠H+1:=wj;have hHl:H+1<w0.heap.size:=hR.lt;obtain⟨HP,HR,HL,HNW⟩:=sqJ4 (show ∀W,Below w0.heap.size w0 W->Arr W H 55 (orC kd n dg D ps A c A' c') from fun W h=>hP.below h) (show ∀W,Below w0.heap.size w0 W->Arr W (H+1) 48 Kw from fun W h=>hR.below h) hL hNw;obtain⟨x0,x1,x2,x3,x4⟩:=sqC5 hP;have HW0:=sqH hw0;have HH:=sqH hH;rw [hw0,hH]at x0 x1 x2 x3 x4;clear hb hbw hbx hd hq hP hR hL hw0 hH hNw;go_enter func74,ntmps74
 refine wI 8 ?_;intros;rw [<-HW0.o,<-HH.o];clear x0 x1 x2 x3 x4;have HPB:=sqH (fun W (h:Below w0.heap.size w0 W)=>VY X cX Y dY s W dg HL.o.s (HDK.o W h).rd.s);generalize hpb:gbP s dg=r at HPB;obtain⟨D2,q⟩:=r;dsimp only at HPB;have HSB:=sqH (show ∀W,Below w0.heap.size w0 W->(wD W g (aw X s.aE.length cX) (aw Y s.aF.length dY) (ax ay s.aH) (ax ay s.aG))/\W.cell? ⟨H,2,aB⟩=aC (az ⟨dg.toArray⟩) from fun W h=>by
  obtain⟨y0,y1,y2,y3,_⟩:=HBC.o W h;exact⟨⟨y0,y1,y2,y3⟩,(HP.o W h).c2⟩)
 have HPD:=sqH hpb;clear hpb
 iterate 1 (first | go_values | go_skip | go_guarded | go_step | go_upon | go_back)
 apply zE;intro REST;refine ze [] (S:=(fun w'=>(wD w' g (aw X s.aE.length cX) (aw Y s.aF.length dY) (ax ay s.aH) (ax ay s.aG))/\w'.cell? ⟨H,2,aB⟩=aC (az ⟨dg.toArray⟩))) wm ?_ (fun hHeld=> ?_)
 ·exact HSB.o _ (((wh w0)).drew)
 have hB:=((wh w0)).drew;generalize w0.drew=wn0 at *
 refine wP 0 ?_;refine wP 1 ?_;refine wP 2 ?_;refine wP 3 ?_;refine wO 4 ?_;refine wP 5 ?_;refine wO 6 ?_;refine za (rs:= [7]) wm ws ?_;refine z8.cons (o:=_) rfl (fun K hK=> ?_) ?_
 ·
  go_simp;refine(HPB.o wn0 hB).mono ?_;rintro e5 w5 ⟨v1,rfl,ho5,hb5⟩;obtain⟨P1,k1_,rfl, -, -⟩:=Rd.of_own' ho5;dsimp only;refine zR hK ?_ (fun W=>Below w0.heap.size w0 W/\W.ownsRow w.heap.size 5 1 (aw P1 D2.length k1_) D2.length (bys D2)) (fun W=>True) ?_ ?_ (fun wn1 hHeld2 hF _=> ?_)
  ·exact HSB.o _ ((wg hB hb5))
  ·exact⟨wg hB hb5,zb ho5 (by have:=hB.size;omega)⟩
  ·trivial
  clear hB hHeld;have hHeld:=hHeld2;clear hHeld2;obtain⟨hB,hl⟩:=hF;clear hb5 ho5;clear hK K
  refine wP 8 ?_;refine wP 9 ?_;refine wP 10 ?_;refine wP 11 ?_;refine wP 12 ?_;refine zp wm ?_ _
  try dsimp only [Exit.then]
  have hall:=aD hB hl;clear hl hB;generalize wn1=wz at hall ⊢
  revert hall;revert wz;revert k1_;revert P1;exact REST.o
 exact z8.nil;intro P1 k1_ w3 hall;obtain⟨hB,hl⟩:=hall;have hr3:=HR.o _ hB;have hd3:=(HDK.o _ hB).set6 hr3 (.inr hHw1) hgH (ax ay q) (az ⟨#[]⟩) (aw P1 D2.length k1_) (aw aB 0 0) (ax ay 0) (aw aB 0 0);have hg3:=zl (q6 (HBX.o.trans (hB.mono hws)) (aC g)) hHw1 (ax ay q) (az ⟨#[]⟩) (aw P1 D2.length k1_) (aw aB 0 0) (ax ay 0) (aw aB 0 0);have hl3:=qB hl (zf hl hr3 wo) (ax ay q) (az ⟨#[]⟩) (aw P1 D2.length k1_) (aw aB 0 0) (ax ay 0) (aw aB 0 0);have HX:=sqH (aD hd3 (aD hg3 hl3));clear hd3 hg3 hl3 hB hl;obtain⟨f0,f1,f2,f3,f4,f5⟩:=sqF6 hr3;obtain⟨y0,y1,y2,y3,y4,y5⟩:=sqC6 hr3;have HR3:=sqH hr3;have HF:=sqH (hr3.all6 (ax ay q) (az ⟨#[]⟩) (aw P1 D2.length k1_) (aw aB 0 0) (ax ay 0) (aw aB 0 0));clear hr3
 refine wH ?_;intros;refine bodyPost_ret (results_cell_row rfl _ _ (H+1) _ _ _ _ wu HF.o underlying48 rfl wm) rfl ?_;have e1:blobD ⟨s,co,fs⟩ ⟨kd,n,dg,D,ps⟩=(⟨s,co,fs⟩,⟨q, [],D2, [],0, []⟩):=by
  unfold blobD;rw [if_neg (show ¬(kd=1) by have:=HK.o;omega),if_pos (show kd=2 from HK.o)];dsimp only;rw [HPD.o]
 rw [e1];obtain⟨hd3,hg3,hl3⟩:=HX.o;exact⟨_,_,_,rfl,hg3,⟨_,hd3.mono fun b h=> .inl h⟩,⟨hl3,World.ownsRow_nil _ _ _ _,World.ownsRow_nil _ _ _ _⟩⟩
theorem z2o (g:Nat) (p:LoW) (l:LoP) (kd n:Nat) (dg D:ac) (ps:List PartP) (A:ae) (c:Nat) (A':ae) (c':Nat) (w:World) (hL:GoodL l) (h1:kd=3\/kd=4) (N:ai) (hNg:N g) (hNw:∀b,N b->b<w.heap.size) (hb:DkB w g p l N) (hd:Sl w 1 A D.length c (bys D)) (hq:Sl w 3 A' ps.length c' (pcs ps)) :
  Calls Tryz.prog 74 #[.pointer (aC ⟨g,0,aB⟩),orV kd n dg D ps A c A' c'] w (kb w g N (blobD l ⟨kd,n,dg,D,ps⟩)):=by
 have k1:((kd:Int)==1)=false:=by rw [beq_eq_false_iff_ne];omega
 have k2:((kd:Int)==2)=false:=by rw [beq_eq_false_iff_ne];omega
 have k3:((kd:Int)==3)=decide (kd=3):=by rw [Bool.eq_iff_iff,beq_iff_eq,decide_eq_true_iff];omega
 have HK:=sqH h1;have HK3:=sqH k3;clear h1 k3;obtain⟨X,cX,Y,dY,G,ng,F,cF⟩:=p;obtain⟨s,co,fs⟩:=l;have hgl:=hb.lt;have hgw:=hb.lt;have hbw:=hb.wider (N':=fun b=>N b\/w.heap.size<=b) (fun b h=>h);obtain⟨w0,hw0,hP,hR,hbx⟩:=zn w 55 48 [ax ay kd,ax ay n,az ⟨dg.toArray⟩,aw A D.length c,aw A' ps.length c'] [ax ay 0,az ⟨#[]⟩,aw aB 0 0,aw aB 0 0,ax ay 0,aw aB 0 0];have HDK:=sqH (show ∀W,Below w0.heap.size w0 W->DkB W g ⟨X,cX,Y,dY,G,ng,F,cF⟩ ⟨s,co,fs⟩ (fun b=>N b\/w.heap.size<=b) from fun W h=>(hbw.below hbx).below h);have HBC:=sqH (show ∀W,Below w0.heap.size w0 W->wF W g (aw X s.aE.length cX) (aw Y s.aF.length dY) (ax ay s.aH) (ax ay s.aG) (ax ay co.aJ) (aw G co.aI.length ng) (az ⟨co.at_.toArray⟩) (aw F fs.length cF) from fun W h=>by
  have b:=(HDK.o W h).box;exact sqC8 b)
 have hws:=hbx.size;obtain⟨HBX,HD,HQ⟩:=sqJ3 hbx (hd.below hbx) (hq.below hbx);obtain⟨H,hH⟩:=wU w.heap.size
 rw [<-hH]at hP hR hgl;have hHw:w.heap.size<=H:=wj;have hHw1:w.heap.size<=H+1:=wj;have hgH:g≠H+1:=wj;have hHl:H+1<w0.heap.size:=hR.lt;obtain⟨HP,HR,HL,HNW⟩:=sqJ4 (show ∀W,Below w0.heap.size w0 W->Arr W H 55 (orC kd n dg D ps A c A' c') from fun W h=>hP.below h) (show ∀W,Below w0.heap.size w0 W->Arr W (H+1) 48 Kw from fun W h=>hR.below h) hL hNw;obtain⟨x0,x1,x2,x3,x4⟩:=sqC5 hP;have HW0:=sqH hw0;have HH:=sqH hH;rw [hw0,hH]at x0 x1 x2 x3 x4;clear hb hbw hbx hd hq hP hR hL hw0 hH hNw;go_enter func74,ntmps74
 refine wI 10 ?_;intros;rw [<-HW0.o,<-HH.o];clear x0 x1 x2 x3 x4;have HPB:=sqH (fun W (h:Below w0.heap.size w0 W)=>YL X cX Y dY s G ng co W dg (decide (kd=3)) HL.o.s (HDK.o W h).rd.s HL.o.g HL.o.c (HDK.o W h).rd.c);rw [<-HK3.o]at HPB;generalize hpb:hbP s co dg ((kd:Int)==3)=r at HPB;obtain⟨t,c2,q⟩:=r;dsimp only at HPB;obtain⟨HSB,HSG,HPD⟩:=sqJ3 (show ∀W,Below w0.heap.size w0 W->W.cell? ⟨H,2,aB⟩=aC (az ⟨dg.toArray⟩)/\W.cell? ⟨H,0,aB⟩=aC (ax ay kd) from fun W h=>⟨(HP.o W h).c2,(HP.o W h).c0⟩) (show ∀W W',Below w0.heap.size w0 W->W.grownBy W' (aC g)->W'.cell? ⟨H,2,aB⟩=aC (az ⟨dg.toArray⟩)/\W'.cell? ⟨H,0,aB⟩=aC (ax ay kd) from fun W W' h h'=>⟨((HP.o W h).grown h' aa).c2,((HP.o W h).grown h' aa).c0⟩) hpb;clear hpb;have HKP:=sqH (fun (W:World) (h:Below w0.heap.size w0 W) (v1 v2 v3:Value) (t:StoP) (c2:ColP) (q:Nat) (ho:q=0->OwSD W g v1 v2 v3 t c2 (fun b=>N b\/b=H+1)) (hb:DkB W g ⟨X,cX,Y,dY,G,ng,F,cF⟩ ⟨s,co,fs⟩ (fun b=>N b\/b=H+1))=>KL g ⟨X,cX,Y,dY,G,ng,F,cF⟩ ⟨s,co,fs⟩ v1 v2 v3 t c2 q W (fun b=>N b\/b=H+1) (.inl hNg) hb ho)
 iterate 1 (first | go_values | go_skip | go_guarded | go_step | go_upon | go_back)
 apply zE;intro REST;apply zE;intro Rc1;refine ze [21] (S:=(fun w'=>w'.cell? ⟨H,2,aB⟩=aC (az ⟨dg.toArray⟩)/\w'.cell? ⟨H,0,aB⟩=aC (ax ay kd))) wm ?_ (fun hHeld=> ?_)
 ·exact HSB.o _ (Below.refl w0.heap.size w0).drew
 have hB:=(Below.refl w0.heap.size w0).drew;generalize w0.drew=wn0 at *
 refine wP 0 ?_;refine wP 1 ?_;refine wP 2 ?_;refine wP 3 ?_;refine wP 4 ?_;refine wP 6 ?_;refine wP 7 ?_;refine wP 8 ?_;refine wP 9 ?_;refine wP 11 ?_;refine wO 12 ?_;refine wP 13 ?_;refine wO 14 ?_;refine wP 15 ?_;refine za (rs:= [5,10]) wm ws ?_;refine z8.cons (o:=_) rfl (fun K hK=> ?_) ?_
 ·
  obtain⟨y0,y1,y2,y3,y4,y5,y6,y7⟩:=HBC.o _ hB;go_simp;clear y0 y1 y2 y3 y4 y5 y6 y7;refine zR hK ?_ (fun W=>Below w0.heap.size w0 W) (fun W=>True) ?_ ?_ (fun wn1 hHeld2 hF _=> ?_)
  ·exact HSB.o _ hB
  ·exact hB
  ·trivial
  clear hB hHeld;have hHeld:=hHeld2;clear hHeld2;have hB:=hF;clear hK K
  try simp only [sqP]
  refine wT 10 fun K hK=>?_;obtain⟨y0,y1,y2,y3,y4,y5,y6,y7⟩:=HBC.o _ hB;go_simp;clear y0 y1 y2 y3 y4 y5 y6 y7;refine zR hK ?_ (fun W=>Below w0.heap.size w0 W) (fun W=>True) ?_ ?_ (fun wn2 hHeld2 hF _=> ?_)
  ·exact HSB.o _ hB
  ·exact hB
  ·trivial
  clear hB hHeld;have hHeld:=hHeld2;clear hHeld2;have hB:=hF;clear hK K
  try simp only [sqP]
  have hall:=aD hB hHeld;clear hHeld hB;generalize wn2=wz at hall ⊢
  revert hall;revert wz;exact Rc1.o
 refine z8.cons (o:=_) rfl (fun K hK=> ?_) ?_
 ·
  obtain⟨y0,y1,y2,y3,y4,y5,y6,y7⟩:=HBC.o _ hB;go_simp;clear y0 y1 y2 y3 y4 y5 y6 y7;refine zR hK ?_ (fun W=>Below w0.heap.size w0 W) (fun W=>True) ?_ ?_ (fun wn3 hHeld2 hF _=> ?_)
  ·exact HSB.o _ hB
  ·exact hB
  ·trivial
  clear hB hHeld;have hHeld:=hHeld2;clear hHeld2;have hB:=hF;clear hK K
  try simp only [sqP]
  refine wT 5 fun K hK=>?_;obtain⟨y0,y1,y2,y3,y4,y5,y6,y7⟩:=HBC.o _ hB;go_simp;clear y0 y1 y2 y3 y4 y5 y6 y7;refine zR hK ?_ (fun W=>Below w0.heap.size w0 W) (fun W=>True) ?_ ?_ (fun wn4 hHeld2 hF _=> ?_)
  ·exact HSB.o _ hB
  ·exact hB
  ·trivial
  clear hB hHeld;have hHeld:=hHeld2;clear hHeld2;have hB:=hF;clear hK K
  try simp only [sqP]
  have hall:=aD hB hHeld;clear hHeld hB;generalize wn4=wz at hall ⊢
  revert hall;revert wz;exact Rc1.o
 exact z8.nil;intro wRc1 hall;obtain⟨hB,hHeld⟩:=hall;refine za (rs:= [16]) wm ws ?_;refine z8.cons (o:=_) rfl (fun K hK=> ?_) ?_
 ·
  go_simp;refine(HPB.o wRc1 hB).mono ?_;rintro e5 w5 ⟨v1,v2,v3,rfl,ho5,hb5⟩;obtain⟨A1,c1,B1,d1,rfl,rfl, -⟩:=ho5.s.rows;obtain⟨G1,n1,rfl, -, -⟩:=Rd.of_own' ho5.c;dsimp only;refine zR hK ?_ (fun W=>Below w0.heap.size w0 W/\OwSD W g (aw A1 t.aE.length c1) (aw B1 t.aF.length d1) (aw G1 c2.aI.length n1) t c2 (fun b=>N b\/b=H+1)) (fun W=>True) ?_ ?_ (fun wn5 hHeld2 hF _=> ?_)
  ·exact HSB.o _ (wg hB hb5)
  ·exact⟨wg hB hb5,ho5.at_ (by have:=hB.size;omega) (fun b hb=>by have:=hB.size;rcases hb with hb | hb;(have:=HNW.o b hb;omega);omega)⟩
  ·trivial
  clear hB hHeld;have hHeld:=hHeld2;clear hHeld2;obtain⟨hB,ho⟩:=hF;clear hb5 ho5;clear hK K
  refine wP 17 ?_;refine wP 18 ?_;refine wP 19 ?_;refine wT 20 fun K hK=>?_;go_simp;refine(HKP.o wn5 hB _ _ _ t c2 q (fun _=>ho) ((HDK.o _ hB).mono (fun b hb=>hb.imp id (fun h=>wj)))).mono ?_;rintro e5 w5 ⟨rfl,hg5,hd5⟩;dsimp only;refine zR hK ?_ (fun W=>w.grownBy W (aC g)/\(∃p2,DkB W g p2 (zJ ⟨s,co,fs⟩ t c2 q) (fun b=>N b\/b=H+1))/\Arr W (H+1) 48 [ax ay 0,az ⟨#[]⟩,aw aB 0 0,aw aB 0 0,ax ay 0,aw aB 0 0]) (fun W=>True) ?_ ?_ (fun wn6 hHeld2 hF _=> ?_)
  ·exact HSG.o _ _ hB hg5
  ·exact⟨zQ (HBX.o.trans (hB.mono wj)) hg5,hd5,(HR.o _ hB).grown hg5 aa⟩
  ·trivial
  clear ho hB hHeld;have hHeld:=hHeld2;clear hHeld2;obtain⟨hKg,hD,hR⟩:=hF;clear hg5 hd5;clear hK K
  try simp only [sqP]
  refine wS 21 fun K hK=>?_;obtain⟨z0,f0,z1,f1,z2,f2,z3,f3,z4,f4,z5,f5⟩:=we hR;go_simp;clear z0 f0 z1 f1 z2 f2 z3 f3 z4 f4 z5 f5;refine vt hK (fun W=>w.grownBy W (aC g)/\(∃p2,DkB W g p2 (zJ ⟨s,co,fs⟩ t c2 q) (fun b=>N b\/b=H+1))/\Arr W (H+1) 48 [ax ay q,az ⟨#[]⟩,aw aB 0 0,aw aB 0 0,ax ay 0,aw aB 0 0]) (fun W=>True) ?_ ?_ (fun wn7 hF _=> ?_)
  ·exact⟨zl hKg wj _ _ _ _ _ _,hD.imp fun _ h=>h.set6 hR (.inr rfl) wj _ _ _ _ _ _,hR.all6 _ _ _ _ _ _⟩
  ·trivial
  clear hR hD hKg hHeld;obtain⟨hKg,hD,hR⟩:=hF;clear hK K
  try simp only [sqP]
  refine zp wm ?_ _
  try dsimp only [Exit.then]
  have hall:=aD hKg (aD hD hR);clear hR hD hKg;generalize wn7=wz at hall ⊢
  revert hall;revert wz;revert n1;revert G1;revert d1;revert B1;revert c1;revert A1;exact REST.o
 exact z8.nil;intro A1 c1 B1 d1 G1 n1 w3 hall;obtain⟨hKg,hD,hR⟩:=hall;have HX:=sqH (aD hD hKg);have HF:=sqH hR;clear hD hKg hR
 refine wH ?_;intros;refine bodyPost_ret (results_cell_row rfl _ _ (H+1) _ _ _ _ wu HF.o underlying48 rfl wm) rfl ?_;have e1:blobD ⟨s,co,fs⟩ ⟨kd,n,dg,D,ps⟩=(zJ ⟨s,co,fs⟩ t c2 q,Yq q):=by
  unfold blobD;rw [if_neg (show ¬(kd=1) by have:=HK.o;omega),if_neg (show ¬(kd=2) by have:=HK.o;omega)];dsimp only;rw [<-HK3.o,HPD.o]
 rw [e1];obtain⟨⟨p2,hD⟩,hK⟩:=HX.o;exact⟨_,_,_,rfl,hK,⟨p2,hD.mono fun b h=> .inl h⟩,.e_ q⟩
theorem z2u (g:Nat) (p:LoW) (l:LoP) (kd n:Nat) (dg D:ac) (ps:List PartP) (A:ae) (c:Nat) (A':ae) (c':Nat) (w:World) (hL:GoodL l) (hn:n<=4000) (h1:kd=9) (N:ai) (hNg:N g) (hNw:∀b,N b->b<w.heap.size) (hb:DkB w g p l N) (hd:Sl w 1 A D.length c (bys D)) (hq:Sl w 3 A' ps.length c' (pcs ps)) :
  Calls Tryz.prog 76 #[.pointer (aC ⟨g,0,aB⟩),orV kd n dg D ps A c A' c'] w (kb w g N (roomD l ⟨kd,n,dg,D,ps⟩)):=by
 have k1:((kd:Int)==9)=true:=by rw [beq_iff_eq];omega
 have HK:=sqH h1;have HPX:=sqH hn;clear h1 hn;obtain⟨X,cX,Y,dY,G,ng,F,cF⟩:=p;obtain⟨s,co,fs⟩:=l;have hgl:=hb.lt;have hgw:=hb.lt;have hbw:=hb.wider (N':=fun b=>N b\/w.heap.size<=b) (fun b h=>h);obtain⟨w0,hw0,hP,hR,hbx⟩:=zn w 55 48 [ax ay kd,ax ay n,az ⟨dg.toArray⟩,aw A D.length c,aw A' ps.length c'] [ax ay 0,az ⟨#[]⟩,aw aB 0 0,aw aB 0 0,ax ay 0,aw aB 0 0];have HDK:=sqH (show ∀W,Below w0.heap.size w0 W->DkB W g ⟨X,cX,Y,dY,G,ng,F,cF⟩ ⟨s,co,fs⟩ (fun b=>N b\/w.heap.size<=b) from fun W h=>(hbw.below hbx).below h);have HBC:=sqH (show ∀W,Below w0.heap.size w0 W->wF W g (aw X s.aE.length cX) (aw Y s.aF.length dY) (ax ay s.aH) (ax ay s.aG) (ax ay co.aJ) (aw G co.aI.length ng) (az ⟨co.at_.toArray⟩) (aw F fs.length cF) from fun W h=>by
  have b:=(HDK.o W h).box;exact sqC8 b)
 have hws:=hbx.size;obtain⟨HBX,HD,HQ⟩:=sqJ3 hbx (hd.below hbx) (hq.below hbx);obtain⟨H,hH⟩:=wU w.heap.size
 rw [<-hH]at hP hR hgl;have hHw:w.heap.size<=H:=wj;have hHw1:w.heap.size<=H+1:=wj;have hgH:g≠H+1:=wj;have hHl:H+1<w0.heap.size:=hR.lt;obtain⟨HP,HR,HL,HNW⟩:=sqJ4 (show ∀W,Below w0.heap.size w0 W->Arr W H 55 (orC kd n dg D ps A c A' c') from fun W h=>hP.below h) (show ∀W,Below w0.heap.size w0 W->Arr W (H+1) 48 Kw from fun W h=>hR.below h) hL hNw;obtain⟨x0,x1,x2,x3,x4⟩:=sqC5 hP;have HW0:=sqH hw0;have HH:=sqH hH;rw [hw0,hH]at x0 x1 x2 x3 x4;clear hb hbw hbx hd hq hP hR hL hw0 hH hNw;go_enter func76,ntmps76
 refine wI 3 ?_;intros;rw [<-HW0.o,<-HH.o];clear x0 x1 x2 x3 x4;have HPB:=sqH (fun W (h:Below w0.heap.size w0 W)=>JY X cX Y dY s G ng co W n HPX.o HL.o.s (HDK.o W h).rd.s HL.o.g HL.o.c (HDK.o W h).rd.c);have hgn:(evP s n).2.1<=10:=z3c HL.o.s n;generalize hpb:evP s n=r at HPB hgn;obtain⟨t,k9,q⟩:=r;dsimp only at HPB hgn;have HPD:=sqH hpb;clear hpb;have HSB:=sqH (show ∀W,Below w0.heap.size w0 W->(wG W g (aw X s.aE.length cX) (aw Y s.aF.length dY) (ax ay s.aH) (ax ay s.aG) (ax ay co.aJ) (aw G co.aI.length ng) (az ⟨co.at_.toArray⟩))/\W.cell? ⟨H,1,aB⟩=aC (ax ay n) from fun W h=>by
  obtain⟨y0,y1,y2,y3,y4,y5,y6,_⟩:=HBC.o W h;exact⟨⟨y0,y1,y2,y3,y4,y5,y6⟩,(HP.o W h).c1⟩)
 iterate 1 (first | go_values | go_skip | go_guarded | go_step | go_upon | go_back)
 apply zE;intro REST;apply zE;intro Rb1;refine ze [18] (S:=(fun w'=>(wG w' g (aw X s.aE.length cX) (aw Y s.aF.length dY) (ax ay s.aH) (ax ay s.aG) (ax ay co.aJ) (aw G co.aI.length ng) (az ⟨co.at_.toArray⟩))/\w'.cell? ⟨H,1,aB⟩=aC (ax ay n))) wm ?_ (fun hHeld=> ?_)
 ·exact HSB.o _ (((wh w0)).drew)
 have hB:=((wh w0)).drew;generalize w0.drew=wn0 at *
 refine wP 0 ?_;refine wP 1 ?_;refine wP 2 ?_;refine wP 3 ?_;refine wO 4 ?_;refine wP 5 ?_;refine wP 6 ?_;refine wP 7 ?_;refine wP 8 ?_;refine wO 9 ?_;refine wP 10 ?_;refine wO 11 ?_;refine za (rs:= [12,17]) wm ws ?_;refine z8.cons (o:=_) rfl (fun K hK=> ?_) ?_
 ·
  go_simp;refine(HPB.o wn0 hB).mono ?_;rintro e5 w5 ⟨v1,v2,A9,c9,rfl,ho5,hb5⟩;obtain⟨A1,c1,B1,d1,rfl,rfl, -⟩:=ho5.rows;dsimp only;refine zR hK ?_ (fun W=>Below w0.heap.size w0 W/\OwSt W w.heap.size (aw A1 t.aE.length c1) (aw B1 t.aF.length d1) t (fun b=>(N b\/b=H+1))) (fun W=>True) ?_ ?_ (fun wn1 hHeld2 hF _=> ?_)
  ·exact HSB.o _ ((wg hB hb5))
  ·exact⟨wg hB hb5,(ho5.lower (base':=w.heap.size) (by have:=hB.size;omega)).mono (N':=(fun b=>(N b\/b=H+1))) (fun b hb=>by have:=hB.size;rcases hb with hb | hb;(have:=HNW.o b hb;omega);omega)⟩
  ·trivial
  clear hB hHeld;have hHeld:=hHeld2;clear hHeld2;obtain⟨hB,ho⟩:=hF;clear hb5 ho5;clear hK K
  refine wP 13 ?_;refine wP 14 ?_;refine wP 15 ?_;refine wP 16 ?_;refine wT 17 fun K hK=>?_;have hba:=wi wn1 (aA #[aw aB 0 0,aw aB 0 0,ax ay 0,ax ay 0] 27);have hn:=Arr.new wn1 27 [aw aB 0 0,aw aB 0 0,ax ay 0,ax ay 0];have hnl:w0.heap.size<=wn1.heap.size:=hB.size;obtain⟨g5,hge⟩:=wU wn1.heap.size
  have hN:∀b,b=g5->wn1.heap.size<=b:=fun b h=>by rw [h,hge];exact Nat.le_refl _
  rw [<-hge]at hn hnl;go_simp;rw [<-hge];clear hge;refine zR hK ?_ (fun W=>Below w0.heap.size w0 W/\Arr W g5 27 [aw aB 0 0,aw aB 0 0,ax ay 0,ax ay 0]/\w0.heap.size<=g5/\OwSt W w.heap.size (aw A1 t.aE.length c1) (aw B1 t.aF.length d1) t (fun b=>(N b\/b=H+1)\/b=g5)) (fun W=>True) ?_ ?_ (fun wn2 hHeld2 hF _=> ?_)
  ·exact HSB.o _ ((wg hB hba))
  ·exact⟨wg hB hba,hn,hnl,(ho.wider (N':=(fun b=>(N b\/b=H+1)\/b=g5)) (fun b hb=>hb.elim (fun hb=> .inl hb) (fun hb=> .inr (hN _ hb)))).below hba⟩
  ·trivial
  clear ho hB hHeld;have hHeld:=hHeld2;clear hHeld2;obtain⟨hB,h5,h5l,ho⟩:=hF;clear hba hn hnl hN;clear hK K
  try simp only [sqP]
  have hall:=aD hB (aD h5 (aD h5l (aD ho hHeld)));clear hHeld ho h5l h5 hB;generalize wn2=wz at hall ⊢
  revert hall;revert wz;revert g5;revert c9;revert A9;revert d1;revert B1;revert c1;revert A1;exact Rb1.o
 refine z8.cons (o:=_) rfl (fun K hK=> ?_) ?_
 ·
  have hba:=wi wn0 (aA #[aw aB 0 0,aw aB 0 0,ax ay 0,ax ay 0] 27);have hn:=Arr.new wn0 27 [aw aB 0 0,aw aB 0 0,ax ay 0,ax ay 0];have hnl:w0.heap.size<=wn0.heap.size:=hB.size;obtain⟨g5,hge⟩:=wU wn0.heap.size
  have hN:∀b,b=g5->wn0.heap.size<=b:=fun b h=>by rw [h,hge];exact Nat.le_refl _
  rw [<-hge]at hn hnl;go_simp;rw [<-hge];clear hge;refine zR hK ?_ (fun W=>Below w0.heap.size w0 W/\Arr W g5 27 [aw aB 0 0,aw aB 0 0,ax ay 0,ax ay 0]/\w0.heap.size<=g5) (fun W=>True) ?_ ?_ (fun wn3 hHeld2 hF _=> ?_)
  ·exact HSB.o _ ((wg hB hba))
  ·exact⟨wg hB hba,hn,hnl⟩
  ·trivial
  clear hB hHeld;have hHeld:=hHeld2;clear hHeld2;obtain⟨hB,h5,h5l⟩:=hF;clear hba hn hnl hN;clear hK K
  try simp only [sqP]
  refine wT 12 fun K hK=>?_;go_simp;refine(HPB.o wn3 hB).mono ?_;rintro e5 w5 ⟨v1,v2,A9,c9,rfl,ho5,hb5⟩;obtain⟨A1,c1,B1,d1,rfl,rfl, -⟩:=ho5.rows;dsimp only;refine zR hK ?_ (fun W=>Below w0.heap.size w0 W/\Arr W g5 27 [aw aB 0 0,aw aB 0 0,ax ay 0,ax ay 0]/\w0.heap.size<=g5/\OwSt W w.heap.size (aw A1 t.aE.length c1) (aw B1 t.aF.length d1) t (fun b=>(N b\/b=H+1)\/b=g5)) (fun W=>True) ?_ ?_ (fun wn4 hHeld2 hF _=> ?_)
  ·exact HSB.o _ ((wg hB hb5))
  ·exact⟨wg hB hb5,h5.below hb5,h5l,(ho5.lower (base':=w.heap.size) (by have:=hB.size;omega)).mono (N':=(fun b=>(N b\/b=H+1)\/b=g5)) (fun b hb=>hb.elim (fun hb=>by have:=hB.size;rcases hb with hb | hb;(have:=HNW.o b hb;omega);omega) (fun hb=>(by rw [hb];exact h5.lt)))⟩
  ·trivial
  clear h5l h5 hB hHeld;have hHeld:=hHeld2;clear hHeld2;obtain⟨hB,h5,h5l,ho⟩:=hF;clear hb5 ho5;clear hK K
  refine wP 13 ?_;refine wP 14 ?_;refine wP 15 ?_;refine wP 16 ?_;have hall:=aD hB (aD h5 (aD h5l (aD ho hHeld)));clear hHeld ho h5l h5 hB;generalize wn4=wz at hall ⊢
  revert hall;revert wz;revert g5;revert c9;revert A9;revert d1;revert B1;revert c1;revert A1;exact Rb1.o
 exact z8.nil;intro A1 c1 B1 d1 A9 c9 g5 wRb1 hall;obtain⟨hB,h5,h5l,ho,hHeld⟩:=hall;refine za (rs:= [18]) wm ws ?_;refine z8.store (o:=_) rfl wu (fun K hK=> ?_) ?_
 ·
  have hqho:=ho.nb h5 wo wo;obtain⟨z0,f0,z1,f1,z2,f2,z3,f3⟩:=wY h5;go_simp;clear z0 f0 z1 f1 z2 f2 z3 f3;refine vt hK (fun W=>Below w0.heap.size w0 W/\Arr W g5 27 [(aw A1 t.aE.length c1),(aw B1 t.aF.length d1),ax ay t.aH,ax ay t.aG]/\w0.heap.size<=g5/\OwSt W w.heap.size (aw A1 t.aE.length c1) (aw B1 t.aF.length d1) t (fun b=>(N b\/b=H+1)\/b=g5)) (fun W=>True) ?_ ?_ (fun wn5 hF _=> ?_)
  ·exact⟨((((hB).setCell (p:=⟨g5,0,aB⟩) h5l _).setCell (p:=⟨g5,1,aB⟩) h5l _).setCell (p:=⟨g5,2,aB⟩) h5l _).setCell (p:=⟨g5,3,aB⟩) h5l _,h5.all4 _ _ _ _,h5l,ho.set4N (.inr rfl) hqho.1 hqho.2 _ _ _ _⟩
  ·trivial
  clear ho h5l h5 hB hHeld;obtain⟨hB,h5,h5l,ho⟩:=hF;clear hqho;clear hK K
  refine wP 19 ?_;refine wP 20 ?_;refine zp wm ?_ _
  try dsimp only [Exit.then]
  have hall:=aD hB (aD h5 (aD h5l ho));clear ho h5l h5 hB;generalize wn5=wz at hall ⊢
  revert hall;revert wz;revert g5;revert c9;revert A9;revert d1;revert B1;revert c1;revert A1;exact REST.o
 exact z8.nil;intro A1 c1 B1 d1 A9 c9 g5 w3 hall;obtain⟨hB,h5,h5l,ho⟩:=hall;have HSB:=sqH (show ∀W,Below w3.heap.size w3 W->wD W g5 (aw A1 t.aE.length c1) (aw B1 t.aF.length d1) (ax ay t.aH) (ax ay t.aG) from fun W h=>sqC4 (h5.below h));have HSG:=sqH (show ∀W W',Below w3.heap.size w3 W->W.grownBy W' (aC g)->wD W' g5 (aw A1 t.aE.length c1) (aw B1 t.aF.length d1) (ax ay t.aH) (ax ay t.aG) from fun W W' h h'=>by
  have h6:=(h5.below h).grown h' aa;exact sqC4 h6)
 have HSK:=sqH (show ∀W W':World,(wD W g5 (aw A1 t.aE.length c1) (aw B1 t.aF.length d1) (ax ay t.aH) (ax ay t.aG))->Below W.heap.size W W'->wD W' g5 (aw A1 t.aE.length c1) (aw B1 t.aF.length d1) (ax ay t.aH) (ax ay t.aG) from fun W W' h h'=>by have h2:=q6 h' aB;exact⟨h2.cell h.1 ws,h2.cell h.2.1 ws,h2.cell h.2.2.1 ws,h2.cell h.2.2.2 ws⟩);have hot:=(ho.wider (N':=(fun b=>N b\/b=H+1\/w3.heap.size<=b)) (fun b hb=>hb.elim (fun h=> .inl (.inl (.inl h))) (fun h=>h.elim (fun h=> .inl (.inl (.inr h))) (fun h=> .inr h)))).lower (base':=g+1) wj;have HKP:=sqH (fun (W:World) (h:Below w3.heap.size w3 W)=>KL g ⟨X,cX,Y,dY,G,ng,F,cF⟩ ⟨s,co,fs⟩ _ _ (aw G co.aI.length ng) t co q W (fun b=>N b\/b=H+1\/w3.heap.size<=b) (.inl hNg) ((HDK.o _ (wg hB h)).mono fun b hb=>hb.imp id fun h=>by(have:=hB.size;rcases h with h | h<;>omega)) (fun _=>⟨hot.below h,zc (HDK.o _ hB).own.c h⟩));have HBX3:=sqH (HBX.o.trans (hB.mono hws));have hws3:w.heap.size<=w3.heap.size:=Nat.le_trans hws hB.size;have hHl3:H+1<w3.heap.size:=Nat.lt_of_lt_of_le hHl hB.size;have hgl3:g<w3.heap.size:=wj;have hg5l:g5<w3.heap.size:=h5.lt;replace HR:=z2i HR hB;replace HBC:=z2i HBC hB;clear hot h5 ho hB;clear h5l HPB
 refine wI 4 ?_;intros;iterate 1 (first | go_values | go_skip | go_guarded | go_step | go_upon | go_back)
 apply zE;intro REST2;apply zE;intro Rc1;apply zE;intro Rc2;refine ze [10] (S:=(fun w'=>wD w' g5 (aw A1 t.aE.length c1) (aw B1 t.aF.length d1) (ax ay t.aH) (ax ay t.aG))) wm ?_ (fun hHeld=> ?_)
 ·exact HSB.o _ (Below.refl w3.heap.size w3).drew
 have hB:=(Below.refl w3.heap.size w3).drew;generalize w3.drew=wn0 at *
 refine wP 0 ?_;refine wO 1 ?_;refine wP 2 ?_;refine wP 3 ?_;refine wP 4 ?_;refine wP 5 ?_;refine wP 7 ?_;refine za (rs:= [6,9]) wm ws ?_;refine z8.cons (o:=_) rfl (fun K hK=> ?_) ?_
 ·
  obtain⟨y0,y1,y2,y3,y4,y5,y6,y7⟩:=HBC.o _ hB;go_simp;clear y0 y1 y2 y3 y4 y5 y6 y7;refine zR hK ?_ (fun W=>Below w3.heap.size w3 W) (fun W=>True) ?_ ?_ (fun wn1 hHeld2 hF _=> ?_)
  ·exact HSB.o _ hB
  ·exact hB
  ·trivial
  clear hB hHeld;have hHeld:=hHeld2;clear hHeld2;have hB:=hF;clear hK K
  try simp only [sqP]
  refine za (rs:= [8,9]) wm ws ?_;refine z8.cons (o:=_) rfl (fun K hK=> ?_) ?_
  ·
   go_simp;refine(HKP.o wn1 hB).mono ?_;rintro e5 w5 ⟨rfl,hg5,hd5⟩;dsimp only;refine zR hK ?_ (fun W=>w.grownBy W (aC g)/\(∃p2,DkB W g p2 (zJ ⟨s,co,fs⟩ t co q) (fun b=>N b\/b=H+1\/w3.heap.size<=b))/\Arr W (H+1) 48 [ax ay 0,az ⟨#[]⟩,aw aB 0 0,aw aB 0 0,ax ay 0,aw aB 0 0]/\w3.heap.size<=W.heap.size) (fun W=>True) ?_ ?_ (fun wn2 hHeld2 hF _=> ?_)
   ·exact HSG.o _ _ hB hg5
   ·exact⟨zQ (HBX3.o.trans (hB.mono wj)) hg5,hd5,(HR.o _ hB).grown hg5 aa,Nat.le_trans hB.size hg5.size⟩
   ·trivial
   clear hB hHeld;have hHeld:=hHeld2;clear hHeld2;obtain⟨hKg,hD,hR,hKl⟩:=hF;clear hg5 hd5;clear hK K
   try simp only [sqP]
   refine wT 9 fun K hK=>?_;have hba:=wi wn2 (aA #[ax ay 0,az ⟨#[]⟩,aw aB 0 0,aw aB 0 0,ax ay 0,aw aB 0 0] 48);have hn:=Arr.new wn2 48 [ax ay 0,az ⟨#[]⟩,aw aB 0 0,aw aB 0 0,ax ay 0,aw aB 0 0];have hnl:w3.heap.size<=wn2.heap.size:=hKl;obtain⟨ga,hge⟩:=wU wn2.heap.size
   rw [<-hge]at hn hnl;go_simp;rw [<-hge];clear hge;refine zR hK ?_ (fun W=>w.grownBy W (aC g)/\(∃p2,DkB W g p2 (zJ ⟨s,co,fs⟩ t co q) (fun b=>N b\/b=H+1\/w3.heap.size<=b))/\Arr W (H+1) 48 [ax ay 0,az ⟨#[]⟩,aw aB 0 0,aw aB 0 0,ax ay 0,aw aB 0 0]/\Arr W ga 48 [ax ay 0,az ⟨#[]⟩,aw aB 0 0,aw aB 0 0,ax ay 0,aw aB 0 0]/\w3.heap.size<=ga) (fun W=>True) ?_ ?_ (fun wn3 hHeld2 hF _=> ?_)
   ·exact HSK.o _ _ hHeld hba
   ·exact⟨zP hKg hba,hD.imp fun _ h=>h.below hba,hR.below hba,hn,hnl⟩
   ·trivial
   clear hKl hR hD hKg hHeld;have hHeld:=hHeld2;clear hHeld2;obtain⟨hKg,hD,hR,hA,hAl⟩:=hF;clear hba hn hnl;clear hK K
   try simp only [sqP]
   have hall:=aD hKg (aD hD (aD hR (aD hA (aD hAl hHeld))));clear hHeld hAl hA hR hD hKg;generalize wn3=wz at hall ⊢
   revert hall;revert wz;revert ga;exact Rc1.o
  refine z8.cons (o:=_) rfl (fun K hK=> ?_) ?_
  ·
   have hba:=wi wn1 (aA #[ax ay 0,az ⟨#[]⟩,aw aB 0 0,aw aB 0 0,ax ay 0,aw aB 0 0] 48);have hn:=Arr.new wn1 48 [ax ay 0,az ⟨#[]⟩,aw aB 0 0,aw aB 0 0,ax ay 0,aw aB 0 0];have hnl:w3.heap.size<=wn1.heap.size:=hB.size;obtain⟨ga,hge⟩:=wU wn1.heap.size
   rw [<-hge]at hn hnl;go_simp;rw [<-hge];clear hge;refine zR hK ?_ (fun W=>Below w3.heap.size w3 W/\Arr W ga 48 [ax ay 0,az ⟨#[]⟩,aw aB 0 0,aw aB 0 0,ax ay 0,aw aB 0 0]/\w3.heap.size<=ga) (fun W=>True) ?_ ?_ (fun wn4 hHeld2 hF _=> ?_)
   ·exact HSB.o _ (wg hB hba)
   ·exact⟨wg hB hba,hn,hnl⟩
   ·trivial
   clear hB hHeld;have hHeld:=hHeld2;clear hHeld2;obtain⟨hB,hA,hAl⟩:=hF;clear hba hn hnl;clear hK K
   try simp only [sqP]
   have hall:=aD hB (aD hA (aD hAl hHeld));clear hHeld hAl hA hB;generalize wn4=wz at hall ⊢
   revert hall;revert wz;revert ga;exact Rc2.o
  exact z8.nil
 refine z8.cons (o:=_) rfl (fun K hK=> ?_) ?_
 ·
  have hba:=wi wn0 (aA #[ax ay 0,az ⟨#[]⟩,aw aB 0 0,aw aB 0 0,ax ay 0,aw aB 0 0] 48);have hn:=Arr.new wn0 48 [ax ay 0,az ⟨#[]⟩,aw aB 0 0,aw aB 0 0,ax ay 0,aw aB 0 0];have hnl:w3.heap.size<=wn0.heap.size:=hB.size;obtain⟨ga,hge⟩:=wU wn0.heap.size
  rw [<-hge]at hn hnl;go_simp;rw [<-hge];clear hge;refine zR hK ?_ (fun W=>Below w3.heap.size w3 W/\Arr W ga 48 [ax ay 0,az ⟨#[]⟩,aw aB 0 0,aw aB 0 0,ax ay 0,aw aB 0 0]/\w3.heap.size<=ga) (fun W=>True) ?_ ?_ (fun wn5 hHeld2 hF _=> ?_)
  ·exact HSB.o _ (wg hB hba)
  ·exact⟨wg hB hba,hn,hnl⟩
  ·trivial
  clear hB hHeld;have hHeld:=hHeld2;clear hHeld2;obtain⟨hB,hA,hAl⟩:=hF;clear hba hn hnl;clear hK K
  try simp only [sqP]
  refine wT 6 fun K hK=>?_;obtain⟨y0,y1,y2,y3,y4,y5,y6,y7⟩:=HBC.o _ hB;go_simp;clear y0 y1 y2 y3 y4 y5 y6 y7;refine zR hK ?_ (fun W=>Below w3.heap.size w3 W/\Arr W ga 48 [ax ay 0,az ⟨#[]⟩,aw aB 0 0,aw aB 0 0,ax ay 0,aw aB 0 0]/\w3.heap.size<=ga) (fun W=>True) ?_ ?_ (fun wn6 hHeld2 hF _=> ?_)
  ·exact HSB.o _ hB
  ·exact⟨hB,hA,hAl⟩
  ·trivial
  clear hAl hA hB hHeld;have hHeld:=hHeld2;clear hHeld2;obtain⟨hB,hA,hAl⟩:=hF;clear hK K
  try simp only [sqP]
  have hall:=aD hB (aD hA (aD hAl hHeld));clear hHeld hAl hA hB;generalize wn6=wz at hall ⊢
  revert hall;revert wz;revert ga;exact Rc2.o
 exact z8.nil;intro ga wRc2 hall;obtain⟨hB,hA,hAl,hHeld⟩:=hall;refine za (rs:= [8]) wm ws ?_;refine z8.cons (o:=_) rfl (fun K hK=> ?_) ?_
 ·
  go_simp;refine(HKP.o wRc2 hB).mono ?_;rintro e5 w5 ⟨rfl,hg5,hd5⟩;dsimp only;refine zR hK ?_ (fun W=>w.grownBy W (aC g)/\(∃p2,DkB W g p2 (zJ ⟨s,co,fs⟩ t co q) (fun b=>N b\/b=H+1\/w3.heap.size<=b))/\Arr W (H+1) 48 [ax ay 0,az ⟨#[]⟩,aw aB 0 0,aw aB 0 0,ax ay 0,aw aB 0 0]/\Arr W ga 48 [ax ay 0,az ⟨#[]⟩,aw aB 0 0,aw aB 0 0,ax ay 0,aw aB 0 0]/\w3.heap.size<=ga) (fun W=>True) ?_ ?_ (fun wn7 hHeld2 hF _=> ?_)
  ·exact HSG.o _ _ hB hg5
  ·exact⟨zQ (HBX3.o.trans (hB.mono wj)) hg5,hd5,(HR.o _ hB).grown hg5 aa,hA.grown hg5 aa,hAl⟩
  ·trivial
  clear hAl hA hB hHeld;have hHeld:=hHeld2;clear hHeld2;obtain⟨hKg,hD,hR,hA,hAl⟩:=hF;clear hg5 hd5;clear hK K
  try simp only [sqP]
  have hall:=aD hKg (aD hD (aD hR (aD hA (aD hAl hHeld))));clear hHeld hAl hA hR hD hKg;generalize wn7=wz at hall ⊢
  revert hall;revert wz;revert ga;exact Rc1.o
 exact z8.nil;intro ga wRc1 hall;obtain⟨hKg,hD,hR,hA,hAl,hHeld⟩:=hall;refine za (rs:= [10]) wm ws ?_;refine z8.store (o:=_) rfl wu (fun K hK=> ?_) ?_
 ·
  obtain⟨z0,f0,z1,f1,z2,f2,z3,f3,z4,f4,z5,f5⟩:=we hA;go_simp;clear z0 f0 z1 f1 z2 f2 z3 f3 z4 f4 z5 f5;refine vt hK (fun W=>w.grownBy W (aC g)/\(∃p2,DkB W g p2 (zJ ⟨s,co,fs⟩ t co q) (fun b=>N b\/b=H+1\/w3.heap.size<=b))/\Arr W (H+1) 48 [ax ay 0,az ⟨#[]⟩,aw aB 0 0,aw aB 0 0,ax ay 0,aw aB 0 0]/\Arr W ga 48 [ax ay q,az ⟨#[]⟩,aw aB 0 0,aw aB 0 0,ax ay 0,aw aB 0 0]/\w3.heap.size<=ga) (fun W=>True) ?_ ?_ (fun wn8 hF _=> ?_)
  ·exact⟨zl hKg wj _ _ _ _ _ _,hD.imp fun _ h=>h.set6 hA (.inr (.inr hAl)) wj _ _ _ _ _ _,((((((hR.other wj _).other wj _).other wj _).other wj _).other wj _).other wj _),hA.all6 _ _ _ _ _ _,hAl⟩
  ·trivial
  clear hAl hA hR hD hKg hHeld;obtain⟨hKg,hD,hR,hA,hAl⟩:=hF;clear hK K
  try simp only [sqP]
  refine zp wm ?_ _
  try dsimp only [Exit.then]
  have hall:=aD hKg (aD hD (aD hR (aD hA hAl)));clear hAl hA hR hD hKg;generalize wn8=wz at hall ⊢
  revert hall;revert wz;revert ga;exact REST2.o
 exact z8.nil;intro ga w4 hall;obtain⟨hKg,hD,hR,hA,hAl⟩:=hall;have hA3:=hA.set (k:=4) ws (ax ay k9);have hR5:=hR.other (k:=4) (g':=ga) (show H+1≠ga by omega) (ax ay k9);have HX:=sqH (aD (hD.imp fun _ h=>h.set hA (.inr (.inr hAl)) (show g≠ga by omega) (ax ay k9) (k:=4)) (aD (zt (k:=4) (u:= ax ay k9) hKg (show w.heap.size<=ga by omega)) hR5));have HA3:=sqH hA3;have c4:=hA.c4;have q4:=hA.frozen 4;clear hA3 hR5 hA hR hD hKg hAl
 refine wJ 6 ?_;intros;generalize w4.setCell ⟨ga,4,aB⟩ (ax ay k9)=w5 at *
 have hr3:=HX.o.2.2;have hz5:Arr w5 ga 48 [ax ay q,az ⟨#[]⟩,aw aB 0 0,aw aB 0 0,ax ay k9,aw aB 0 0]:=HA3.o;clear c4 q4;obtain⟨z0,z1,z2,z3,z4,z5⟩:=sqC6 hz5;clear hz5;obtain⟨f0,f1,f2,f3,f4,f5⟩:=sqF6 hr3;obtain⟨y0,y1,y2,y3,y4,y5⟩:=sqC6 hr3;have HR3:=sqH hr3;have HF:=sqH (hr3.all6 (ax ay q) (az ⟨#[]⟩) (aw aB 0 0) (aw aB 0 0) (ax ay k9) (aw aB 0 0));clear hr3
 refine wH ?_;intros;refine bodyPost_ret (results_cell_row rfl _ _ (H+1) _ _ _ _ wu HF.o underlying48 rfl wm) rfl ?_;have e1:roomD ⟨s,co,fs⟩ ⟨kd,n,dg,D,ps⟩=(zJ ⟨s,co,fs⟩ t co q,⟨q, [], [], [],k9, []⟩):=by
  unfold roomD;rw [if_pos (show kd=9 from HK.o)];dsimp only;rw [HPD.o]
 rw [e1];obtain⟨⟨p',hd4⟩,hg5,hr5⟩:=HX.o;exact⟨_,_,_,rfl,zl hg5 hHw1 _ _ _ _ _ _,⟨p',(hd4.set6 hr5 (.inr (.inl rfl)) hgH _ _ _ _ _ _).mono fun b h=> .inl h⟩,⟨World.ownsRow_nil _ _ _ _,World.ownsRow_nil _ _ _ _,World.ownsRow_nil _ _ _ _⟩⟩
theorem z00 (g:Nat) (p:LoW) (l:LoP) (kd n:Nat) (dg D:ac) (ps:List PartP) (A:ae) (c:Nat) (A':ae) (c':Nat) (w:World) (hL:GoodL l) (h1:kd=10) (N:ai) (hNg:N g) (hNw:∀b,N b->b<w.heap.size) (hb:DkB w g p l N) (hd:Sl w 1 A D.length c (bys D)) (hq:Sl w 3 A' ps.length c' (pcs ps)) :
  Calls Tryz.prog 76 #[.pointer (aC ⟨g,0,aB⟩),orV kd n dg D ps A c A' c'] w (kb w g N (roomD l ⟨kd,n,dg,D,ps⟩)):=by
 have k1:((kd:Int)==9)=false:=by rw [beq_eq_false_iff_ne];omega
 have k2:((kd:Int)==10)=true:=by rw [beq_iff_eq];omega
 have HK:=sqH h1;clear h1;obtain⟨X,cX,Y,dY,G,ng,F,cF⟩:=p;obtain⟨s,co,fs⟩:=l;have hgl:=hb.lt;have hgw:=hb.lt;have hbw:=hb.wider (N':=fun b=>N b\/w.heap.size<=b) (fun b h=>h);obtain⟨w0,hw0,hP,hR,hbx⟩:=zn w 55 48 [ax ay kd,ax ay n,az ⟨dg.toArray⟩,aw A D.length c,aw A' ps.length c'] [ax ay 0,az ⟨#[]⟩,aw aB 0 0,aw aB 0 0,ax ay 0,aw aB 0 0];have HDK:=sqH (show ∀W,Below w0.heap.size w0 W->DkB W g ⟨X,cX,Y,dY,G,ng,F,cF⟩ ⟨s,co,fs⟩ (fun b=>N b\/w.heap.size<=b) from fun W h=>(hbw.below hbx).below h);have HBC:=sqH (show ∀W,Below w0.heap.size w0 W->wF W g (aw X s.aE.length cX) (aw Y s.aF.length dY) (ax ay s.aH) (ax ay s.aG) (ax ay co.aJ) (aw G co.aI.length ng) (az ⟨co.at_.toArray⟩) (aw F fs.length cF) from fun W h=>by
  have b:=(HDK.o W h).box;exact sqC8 b)
 have hws:=hbx.size;obtain⟨HBX,HD,HQ⟩:=sqJ3 hbx (hd.below hbx) (hq.below hbx);obtain⟨H,hH⟩:=wU w.heap.size
 rw [<-hH]at hP hR hgl;have hHw:w.heap.size<=H:=wj;have hHw1:w.heap.size<=H+1:=wj;have hgH:g≠H+1:=wj;have hHl:H+1<w0.heap.size:=hR.lt;obtain⟨HP,HR,HL,HNW⟩:=sqJ4 (show ∀W,Below w0.heap.size w0 W->Arr W H 55 (orC kd n dg D ps A c A' c') from fun W h=>hP.below h) (show ∀W,Below w0.heap.size w0 W->Arr W (H+1) 48 Kw from fun W h=>hR.below h) hL hNw;obtain⟨x0,x1,x2,x3,x4⟩:=sqC5 hP;have HW0:=sqH hw0;have HH:=sqH hH;rw [hw0,hH]at x0 x1 x2 x3 x4;clear hb hbw hbx hd hq hP hR hL hw0 hH hNw;go_enter func76,ntmps76
 refine wI 8 ?_;intros;rw [<-HW0.o,<-HH.o];clear x0 x1 x2 x3 x4;obtain⟨p0,p1,p2,p3,p4,p5,p6,p7⟩:=HBC.o _ (Below.refl _ _);by_cases hph:co.aJ=0
 ·have hp:((co.aJ:Int) != 0)=false:=by rw [hph];rfl
  have HPH:=sqH hph;have HBG:=sqH (VV X cX Y dY s w0 HL.o.s (HDK.o _ (Below.refl _ _)).rd.s);clear hph
  refine wH ?_;intros;refine HBG.o.mono ?_;rintro e_ w3 ⟨v1,v2,v3,rfl,ho,hl,hb3⟩;dsimp only;obtain⟨A1,c1,B1,d1,rfl,rfl, -⟩:=ho.rows;obtain⟨G1,n1,rfl, -, -⟩:=Rd.of_own' hl;have HKP:=sqH (KL g ⟨X,cX,Y,dY,G,ng,F,cF⟩ ⟨s,co,fs⟩ _ _ _ (Xo s) (UE s) 0 w3 (fun b=>N b\/b=H+1) (.inl hNg) ((HDK.o _ hb3).mono fun b hb=>hb.imp id fun h=>wj) (fun _=>⟨(ho.lower (show g+1<=w0.heap.size by omega)).mono (fun b hb=>by rcases hb with hb | hb;(have:=HNW.o b hb;omega);omega),zb hl (show g+1<=w0.heap.size by omega)⟩));have HB:=sqH hb3;clear p0 p1 p2 p3 p4 p5 p6 p7 ho hl hb3 HBG hp
  refine wH ?_;intros;refine(HKP.o).mono ?_;rintro e_ w4 ⟨rfl,hg4,hd4⟩;dsimp only;have hr3:=(HR.o _ HB.o).grown hg4 aa;have HX:=sqH (aD hd4 (zQ (HBX.o.trans (HB.o.mono hws)) hg4));clear HKP hd4 hg4;obtain⟨f0,f1,f2,f3,f4,f5⟩:=sqF6 hr3;obtain⟨y0,y1,y2,y3,y4,y5⟩:=sqC6 hr3;have HR3:=sqH hr3;have HF:=sqH (hr3.all6 (ax ay ((0:Nat):Int)) (az ⟨#[]⟩) (aw aB 0 0) (aw aB 0 0) (ax ay 0) (aw aB 0 0));clear hr3
  refine wH ?_;intros;refine bodyPost_ret (results_cell_row rfl _ _ (H+1) _ _ _ _ wu HF.o underlying48 rfl wm) rfl ?_;have e1:roomD ⟨s,co,fs⟩ ⟨kd,n,dg,D,ps⟩=(zJ ⟨s,co,fs⟩ (Xo s) (UE s) 0,Yq 0):=by
   unfold roomD;rw [if_neg (show ¬(kd=9) by have:=HK.o;omega),if_pos (show kd=10 from HK.o),if_pos (show co.aJ=0 from HPH.o)];rfl
  rw [e1];obtain⟨⟨p',hd4⟩,hg5⟩:=HX.o;exact⟨_,_,_,rfl,zl hg5 hHw1 _ _ _ _ _ _,⟨p',(hd4.set6 HR3.o (.inr rfl) hgH _ _ _ _ _ _).mono fun b h=> .inl h⟩,.e_ _⟩
 ·have hp:((co.aJ:Int) != 0)=true:=by rw [bne_iff_ne];omega
  have HPH:=sqH hph;clear hph;have hr3:=HR.o _ (Below.refl _ _);have HX:=sqH (HDK.o _ (Below.refl _ _));clear p0 p1 p2 p3 p5 p6 p7;obtain⟨f0,f1,f2,f3,f4,f5⟩:=sqF6 hr3;obtain⟨y0,y1,y2,y3,y4,y5⟩:=sqC6 hr3;have HR3:=sqH hr3;have HF:=sqH (hr3.all6 (ax ay 6) (az ⟨#[]⟩) (aw aB 0 0) (aw aB 0 0) (ax ay 0) (aw aB 0 0));clear hr3
  refine wH ?_;intros;refine bodyPost_ret (results_cell_row rfl _ _ (H+1) _ _ _ _ wu HF.o underlying48 rfl wm) rfl ?_;have e1:roomD ⟨s,co,fs⟩ ⟨kd,n,dg,D,ps⟩=(⟨s,co,fs⟩,Yq 6):=by
   unfold roomD;rw [if_neg (show ¬(kd=9) by have:=HK.o;omega),if_pos (show kd=10 from HK.o),if_neg (show ¬(co.aJ=0) from HPH.o)]
  rw [e1];exact⟨_,_,_,rfl,zl (q6 HBX.o (aC g)) hHw1 _ _ _ _ _ _,⟨_,(HX.o.set6 HR3.o (.inr hHw1) hgH _ _ _ _ _ _).mono fun b h=> .inl h⟩,.e_ _⟩
theorem ju (h:n=0\/c.aJ=0):ticks n s c g=(s,c,g):=by
 cases n with
 | zero=>rfl
 | succ n=>unfold ticks;rw [if_pos (h.resolve_left wj)]
theorem Yy (h:c.aJ≠0):ticks (n+1) s c g=ticks n (zU s c).1 (zU s c).2.1 (g+if (zU s c).2.2= [] then 0 else 1):=by
 rw [ticks,if_neg h]
theorem z01 (g:Nat) (p:LoW) (l:LoP) (kd n:Nat) (dg D:ac) (ps:List PartP) (A:ae) (c:Nat) (A':ae) (c':Nat) (w:World) (hL:GoodL l) (h8:8*unm l.st.aE+l.co.aI.length<=1000) (hn:n<=4000) (h1:kd=11) (N:ai) (hNg:N g) (hNw:∀b,N b->b<w.heap.size) (hb:DkB w g p l N) (hd:Sl w 1 A D.length c (bys D)) (hq:Sl w 3 A' ps.length c' (pcs ps)) :
  Calls Tryz.prog 76 #[.pointer (aC ⟨g,0,aB⟩),orV kd n dg D ps A c A' c'] w (kb w g N (roomD l ⟨kd,n,dg,D,ps⟩)):=by
 have k1:((kd:Int)==9)=false:=by rw [beq_eq_false_iff_ne];omega
 have k2:((kd:Int)==10)=false:=by rw [beq_eq_false_iff_ne];omega
 obtain⟨HK,HN4,H8⟩:=sqJ3 h1 hn h8;clear h1 hn h8;obtain⟨X,cX,Y,dY,G,ng,F,cF⟩:=p;obtain⟨s,co,fs⟩:=l;have hgl:=hb.lt;have hgw:=hb.lt;have hbw:=hb.wider (N':=fun b=>N b\/w.heap.size<=b) (fun b h=>h);obtain⟨w0,hw0,hP,hR,hbx⟩:=zn w 55 48 [ax ay kd,ax ay n,az ⟨dg.toArray⟩,aw A D.length c,aw A' ps.length c'] [ax ay 0,az ⟨#[]⟩,aw aB 0 0,aw aB 0 0,ax ay 0,aw aB 0 0];have HDK:=sqH (show ∀W,Below w0.heap.size w0 W->DkB W g ⟨X,cX,Y,dY,G,ng,F,cF⟩ ⟨s,co,fs⟩ (fun b=>N b\/w.heap.size<=b) from fun W h=>(hbw.below hbx).below h);have HBC:=sqH (show ∀W,Below w0.heap.size w0 W->wF W g (aw X s.aE.length cX) (aw Y s.aF.length dY) (ax ay s.aH) (ax ay s.aG) (ax ay co.aJ) (aw G co.aI.length ng) (az ⟨co.at_.toArray⟩) (aw F fs.length cF) from fun W h=>by
  have b:=(HDK.o W h).box;exact sqC8 b)
 have hws:=hbx.size;obtain⟨HBX,HD,HQ⟩:=sqJ3 hbx (hd.below hbx) (hq.below hbx);obtain⟨H,hH⟩:=wU w.heap.size
 rw [<-hH]at hP hR hgl;have hHw:w.heap.size<=H:=wj;have hHw1:w.heap.size<=H+1:=wj;have hgH:g≠H+1:=wj;have hHl:H+1<w0.heap.size:=hR.lt;obtain⟨HP,HR,HL,HNW⟩:=sqJ4 (show ∀W,Below w0.heap.size w0 W->Arr W H 55 (orC kd n dg D ps A c A' c') from fun W h=>hP.below h) (show ∀W,Below w0.heap.size w0 W->Arr W (H+1) 48 Kw from fun W h=>hR.below h) hL hNw;obtain⟨x0,x1,x2,x3,x4⟩:=sqC5 hP;have HW0:=sqH hw0;have HH:=sqH hH;rw [hw0,hH]at x0 x1 x2 x3 x4;clear hb hbw hbx hd hq hP hR hL hw0 hH hNw;go_enter func76,ntmps76
 refine wI 11 ?_;intros;rw [<-HW0.o,<-HH.o];clear x0 x1 x2 x3 x4;obtain⟨p0,p1,p2,p3,p4,p5,p6,p7⟩:=HBC.o _ (Below.refl _ _);by_cases hph:co.aJ=0
 ·have hp:((co.aJ:Int)==0)=true:=by rw [hph];rfl
  have HPH:=sqH hph;clear hph;have hr3:=HR.o _ (Below.refl _ _);have HX:=sqH (HDK.o _ (Below.refl _ _));clear p0 p1 p2 p3 p5 p6 p7;obtain⟨f0,f1,f2,f3,f4,f5⟩:=sqF6 hr3;obtain⟨y0,y1,y2,y3,y4,y5⟩:=sqC6 hr3;have HR3:=sqH hr3;have HF:=sqH (hr3.all6 (ax ay 11) (az ⟨#[]⟩) (aw aB 0 0) (aw aB 0 0) (ax ay 0) (aw aB 0 0));clear hr3
  refine wH ?_;intros;refine bodyPost_ret (results_cell_row rfl _ _ (H+1) _ _ _ _ wu HF.o underlying48 rfl wm) rfl ?_;have e1:roomD ⟨s,co,fs⟩ ⟨kd,n,dg,D,ps⟩=(⟨s,co,fs⟩,Yq 11):=by
   unfold roomD;rw [if_neg (show ¬(kd=9) by have:=HK.o;omega),if_neg (show ¬(kd=10) by have:=HK.o;omega),if_pos (show co.aJ=0 from HPH.o)]
  rw [e1];exact⟨_,_,_,rfl,zl (q6 HBX.o (aC g)) hHw1 _ _ _ _ _ _,⟨_,(HX.o.set6 HR3.o (.inr hHw1) hgH _ _ _ _ _ _).mono fun b h=> .inl h⟩,.e_ _⟩
 ·have hp:((co.aJ:Int)==0)=false:=by rw [beq_eq_false_iff_ne];omega
  have HPH:=sqH hph;clear hph p0 p1 p2 p3 p5 p6 p7 HBC
  refine wH ?_;intros;clear p4;go_loopg [9,10] n (fun gn u9 u10 wr=>∃(i go:Nat) (t:StoP) (c2:ColP) (p:LoW),gn=n - i/\u9= ax ay go/\u10= ax ay i/\i<=n/\go<=i/\GoodS t/\GoodC t c2/\8*unm t.aE+c2.aI.length<=1000/\ticks (n - i) t c2 go=ticks n s co 0/\w.grownBy wr (aC g)/\DkB wr g p ⟨t,c2,fs⟩ (fun b=>N b\/b=H+1)/\Arr wr H 55 (orC kd n dg D ps A c A' c')/\Arr wr (H+1) 48 Kw)
  case atStart=>exact⟨0,0,s,co,_,rfl,rfl,rfl,Nat.zero_le _,Nat.le_refl _,HL.o.s,HL.o.c,H8.o,rfl,q6 HBX.o _,(HDK.o _ (Below.refl _ _)).mono (fun b hb=>hb.imp id fun h=>wj),HP.o _ (Below.refl _ _),HR.o _ (Below.refl _ _)⟩
  case round =>
   obtain⟨i,go,t,c2,p,hgk,rfl,rfl,hi,hgi,hgs,hgc,hgl2,htk,hgw2,hdb,hpo,hre⟩:=hrel;obtain⟨X,cX,Y,dY,G,ng,F,cF⟩:=p;obtain⟨HGK,HGS,HDB,HPO,HRE,HI⟩:=sqJ6 hgk (aD hgs (aD hgc (aD hgl2 (aD htk hgw2)))) hdb hpo hre (aD hi hgi);have hwr:w.heap.size<=wr.heap.size:=hgw2.size;have hHr:H+1<wr.heap.size:=hre.lt;have hgr':g<wr.heap.size:=hdb.lt;have hn63:=HN4.o;have o1:=hpo.c1;have p4:wr.cell? ⟨g,4,aB⟩=aC (ax ay c2.aJ):=hdb.box.c4;clear hgk hgs hgc hgl2 htk hgw2 hdb hpo hre hi hgi;have hilt:(i:Int)<=4000:=by have:=HI.o;omega
   by_cases hlt:i<n
   rotate_left
   ·have hc1:decide ((i:Int)<(n:Int))=false:=decide_eq_false wj;have hc1':decide (i<n)=false:=decide_eq_false hlt;have HLT:=sqH (show n - i=0 by omega);clear hlt;have hr3:=HRE.o;obtain⟨f0,f1,f2,f3,f4,f5⟩:=sqF6 hr3;obtain⟨y0,y1,y2,y3,y4,y5⟩:=sqC6 hr3;have HR3:=sqH hr3;have HF:=sqH (hr3.all6 (ax ay 0) (az ⟨#[]⟩) (aw aB 0 0) (aw aB 0 0) (ax ay go) (aw aB 0 0));clear hr3
    refine wH ?_;intros;refine bodyPost_ret (results_cell_row rfl _ _ (H+1) _ _ _ _ wu HF.o underlying48 rfl wm) rfl ?_;obtain⟨hgs,hgc,hgl2,htk,hgw2⟩:=HGS.o;have e1:roomD ⟨s,co,fs⟩ ⟨kd,n,dg,D,ps⟩=(⟨t,c2,fs⟩,⟨0, [], [], [],go, []⟩):=by
     unfold roomD;rw [if_neg (show ¬(kd=9) by have:=HK.o;omega),if_neg (show ¬(kd=10) by have:=HK.o;omega),if_neg (show ¬(co.aJ=0) from HPH.o)];dsimp only;rw [<-htk,ju (.inl HLT.o)]
    rw [e1];exact⟨_,_,_,rfl,zl hgw2 hHw1 _ _ _ _ _ _,⟨_,(HDB.o.set6 HR3.o (.inr rfl) hgH _ _ _ _ _ _).mono fun b h=> .inl h⟩,⟨World.ownsRow_nil _ _ _ _,World.ownsRow_nil _ _ _ _,World.ownsRow_nil _ _ _ _⟩⟩
   have hc1:decide ((i:Int)<(n:Int))=true:=decide_eq_true wj;have hc1':decide (i<n)=true:=decide_eq_true hlt;by_cases hp2:c2.aJ=0
   ·have hc2:((c2.aJ:Int) != 0)=false:=by rw [hp2];rfl
    have HLT:=sqH hp2;clear hlt hp2;have hr3:=HRE.o;obtain⟨f0,f1,f2,f3,f4,f5⟩:=sqF6 hr3;obtain⟨y0,y1,y2,y3,y4,y5⟩:=sqC6 hr3;have HR3:=sqH hr3;have HF:=sqH (hr3.all6 (ax ay 0) (az ⟨#[]⟩) (aw aB 0 0) (aw aB 0 0) (ax ay go) (aw aB 0 0));clear hr3
    refine wH ?_;intros;refine bodyPost_ret (results_cell_row rfl _ _ (H+1) _ _ _ _ wu HF.o underlying48 rfl wm) rfl ?_;obtain⟨hgs,hgc,hgl2,htk,hgw2⟩:=HGS.o;have e1:roomD ⟨s,co,fs⟩ ⟨kd,n,dg,D,ps⟩=(⟨t,c2,fs⟩,⟨0, [], [], [],go, []⟩):=by
     unfold roomD;rw [if_neg (show ¬(kd=9) by have:=HK.o;omega),if_neg (show ¬(kd=10) by have:=HK.o;omega),if_neg (show ¬(co.aJ=0) from HPH.o)];dsimp only;rw [<-htk,ju (.inr HLT.o)]
    rw [e1];exact⟨_,_,_,rfl,zl hgw2 hHw1 _ _ _ _ _ _,⟨_,(HDB.o.set6 HR3.o (.inr rfl) hgH _ _ _ _ _ _).mono fun b h=> .inl h⟩,⟨World.ownsRow_nil _ _ _ _,World.ownsRow_nil _ _ _ _,World.ownsRow_nil _ _ _ _⟩⟩
   have hc2:((c2.aJ:Int) != 0)=true:=by rw [bne_iff_ne];omega
   have HLT:=sqH (aD hlt hp2);clear hlt hp2;have HPB:=sqH (fun W (h:Below wr.heap.size wr W)=>VW X cX Y dY t G ng c2 W HGS.o.1 (HDB.o.below h).rd.s (by have:=HLT.o.2;have:=HGS.o.2.1.ph;omega) (by have:=HGS.o.2.2.1;omega) HGS.o.2.1 (HDB.o.below h).rd.c);obtain⟨m1,m2, -,m4,m5,m6⟩:=Q5 HGS.o.1 HGS.o.2.1 (show c2.aJ=1\/c2.aJ=2 by have:=HLT.o.2;have:=HGS.o.2.1.ph;omega);have m7:=Q6 t c2;have m8:=Yy (n:=n - (i+1)) (s:=t) (g:=go) HLT.o.2;rw [show n - (i+1)+1=n - i by have:=HLT.o.1;omega]at m8;generalize htt:zU t c2=r at HPB m1 m2 m4 m5 m6 m7 m8;obtain⟨t1,cc1,dd⟩:=r;dsimp only at HPB m1 m2 m4 m5 m6 m7 m8;have HM:=sqH (aD m1 (aD m2 (aD m5 (aD m6 (aD m7 m8)))));clear htt m1 m2 m4 m5 m6 m7 m8;have HSB:=sqH (show ∀W,Below wr.heap.size wr W->wG W g (aw X t.aE.length cX) (aw Y t.aF.length dY) (ax ay t.aH) (ax ay t.aG) (ax ay c2.aJ) (aw G c2.aI.length ng) (az ⟨c2.at_.toArray⟩) from fun W h=>by
    have b:=(HDB.o.below h).box;exact sqC7 b)
   refine wJ 17 ?_;intros;clear o1 p4
   iterate 1 (first | go_values | go_skip | go_guarded | go_step | go_upon | go_back)
   apply zE;intro REST;apply zE;intro Rd1;apply zE;intro Rd2;apply zE;intro Rd3;apply zE;intro Rd4;refine ze [18,19] (S:=(fun w'=>wG w' g (aw X t.aE.length cX) (aw Y t.aF.length dY) (ax ay t.aH) (ax ay t.aG) (ax ay c2.aJ) (aw G c2.aI.length ng) (az ⟨c2.at_.toArray⟩))) wm ?_ (fun hHeld=> ?_)
   ·exact HSB.o _ (((wh wr)).drew)
   have hB:=((wh wr)).drew;generalize wr.drew=wn0 at *
   refine wP 0 ?_;refine wP 1 ?_;refine wP 2 ?_;refine wP 3 ?_;refine wO 4 ?_;refine wP 5 ?_;refine wP 6 ?_;refine wP 7 ?_;refine wP 8 ?_;refine wO 9 ?_;refine za (rs:= [10,16,17]) wm ws ?_;refine z8.cons (o:=_) rfl (fun K hK=> ?_) ?_
   ·
    go_simp;refine(HPB.o wn0 hB).mono ?_;rintro e5 w5 ⟨v1,v2,v3,rfl,ho5,hl5,hb5⟩;obtain⟨A1,c1,B1,d1,rfl,rfl, -⟩:=ho5.rows;obtain⟨G1,n1,rfl, -, -⟩:=Rd.of_own' hl5;dsimp only;refine zR hK ?_ (fun W=>Below wr.heap.size wr W/\OwSt W (g+1) (aw A1 t1.aE.length c1) (aw B1 t1.aF.length d1) t1 (fun b=>(N b\/b=H+1))/\W.ownsRow (g+1) 9 1 (aw G1 cc1.aI.length n1) cc1.aI.length (strs cc1.aI)) (fun W=>True) ?_ ?_ (fun wn1 hHeld2 hF _=> ?_)
    ·exact HSB.o _ ((wg hB hb5))
    ·exact⟨wg hB hb5,(ho5.lower (base':=(g+1)) (by have:=hB.size;omega)).mono (N':=(fun b=>(N b\/b=H+1))) (fun b hb=>by have:=hB.size;rcases hb with hb | hb;(have:=HNW.o b hb;omega);omega),zb hl5 (by have:=hB.size;omega)⟩
    ·trivial
    clear hB hHeld;have hHeld:=hHeld2;clear hHeld2;obtain⟨hB,ho,hl⟩:=hF;clear hb5 ho5 hl5;clear hK K
    refine wP 11 ?_;refine wP 12 ?_;refine wP 13 ?_;refine wP 14 ?_;refine wP 15 ?_;refine za (rs:= [16,17]) wm ws ?_;refine z8.cons (o:=_) rfl (fun K hK=> ?_) ?_
    ·
     have hba:=wi wn1 (aA #[aw aB 0 0,aw aB 0 0,ax ay 0,ax ay 0] 27);have hn:=Arr.new wn1 27 [aw aB 0 0,aw aB 0 0,ax ay 0,ax ay 0];have hnl:wr.heap.size<=wn1.heap.size:=hB.size;obtain⟨g5,hge⟩:=wU wn1.heap.size
     have hN:∀b,b=g5->wn1.heap.size<=b:=fun b h=>by rw [h,hge];exact Nat.le_refl _
     rw [<-hge]at hn hnl;go_simp;rw [<-hge];clear hge;refine zR hK ?_ (fun W=>Below wr.heap.size wr W/\Arr W g5 27 [aw aB 0 0,aw aB 0 0,ax ay 0,ax ay 0]/\wr.heap.size<=g5/\OwSt W (g+1) (aw A1 t1.aE.length c1) (aw B1 t1.aF.length d1) t1 (fun b=>(N b\/b=H+1)\/b=g5)/\W.ownsRow (g+1) 9 1 (aw G1 cc1.aI.length n1) cc1.aI.length (strs cc1.aI)) (fun W=>True) ?_ ?_ (fun wn2 hHeld2 hF _=> ?_)
     ·exact HSB.o _ ((wg hB hba))
     ·exact⟨wg hB hba,hn,hnl,(ho.wider (N':=(fun b=>(N b\/b=H+1)\/b=g5)) (fun b hb=>hb.elim (fun hb=> .inl hb) (fun hb=> .inr (hN _ hb)))).below hba,zc hl hba⟩
     ·trivial
     clear hl ho hB hHeld;have hHeld:=hHeld2;clear hHeld2;obtain⟨hB,h5,h5l,ho,hl⟩:=hF;clear hba hn hnl hN;clear hK K
     try simp only [sqP]
     have hall:=aD hB (aD h5 (aD h5l (aD ho (aD hl hHeld))));clear hHeld hl ho h5l h5 hB;generalize wn2=wz at hall ⊢
     revert hall;revert wz;revert g5;revert n1;revert G1;revert d1;revert B1;revert c1;revert A1;exact Rd2.o
    refine z8.cons (o:=_) rfl (fun K hK=> ?_) ?_
    ·
     have hba:=wi wn1 (aA #[ax ay 0,aw aB 0 0,az ⟨#[]⟩] 30);have hn:=Arr.new wn1 30 [ax ay 0,aw aB 0 0,az ⟨#[]⟩];have hnl:wr.heap.size<=wn1.heap.size:=hB.size;obtain⟨g6,hge⟩:=wU wn1.heap.size
     have hN:∀b,b=g6->wn1.heap.size<=b:=fun b h=>by rw [h,hge];exact Nat.le_refl _
     rw [<-hge]at hn hnl;go_simp;rw [<-hge];clear hge;refine zR hK ?_ (fun W=>Below wr.heap.size wr W/\Arr W g6 30 [ax ay 0,aw aB 0 0,az ⟨#[]⟩]/\wr.heap.size<=g6/\OwSt W (g+1) (aw A1 t1.aE.length c1) (aw B1 t1.aF.length d1) t1 (fun b=>(N b\/b=H+1)\/b=g6)/\W.ownsRow (g+1) 9 1 (aw G1 cc1.aI.length n1) cc1.aI.length (strs cc1.aI)) (fun W=>True) ?_ ?_ (fun wn3 hHeld2 hF _=> ?_)
     ·exact HSB.o _ ((wg hB hba))
     ·exact⟨wg hB hba,hn,hnl,(ho.wider (N':=(fun b=>(N b\/b=H+1)\/b=g6)) (fun b hb=>hb.elim (fun hb=> .inl hb) (fun hb=> .inr (hN _ hb)))).below hba,zc hl hba⟩
     ·trivial
     clear hl ho hB hHeld;have hHeld:=hHeld2;clear hHeld2;obtain⟨hB,h6,h6l,ho,hl⟩:=hF;clear hba hn hnl hN;clear hK K
     try simp only [sqP]
     have hall:=aD hB (aD h6 (aD h6l (aD ho (aD hl hHeld))));clear hHeld hl ho h6l h6 hB;generalize wn3=wz at hall ⊢
     revert hall;revert wz;revert g6;revert n1;revert G1;revert d1;revert B1;revert c1;revert A1;exact Rd3.o
    exact z8.nil
   refine z8.cons (o:=_) rfl (fun K hK=> ?_) ?_
   ·
    have hba:=wi wn0 (aA #[aw aB 0 0,aw aB 0 0,ax ay 0,ax ay 0] 27);have hn:=Arr.new wn0 27 [aw aB 0 0,aw aB 0 0,ax ay 0,ax ay 0];have hnl:wr.heap.size<=wn0.heap.size:=hB.size;obtain⟨g5,hge⟩:=wU wn0.heap.size
    have hN:∀b,b=g5->wn0.heap.size<=b:=fun b h=>by rw [h,hge];exact Nat.le_refl _
    rw [<-hge]at hn hnl;go_simp;rw [<-hge];clear hge;refine zR hK ?_ (fun W=>Below wr.heap.size wr W/\Arr W g5 27 [aw aB 0 0,aw aB 0 0,ax ay 0,ax ay 0]/\wr.heap.size<=g5) (fun W=>True) ?_ ?_ (fun wn4 hHeld2 hF _=> ?_)
    ·exact HSB.o _ ((wg hB hba))
    ·exact⟨wg hB hba,hn,hnl⟩
    ·trivial
    clear hB hHeld;have hHeld:=hHeld2;clear hHeld2;obtain⟨hB,h5,h5l⟩:=hF;clear hba hn hnl hN;clear hK K
    try simp only [sqP]
    refine za (rs:= [10,17]) wm ws ?_;refine z8.cons (o:=_) rfl (fun K hK=> ?_) ?_
    ·
     go_simp;refine(HPB.o wn4 hB).mono ?_;rintro e5 w5 ⟨v1,v2,v3,rfl,ho5,hl5,hb5⟩;obtain⟨A1,c1,B1,d1,rfl,rfl, -⟩:=ho5.rows;obtain⟨G1,n1,rfl, -, -⟩:=Rd.of_own' hl5;dsimp only;refine zR hK ?_ (fun W=>Below wr.heap.size wr W/\Arr W g5 27 [aw aB 0 0,aw aB 0 0,ax ay 0,ax ay 0]/\wr.heap.size<=g5/\OwSt W (g+1) (aw A1 t1.aE.length c1) (aw B1 t1.aF.length d1) t1 (fun b=>(N b\/b=H+1)\/b=g5)/\W.ownsRow (g+1) 9 1 (aw G1 cc1.aI.length n1) cc1.aI.length (strs cc1.aI)) (fun W=>True) ?_ ?_ (fun wn5 hHeld2 hF _=> ?_)
     ·exact HSB.o _ ((wg hB hb5))
     ·exact⟨wg hB hb5,h5.below hb5,h5l,(ho5.lower (base':=(g+1)) (by have:=hB.size;omega)).mono (N':=(fun b=>(N b\/b=H+1)\/b=g5)) (fun b hb=>hb.elim (fun hb=>by have:=hB.size;rcases hb with hb | hb;(have:=HNW.o b hb;omega);omega) (fun hb=>(by rw [hb];exact h5.lt))),zb hl5 (by have:=hB.size;omega)⟩
     ·trivial
     clear h5l h5 hB hHeld;have hHeld:=hHeld2;clear hHeld2;obtain⟨hB,h5,h5l,ho,hl⟩:=hF;clear hb5 ho5 hl5;clear hK K
     refine wP 11 ?_;refine wP 12 ?_;refine wP 13 ?_;refine wP 14 ?_;refine wP 15 ?_;have hall:=aD hB (aD h5 (aD h5l (aD ho (aD hl hHeld))));clear hHeld hl ho h5l h5 hB;generalize wn5=wz at hall ⊢
     revert hall;revert wz;revert g5;revert n1;revert G1;revert d1;revert B1;revert c1;revert A1;exact Rd2.o
    refine z8.cons (o:=_) rfl (fun K hK=> ?_) ?_
    ·
     have hba:=wi wn4 (aA #[ax ay 0,aw aB 0 0,az ⟨#[]⟩] 30);have hn:=Arr.new wn4 30 [ax ay 0,aw aB 0 0,az ⟨#[]⟩];have hnl:wr.heap.size<=wn4.heap.size:=hB.size;obtain⟨g6,hge⟩:=wU wn4.heap.size
     have hN:∀b,b=g6->wn4.heap.size<=b:=fun b h=>by rw [h,hge];exact Nat.le_refl _
     rw [<-hge]at hn hnl;go_simp;rw [<-hge];clear hge;refine zR hK ?_ (fun W=>Below wr.heap.size wr W/\Arr W g5 27 [aw aB 0 0,aw aB 0 0,ax ay 0,ax ay 0]/\wr.heap.size<=g5/\Arr W g6 30 [ax ay 0,aw aB 0 0,az ⟨#[]⟩]/\wr.heap.size<=g6/\g5≠g6) (fun W=>True) ?_ ?_ (fun wn6 hHeld2 hF _=> ?_)
     ·exact HSB.o _ ((wg hB hba))
     ·exact⟨wg hB hba,h5.below hba,h5l,hn,hnl,(fun e=>Nat.lt_irrefl _ (by have h1:=h5.lt;rw [e]at h1;exact Nat.lt_of_lt_of_le h1 (hN _ rfl)))⟩
     ·trivial
     clear h5l h5 hB hHeld;have hHeld:=hHeld2;clear hHeld2;obtain⟨hB,h5,h5l,h6,h6l,h56n⟩:=hF;clear hba hn hnl hN;clear hK K
     try simp only [sqP]
     have hall:=aD hB (aD h5 (aD h5l (aD h6 (aD h6l (aD h56n hHeld)))));clear hHeld h56n h6l h6 h5l h5 hB;generalize wn6=wz at hall ⊢
     revert hall;revert wz;revert g6;revert g5;exact Rd4.o
    exact z8.nil
   refine z8.cons (o:=_) rfl (fun K hK=> ?_) ?_
   ·
    have hba:=wi wn0 (aA #[ax ay 0,aw aB 0 0,az ⟨#[]⟩] 30);have hn:=Arr.new wn0 30 [ax ay 0,aw aB 0 0,az ⟨#[]⟩];have hnl:wr.heap.size<=wn0.heap.size:=hB.size;obtain⟨g6,hge⟩:=wU wn0.heap.size
    have hN:∀b,b=g6->wn0.heap.size<=b:=fun b h=>by rw [h,hge];exact Nat.le_refl _
    rw [<-hge]at hn hnl;go_simp;rw [<-hge];clear hge;refine zR hK ?_ (fun W=>Below wr.heap.size wr W/\Arr W g6 30 [ax ay 0,aw aB 0 0,az ⟨#[]⟩]/\wr.heap.size<=g6) (fun W=>True) ?_ ?_ (fun wn7 hHeld2 hF _=> ?_)
    ·exact HSB.o _ ((wg hB hba))
    ·exact⟨wg hB hba,hn,hnl⟩
    ·trivial
    clear hB hHeld;have hHeld:=hHeld2;clear hHeld2;obtain⟨hB,h6,h6l⟩:=hF;clear hba hn hnl hN;clear hK K
    try simp only [sqP]
    refine za (rs:= [10,16]) wm ws ?_;refine z8.cons (o:=_) rfl (fun K hK=> ?_) ?_
    ·
     go_simp;refine(HPB.o wn7 hB).mono ?_;rintro e5 w5 ⟨v1,v2,v3,rfl,ho5,hl5,hb5⟩;obtain⟨A1,c1,B1,d1,rfl,rfl, -⟩:=ho5.rows;obtain⟨G1,n1,rfl, -, -⟩:=Rd.of_own' hl5;dsimp only;refine zR hK ?_ (fun W=>Below wr.heap.size wr W/\Arr W g6 30 [ax ay 0,aw aB 0 0,az ⟨#[]⟩]/\wr.heap.size<=g6/\OwSt W (g+1) (aw A1 t1.aE.length c1) (aw B1 t1.aF.length d1) t1 (fun b=>(N b\/b=H+1)\/b=g6)/\W.ownsRow (g+1) 9 1 (aw G1 cc1.aI.length n1) cc1.aI.length (strs cc1.aI)) (fun W=>True) ?_ ?_ (fun wn8 hHeld2 hF _=> ?_)
     ·exact HSB.o _ ((wg hB hb5))
     ·exact⟨wg hB hb5,h6.below hb5,h6l,(ho5.lower (base':=(g+1)) (by have:=hB.size;omega)).mono (N':=(fun b=>(N b\/b=H+1)\/b=g6)) (fun b hb=>hb.elim (fun hb=>by have:=hB.size;rcases hb with hb | hb;(have:=HNW.o b hb;omega);omega) (fun hb=>(by rw [hb];exact h6.lt))),zb hl5 (by have:=hB.size;omega)⟩
     ·trivial
     clear h6l h6 hB hHeld;have hHeld:=hHeld2;clear hHeld2;obtain⟨hB,h6,h6l,ho,hl⟩:=hF;clear hb5 ho5 hl5;clear hK K
     refine wP 11 ?_;refine wP 12 ?_;refine wP 13 ?_;refine wP 14 ?_;refine wP 15 ?_;have hall:=aD hB (aD h6 (aD h6l (aD ho (aD hl hHeld))));clear hHeld hl ho h6l h6 hB;generalize wn8=wz at hall ⊢
     revert hall;revert wz;revert g6;revert n1;revert G1;revert d1;revert B1;revert c1;revert A1;exact Rd3.o
    refine z8.cons (o:=_) rfl (fun K hK=> ?_) ?_
    ·
     have hba:=wi wn7 (aA #[aw aB 0 0,aw aB 0 0,ax ay 0,ax ay 0] 27);have hn:=Arr.new wn7 27 [aw aB 0 0,aw aB 0 0,ax ay 0,ax ay 0];have hnl:wr.heap.size<=wn7.heap.size:=hB.size;obtain⟨g5,hge⟩:=wU wn7.heap.size
     have hN:∀b,b=g5->wn7.heap.size<=b:=fun b h=>by rw [h,hge];exact Nat.le_refl _
     rw [<-hge]at hn hnl;go_simp;rw [<-hge];clear hge;refine zR hK ?_ (fun W=>Below wr.heap.size wr W/\Arr W g5 27 [aw aB 0 0,aw aB 0 0,ax ay 0,ax ay 0]/\wr.heap.size<=g5/\Arr W g6 30 [ax ay 0,aw aB 0 0,az ⟨#[]⟩]/\wr.heap.size<=g6/\g5≠g6) (fun W=>True) ?_ ?_ (fun wn9 hHeld2 hF _=> ?_)
     ·exact HSB.o _ ((wg hB hba))
     ·exact⟨wg hB hba,hn,hnl,h6.below hba,h6l,(fun e=>Nat.lt_irrefl _ (by have h1:=h6.lt;rw [<-e]at h1;exact Nat.lt_of_lt_of_le h1 (hN _ rfl)))⟩
     ·trivial
     clear h6l h6 hB hHeld;have hHeld:=hHeld2;clear hHeld2;obtain⟨hB,h5,h5l,h6,h6l,h56n⟩:=hF;clear hba hn hnl hN;clear hK K
     try simp only [sqP]
     have hall:=aD hB (aD h5 (aD h5l (aD h6 (aD h6l (aD h56n hHeld)))));clear hHeld h56n h6l h6 h5l h5 hB;generalize wn9=wz at hall ⊢
     revert hall;revert wz;revert g6;revert g5;exact Rd4.o
    exact z8.nil
   exact z8.nil;intro g5 g6 wRd4 hall;obtain⟨hB,h5,h5l,h6,h6l,h56n,hHeld⟩:=hall;refine za (rs:= [10]) wm ws ?_;refine z8.cons (o:=_) rfl (fun K hK=> ?_) ?_
   ·
    go_simp;refine(HPB.o wRd4 hB).mono ?_;rintro e5 w5 ⟨v1,v2,v3,rfl,ho5,hl5,hb5⟩;obtain⟨A1,c1,B1,d1,rfl,rfl, -⟩:=ho5.rows;obtain⟨G1,n1,rfl, -, -⟩:=Rd.of_own' hl5;dsimp only;refine zR hK ?_ (fun W=>Below wr.heap.size wr W/\Arr W g5 27 [aw aB 0 0,aw aB 0 0,ax ay 0,ax ay 0]/\wr.heap.size<=g5/\Arr W g6 30 [ax ay 0,aw aB 0 0,az ⟨#[]⟩]/\wr.heap.size<=g6/\g5≠g6/\OwSt W (g+1) (aw A1 t1.aE.length c1) (aw B1 t1.aF.length d1) t1 (fun b=>(N b\/b=H+1)\/b=g5\/b=g6)/\W.ownsRow (g+1) 9 1 (aw G1 cc1.aI.length n1) cc1.aI.length (strs cc1.aI)) (fun W=>True) ?_ ?_ (fun wn10 hHeld2 hF _=> ?_)
    ·exact HSB.o _ ((wg hB hb5))
    ·exact⟨wg hB hb5,h5.below hb5,h5l,h6.below hb5,h6l,h56n,(ho5.lower (base':=(g+1)) (by have:=hB.size;omega)).mono (N':=(fun b=>(N b\/b=H+1)\/b=g5\/b=g6)) (fun b hb=>hb.elim (fun hb=>by have:=hB.size;rcases hb with hb | hb;(have:=HNW.o b hb;omega);omega) (fun hb=>hb.elim (fun hb=>by rw [hb];exact h5.lt) (fun hb=>(by rw [hb];exact h6.lt)))),zb hl5 (by have:=hB.size;omega)⟩
    ·trivial
    clear h56n h6l h6 h5l h5 hB hHeld;have hHeld:=hHeld2;clear hHeld2;obtain⟨hB,h5,h5l,h6,h6l,h56n,ho,hl⟩:=hF;clear hb5 ho5 hl5;clear hK K
    refine wP 11 ?_;refine wP 12 ?_;refine wP 13 ?_;refine wP 14 ?_;refine wP 15 ?_;have hall:=aD hB (aD h5 (aD h5l (aD h6 (aD h6l (aD h56n (aD ho (aD hl hHeld)))))));clear hHeld hl ho h56n h6l h6 h5l h5 hB;generalize wn10=wz at hall ⊢
    revert hall;revert wz;revert g6;revert g5;revert n1;revert G1;revert d1;revert B1;revert c1;revert A1;exact Rd1.o
   exact z8.nil;intro A1 c1 B1 d1 G1 n1 g6 wRd3 hall;obtain⟨hB,h6,h6l,ho,hl,hHeld⟩:=hall;refine za (rs:= [16]) wm ws ?_;refine z8.cons (o:=_) rfl (fun K hK=> ?_) ?_
   ·
    have hba:=wi wRd3 (aA #[aw aB 0 0,aw aB 0 0,ax ay 0,ax ay 0] 27);have hn:=Arr.new wRd3 27 [aw aB 0 0,aw aB 0 0,ax ay 0,ax ay 0];have hnl:wr.heap.size<=wRd3.heap.size:=hB.size;obtain⟨g5,hge⟩:=wU wRd3.heap.size
    have hN:∀b,b=g5->wRd3.heap.size<=b:=fun b h=>by rw [h,hge];exact Nat.le_refl _
    rw [<-hge]at hn hnl;go_simp;rw [<-hge];clear hge;refine zR hK ?_ (fun W=>Below wr.heap.size wr W/\Arr W g5 27 [aw aB 0 0,aw aB 0 0,ax ay 0,ax ay 0]/\wr.heap.size<=g5/\Arr W g6 30 [ax ay 0,aw aB 0 0,az ⟨#[]⟩]/\wr.heap.size<=g6/\g5≠g6/\OwSt W (g+1) (aw A1 t1.aE.length c1) (aw B1 t1.aF.length d1) t1 (fun b=>(N b\/b=H+1)\/b=g5\/b=g6)/\W.ownsRow (g+1) 9 1 (aw G1 cc1.aI.length n1) cc1.aI.length (strs cc1.aI)) (fun W=>True) ?_ ?_ (fun wn11 hHeld2 hF _=> ?_)
    ·exact HSB.o _ ((wg hB hba))
    ·exact⟨wg hB hba,hn,hnl,h6.below hba,h6l,(fun e=>Nat.lt_irrefl _ (by have h1:=h6.lt;rw [<-e]at h1;exact Nat.lt_of_lt_of_le h1 (hN _ rfl))),(ho.wider (N':=(fun b=>(N b\/b=H+1)\/b=g5\/b=g6)) (fun b hb=>hb.elim (fun hb=> .inl (.inl hb)) (fun hb=>hb.elim (fun hb=> .inr (hN _ hb)) (fun hb=> .inl (.inr hb))))).below hba,zc hl hba⟩
    ·trivial
    clear hl ho h6l h6 hB hHeld;have hHeld:=hHeld2;clear hHeld2;obtain⟨hB,h5,h5l,h6,h6l,h56n,ho,hl⟩:=hF;clear hba hn hnl hN;clear hK K
    try simp only [sqP]
    have hall:=aD hB (aD h5 (aD h5l (aD h6 (aD h6l (aD h56n (aD ho (aD hl hHeld)))))));clear hHeld hl ho h56n h6l h6 h5l h5 hB;generalize wn11=wz at hall ⊢
    revert hall;revert wz;revert g6;revert g5;revert n1;revert G1;revert d1;revert B1;revert c1;revert A1;exact Rd1.o
   exact z8.nil;intro A1 c1 B1 d1 G1 n1 g5 wRd2 hall;obtain⟨hB,h5,h5l,ho,hl,hHeld⟩:=hall;refine za (rs:= [17]) wm ws ?_;refine z8.cons (o:=_) rfl (fun K hK=> ?_) ?_
   ·
    have hba:=wi wRd2 (aA #[ax ay 0,aw aB 0 0,az ⟨#[]⟩] 30);have hn:=Arr.new wRd2 30 [ax ay 0,aw aB 0 0,az ⟨#[]⟩];have hnl:wr.heap.size<=wRd2.heap.size:=hB.size;obtain⟨g6,hge⟩:=wU wRd2.heap.size
    have hN:∀b,b=g6->wRd2.heap.size<=b:=fun b h=>by rw [h,hge];exact Nat.le_refl _
    rw [<-hge]at hn hnl;go_simp;rw [<-hge];clear hge;refine zR hK ?_ (fun W=>Below wr.heap.size wr W/\Arr W g5 27 [aw aB 0 0,aw aB 0 0,ax ay 0,ax ay 0]/\wr.heap.size<=g5/\Arr W g6 30 [ax ay 0,aw aB 0 0,az ⟨#[]⟩]/\wr.heap.size<=g6/\g5≠g6/\OwSt W (g+1) (aw A1 t1.aE.length c1) (aw B1 t1.aF.length d1) t1 (fun b=>(N b\/b=H+1)\/b=g5\/b=g6)/\W.ownsRow (g+1) 9 1 (aw G1 cc1.aI.length n1) cc1.aI.length (strs cc1.aI)) (fun W=>True) ?_ ?_ (fun wn12 hHeld2 hF _=> ?_)
    ·exact HSB.o _ ((wg hB hba))
    ·exact⟨wg hB hba,h5.below hba,h5l,hn,hnl,(fun e=>Nat.lt_irrefl _ (by have h1:=h5.lt;rw [e]at h1;exact Nat.lt_of_lt_of_le h1 (hN _ rfl))),(ho.wider (N':=(fun b=>(N b\/b=H+1)\/b=g5\/b=g6)) (fun b hb=>hb.elim (fun hb=> .inl (.inl hb)) (fun hb=>hb.elim (fun hb=> .inl (.inr hb)) (fun hb=> .inr (hN _ hb))))).below hba,zc hl hba⟩
    ·trivial
    clear hl ho h5l h5 hB hHeld;have hHeld:=hHeld2;clear hHeld2;obtain⟨hB,h5,h5l,h6,h6l,h56n,ho,hl⟩:=hF;clear hba hn hnl hN;clear hK K
    try simp only [sqP]
    have hall:=aD hB (aD h5 (aD h5l (aD h6 (aD h6l (aD h56n (aD ho (aD hl hHeld)))))));clear hHeld hl ho h56n h6l h6 h5l h5 hB;generalize wn12=wz at hall ⊢
    revert hall;revert wz;revert g6;revert g5;revert n1;revert G1;revert d1;revert B1;revert c1;revert A1;exact Rd1.o
   exact z8.nil;intro A1 c1 B1 d1 G1 n1 g5 g6 wRd1 hall;obtain⟨hB,h5,h5l,h6,h6l,h56n,ho,hl,hHeld⟩:=hall;refine za (rs:= [18]) wm ws ?_;refine z8.store (o:=_) rfl wu (fun K hK=> ?_) ?_
   ·
    have hqho:=ho.nb h5 wo wo;have hqhl:=zf hl h5 wo;obtain⟨z0,f0,z1,f1,z2,f2,z3,f3⟩:=wY h5;go_simp;clear z0 f0 z1 f1 z2 f2 z3 f3;refine vt hK (fun W=>Below wr.heap.size wr W/\Arr W g5 27 [(aw A1 t1.aE.length c1),(aw B1 t1.aF.length d1),ax ay t.aH,ax ay t.aG]/\wr.heap.size<=g5/\Arr W g6 30 [ax ay 0,aw aB 0 0,az ⟨#[]⟩]/\wr.heap.size<=g6/\g5≠g6/\OwSt W (g+1) (aw A1 t1.aE.length c1) (aw B1 t1.aF.length d1) t1 (fun b=>(N b\/b=H+1)\/b=g5\/b=g6)/\W.ownsRow (g+1) 9 1 (aw G1 cc1.aI.length n1) cc1.aI.length (strs cc1.aI)) (fun W=>True) ?_ ?_ (fun wn13 hF _=> ?_)
    ·exact⟨((((hB).setCell (p:=⟨g5,0,aB⟩) h5l _).setCell (p:=⟨g5,1,aB⟩) h5l _).setCell (p:=⟨g5,2,aB⟩) h5l _).setCell (p:=⟨g5,3,aB⟩) h5l _,h5.all4 _ _ _ _,h5l,((((h6).other (h56n.symm) _).other (h56n.symm) _).other (h56n.symm) _).other (h56n.symm) _,h6l,h56n,ho.set4N (.inr (.inl rfl)) hqho.1 hqho.2 _ _ _ _,qA hl hqhl _ _ _ _⟩
    ·trivial
    clear hl ho h56n h6l h6 h5l h5 hB hHeld;obtain⟨hB,h5,h5l,h6,h6l,h56n,ho,hl⟩:=hF;clear hqho hqhl;clear hK K
    try simp only [sqP]
    refine wS 19 fun K hK=>?_;have hqho:=ho.nb h6 wo wo;have hqhl:=zf hl h6 wo;obtain⟨z0,f0,z1,f1,z2,f2⟩:=wZ h6;go_simp;clear z0 f0 z1 f1 z2 f2;refine vt hK (fun W=>Below wr.heap.size wr W/\Arr W g5 27 [(aw A1 t1.aE.length c1),(aw B1 t1.aF.length d1),ax ay t.aH,ax ay t.aG]/\wr.heap.size<=g5/\Arr W g6 30 [ax ay cc1.aJ,(aw G1 cc1.aI.length n1),az ⟨cc1.at_.toArray⟩]/\wr.heap.size<=g6/\g5≠g6/\OwSt W (g+1) (aw A1 t1.aE.length c1) (aw B1 t1.aF.length d1) t1 (fun b=>(N b\/b=H+1)\/b=g5\/b=g6)/\W.ownsRow (g+1) 9 1 (aw G1 cc1.aI.length n1) cc1.aI.length (strs cc1.aI)) (fun W=>True) ?_ ?_ (fun wn14 hF _=> ?_)
    ·exact⟨(((hB).setCell (p:=⟨g6,0,aB⟩) h6l _).setCell (p:=⟨g6,1,aB⟩) h6l _).setCell (p:=⟨g6,2,aB⟩) h6l _,(((h5).other (h56n) _).other (h56n) _).other (h56n) _,h5l,h6.all3 _ _ _,h6l,h56n,ho.set3N (.inr (.inr rfl)) hqho.1 hqho.2 _ _ _,kv hl hqhl _ _ _⟩
    ·trivial
    clear hl ho h56n h6l h6 h5l h5 hB;obtain⟨hB,h5,h5l,h6,h6l,h56n,ho,hl⟩:=hF;clear hqho hqhl;clear hK K
    refine wP 20 ?_;refine wP 21 ?_;refine zp wm ?_ _
    try dsimp only [Exit.then]
    have hall:=aD hB (aD h5 (aD h5l (aD h6 (aD h6l (aD h56n (aD ho hl))))));clear hl ho h56n h6l h6 h5l h5 hB;generalize wn14=wz at hall ⊢
    revert hall;revert wz;revert g6;revert g5;revert n1;revert G1;revert d1;revert B1;revert c1;revert A1;exact REST.o
   exact z8.nil;intro A1 c1 B1 d1 G1 n1 g5 g6 w5 hall;obtain⟨hB,h5,h5l,h6,h6l,h56n,ho,hl⟩:=hall;have hdb5:=HDB.o.below hB;have hbb:Arr w5 g 82 [aw X t.aE.length cX,aw Y t.aF.length dY,ax ay t.aH,ax ay t.aG,ax ay c2.aJ,aw G c2.aI.length ng,az ⟨c2.at_.toArray⟩,aw F fs.length cF]:=hdb5.box;have n1':¬(g5=g):=wj;have n2':¬(g6=g):=wj;have hg7:=(zr (k:=6) (u:= az ⟨cc1.at_.toArray⟩) (zr (k:=5) (u:= aw G1 cc1.aI.length n1) (zr (k:=4) (u:= ax ay cc1.aJ) (zr (k:=3) (u:= ax ay t.aG) (zr (k:=2) (u:= ax ay t.aH) (zr (k:=1) (u:= aw B1 t1.aF.length d1) (zr (k:=0) (u:= aw A1 t1.aE.length c1) (World.grownBy.refl w5 (aC g)))))))))
   obtain⟨HA7,HG7,HOW,HB5⟩:=sqJ4 (hbb.fst7 (aw A1 t1.aE.length c1) (aw B1 t1.aF.length d1) (ax ay t.aH) (ax ay t.aG) (ax ay cc1.aJ) (aw G1 cc1.aI.length n1) (az ⟨cc1.at_.toArray⟩)) hg7 (show OwLo w5 (g+1) (aw A1 t1.aE.length c1) (aw B1 t1.aF.length d1) (aw G1 cc1.aI.length n1) (aw F fs.length cF) ⟨t1,cc1,fs⟩ (fun b=>N b\/b=H+1) from⟨ho.mono fun b hb=> .inl hb,hl,hdb5.own.f⟩) hB;obtain⟨d0,d1_,d2,d3,d4,d5,d6⟩:=sqC7 hbb;obtain⟨e0,e1,e2,e3,e4,e5,e6⟩:=sqF7 hbb;obtain⟨x0,x1,x2,x3⟩:=sqC4 h5;obtain⟨y0,y1,y2⟩:=sqC3 h6;have hdd:(⟨dd.toArray⟩:ByteArray).toList=dd:=ByteArray.toList_eq _;generalize hds:(⟨dd.toArray⟩:ByteArray)=ds at *
   have HDS:=sqH hds;have HDD:=sqH hdd;clear hdb5 hbb hg7 hB h5 h5l h6 h6l h56n ho hl HPB HSB hds hdd
   refine wJ 20 ?_;intros;iterate 1 (first | go_values | go_skip | go_guarded | go_step | go_upon | go_back)
   go_region
   all_goals (try dsimp only [Exit.then])
   clear d0 d1_ d2 d3 d4 d5 d6 e0 e1 e2 e3 e4 e5 e6 x0 x1 x2 x3 y0 y1 y2;obtain⟨p',hD⟩:=DkB.mk' (HOW.o.grownE HG7.o (Nat.lt_succ_self g) (.inl hNg)) (by
    show Arr _ g _ [_,_,ax ay t1.aH,ax ay t1.aG,_,_,_,_];rw [HM.o.2.2.1,HM.o.2.2.2.1];exact HA7.o)
   have HW7:=sqH (aD (hD.below (Below.refl _ _).drew) (aD (zP ((zP HGS.o.2.2.2.2 HB5.o).trans HG7.o) (Below.refl _ _).drew) (aD (Arr.drew ((HPO.o.below HB5.o).grown HG7.o aa)) (Arr.drew ((HRE.o.below HB5.o).grown HG7.o aa)))));clear hD HOW HA7 HG7;generalize (((((((w5.setCell ⟨g,0,aB⟩ (aw A1 t1.aE.length c1)).setCell ⟨g,1,aB⟩ (aw B1 t1.aF.length d1)).setCell ⟨g,2,aB⟩ (ax ay t.aH)).setCell ⟨g,3,aB⟩ (ax ay t.aG)).setCell ⟨g,4,aB⟩ (ax ay cc1.aJ)).setCell ⟨g,5,aB⟩ (aw G1 cc1.aI.length n1)).setCell ⟨g,6,aB⟩ (az ⟨cc1.at_.toArray⟩)).drew=w7 at *
   have hgo4:(go:Int)<=4000:=by have:=HI.o;omega
   by_cases hd:dd= []
   ·have e1:ds.toList.isEmpty=true:=by rw [HDD.o,hd];rfl
    have HDE:=sqH hd;clear hd
    refine wH ?_;intros;go_roundg (n - (i+1))
    case measure=>have:=HGK.o;have:=HLT.o.1;omega
    case rel =>
     have hm8:=HM.o.2.2.2.2.2;rw [HGS.o.2.2.2.1,if_pos HDE.o]at hm8;have hlt:=HLT.o.1;have hgi:=HI.o.2;exact⟨i+1,go,t1,cc1,p',rfl,rfl,by go_num,wj,wj,HM.o.1,HM.o.2.1,by have:=HM.o.2.2.2.2.1;have:=HGS.o.2.2.1;omega,hm8.symm,HW7.o.2.1,HW7.o.1,HW7.o.2.2.1,HW7.o.2.2.2⟩
   ·have e1:ds.toList.isEmpty=false:=by rw [HDD.o];cases dd with | nil=>exact absurd rfl hd | cons _ _=>rfl
    have HDE:=sqH hd;clear hd
    refine wH ?_;intros;go_roundg (n - (i+1))
    case measure=>have:=HGK.o;have:=HLT.o.1;omega
    case rel =>
     have hm8:=HM.o.2.2.2.2.2;rw [HGS.o.2.2.2.1,if_neg HDE.o]at hm8;have hlt:=HLT.o.1;have hgi:=HI.o.2;exact⟨i+1,go+1,t1,cc1,p',rfl,by go_num,by go_num,wj,wj,HM.o.1,HM.o.2.1,by have:=HM.o.2.2.2.2.1;have:=HGS.o.2.2.1;omega,hm8.symm,HW7.o.2.1,HW7.o.1,HW7.o.2.2.1,HW7.o.2.2.2⟩
end Go.Proofs.YtcjndgldjhmbgaaGreat
