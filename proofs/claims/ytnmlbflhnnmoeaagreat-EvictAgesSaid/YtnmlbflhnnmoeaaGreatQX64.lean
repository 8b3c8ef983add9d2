/- Lemmas of the proof. Conditions: as stated. -/
import Derived.Test.YtnmlbflhnnmoeaaGreatQX44
set_option linter.unusedVariables false
set_option linter.unusedSimpArgs false
set_option maxRecDepth 100000
set_option maxHeartbeats 16000000
namespace Go.Proofs.YtnmlbflhnnmoeaaGreat
open Go.RowKit
theorem Kz {w:World} {base base' size size' n n':Nat} {e e':TypeId} {v v':Value} {xs xs':List Value} (h:w.ownsRow base e size v n xs) (h':w.ownsRow base' e' size' v' n' xs') (hne:e≠e'):∀b,v.ownBlock=some b→v'.ownBlock≠some b:=fun b hb hb'=>by
 rcases h.2 with ⟨rfl,_⟩ | ⟨g,cap,cur,rfl,_,h2,_⟩
 ·cases hb
 ·cases hb
  rcases h'.2 with ⟨rfl,_⟩ | ⟨g',cap',cur',rfl,_,h3,_⟩
  ·cases hb'
  ·cases hb'
   have h4:=Eq.trans (Eq.symm h2) h3
   simp only [Option.some.injEq,Obj.cells.injEq]at h4
   exact hne h4.2.1
theorem RwX.own {α:Type} {S:Shp α} {w:World} {e:TypeId} {base:Nat} {v:Value} {l:List α} {N:Nat→Prop} (h:RwX S e w base v l N):∃xs,w.ownsRow base e S.size v l.length xs:=by
 obtain⟨ps,_,_,h3,_⟩:=h;exact⟨_,h3⟩
theorem OwSt.turnE {w w':World} {base:Nat} {v1 v2 v2':Value} {s:StoP} {N:Nat→Prop} {l:List EntP} (h:OwSt w base v1 v2 s N) (hb:RwX EntS 49 w' base v2' l (fun g=>N g∨v1.ownBlock=some g)) (hg:w.grownBy w' v2.ownBlock) (ho:v2'.ownBlock=v2.ownBlock) :
  OwSt w' base v1 v2' { s with ents:=l } N :=
 ⟨by rw [ho];exact h.b.other hg (fun b e1 e2=>h.ne b e2 e1) (fun b e=> .inr e),hb,fun g e1 e2=>h.ne g e1 (by rw [←ho];exact e2)⟩
structure RunW (w:World) (B G:Nat) (v1 v2 v3:Value) (t:StoP) (g:List (List UInt8)):Prop where
 box:Arr w G 26 [v1,v2,.int .i64 t.room,.int .i64 t.clock]
 st:OwSt w B v1 v2 t (fun b=>b<B∨b=G∨v3.ownBlock=some b)
 gone:w.ownsRow B 9 1 v3 g.length (strs g)
 gB:B≤G
section
variable {w w':World} {B G:Nat} {v1 v2 v3 v1' v2' v3':Value} {t:StoP} {g:List (List UInt8)}
theorem RunW.below (h:RunW w B G v1 v2 v3 t g) (hb:Below w.heap.size w w'):RunW w' B G v1 v2 v3 t g:=⟨h.box.below hb,h.st.below hb,z8 h.gone hb,h.gB⟩
theorem RunW.n1 (h:RunW w B G v1 v2 v3 t g):∀b,v3.ownBlock=some b→v1.ownBlock≠some b:=by
 obtain⟨xs,hx⟩:=h.st.b.own;exact Kz h.gone hx (by decide)
theorem RunW.n2 (h:RunW w B G v1 v2 v3 t g):∀b,v3.ownBlock=some b→v2.ownBlock≠some b:=by
 obtain⟨xs,hx⟩:=h.st.e.own;exact Kz h.gone hx (by decide)
theorem RunW.n3 (h:RunW w B G v1 v2 v3 t g):v3.ownBlock≠some G:=zg h.gone h.box (by decide)
theorem RunW.n4 (h:RunW w B G v1 v2 v3 t g):v1.ownBlock≠some G:=by
 obtain⟨xs,hx⟩:=h.st.b.own;exact zg hx h.box (by decide)
theorem RunW.n5 (h:RunW w B G v1 v2 v3 t g):v2.ownBlock≠some G:=by
 obtain⟨xs,hx⟩:=h.st.e.own;exact zg hx h.box (by decide)
theorem RunW.lt (h:RunW w B G v1 v2 v3 t g):G<w.heap.size:=h.box.lt
theorem RunW.key (h:RunW w B G v1 v2 v3 t g) {g':List (List UInt8)} (ho:w'.ownsRow B 9 1 v3' g'.length (strs g')) (hg:w.grownBy w' v3.ownBlock) (hv:v3'.ownBlock=v3.ownBlock∨∃b,v3'.ownBlock=some b∧w.heap.size≤b):RunW w' B G v1 v2 v3' t g':=by
 have h1:OwSt w B v1 v2 t (fun b=>b<B∨b=G∨v3'.ownBlock=some b∨v3.ownBlock=some b):=h.st.wider fun b hb=>by
  rcases hb with hb | hb | hb | hb
  ·exact .inl (.inl hb)
  ·exact .inl (.inr (.inl hb))
  ·rcases hv with e | ⟨b',e,hb'⟩
   ·exact .inl (.inr (.inr (by rw [←e];exact hb)))
   ·rw [e]at hb;cases hb;exact .inr hb'
  ·exact .inl (.inr (.inr hb))
 have h2:OwSt w' B v1 v2 t (fun b=>b<B∨b=G∨v3'.ownBlock=some b∨v3.ownBlock=some b) :=
  ⟨h1.b.other hg (fun b e=>h.n1 b e) (fun b e=> .inl (.inr (.inr (.inr e)))),h1.e.other hg (fun b e=>h.n2 b e) (fun b e=> .inl (.inr (.inr (.inr e)))),h1.ne⟩
 exact⟨h.box.grown hg h.n3,h2.mono (fun b hb=>hb.imp id (fun h=>h.imp id .inl)),ho,h.gB⟩
theorem RunW.del (h:RunW w B G v1 v2 v3 t g) {l:List EntP} (hx:RwX EntS 49 w' B v2' l (fun b=>(b<B∨b=G∨v3.ownBlock=some b)∨v1.ownBlock=some b)) (hg:w.grownBy w' v2.ownBlock) (ho:v2'.ownBlock=v2.ownBlock) :
  RunW (w'.setCell ⟨G,1,none⟩ v2') B G v1 v2' v3 { t with ents:=l } g:=by
 have h1:=h.st.turnE hx hg ho;have hb:=(h.box.grown hg h.n5).set (k:=1) (by simp) v2';have n5:v2'.ownBlock≠some G:=by rw [ho];exact h.n5
 have hgn:=h.gone.kept hg (by
  cases hb:v3.ownBlock with
  | none=>exact .inl rfl
  | some b=>exact .inr (fun e=>h.n2 b hb e.symm))
 exact⟨hb,h1.setX (.inr (.inl rfl)) h.n4 n5 v2',zf hgn h.n3,h.gB⟩
theorem RunW.cln_ (h:RunW w B G v1 v2 v3 t g) (hx:OwSt w' B v1' v2 (cln t) (fun b=>b<B∨b=G∨v3.ownBlock=some b)) (hg:w.grownBy w' v1.ownBlock) (ho:v1'.ownBlock=v1.ownBlock) :
  RunW ((((w'.setCell ⟨G,0,none⟩ v1').setCell ⟨G,1,none⟩ v2).setCell ⟨G,2,none⟩ (.int .i64 t.room)).setCell ⟨G,3,none⟩ (.int .i64 t.clock)) B G v1' v2 v3 (cln t) g:=by
 have hb:=(h.box.grown hg h.n4).all4 v1' v2 (.int .i64 t.room) (.int .i64 t.clock);have n4:v1'.ownBlock≠some G:=by rw [ho];exact h.n4
 have hgn:=h.gone.kept hg (by
  cases hb:v3.ownBlock with
  | none=>exact .inl rfl
  | some b=>exact .inr (fun e=>h.n1 b hb e.symm))
 refine⟨hb,?_,zf (zf (zf (zf hgn h.n3) h.n3) h.n3) h.n3,h.gB⟩;exact(((hx.setX (.inr (.inl rfl)) n4 h.n5 _).setX (.inr (.inl rfl)) n4 h.n5 _).setX (.inr (.inl rfl)) n4 h.n5 _).setX (.inr (.inl rfl)) n4 h.n5 _
end
noncomputable def z0z (e:Ending) (w w':World) (s:StoP):Option (StoP×List (List UInt8))→Prop
 | some (t,g)=>∃A c B d v3,e= .returned (.tuple #[.agg #[.slice A t.blobs.length c,.slice B t.ents.length d,.int .i64 s.room,.int .i64 s.clock],v3,.int .i64 0])∧RdSt w' A c B d t∧w'.ownsRow w.heap.size 9 1 v3 g.length (strs g)
 | none=>e= .returned (.tuple #[.agg #[.slice none 0 0,.slice none 0 0,.int .i64 0,.int .i64 0],.slice none 0 0,.int .i64 10])
noncomputable def z13 (e:Ending) (w w':World) (s:StoP):Option (StoP×List (List UInt8))→Prop
 | some (t,g)=>∃v1 v2 v3,e= .returned (.tuple #[.agg #[v1,v2,.int .i64 s.room,.int .i64 s.clock],v3,.int .i64 0])∧OwSt w' w.heap.size v1 v2 t (fun b=>b<w.heap.size)∧w'.ownsRow w.heap.size 9 1 v3 g.length (strs g)
 | none=>e= .returned (.tuple #[.agg #[.slice none 0 0,.slice none 0 0,.int .i64 0,.int .i64 0],.slice none 0 0,.int .i64 10])
theorem J5 (A:Option Addr) (c:Nat) (B:Option Addr) (d:Nat) (s:StoP) (more:Nat) (w:World) (hmore:more≤4000) (hg:GoodS s) (hr:RdSt w A c B d s) :
  Calls Tryz.prog 26 #[.agg #[.slice A s.blobs.length c,.slice B s.ents.length d,.int .i64 s.room,.int .i64 s.clock],.int .i64 more] w fun e w' =>
   z13 e w w' s (kS more s)∧Below w.heap.size w w':=by
 have hlb:s.blobs.length≤24:=hg.b.len;have hle:s.ents.length≤10:=hg.e.len;have hus:=hg.used;have HRO:=sqH hg.room;have HGD:=sqH hg;obtain⟨w0,hw0,hS,hR,hb0⟩:=qF w 26 [.slice A s.blobs.length c,.slice B s.ents.length d,.int .i64 s.room,.int .i64 s.clock] [.slice none 0 0,.slice none 0 0,.int .i64 0,.int .i64 0];have hr0:=hr.below hb0;obtain⟨H,hH⟩:∃H,H=w.heap.size:=⟨_,rfl⟩
 have HCK:=sqH (zF A c B d s w0 hg hr0);rw [←hH]at hS hR hb0 ⊢
 have hHl:H<w0.heap.size:=hS.lt;have hHr:H+1<w0.heap.size:=hR.lt;obtain⟨x0,x1,x2,x3⟩:=sqC4 hS;rw [hw0,hH]at x0 x1 x2 x3;have HPL:=sqH (show ∀b∈s.blobs,b.data.length≤1000000 from fun b hb=>by have:=(hg.b.one b hb).2.1;omega);have HQL:=sqH (show ∀x∈s.ents,x.parts.length≤1000000 from fun x hx=>by have:=(zj (hg.e.one x hx).2.1).1;omega);clear hg hr;go_enter Tryz.func26,Tryz.ntmps26;go_wp2_with fail;rw [←hw0,←hH];have HH:=sqH hH;clear hw0 hH x0 x1 x2 x3;refine HCK.out.mono ?_;rintro e_ w1 ⟨rfl,hb1⟩;dsimp only;have hr1:=hr0.below hb1;have hS1:=hS.below hb1;have z0:=hS1.cell (k:=0) rfl;have z2:=hS1.cell (k:=2) rfl;have HLK:=sqH (vi A c s.blobs s.room more w1 (by omega) (by have:=HRO.out;omega) HRO.out hmore hr1.b);clear hr0 hS HCK;go_wp2_with fail;clear z0 z2;refine HLK.out.mono ?_;rintro e_ w2 ⟨rfl,hb2⟩;dsimp only;have hc2:=hb1.trans (hb2.mono hb1.size);have hr2:=hr1.below hb2;have hS2:=hS1.below hb2;obtain⟨z0,z1,z2,z3⟩:=sqC4 hS2;have HCP:=sqH (qe A c B d s w2 (by omega) (by omega) HPL.out HQL.out hr2);clear hr1 hS1 hb1 hb2 HLK;go_wp2_with fail;clear z0 z1 z2 z3;refine HCP.out.mono ?_;rintro e_ w3 ⟨q1,q2,rfl,ho3,hb3⟩;dsimp only;have hc3:=hc2.trans (hb3.mono hc2.size);have ho3:=ho3.lower (base':=w0.heap.size) hc2.size;obtain⟨G,hG⟩:∃G,G=w3.heap.size:=⟨_,rfl⟩
 have HRW:=sqH (show RunW (w3.alloc (.cells #[.slice (some ⟨q1,0,none⟩) s.blobs.length s.blobs.length,.slice (some ⟨q2,0,none⟩) s.ents.length s.ents.length,.int .i64 s.room,.int .i64 s.clock] 26)) w0.heap.size G (.slice (some ⟨q1,0,none⟩) s.blobs.length s.blobs.length) (.slice (some ⟨q2,0,none⟩) s.ents.length s.ents.length) (.slice none 0 0) s [] by
  refine⟨by rw [hG];exact Arr.new w3 26 _,?_,World.ownsRow_nil _ _ _ _,by rw [hG];exact hc3.size⟩;refine(ho3.wider fun b hb=> ?_).below ((Below.refl w3.heap.size w3).alloc (Nat.le_refl _) _);rcases hb with hb | hb | hb
  ·exact .inl (Nat.lt_of_lt_of_le hb hc2.size)
  ·exact .inr (by rw [hb,hG];exact Nat.le_refl _)
  ·cases hb)
 have HBK:=sqH (hc3.alloc hc3.size (.cells #[.slice (some ⟨q1,0,none⟩) s.blobs.length s.blobs.length,.slice (some ⟨q2,0,none⟩) s.ents.length s.ents.length,.int .i64 s.room,.int .i64 s.clock] 26));have HRES:=sqH (show ∀W,Below w0.heap.size w0 W→Arr W (H+1) 26 [.slice none 0 0,.slice none 0 0,.int .i64 0,.int .i64 0] from fun W h=>hR.below h);have HB0:=sqH hb0;have HG:=sqH hG;clear hS2 hR hc2 hc3 ho3 hb3 hr2 HCP hb0 hG;go_wp2_with fail;rw [←HG.out];generalize (w3.alloc (.cells #[.slice (some ⟨q1,0,none⟩) s.blobs.length s.blobs.length,.slice (some ⟨q2,0,none⟩) s.ents.length s.ents.length,.int .i64 s.room,.int .i64 s.clock] 26))=w4 at *
 go_loopg [8,11,12] (s.ents.length+1) (fun gn u8 u11 u12 wr=>∃(t:StoP) (g:List (List UInt8)) (v1 v2 v3:Value) (f:Bool) (lk:Nat),gn=t.ents.length+(if f then 1 else 0)∧u8= .int .i64 lk∧u11=v3∧u12= .bool f∧lk=usd t.blobs+more - t.room∧GoodS t∧RunW wr w0.heap.size G v1 v2 v3 t g∧Below w0.heap.size w0 wr∧(if f then t=s∧g= [] else Z7 more (t.ents.length+1) t g=kS more s)∧t.room=s.room∧t.clock=s.clock∧g.length+t.ents.length≤10)
 case atStart=>exact⟨s, [],_,_,_,true,_,rfl,rfl,rfl,rfl,rfl,HGD.out,HRW.out,HBK.out,⟨rfl,rfl⟩,rfl,rfl,by simpa using hle⟩
 case round =>
  obtain⟨t,g,v1,v2,v3,f,lk,hgn,rfl,rfl,rfl,hlk,hgt,RW,hbk,hev,hrm,hck,hgl⟩:=hrel;have HGN:=sqH hgn;have HLKE:=sqH hlk;have HT:=sqH hgt;have HEV0:=sqH hev;have HRM:=sqH hrm;have HCK2:=sqH hck;have hlt:=hgt.e.len;have hlkm:lk≤100000:=by have:=hgt.used;have:=hgt.room;omega
  clear hgn hlk hgt hev hrm hck HRW HBK;rcases Nat.eq_zero_or_pos lk with h0 | h0
  ·have hd0:decide ((lk:Int)>0)=false:=decide_eq_false (by omega);have hd1:decide ((0:Int)<(lk:Int))=false:=decide_eq_false (by omega);have hd2:decide (0<lk)=false:=decide_eq_false (by omega);have HEN:=sqH (show kS more s=some (t,g) by
    have hev:=HEV0.out;have h1:usd t.blobs+more≤t.room:=by have:=HLKE.out;omega
    cases f with
    | true =>
     obtain⟨rfl,rfl⟩:t=s∧g= []:=hev;unfold kS;rw [if_pos h1]
    | false =>
     have hev':Z7 more (t.ents.length+1) t g=kS more s:=hev;rw [←hev',Z7,if_pos h1])
   obtain⟨A6,c6,B6,d6,e61,e62,hrd6⟩:=RW.st.rows;subst e61 e62;have hbx:=RW.box;rw [HRM.out,HCK2.out]at hbx;obtain⟨b0,b1,b2,b3⟩:=sqC4 hbx;have hcp:=qe A6 c6 B6 d6 t wr (by have:=HT.out.b.len;omega) (by omega) (fun b hb=>by have:=(HT.out.b.one b hb).2.1;omega) (fun x hx=>by have:=(zj (HT.out.e.one x hx).2.1).1;omega) hrd6;rw [HRM.out,HCK2.out]at hcp;have HCP:=sqH hcp;have HGO:=sqH RW.gone;have HBK9:=sqH hbk;clear hcp hbx hrd6 RW hbk;go_wp2_with fail;clear b0 b1 b2 b3;refine HCP.out.mono ?_;rintro e_ w9 ⟨g1,g2,rfl,ho9,hb9⟩;dsimp only;have hbk9:=HBK9.out.trans (hb9.mono HBK9.out.size);have hR9:=HRES.out _ hbk9;have hb19:=HB0.out.trans (hbk9.mono (Nat.le_of_lt hHl));obtain⟨A9,c9,B9,d9,e91,e92,hrd9⟩:=ho9.rows;have hgo9:=z8 HGO.out hb9;have n1:u11.ownBlock≠some (H+1):=zg hgo9 hR9 (by decide);obtain⟨f0,f1,f2,f3⟩:=sqF4 hR9;obtain⟨y0,y1,y2,y3⟩:=sqC4 hR9;have hfin:=hR9.all4 (.slice (some ⟨g1,0,none⟩) t.blobs.length t.blobs.length) (.slice (some ⟨g2,0,none⟩) t.ents.length t.ents.length) (.int .i64 s.room) (.int .i64 s.clock);have hwb:=HBK9.out.size;have hoF:=(((ho9.set (g:=H+1) (k:=0) (by omega) (by omega) (.slice (some ⟨g1,0,none⟩) t.blobs.length t.blobs.length)).set (g:=H+1) (k:=1) (by omega) (by omega) (.slice (some ⟨g2,0,none⟩) t.ents.length t.ents.length)).set (g:=H+1) (k:=2) (by omega) (by omega) (.int .i64 s.room)).set (g:=H+1) (k:=3) (by omega) (by omega) (.int .i64 s.clock);have hbF:=(((hb19.setCell (p:=⟨H+1,0,none⟩) (by simp only;omega) (.slice (some ⟨g1,0,none⟩) t.blobs.length t.blobs.length)).setCell (p:=⟨H+1,1,none⟩) (by simp only;omega) (.slice (some ⟨g2,0,none⟩) t.ents.length t.ents.length)).setCell (p:=⟨H+1,2,none⟩) (by simp only;omega) (.int .i64 s.room)).setCell (p:=⟨H+1,3,none⟩) (by simp only;omega) (.int .i64 s.clock);have HGO9:=sqH (ze (zf (k:=3) (u:= .int .i64 s.clock) (zf (k:=2) (u:= .int .i64 s.room) (zf (k:=1) (u:= .slice (some ⟨g2,0,none⟩) t.ents.length t.ents.length) (zf (k:=0) (u:= .slice (some ⟨g1,0,none⟩) t.blobs.length t.blobs.length) hgo9 n1) n1) n1) n1) (Nat.le_of_lt hHl));have HOF:=sqH hoF;have HBF:=sqH hbF;have HFIN:=sqH hfin;clear hfin hoF hbF hgo9 ho9 hb9 hbk9 hR9 hb19 e91 e92 hrd9 hwb n1;go_wp2_with fail;refine bodyPost_ret (zM rfl _ _ (H+1) _ _ _ _ (by rfl) HFIN.out Tryz.underlying26 rfl (by kernel_rfl)) rfl ?_;rw [HEN.out];have hwr:H≤wr.heap.size:=by have:=HBK9.out.size;omega
   refine⟨⟨_,_,u11,rfl,(HOF.out.lower (by rw [←HH.out];exact hwr)).mono (fun b hb=> ?_),by rw [←HH.out];exact HGO9.out⟩,HBF.out⟩;rw [←HH.out]at hb;omega
  ·have hd0:decide ((lk:Int)>0)=true:=decide_eq_true (by omega);have hd1:decide ((0:Int)<(lk:Int))=true:=decide_eq_true (by omega);have hd2:decide (0<lk)=true:=decide_eq_true (by omega);have HNF:=sqH (show ¬usd t.blobs+more≤t.room by have:=HLKE.out;omega);cases f with
   | true =>
    have HEV:=sqH (show Z7 more ((cln t).ents.length+1) (cln t) g=kS more s by
     obtain⟨rfl,rfl⟩:t=s∧g= []:=HEV0.out;unfold kS;rw [if_neg HNF.out];rfl)
    have HMS:=sqH (show(cln t).ents.length<gk by rw [qO];have:=HGN.out;rw [if_pos rfl]at this;omega);have HGL:=sqH hgl;obtain⟨A1,c1,B2,d2,e1,e2,_⟩:=RW.st.rows;subst e1 e2;have hcln:=jk w0.heap.size (.slice A1 t.blobs.length c1) (.slice B2 t.ents.length d2) t wr _ HT.out RW.st;simp only [stV,qN,yZ]at hcln;rw [HRM.out,HCK2.out]at hcln;have HCL:=sqH hcln;clear hcln;have hbx:=RW.box;rw [HRM.out,HCK2.out]at hbx;obtain⟨b0,b1,b2,b3⟩:=sqC4 hbx;clear hbx;have HRW:=sqH RW;clear RW;go_wp2_with fail;clear b0 b1 b2 b3;refine HCL.out.mono ?_;rintro e_ w6 ⟨v1',rfl,ho6,hg6,hob6⟩;dsimp only;have hv1b:∀b,((.slice A1 t.blobs.length c1):Value).ownBlock=some b→w0.heap.size≤b:=fun b e=>(HRW.out.st.b.rwo.blk e).1;have hbk6:=hbk.grown hg6 hbk.size hv1b;have hbx6:=HRW.out.box.grown hg6 HRW.out.n4;have RW6:=HRW.out.cln_ ho6 hg6 hob6;rw [HRM.out,HCK2.out]at hbx6 RW6;obtain⟨f0,f1,f2,f3⟩:=sqF4 hbx6;obtain⟨b0,b1,b2,b3⟩:=sqC4 hbx6;have hHG:w0.heap.size≤G:=HRW.out.gB;have hbk7:=(((hbk6.setCell (p:=⟨G,0,none⟩) hHG v1').setCell (p:=⟨G,1,none⟩) hHG (.slice B2 t.ents.length d2)).setCell (p:=⟨G,2,none⟩) hHG (.int .i64 s.room)).setCell (p:=⟨G,3,none⟩) hHG (.int .i64 s.clock);clear hbx6 hbk6 ho6 hg6 hob6;obtain⟨A6,c6,B6,d6,e61,e62,hrd6⟩:=RW6.st.rows;have hgt:=HT.out;have hgt6:=qp hgt;have hus6:=hgt6.used;have hrm6:=hgt6.room;have hln6:=hgt6.b.len;have HLK:=sqH (show ∀W,Rw BlobS W A6 (cln t).blobs→Calls Tryz.prog 89 #[.slice A6 (cln t).blobs.length c6,.int .i64 s.room,.int .i64 more] W fun e w'=>e= .returned (.tuple #[.int .i64 ((usd (cln t).blobs+more - s.room:Nat):Int),.int .i64 0])∧Below W.heap.size W w' from fun W h=>vi A6 c6 (cln t).blobs s.room more W (by omega) (by rw [qN]at hus6 hrm6;omega) HRO.out hmore h);subst e61;clear e62;clear hgt hgt6 hus6 hrm6;go_wp2_with fail;clear f0 f1 f2 f3 b0 b1 b2 b3;generalize ((((w6.setCell ⟨G,0,none⟩ (.slice A6 (cln t).blobs.length c6)).setCell ⟨G,1,none⟩ (.slice B2 t.ents.length d2)).setCell ⟨G,2,none⟩ (.int .i64 s.room)).setCell ⟨G,3,none⟩ (.int .i64 s.clock))=w7 at *
    refine(HLK.out _ hrd6.b).mono ?_;rintro e_ w8 ⟨rfl,hb8⟩;dsimp only;have hbk8:=hbk7.trans (hb8.mono hbk7.size);have RW8:=RW6.below hb8;have HR8:=sqH RW8;have HBK8:=sqH hbk8;have HGT:=sqH (qp HT.out);clear RW6 RW8 hrd6 hb8 hbk7 hbk8 HCL HLK hln6;go_wp2_with fail;go_roundg (cln t).ents.length
    case measure=>exact HMS.out
    case rel=>exact⟨cln t,g,.slice A6 (cln t).blobs.length c6,(.slice B2 t.ents.length d2),u11,false,_,rfl,rfl,rfl,rfl,by rw [qN,HRM.out],HGT.out,HR8.out,HBK8.out,HEV.out,HRM.out,HCK2.out,by rw [qO];exact HGL.out⟩
   | false =>
    have hev':Z7 more (t.ents.length+1) t g=kS more s:=HEV0.out;rw [Z7,if_neg HNF.out]at hev';obtain⟨A1,c1,B2,d2,e1,e2,hrd1⟩:=RW.st.rows;subst e2;clear e1;have HOL:=sqH (Xl B2 d2 t.ents wr (by omega) hrd1.e);have b1:=RW.box.cell (k:=1) rfl;cases ho:xw t.ents t.ents.length with
    | none =>
     rw [ho]at hev' HOL;have HEV:=sqH hev';have HRW:=sqH RW;clear hev' hrd1 RW;go_wp2_with fail;clear b1;refine HOL.out.mono ?_;rintro e_ w5 ⟨rfl,hb5⟩;dsimp only;rw [jN];have hbk9:=hbk.trans (hb5.mono hbk.size);have hR9:=HRES.out _ hbk9;have hb19:=HB0.out.trans (hbk9.mono (Nat.le_of_lt hHl));obtain⟨f0,f1,f2,f3⟩:=sqF4 hR9;obtain⟨y0,y1,y2,y3⟩:=sqC4 hR9;have hfin:=hR9.all4 (.slice none 0 0) (.slice none 0 0) (.int .i64 0) (.int .i64 0);have hbF:=(((hb19.setCell (p:=⟨H+1,0,none⟩) (by simp only;omega) (.slice none 0 0)).setCell (p:=⟨H+1,1,none⟩) (by simp only;omega) (.slice none 0 0)).setCell (p:=⟨H+1,2,none⟩) (by simp only;omega) (.int .i64 0)).setCell (p:=⟨H+1,3,none⟩) (by simp only;omega) (.int .i64 0);have HBF:=sqH hbF;have HFIN:=sqH hfin;clear hfin hbF hbk9 hR9 hb19 hb5 hbk;go_wp2_with fail;refine bodyPost_ret (zM rfl _ _ (H+1) _ _ _ _ (by rfl) HFIN.out Tryz.underlying26 rfl (by kernel_rfl)) rfl ?_;rw [←HEV.out];exact⟨rfl,HBF.out⟩
    | some i0 =>
     have hi:=(k8 t.ents _ i0 ho).2;rw [ho]at hev' HOL;simp only [List.getElem?_eq_getElem hi]at hev';have hlen0:0<t.ents.length:=by omega
     obtain⟨g2,d2',e2,_,_,_,_⟩:=RW.st.e.rwo.nonnil hlen0;injection e2 with e21 e22 e23;subst e21 e23;clear e22;have HEV2:=sqH hev';have HO:=sqH ho;clear hev' ho hrd1;go_wp2_with fail;clear b1;refine HOL.out.mono ?_;rintro e_ w5 ⟨rfl,hb5⟩;dsimp only;rw [jN];have hbk5:=hbk.trans (hb5.mono hbk.size);have RW5:=RW.below hb5;obtain⟨A1',c1',B2',d2'',e1,e2,hrd5⟩:=RW5.st.rows;clear e1;cases e2
     have b1:=RW5.box.cell (k:=1) rfl;obtain⟨b,off,Bx,cc,e9,hbb,y0,y1,y2,y3,_⟩:=hrd5.e.ent_at i0 hi;cases e9
     have hi0:(0:Int)≤(i0:Int):=by omega
     have hi1:(i0:Int)<(t.ents.length:Int):=by omega
     have hw1:IntKind.i64.wrap ((i0:Int)+1)=(i0:Int)+1:=IntWalk.i64_in _ (by omega);have HRW5:=sqH RW5;have hgn5:=RW5.gone;have HBK5:=sqH hbk5;have hB5:w0.heap.size≤w5.heap.size:=hbk5.size;obtain⟨kx,hkx⟩:∃k,k=t.ents[i0].key:=⟨_,rfl⟩
     rw [←hkx]at y0 HEV2;have HKX:=sqH hkx;simp only [Nat.zero_add]at y0;clear hb5 hbk hbk5 RW RW5 hrd5 hbb hkx y1 y2 y3
     repeat' (fail_if_success (first|at_builtin|at_make));first|go_values|go_skip|go_guarded|go_step|go_upon|go_back
     refine zn rfl (.tmp 49) (.tmp 56) rfl vu (by rfl) hgn5 (us:= [.string ⟨kx.toArray⟩]) (by rfl) rfl (by intro u hu;rw [List.mem_singleton.1 hu];rfl) (by omega) hB5 ?_;intro v9 w9 ho9 hg9 hv9;clear y0 b1;have ho9':w9.ownsRow w0.heap.size 9 1 v9 (g++ [kx]).length (strs (g++ [kx])):=by rw [xi,List.length_append];exact ho9
     have RW9:=HRW5.out.key ho9' hg9 hv9;have hbk9:=HBK5.out.grown hg9 hB5 (fun b e=>(hgn5.lt b e).1);have b1:=RW9.box.cell (k:=1) rfl;have f1:=RW9.box.frozen 1;have HRW9:=sqH RW9;have HDL:=sqH (UK g2 i0 t.ents w0.heap.size d2 w9 _ hi RW9.st.e);have hB9:w0.heap.size≤w9.heap.size:=hbk9.size;clear ho9 ho9' hg9 hv9 RW9 hgn5 f1;go_wp2_with fail;clear b1;refine HDL.out.mono ?_;rintro e_ w10 ⟨rfl,hx10,hg10⟩;dsimp only;have hbx10:=HRW9.out.box.grown hg10 HRW9.out.n5;rw [HRM.out,HCK2.out]at hbx10;obtain⟨b0,b1,b2,b3⟩:=sqC4 hbx10;have f1:=hbx10.frozen 1;have RW:=HRW9.out.del hx10 hg10 rfl;have hbkA:=(hbk9.grown hg10 hB9 (fun b e=>by cases e;exact(HRW9.out.st.e.rwo.blk rfl).1)).setCell (p:=⟨G,1,none⟩) HRW9.out.gB (.slice (some ⟨g2,0,none⟩) (t.ents.eraseIdx i0).length d2);have HT1:=sqH (yX HT.out (List.eraseIdx_sublist t.ents i0));have HEV:=sqH (show Z7 more ((cln { t with ents:=t.ents.eraseIdx i0 }).ents.length+1) (cln { t with ents:=t.ents.eraseIdx i0 }) (g++ [kx])=kS more s by
      rw [qO];show Z7 more ((t.ents.eraseIdx i0).length+1) _ _=_;rw [List.length_eraseIdx_of_lt hi,Nat.sub_add_cancel hlen0];exact HEV2.out)
     have HMS:=sqH (show(cln { t with ents:=t.ents.eraseIdx i0 }).ents.length<gk by
      rw [qO];show(t.ents.eraseIdx i0).length<gk;rw [List.length_eraseIdx_of_lt hi];have:=HGN.out;rw [if_neg (by decide)]at this;omega)
     have HGL:=sqH (show(g++ [kx]).length+(t.ents.eraseIdx i0).length≤10 by
      rw [List.length_eraseIdx_of_lt hi,List.length_append];simp only [List.length_cons,List.length_nil];omega)
     have hlt1:(t.ents.eraseIdx i0).length≤10:=by rw [List.length_eraseIdx_of_lt hi];omega
     obtain⟨A1,c1,_,_,e1,_,_⟩:=HRW9.out.st.rows;subst e1;clear hx10 hg10 hbk9 HEV2 HDL HOL hbx10;go_wp2_with fail;clear b0 b1 b2 b3 f1;generalize hwx:(w10.setCell ⟨G,1,none⟩ (.slice (some ⟨g2,0,none⟩) (t.ents.eraseIdx i0).length d2))=w11 at *
     clear hwx;have HRM1:=sqH (show({ t with ents:=t.ents.eraseIdx i0 }:StoP).room=s.room from HRM.out);have HCK3:=sqH (show({ t with ents:=t.ents.eraseIdx i0 }:StoP).clock=s.clock from HCK2.out);have hlt1':({ t with ents:=t.ents.eraseIdx i0 }:StoP).ents.length≤10:=hlt1;have HGL:=sqH (show(g++ [kx]).length+({ t with ents:=t.ents.eraseIdx i0 }:StoP).ents.length≤10 from HGL.out);clear HT HRM HCK2 hlt1 hlt;generalize ({ t with ents:=t.ents.eraseIdx i0 }:StoP)=t1 at *
     generalize (g++ [kx])=gn1 at *
     have HT:=HT1;have HRM:=HRM1;have HCK2:=HCK3;have hlt:=hlt1';have hbk:=hbkA;clear HT1 HRM1 HCK3 hlt1' hbkA;have hcln:=jk w0.heap.size (.slice A1 t.blobs.length c1) (.slice (some ⟨g2,0,none⟩) (t.ents.eraseIdx i0).length d2) t1 w11 _ HT.out RW.st;simp only [stV,qN,yZ]at hcln;rw [HRM.out,HCK2.out]at hcln;have HCL:=sqH hcln;clear hcln;have hbx:=RW.box;rw [HRM.out,HCK2.out]at hbx;obtain⟨b0,b1,b2,b3⟩:=sqC4 hbx;clear hbx;have HRW:=sqH RW;clear RW;go_wp2_with fail;clear b0 b1 b2 b3;refine HCL.out.mono ?_;rintro e_ w6 ⟨v1',rfl,ho6,hg6,hob6⟩;dsimp only;have hv1b:∀b,((.slice A1 t.blobs.length c1):Value).ownBlock=some b→w0.heap.size≤b:=fun b e=>(HRW.out.st.b.rwo.blk e).1;have hbk6:=hbk.grown hg6 hbk.size hv1b;have hbx6:=HRW.out.box.grown hg6 HRW.out.n4;have RW6:=HRW.out.cln_ ho6 hg6 hob6;rw [HRM.out,HCK2.out]at hbx6 RW6;obtain⟨f0,f1,f2,f3⟩:=sqF4 hbx6;obtain⟨b0,b1,b2,b3⟩:=sqC4 hbx6;have hHG:w0.heap.size≤G:=HRW.out.gB;have hbk7:=(((hbk6.setCell (p:=⟨G,0,none⟩) hHG v1').setCell (p:=⟨G,1,none⟩) hHG (.slice (some ⟨g2,0,none⟩) (t.ents.eraseIdx i0).length d2)).setCell (p:=⟨G,2,none⟩) hHG (.int .i64 s.room)).setCell (p:=⟨G,3,none⟩) hHG (.int .i64 s.clock);clear hbx6 hbk6 ho6 hg6 hob6;obtain⟨A6,c6,B6,d6,e61,e62,hrd6⟩:=RW6.st.rows;have hgt:=HT.out;have hgt6:=qp hgt;have hus6:=hgt6.used;have hrm6:=hgt6.room;have hln6:=hgt6.b.len;have HLK:=sqH (show ∀W,Rw BlobS W A6 (cln t1).blobs→Calls Tryz.prog 89 #[.slice A6 (cln t1).blobs.length c6,.int .i64 s.room,.int .i64 more] W fun e w'=>e= .returned (.tuple #[.int .i64 ((usd (cln t1).blobs+more - s.room:Nat):Int),.int .i64 0])∧Below W.heap.size W w' from fun W h=>vi A6 c6 (cln t1).blobs s.room more W (by omega) (by rw [qN]at hus6 hrm6;omega) HRO.out hmore h);subst e61;clear e62;clear hgt hgt6 hus6 hrm6;go_wp2_with fail;clear f0 f1 f2 f3 b0 b1 b2 b3;generalize ((((w6.setCell ⟨G,0,none⟩ (.slice A6 (cln t1).blobs.length c6)).setCell ⟨G,1,none⟩ (.slice (some ⟨g2,0,none⟩) (t.ents.eraseIdx i0).length d2)).setCell ⟨G,2,none⟩ (.int .i64 s.room)).setCell ⟨G,3,none⟩ (.int .i64 s.clock))=w7 at *
     refine(HLK.out _ hrd6.b).mono ?_;rintro e_ w8 ⟨rfl,hb8⟩;dsimp only;have hbk8:=hbk7.trans (hb8.mono hbk7.size);have RW8:=RW6.below hb8;have HR8:=sqH RW8;have HBK8:=sqH hbk8;have HGT:=sqH (qp HT.out);clear RW6 RW8 hrd6 hb8 hbk7 hbk8 HCL HLK hln6;go_wp2_with fail;go_roundg (cln t1).ents.length
     case measure=>exact HMS.out
     case rel=>exact⟨cln t1,gn1,.slice A6 (cln t1).blobs.length c6,(.slice (some ⟨g2,0,none⟩) (t.ents.eraseIdx i0).length d2),v9,false,_,rfl,rfl,rfl,rfl,by rw [qN,HRM.out],HGT.out,HR8.out,HBK8.out,HEV.out,HRM.out,HCK2.out,by rw [qO];exact HGL.out⟩
theorem z02 (A:Option Addr) (c:Nat) (B:Option Addr) (d:Nat) (s:StoP) (more:Nat) (w:World) (hmore:more≤4000) (hg:GoodS s) (hr:RdSt w A c B d s) :
  Calls Tryz.prog 26 #[.agg #[.slice A s.blobs.length c,.slice B s.ents.length d,.int .i64 s.room,.int .i64 s.clock],.int .i64 more] w fun e w' =>
   z0z e w w' s (kS more s)∧Below w.heap.size w w':=by
 refine(J5 A c B d s more w hmore hg hr).mono ?_;rintro e w' ⟨h,hb⟩;refine⟨?_,hb⟩;cases hev:kS more s with
 | none=>rw [hev]at h;exact h
 | some p =>
  obtain⟨t,g⟩:=p;rw [hev]at h;obtain⟨v1,v2,v3,rfl,ho,hg3⟩:=h;obtain⟨A9,c9,B9,d9,e1,e2,hrd⟩:=ho.rows;subst e1 e2;exact⟨_,_,_,_,v3,rfl,hrd,hg3⟩
end Go.Proofs.YtnmlbflhnnmoeaaGreat
namespace Go.Proofs.YtnmlbflhnnmoeaaGreat
open Go.RowKit Go.Maps
theorem RwX.truncE {w:World} {base g cap:Nat} {e:TypeId} {N:Nat→Prop} {l:List EntP} (h:RwX EntS e w base (.slice (some ⟨g,0,none⟩) l.length cap) l N) (i:Nat) (hi:i<l.length) :
  ∃zs:List Value,zs.length=(l.length - i)*4∧(∀ty c,(Builtin.clear_ #[24] ty #[.slice (some ⟨g,i*4,none⟩) (l.length - i) c]).run Tryz.prog w= .ok (.tuple #[]) (w.setCells g (i*4) zs)) ∧
   RwX EntS e (w.setCells g (i*4) zs) base (.slice (some ⟨g,0,none⟩) i cap) (l.take i) N∧w.grownBy (w.setCells g (i*4) zs) (some g):=by
 have hl:=ky (Value.agg #[.string ByteArray.empty,.slice none 0 0,.int .i64 0,.int .i64 0]).cells (l.length - i);obtain⟨k1,k2,k3,k4⟩:=h.trunc_ hi (zs:=(Builtin.zeroCells (Value.agg #[.string ByteArray.empty,.slice none 0 0,.int .i64 0,.int .i64 0]).cells (l.length - i)).toList) hl;exact⟨_,hl,fun ty c=>yB w _ _ ty _ _ _ (by omega) Tryz.underlying24 JR rfl (kr _ _ (by simp [Value.cells]) (by intro u hu;simp [Value.cells]at hu;rcases hu with rfl | rfl | rfl<;>rfl)) g _ c k3 k4,k1,k2⟩
def YQ (w:World) (g:Option Nat) (l:List EntP) (f:FuncId) (x:Value) (p:EntP→Bool):Prop :=
 (∀args W,(callFunc f args).run Tryz.prog W= .ok (.enter f args) W)∧∀(b:EntP) (B:Option Addr) (cb:Nat) (W:World),b∈l→w.grownBy W g→Sl W 3 B b.parts.length cb (pcs b.parts) →
  Calls Tryz.prog f #[.agg #[.string ⟨b.key.toArray⟩,.slice B b.parts.length cb,.int .i64 b.pins,.int .i64 b.stamp],x] W fun e w'=>e= .returned (.bool (p b))∧Below W.heap.size W w'
theorem VV (base:Nat) (v:Value) (l:List EntP) (N:Nat→Prop) (f:FuncId) (x:Value) (p:EntP→Bool) (w:World) (hl:l.length≤100000) (hx:RwX EntS 49 w base v l N) (HC:YQ w v.ownBlock l f x p) :
  Calls Tryz.prog 30 #[v,.func (.func f) #[] #[x]] w fun e w'=>∃v',e= .returned v'∧RwX EntS 49 w' base v' (l.filter (fun b=> !p b)) N∧w.grownBy w' v.ownBlock∧v'.ownBlock=v.ownBlock:=by
 obtain⟨hce,hcc0⟩:=HC;have HCC:=sqH hcc0;clear hcc0;have hlen0:=hx.rwo.rows;obtain⟨A,cap,rfl,hlc,hcm,hrw⟩:=hlen0;have HI:=sqH (YT A cap l f x p w (by omega) hrw ⟨hce,fun b B cb W hb hbl hs=>HCC.out b B cb W hb ⟨hbl.os,hbl.tape,hbl.output,hbl.size,fun k hk _=>hbl.block k hk⟩ hs⟩);cases hf:l.findIdx? p with
 | none =>
  rw [hf]at HI;have hall:l.filter (fun b=> !p b)=l:=List.filter_eq_self.2 fun b hb=>by
   have:=List.findIdx?_eq_none_iff.1 hf b hb;rw [this];rfl
  have HALL:=sqH hall;have HX:=sqH hx;clear hall hf hx hrw;go_enter Tryz.func30,Tryz.ntmps30;go_wp2_with fail;refine HI.out.mono ?_;rintro e_ w1 ⟨rfl,hb1⟩;dsimp only;simp only [plc];go_wp2_with fail;go_ret;refine⟨_,rfl,by rw [HALL.out];exact HX.out.below hb1,⟨hb1.os,hb1.tape,hb1.output,hb1.size,fun k hk _=>hb1.block k hk⟩,rfl⟩
 | some i0 =>
  rw [hf]at HI;simp only [plc]at HI;obtain⟨hi0,hpi,hno⟩:=List.findIdx?_eq_some_iff_getElem.1 hf;have hkeep0:(l.take (i0+1)).filter (fun b=> !p b)=l.take i0:=by
   rw [List.take_succ_eq_append_getElem hi0,List.filter_append,List.filter_cons_of_neg (by rw [hpi];simp)];rw [List.filter_nil,List.append_nil];refine List.filter_eq_self.2 fun b hb=> ?_;obtain⟨k,hk,rfl⟩:=List.mem_iff_getElem.1 hb;rw [List.length_take]at hk;have:=hno k (by omega);rw [List.getElem_take];simpa using this
  obtain⟨g,cap',cs,e1,hbg,hA,hnc, -, -, -⟩:=xI (hx.own4) (by omega);injection e1 with e11 e12 e13;clear e12;subst e11 e13;have hgw:g<w.heap.size:=hA.lt;have HGW:=sqH hgw;have HK0:=sqH hkeep0;clear hkeep0 hno hf hA hrw hgw;have hw1:IntKind.i64.wrap ((i0:Int)+1)=(i0:Int)+1:=IntWalk.i64_in _ (by omega);have hm1:((i0:Int)== -1)=false:=by rw [beq_eq_false_iff_ne];omega
  go_enter Tryz.func30,Tryz.ntmps30;go_wp2_with fail;refine HI.out.mono ?_;rintro e_ w1 ⟨rfl,hb1⟩;dsimp only;have hx1:=hx.below hb1;have HG1:=sqH (show w.grownBy w1 (some g) from⟨hb1.os,hb1.tape,hb1.output,hb1.size,fun k hk _=>hb1.block k hk⟩);clear hx hb1 HI;go_wp2_with fail;go_loopg [5,6] (l.length - (i0+1)) (fun gn u v wr=>∃(i j:Nat) (M:List EntP),gn=l.length - j∧u= .int .i64 i∧v= .int .i64 j∧i<j∧j≤l.length∧M.length=l.length∧M.take i=(l.take j).filter (fun b=> !p b)∧M.drop j=l.drop j∧RwX EntS 49 wr base (.slice (some ⟨g,0,none⟩) l.length cap) M N∧w.grownBy wr (some g))
  case atStart=>exact⟨i0,i0+1,l,rfl,rfl,by go_num,by omega,by omega,rfl,HK0.out.symm,rfl,hx1,HG1.out⟩
  case round =>
   clear hx1;obtain⟨i,j,M,hgk,rfl,rfl,hij,hj,hM,hMt,hMd,hxr,hgr⟩:=hrel;have HGK:=sqH hgk;have HML:=sqH hM;have HMT:=sqH hMt;have HMD:=sqH hMd;have HGR:=sqH hgr;clear hgk hM hMt hMd hgr;by_cases hlt:j<l.length
   ·have hjj:decide (j<l.length)=true:=decide_eq_true hlt;have hMj:j<M.length:=by have:=HML.out;omega
    have eMj:M[j]=l[j]:=by
     have h1:=HMD.out;rw [List.drop_eq_getElem_cons hMj,List.drop_eq_getElem_cons hlt]at h1;injection h1
    rw [←HML.out]at hxr;obtain⟨B,cb,d0,d1,d2,d3,hs,hld⟩:=hxr.at4E j hMj;rw [HML.out]at hxr;have hmem:l[j]∈l:=List.getElem_mem hlt;have hpt:(l.take (j+1)).filter (fun b=> !p b)=(l.take j).filter (fun b=> !p b)++(if p l[j] then [] else [l[j]]):=by
     rw [List.take_succ_eq_append_getElem hlt,List.filter_append]
     congr 1
     cases hp:p l[j] with
     | true=>rw [List.filter_cons_of_neg (by rw [hp];simp)];rfl
     | false=>rw [List.filter_cons_of_pos (by rw [hp];rfl)];rfl
    rw [eMj]at d0 d1 d2 d3 hs hld;have hMset:∀y,(M.set i y).drop (j+1)=l.drop (j+1):=fun y=>by
     rw [List.drop_set,if_pos (by omega)];have h1:=HMD.out;rw [List.drop_eq_getElem_cons hMj,List.drop_eq_getElem_cons hlt]at h1;injection h1
    have hMs0:M.drop (j+1)=l.drop (j+1):=by
     have h1:=HMD.out;rw [List.drop_eq_getElem_cons hMj,List.drop_eq_getElem_cons hlt]at h1;injection h1
    have hMtk:∀y,(M.set i y).take (i+1)=M.take i++ [y]:=fun y=>by
     have hi:i<(M.set i y).length:=by rw [List.length_set];omega
     rw [List.take_succ_eq_append_getElem hi,List.getElem_set_self,List.take_set]
     congr 1
     rw [List.set_eq_of_length_le (by rw [List.length_take];omega)]
    have HPT:=sqH hpt;have HMS:=sqH hMset;have HMS0:=sqH hMs0;have HMK:=sqH hMtk;have HMEM:=sqH hmem;have hwj:IntKind.i64.wrap ((j:Int)+1)=(j:Int)+1:=IntWalk.i64_in _ (by omega);have hwi:IntKind.i64.wrap ((i:Int)+1)=(i:Int)+1:=IntWalk.i64_in _ (by omega);have HLD:=sqH hld;clear hpt hMset hMs0 hMtk hmem hld eMj;have hj0:(0:Int)≤(j:Int):=by omega
    have hj1:(j:Int)<(l.length:Int):=by omega
    have hi0':(0:Int)≤(i:Int):=by omega
    have hi1':(i:Int)<(l.length:Int):=by omega
    have hiM:i<M.length:=by omega
    have hgr2:(w.grownBy wr (some g)):=HGR.out;have hgwr:g<wr.heap.size:=Nat.lt_of_lt_of_le HGW.out hgr2.size;generalize l[j]=bl at *
    have hbox:Arr (wr.alloc (.cells #[.string ⟨bl.key.toArray⟩,.slice B bl.parts.length cb,.int .i64 bl.pins,.int .i64 bl.stamp] 49)) wr.heap.size 49 [.string ⟨bl.key.toArray⟩,.slice B bl.parts.length cb,.int .i64 bl.pins,.int .i64 bl.stamp]:=Arr.new wr 49 _;have hbA:=(Below.refl wr.heap.size wr).alloc (Nat.le_refl _) (.cells #[.string ⟨bl.key.toArray⟩,.slice B bl.parts.length cb,.int .i64 bl.pins,.int .i64 bl.stamp] 49);have hsA:=hs.below hbA;have hxA:=hxr.below hbA;have hgA:w.grownBy (wr.alloc (.cells #[.string ⟨bl.key.toArray⟩,.slice B bl.parts.length cb,.int .i64 bl.pins,.int .i64 bl.stamp] 49)) (some g):=hgr2.trans ⟨hbA.os,hbA.tape,hbA.output,hbA.size,fun k hk _=>hbA.block k hk⟩;have hcl:=HCC.out bl B cb _ HMEM.out hgA hsA;obtain⟨k0,k1,k2,k3⟩:=sqC4 hbox;generalize hsd:(⟨bl.key.toArray⟩:ByteArray)=sd at *
    have HSD:=sqH hsd;clear hsd hs hgr2 hxr;cases hp:p bl with
    | true =>
     rw [hp]at hcl;have HCL:=sqH hcl;have HPV:=sqH hp;clear hcl hp hsA hbox;go_wp2_with fail;clear d0 d1 d2 d3;generalize (wr.alloc (.cells #[.string sd,.slice B bl.parts.length cb,.int .i64 bl.pins,.int .i64 bl.stamp] 49))=wA at *
     refine HCL.out.mono ?_;rintro e_ wB ⟨rfl,hbB⟩;dsimp only;have hxB:=hxA.below hbB;have hgB:=hgA.trans (show wA.grownBy wB (some g) from⟨hbB.os,hbB.tape,hbB.output,hbB.size,fun k hk _=>hbB.block k hk⟩);clear hxA hgA hbB k0 k1 k2 k3 hbA;go_wp2_with fail;go_roundg (l.length - (j+1))
     case measure=>have:=HGK.out;omega
     case rel=>exact⟨i,j+1,M,rfl,rfl,by go_num,by omega,by omega,HML.out,by rw [HPT.out,HPV.out,if_pos rfl,List.append_nil];exact HMT.out,HMS0.out,hxB,hgB⟩
    | false =>
     rw [hp]at hcl;have HCL:=sqH hcl;have HPV:=sqH hp;have HSA:=sqH hsA;clear hcl hp hsA;go_wp2_with fail;clear d0 d1 d2 d3;generalize hgq:wr.heap.size=gq at *
     generalize (wr.alloc (.cells #[.string sd,.slice B bl.parts.length cb,.int .i64 bl.pins,.int .i64 bl.stamp] 49))=wA at *
     refine HCL.out.mono ?_;rintro e_ wB ⟨rfl,hbB⟩;dsimp only;have hxB:=hxA.below hbB;have hgB:=hgA.trans (show wA.grownBy wB (some g) from⟨hbB.os,hbB.tape,hbB.output,hbB.size,fun k hk _=>hbB.block k hk⟩);have hboxB:=hbox.below hbB;have hsB:=HSA.out.below hbB;clear k0 k1 k2 k3;obtain⟨k0,k1,k2,k3⟩:=sqC4 hboxB;rw [←HML.out]at hxB;obtain⟨cs,hAg,hcl4⟩:=hxB.arr4 (by omega);have hcl4:cs.length=cap*4:=hcl4;have q0:=hAg.cell (k:=i*4) (List.getElem?_eq_getElem (by omega));have q1:=hAg.cell (k:=i*4+1) (List.getElem?_eq_getElem (by omega));have q2:=hAg.cell (k:=i*4+2) (List.getElem?_eq_getElem (by omega));have q3:=hAg.cell (k:=i*4+3) (List.getElem?_eq_getElem (by omega));have p0:=hAg.frozen (i*4);have p1:=hAg.frozen (i*4+1);have p2:=hAg.frozen (i*4+2);have p3:=hAg.frozen (i*4+3);obtain⟨hx8,hg8⟩:=hxB.put4 (x:=bl) (u0:= .string sd) (u1:= .slice B bl.parts.length cb) (u2:= .int .i64 bl.pins) (u3:= .int .i64 bl.stamp) rfl hiM ⟨B,cb,by rw [←HSD.out];rfl,hsB⟩ HLD.out;have hg9:=hgB.trans hg8;rw [HML.out]at hx8;rw [put4]at hx8 hg9;clear hbox hboxB hxA hxB hgA hgB hbA hbB hAg hg8 HSA hsB;go_wp2_with fail;clear q0 q1 q2 q3 p0 p1 p2 p3 k0 k1 k2 k3;generalize ((((wB.setCell ⟨g,i*4,none⟩ (.string sd)).setCell ⟨g,i*4+1,none⟩ (.slice B bl.parts.length cb)).setCell ⟨g,i*4+2,none⟩ (.int .i64 bl.pins)).setCell ⟨g,i*4+3,none⟩ (.int .i64 bl.stamp))=w8 at *
     go_roundg (l.length - (j+1))
     case measure=>have:=HGK.out;omega
     case rel=>exact⟨i+1,j+1,M.set i bl,rfl,by go_num,by go_num,by omega,by omega,by rw [List.length_set];exact HML.out,by rw [HPT.out,HPV.out,HMK.out,HMT.out];rfl,HMS.out _,hx8,hg9⟩
   ·obtain rfl:j=l.length:=by omega
    have hjj:decide (l.length<l.length)=false:=by simp
    have hMl:M.take i=l.filter (fun b=> !p b):=by rw [HMT.out,List.take_length]
    have hle:(l.filter (fun b=> !p b)).length=i:=by rw [←hMl,List.length_take];have:=HML.out;omega
    rw [←HML.out]at hxr;obtain⟨zs,hzz,hclr,hx9,hg9⟩:=hxr.truncE i (by have:=HML.out;omega);rw [HML.out]at hclr;have hi0':(0:Int)≤(i:Int):=by omega
    have hi1':(i:Int)≤(l.length:Int):=by omega
    have hi2':(i:Int)≤(cap:Int):=by omega
    have hce:¬cap=i:=by omega
    have HX9:=sqH hx9;have HG9:=sqH (HGR.out.trans hg9);have HLE:=sqH hle;have HML2:=sqH hMl;clear hx9 hg9 hxr hle hMl;go_wp2_with fail;go_ret;refine⟨_,rfl,?_,HG9.out,rfl⟩;have h1:=HX9.out;rw [HML2.out]at h1;exact h1
theorem Ko (w:World) (g:Option Nat) (gc:Nat) (AL:Option Addr) (cL n:Nat) (L:List (List UInt8)) (l:List EntP) (hgc:gc<w.heap.size) (hne:g≠some gc) (hn:L.length=n+1) (hcell:w.cell? ⟨gc,0,none⟩=some (.slice AL L.length cL)) (hLc:L.length≤cL) (hL:L.length≤1000000) (hrd:Rd w 1 AL L.length (strs L)) (hna:∀a,AL=some a→g≠some a.block) :
  YQ w g l 31 (.pointer (some ⟨gc,0,none⟩)) (fun b=>decide (b.key∈L.dropLast)):=by
 refine⟨fun _ _=>by kernel_rfl,fun b B cb W hb hgr hs=> ?_⟩;have hc:W.cell? ⟨gc,0,none⟩=some (.slice AL L.length cL):=hgr.cell hcell (fun e=>hne e.symm);have hgW:gc<W.heap.size:=Nat.lt_of_lt_of_le hgc hgr.size;have hr:Rd W 1 AL L.length (strs L):=hrd.keepb hgr.size (fun k hk ⟨a,e1,e2⟩=>hgr.block k hk (fun e=>hna a e1 (by rw [e2];exact e.symm)));have hb1:=(Below.refl W.heap.size W).alloc (Nat.le_refl _) (.cells #[.string ⟨b.key.toArray⟩,.slice B b.parts.length cb,.int .i64 b.pins,.int .i64 b.stamp] 49);have hbox:Arr (W.alloc (.cells #[.string ⟨b.key.toArray⟩,.slice B b.parts.length cb,.int .i64 b.pins,.int .i64 b.stamp] 49)) W.heap.size 49 [.string ⟨b.key.toArray⟩,.slice B b.parts.length cb,.int .i64 b.pins,.int .i64 b.stamp]:=Arr.new W 49 _;have hk1:(W.alloc (.cells #[.string ⟨b.key.toArray⟩,.slice B b.parts.length cb,.int .i64 b.pins,.int .i64 b.stamp] 49)).cell? ⟨gc,0,none⟩=some (.slice AL L.length cL):=(World.cell?_alloc_lt W _ ⟨gc,0,none⟩ hgW).trans hc;have p0:=hbox.cell (k:=0) rfl;have e3:strs L.dropLast=(strs L).take n:=by
  rw [List.dropLast_eq_take,hn,strs,strs,List.map_take];rfl
 have hr2:Rd (W.alloc (.cells #[.string ⟨b.key.toArray⟩,.slice B b.parts.length cb,.int .i64 b.pins,.int .i64 b.stamp] 49)) 1 AL L.dropLast.length (strs L.dropLast):=by
  have h1:=(hr.below hb1).pre (k:=n) (by omega);rw [Nat.mul_one]at h1;rw [e3,List.length_dropLast,hn];exact h1
 have hln:L.dropLast.length=n:=by rw [List.length_dropLast,hn];rfl
 rw [hln]at hr2;dsimp only;obtain⟨ab,ao,rfl, -, -⟩:=hrd.2 (by omega);have hw1:IntKind.i64.wrap ((L.length:Int) - 1)=(n:Int):=by rw [IntWalk.i64_in _ (by omega)];omega
 have hw2:IntKind.i64.wrap (n:Int)=(n:Int):=IntWalk.i64_in _ (by omega);have hn0:(0:Int)≤(n:Int):=by omega
 have hn1:(n:Int)≤(cL:Int):=by omega
 have hG:W.heap.size<(W.alloc (.cells #[.string ⟨b.key.toArray⟩,.slice B b.parts.length cb,.int .i64 b.pins,.int .i64 b.stamp] 49)).heap.size:=hbox.lt;have hgA:=Nat.lt_trans hgW hG;have HCT:=sqH (show ∀V,Below (W.alloc (.cells #[.string ⟨b.key.toArray⟩,.slice B b.parts.length cb,.int .i64 b.pins,.int .i64 b.stamp] 49)).heap.size (W.alloc (.cells #[.string ⟨b.key.toArray⟩,.slice B b.parts.length cb,.int .i64 b.pins,.int .i64 b.stamp] 49)) V→Calls Tryz.prog 32 #[.slice (some ⟨ab,ao,none⟩) n cL,.string ⟨b.key.toArray⟩] V (fun e w'=>e= .returned (.bool (decide (b.key∈L.dropLast)))∧w'=V) from fun V h=>by
  have h1:=ZF (some ⟨ab,ao,none⟩) cL L.dropLast b.key V (by rw [List.length_dropLast];omega) (by rw [hln];exact hr2.below h);rw [hln]at h1;exact h1)
 have HSB:=sqH (show ∀V,Below (W.alloc (.cells #[.string ⟨b.key.toArray⟩,.slice B b.parts.length cb,.int .i64 b.pins,.int .i64 b.stamp] 49)).heap.size (W.alloc (.cells #[.string ⟨b.key.toArray⟩,.slice B b.parts.length cb,.int .i64 b.pins,.int .i64 b.stamp] 49)) V→(V.cell? ⟨gc,0,none⟩=some (.slice (some ⟨ab,ao,none⟩) L.length cL)∧V.cell? ⟨W.heap.size,0,none⟩=some (.string ⟨b.key.toArray⟩)) from fun V h=>⟨h.cell (p:=⟨gc,0,none⟩) hgA |>.trans hk1,h.cell (p:=⟨W.heap.size,0,none⟩) hG |>.trans p0⟩);generalize decide (b.key∈L.dropLast)=dv at *
 generalize (⟨b.key.toArray⟩:ByteArray)=kb at *
 generalize L.length=m at *
 clear hr hc hrd hcell hbox hr2;go_enter Tryz.func31,Tryz.ntmps31;go_wp2_with fail;generalize (W.alloc (.cells #[.string kb,.slice B b.parts.length cb,.int .i64 b.pins,.int .i64 b.stamp] 49))=wA at *
 have HBA:=sqH hb1;obtain⟨G,hG0⟩:∃G,G=W.heap.size:=⟨_,rfl⟩
 rw [←hG0]at HSB hG hgW ⊢
 clear hG0 hb1 hk1 p0;refine wp_region_held_drew (S:=(fun w'=>w'.cell? ⟨gc,0,none⟩=some (.slice (some ⟨ab,ao,none⟩) m cL)∧w'.cell? ⟨G,0,none⟩=some (.string kb))) (by kernel_rfl) ?_ (fun hHeld=> ?_)
 ·exact HSB.out _ (Below.refl _ wA).drew
 have hB:=(Below.refl wA.heap.size wA).drew;generalize wA.drew=wn0 at *
 refine sqTH 0 ?_;try simp only [sqP]
 refine sqTH 1 ?_;try simp only [sqP]
 refine sqTH 2 ?_;try simp only [sqP]
 refine sqTH 3 ?_;try simp only [sqP]
 refine sqTH 4 ?_;try simp only [sqP]
 refine sqTH 5 ?_;try simp only [sqP]
 refine sqTH 6 ?_;try simp only [sqP]
 refine wpAnyH_ready (rs:= [7]) (by kernel_rfl) (by simp) ?_;refine AllReadyH.cons (o:=_) rfl (fun K hK=> ?_) ?_
 ·
  go_simp;refine(HCT.out wn0 hB).mono ?_;rintro e5 w5 ⟨rfl,h5⟩;replace h5:=h5.symm;subst h5;dsimp only;refine qJ hK ?_ (Below wn0.heap.size wn0) (fun W=>True) ?_ ?_ (fun wn1 hHeld hst hnew=> ?_)
  ·(exact HSB.out _ hB)
  ·(exact Below.refl _ _)
  ·(trivial)
  have hB:=hB.trans (hst.mono hB.size);clear hst;clear hK K
  try simp only [sqP]
  refine sqTH 8 ?_;try simp only [sqP]
  refine wpAnyH_done (by kernel_rfl) ?_ _
  try dsimp only [Exit.then]
  clear hHeld;have hBz:=HBA.out.trans (hB.mono HBA.out.size);clear hB;go_wp2_with fail;go_ret;exact⟨rfl,hBz⟩
 exact AllReadyH.nil
def stp (es:List EntP) (k:List UInt8):Int:=match es.find? (fun y=>y.key==k) with | some y=>(y.stamp:Int) | none=> -1
theorem U3 (gs:Nat) (A:Option Addr) (c:Nat) (B:Option Addr) (d:Nat) (s:StoP) (k:List UInt8) (w:World) (hl:s.ents.length≤1000000) (hb:Arr w gs 26 [.slice A s.blobs.length c,.slice B s.ents.length d,.int .i64 s.room,.int .i64 s.clock]) (hA:Rw EntS w B s.ents) :
  Calls Tryz.prog 28 #[.string ⟨k.toArray⟩,.pointer (some ⟨gs,0,none⟩)] w fun e w'=>e= .returned (.int .i64 (stp s.ents k))∧Below w.heap.size w w':=by
 obtain⟨kb,hkb⟩:∃kb:ByteArray,kb=⟨k.toArray⟩:=⟨_,rfl⟩
 have HKB:=sqH hkb;rw [←hkb];clear hkb;have q1:=hb.cell (k:=1) rfl;go_enter Tryz.func28,Tryz.ntmps28;go_wp2_with fail;go_loopg [9] s.ents.length (fun gn i wr=>∃j:Nat,gn=s.ents.length - j∧i= .int .i64 j∧j≤s.ents.length∧stp s.ents k=stp (s.ents.drop j) k∧Below w.heap.size w wr)
 case atStart=>exact⟨0,rfl,rfl,by omega,rfl,Below.refl _ _⟩
 case round =>
  obtain⟨j,hgk,rfl,hj,hst,hbl⟩:=hrel;have HGK:=sqH hgk;have HST:=sqH hst;clear hgk hst;by_cases hlt:j<s.ents.length
  ·have hcc:decide (j<s.ents.length)=true:=decide_eq_true hlt;have hA2:=hA.below hbl;obtain⟨b,off,B',cb,rfl,hbb,c0,c1,c2,c3,hs⟩:=hA2.ent_at j hlt;have hj0:(0:Int)≤(j:Int):=by omega
   have hj1:(j:Int)<(s.ents.length:Int):=by omega
   have HDR:=sqH (List.drop_eq_getElem_cons hlt);clear hs hA hA2 q1;generalize s.ents[j]=x at *
   obtain⟨xb,hxb⟩:∃xb:ByteArray,xb=⟨x.key.toArray⟩:=⟨_,rfl⟩
   have HEQ:=sqH (show(xb.toList==kb.toList)=(x.key==k) by rw [hxb,HKB.out,ByteArray.toList_eq,ByteArray.toList_eq]);rw [←hxb]at c0;clear hxb;have hb1:=(Below.refl wr.heap.size wr).alloc (Nat.le_refl _) (.cells #[.string xb,.slice B' x.parts.length cb,.int .i64 x.pins,.int .i64 x.stamp] 49);have hb2:=hbl.trans (hb1.mono hbl.size);have hX:Arr (wr.alloc (.cells #[.string xb,.slice B' x.parts.length cb,.int .i64 x.pins,.int .i64 x.stamp] 49)) wr.heap.size 49 [.string xb,.slice B' x.parts.length cb,.int .i64 x.pins,.int .i64 x.stamp]:=Arr.new wr 49 _;have x0:=hX.cell (k:=0) rfl;have x3:=hX.cell (k:=3) rfl;clear hb1 hbl hX;cases hk:x.key==k with
   | true =>
    have hk1:(xb.toList==kb.toList)=true:=HEQ.out.trans hk;have hfin:stp s.ents k=(x.stamp:Int):=by rw [HST.out,HDR.out];unfold stp;rw [List.find?_cons_of_pos (by exact hk)]
    have HF:=sqH hfin;clear hk hfin;go_wp2_with fail;go_ret;exact⟨congrArg (fun z=>Ending.returned (.int .i64 z)) HF.out.symm,hb2⟩
   | false =>
    have hk1:(xb.toList==kb.toList)=false:=HEQ.out.trans hk;have hfin:stp s.ents k=stp (s.ents.drop (j+1)) k:=by rw [HST.out,HDR.out];unfold stp;rw [List.find?_cons_of_neg (by rw [hk];simp)]
    have HF:=sqH hfin;clear hk hfin;go_wp2_with fail;go_roundg (s.ents.length - (j+1))
    case measure=>have:=HGK.out;omega
    case rel=>exact⟨j+1,rfl,by go_num,by omega,HF.out,hb2⟩
  ·obtain rfl:j=s.ents.length:=by omega
   have hjj:decide (s.ents.length<s.ents.length)=false:=by simp
   have hfin:stp s.ents k= -1:=by rw [HST.out,List.drop_length];rfl
   have HF:=sqH hfin;clear hfin;go_wp2_with fail;go_ret;exact⟨congrArg (fun z=>Ending.returned (.int .i64 z)) HF.out.symm,hbl⟩
end Go.Proofs.YtnmlbflhnnmoeaaGreat
