/- Lemmas of the proof. Conditions: as stated. -/
import Derived.Test.YtnmlbflhnnmoeaaGreatQX50
set_option linter.unusedVariables false
set_option linter.unusedSimpArgs false
set_option maxRecDepth 100000
set_option maxHeartbeats 16000000
namespace Go.Proofs.YtnmlbflhnnmoeaaGreat
open Go.RowKit Go.Maps
theorem JC {P Q:Prop} (h:Hid P→Q) (p:P):Q:=h (Lib.hid p)
theorem OwSt.mixC {w7 w8:World} {base:Nat} {v1 v1' v2:Value} {s:StoP} {N:Nat→Prop} {l:List BlobP} (h:OwSt w7 base v1 v2 s N) (hN:∀b,N b→b<w7.heap.size) (hv:RwX BlobS 63 w8 w7.heap.size v1' l (fun b=>b<w7.heap.size)) (hbs:base≤w7.heap.size) (hbl:Below w7.heap.size w7 w8):OwSt w8 base v1' v2 { s with blobs:=l } N:=by
 have h1:∀g,v1'.ownBlock=some g→w7.heap.size≤g:=fun g e=>(hv.rwo.blk e).1;have h2:∀g,v2.ownBlock=some g→g<w7.heap.size:=fun g e=>(h.e.rwo.blk e).2;refine⟨RwX.wider (hv.lower hbs) (N':=fun g=>N g∨v2.ownBlock=some g) fun b hb=> .inl ?_,RwX.below (RwX.wider h.e (N':=fun g=>N g∨v1'.ownBlock=some g) fun b hb=> ?_) hbl,fun g e1 e2=> ?_⟩
 ·rcases hb with hb | hb
  ·exact hN b hb
  ·exact h2 b hb
 ·rcases hb with hb | hb
  ·exact .inl (.inl hb)
  ·exact .inr (h1 b hb)
 ·have:=h1 g e1;have:=h2 g e2;omega
theorem ZV (A:Option Addr) (c:Nat) (B:Option Addr) (d:Nat) (s:StoP) (Ag:Option Addr) (ng:Nat) (cp:ColP) (D:Option Addr) (nd:Nat) (ds:List (List UInt8)) (b0:Nat) (N:Nat→Prop) (w:World) (hg:GoodS s) (ho:OwSt w b0 (.slice A s.blobs.length c) (.slice B s.ents.length d) s N) (hb0:b0≤w.heap.size) (hN:∀b,N b→b<w.heap.size) (hgl:cp.grey.length≤2000) (hph:cp.phase≤2) (hc:RdC w Ag ng cp) (hdn:ds.length≤nd) (hds:ds.length≤1000) (hD:Rd w 1 D ds.length (strs ds)) :
  Calls Tryz.prog 126 #[.agg #[.slice A s.blobs.length c,.slice B s.ents.length d,.int .i64 s.room,.int .i64 s.clock],coV (.slice Ag cp.grey.length ng) cp,.slice D ds.length nd] w fun e w' =>
   ∃v1 v3,e= .returned (.tuple #[stV v1 (.slice B s.ents.length d) s,coV v3 (zw s cp ds).2])∧OwSt w' b0 v1 (.slice B s.ents.length d) (zw s cp ds).1 N∧w'.ownsRow w.heap.size 9 1 v3 (zw s cp ds).2.grey.length (strs (zw s cp ds).2.grey)∧Below w.heap.size w w':=by
 have hlb:s.blobs.length≤24:=hg.b.len;have HKP0:=sqH (show zw s cp ds=zw s cp ds from rfl);obtain⟨phase,grey,at_⟩:=cp;simp only at hgl hph;obtain⟨w0,hw0,hS,hC,hR,hQ,hbx⟩:=zU w 26 29 [.slice A s.blobs.length c,.slice B s.ents.length d,.int .i64 s.room,.int .i64 s.clock] [.int .i64 phase,.slice Ag grey.length ng,.string ⟨at_.toArray⟩] [.slice none 0 0,.slice none 0 0,.int .i64 0,.int .i64 0] [.int .i64 0,.slice none 0 0,.string ⟨#[]⟩];have hc0:=hc.below hbx;obtain⟨H,hH⟩:∃H,H=w.heap.size:=⟨_,rfl⟩
 have how:OwSt w b0 (.slice A s.blobs.length c) (.slice B s.ents.length d) s (fun b=>N b∨H≤b∧b<w0.heap.size):=ho.wider fun b hb=>hb.imp id (fun h=>by omega);have ho0:=how.below hbx;have hD0:=hD.below hbx;generalize hats:(⟨at_.toArray⟩:ByteArray)=ats at *
 rw [←hH]at hS hC hR hQ hbx hb0 hN ⊢
 have HN:=sqH hN;clear hN;have hHl:H+1+1+1<w0.heap.size:=hQ.lt;have HO0:=sqH ho0;have HSX:=sqH (show ∀W,Below w0.heap.size w0 W→Arr W H 26 [.slice A s.blobs.length c,.slice B s.ents.length d,.int .i64 s.room,.int .i64 s.clock]∧Arr W (H+1) 29 [.int .i64 phase,.slice Ag grey.length ng,.string ats]∧Arr W (H+2) 26 [.slice none 0 0,.slice none 0 0,.int .i64 0,.int .i64 0]∧Arr W (H+3) 29 [.int .i64 0,.slice none 0 0,.string ⟨#[]⟩]∧Rd W 1 D ds.length (strs ds) from fun W h=>⟨hS.below h,hC.below h,hR.below h,hQ.below h,hD0.below h⟩);have HSB:=sqH (show ∀W,Below w0.heap.size w0 W→W.cell? ⟨H+1,0,none⟩=some (.int .i64 phase)∧W.cell? ⟨H+1,1,none⟩=some (.slice Ag grey.length ng)∧W.cell? ⟨H+1,2,none⟩=some (.string ats) from fun W h=>⟨(hC.below h).cell (k:=0) rfl,(hC.below h).cell (k:=1) rfl,(hC.below h).cell (k:=2) rfl⟩);have HRG:=sqH (show ∀W,Below w0.heap.size w0 W→Rd W 1 Ag grey.length (strs grey) from fun W h=>(hc0.below h).rd);have hgcap:grey.length≤ng:=hc0.cap;have HBX:=sqH hbx;have HG:=sqH hg;clear hg ho how ho0 hc hc0 hD hD0 hS hC hR hQ hbx;go_enter Tryz.func126,Tryz.ntmps126;go_wp2_with fail;rw [←hw0,←hH];have HH:=sqH hH;have HATS:=sqH hats;clear hw0 hH hats;apply JC;intro REST;refine wp_region_held_drew (S:=(fun w'=>w'.cell? ⟨H+1,0,none⟩=some (.int .i64 phase)∧w'.cell? ⟨H+1,1,none⟩=some (.slice Ag grey.length ng)∧w'.cell? ⟨H+1,2,none⟩=some (.string ats))) (by kernel_rfl) ?_ (fun hHeld=> ?_)
 ·exact HSB.out _ (Below.refl _ w0).drew
 have hB:=(Below.refl w0.heap.size w0).drew;generalize w0.drew=wn0 at *
 refine sqTH 0 ?_;try simp only [sqP]
 refine sqTH 1 ?_;try simp only [sqP]
 refine sqTH 2 ?_;try simp only [sqP]
 refine sqTH 3 ?_;try simp only [sqP]
 refine sqTH 5 ?_;try simp only [sqP]
 refine sqTH 6 ?_;try simp only [sqP]
 refine wpAnyH_ready (rs:= [4,8]) (by kernel_rfl) (by simp) ?_;refine AllReadyH.cons (o:=_) rfl (fun K hK=> ?_) ?_
 ·
  go_simp;refine(kK Ag ng grey wn0 (by omega) (HRG.out _ hB)).mono ?_;rintro e5 w5 ⟨v5,rfl,ho5,hb5⟩;obtain⟨A5,c5,rfl, -, -⟩:=Rd.of_own' ho5;dsimp only;refine qJ hK ?_ (Below wn0.heap.size wn0) (fun W=>W.ownsRow w0.heap.size 9 1 (.slice A5 grey.length c5) grey.length (strs grey)) ?_ ?_ (fun wn1 hHeld hst hnew=> ?_)
  ·(exact HSB.out _ (hB.trans (Below.mono (show Below wn0.heap.size wn0 _ from by(first | exact(Below.refl _ _).alloc (Nat.le_refl _) _ | exact hb5)) hB.size)))
  ·(first | exact(Below.refl _ _).alloc (Nat.le_refl _) _ | exact hb5)
  ·(exact ze ho5 hB.size)
  replace hB:=hB.trans (hst.mono hB.size);have hl:=hnew;clear hnew ho5 hb5;clear hst;clear hK K
  try simp only [sqP]
  refine sqTH 7 ?_;try simp only [sqP]
  refine wpAnyH_ready (rs:= [8]) (by kernel_rfl) (by simp) ?_;refine AllReadyH.cons (o:=_) rfl (fun K hK=> ?_) ?_
  ·
   go_simp;refine qJ hK ?_ (Below wn1.heap.size wn1) (fun W=>Arr W wn1.heap.size 29 [.int .i64 0,.slice none 0 0,.string ⟨#[]⟩]∧w0.heap.size≤wn1.heap.size) ?_ ?_ (fun wn2 hHeld hst hnew=> ?_)
   ·(exact HSB.out _ (hB.trans (Below.mono (show Below wn1.heap.size wn1 _ from by(first | exact(Below.refl _ _).alloc (Nat.le_refl _) _ | exact hb5)) hB.size)))
   ·(first | exact(Below.refl _ _).alloc (Nat.le_refl _) _ | exact hb5)
   ·(exact⟨Arr.new _ _ _,hB.size⟩)
   replace hB:=hB.trans (hst.mono hB.size);replace hl:=z8 hl hst;obtain⟨h8,hl8⟩:=hnew;obtain⟨g8,hg8⟩:∃g,g=wn1.heap.size:=⟨_,rfl⟩
   rw [←hg8]at h8 hl8 ⊢
   clear hg8;clear hst;clear hK K
   try simp only [sqP]
   refine wpAnyH_ready (rs:= [9]) (by kernel_rfl) (by simp) ?_;refine AllReadyH.cons (o:=_) rfl (fun K hK=> ?_) ?_
   ·
    obtain⟨z0,z1,z2⟩:=sqC3 h8;obtain⟨f0,f1,f2⟩:=sqF3 h8;go_simp;clear z0 z1 z2 f0 f1 f2;have hn8:=zg hl h8 (by decide);refine qJ hK ?_ (fun W=>Arr W g8 29 [.int .i64 phase,.slice A5 grey.length c5,.string ats]) (fun W=>Below w0.heap.size w0 W∧W.ownsRow w0.heap.size 9 1 (.slice A5 grey.length c5) grey.length (strs grey)) ?_ ?_ (fun wn3 hHeld hF hG=> ?_)
    ·exact HSB.out _ (((hB.setCell (p:=⟨g8,0,none⟩) hl8 _).setCell (p:=⟨g8,1,none⟩) hl8 _).setCell (p:=⟨g8,2,none⟩) hl8 _)
    ·exact h8.all3 _ _ _
    ·exact⟨((hB.setCell (p:=⟨g8,0,none⟩) hl8 _).setCell (p:=⟨g8,1,none⟩) hl8 _).setCell (p:=⟨g8,2,none⟩) hl8 _,qx hl hn8 _ _ _⟩
    clear hB h8 hl hn8;clear hK K
    try simp only [sqP]
    refine wpAnyH_done (by kernel_rfl) ?_ _;dsimp only [Exit.then];clear hHeld;obtain⟨hB,hl⟩:=hG;have hall:=And.intro hB (And.intro hl (And.intro hF hl8));clear hB hl hF hl8;generalize wn3=wz at hall ⊢
    revert hall;revert wz;revert c5;revert A5;revert g8;exact REST.out
   exact AllReadyH.nil
  exact AllReadyH.nil
 refine AllReadyH.cons (o:=_) rfl (fun K hK=> ?_) ?_
 ·
  go_simp;refine qJ hK ?_ (Below wn0.heap.size wn0) (fun W=>Arr W wn0.heap.size 29 [.int .i64 0,.slice none 0 0,.string ⟨#[]⟩]∧w0.heap.size≤wn0.heap.size) ?_ ?_ (fun wn4 hHeld hst hnew=> ?_)
  ·(exact HSB.out _ (hB.trans (Below.mono (show Below wn0.heap.size wn0 _ from by(first | exact(Below.refl _ _).alloc (Nat.le_refl _) _ | exact hb5)) hB.size)))
  ·(first | exact(Below.refl _ _).alloc (Nat.le_refl _) _ | exact hb5)
  ·(exact⟨Arr.new _ _ _,hB.size⟩)
  replace hB:=hB.trans (hst.mono hB.size);obtain⟨h8,hl8⟩:=hnew;obtain⟨g8,hg8⟩:∃g,g=wn0.heap.size:=⟨_,rfl⟩
  rw [←hg8]at h8 hl8 ⊢
  clear hg8;clear hst;clear hK K
  try simp only [sqP]
  refine wpAnyH_ready (rs:= [4]) (by kernel_rfl) (by simp) ?_;refine AllReadyH.cons (o:=_) rfl (fun K hK=> ?_) ?_
  ·
   go_simp;refine(kK Ag ng grey wn4 (by omega) (HRG.out _ hB)).mono ?_;rintro e5 w5 ⟨v5,rfl,ho5,hb5⟩;obtain⟨A5,c5,rfl, -, -⟩:=Rd.of_own' ho5;dsimp only;refine qJ hK ?_ (Below wn4.heap.size wn4) (fun W=>W.ownsRow w0.heap.size 9 1 (.slice A5 grey.length c5) grey.length (strs grey)) ?_ ?_ (fun wn5 hHeld hst hnew=> ?_)
   ·(exact HSB.out _ (hB.trans (Below.mono (show Below wn4.heap.size wn4 _ from by(first | exact(Below.refl _ _).alloc (Nat.le_refl _) _ | exact hb5)) hB.size)))
   ·(first | exact(Below.refl _ _).alloc (Nat.le_refl _) _ | exact hb5)
   ·(exact ze ho5 hB.size)
   replace hB:=hB.trans (hst.mono hB.size);replace h8:=h8.below hst;have hl:=hnew;clear hnew ho5 hb5;clear hst;clear hK K
   try simp only [sqP]
   refine sqTH 7 ?_;try simp only [sqP]
   refine wpAnyH_ready (rs:= [9]) (by kernel_rfl) (by simp) ?_;refine AllReadyH.cons (o:=_) rfl (fun K hK=> ?_) ?_
   ·
    obtain⟨z0,z1,z2⟩:=sqC3 h8;obtain⟨f0,f1,f2⟩:=sqF3 h8;go_simp;clear z0 z1 z2 f0 f1 f2;have hn8:=zg hl h8 (by decide);refine qJ hK ?_ (fun W=>Arr W g8 29 [.int .i64 phase,.slice A5 grey.length c5,.string ats]) (fun W=>Below w0.heap.size w0 W∧W.ownsRow w0.heap.size 9 1 (.slice A5 grey.length c5) grey.length (strs grey)) ?_ ?_ (fun wn6 hHeld hF hG=> ?_)
    ·exact HSB.out _ (((hB.setCell (p:=⟨g8,0,none⟩) hl8 _).setCell (p:=⟨g8,1,none⟩) hl8 _).setCell (p:=⟨g8,2,none⟩) hl8 _)
    ·exact h8.all3 _ _ _
    ·exact⟨((hB.setCell (p:=⟨g8,0,none⟩) hl8 _).setCell (p:=⟨g8,1,none⟩) hl8 _).setCell (p:=⟨g8,2,none⟩) hl8 _,qx hl hn8 _ _ _⟩
    clear hB h8 hl hn8;clear hK K
    try simp only [sqP]
    refine wpAnyH_done (by kernel_rfl) ?_ _;dsimp only [Exit.then];clear hHeld;obtain⟨hB,hl⟩:=hG;have hall:=And.intro hB (And.intro hl (And.intro hF hl8));clear hB hl hF hl8;generalize wn6=wz at hall ⊢
    revert hall;revert wz;revert c5;revert A5;revert g8;exact REST.out
   exact AllReadyH.nil
  exact AllReadyH.nil
 exact AllReadyH.nil;intro g8 A5 c5 wz hall;obtain⟨hB,hl,h8,hl8⟩:=hall;have h3:phase=0∨phase=1∨phase=2:=by omega
 obtain⟨hS,hC,hR,hQ,hD⟩:=HSX.out _ hB;have ho:=HO0.out.below hB;have hwz:=hB.size;have hbz:=hB;have hB:=HBX.out.trans (hB.mono (show H≤w0.heap.size by omega));have y0:=hC.cell (k:=0) rfl;rcases h3 with h3 | h3 | h3
 ·have HKP:=sqH (show zw s ⟨phase,grey,at_⟩ ds=(s,⟨phase,grey,at_⟩) from JJ h3);have g1:((phase:Int)==1)=false:=by rw [h3];rfl
  have g2:((phase:Int)==2)=false:=by rw [h3];rfl
  clear hC hD HKP0 h3
  repeat' ((fail_if_success (with_reducible refine at_reg_ 7 ?_));(fail_if_success (with_reducible refine at_sreg_ 7 ?_));(fail_if_success (with_reducible refine at_ssreg_ 7 ?_));(fail_if_success at_builtin);(fail_if_success at_make);(first | go_values | go_skip | go_guarded | go_step | go_upon | go_back))
  clear y0 g1 g2;have hHg:H+2≠H+3:=by omega
  have HF1:=sqH (zW (g:=H+2) (h:=H+3) (u0:=(.slice A s.blobs.length c)) (u1:= .slice B s.ents.length d) (u2:= .int .i64 s.room) (u3:= .int .i64 s.clock) (x0:= .int .i64 phase) (x1:=(.slice A5 grey.length c5)) (x2:= .string ats) hR hHg);have HF2:=sqH (zY (g:=H+2) (h:=H+3) (u0:=(.slice A s.blobs.length c)) (u1:= .slice B s.ents.length d) (u2:= .int .i64 s.room) (u3:= .int .i64 s.clock) (x0:= .int .i64 phase) (x1:=(.slice A5 grey.length c5)) (x2:= .string ats) hQ hHg);have HF3:=sqH (zT (g:=H+2) (h:=H+3) (u0:=(.slice A s.blobs.length c)) (u1:= .slice B s.ents.length d) (u2:= .int .i64 s.room) (u3:= .int .i64 s.clock) (x0:= .int .i64 phase) (x1:=(.slice A5 grey.length c5)) (x2:= .string ats) ho (.inr ⟨by omega,by omega⟩) (.inr ⟨by omega,by omega⟩) (ho.nb hR (by decide) (by decide)).1 (ho.nb hR (by decide) (by decide)).2 (ho.nb hQ (by decide) (by decide)).1 (ho.nb hQ (by decide) (by decide)).2);have HF4:=sqH (zN (g:=H+2) (h:=H+3) (u0:=(.slice A s.blobs.length c)) (u1:= .slice B s.ents.length d) (u2:= .int .i64 s.room) (u3:= .int .i64 s.clock) (x0:= .int .i64 phase) (x1:=(.slice A5 grey.length c5)) (x2:= .string ats) hl (zg hl hR (by decide)) (zg hl hQ (by decide)));have HF5:=sqH (zq (g:=H+2) (h:=H+3) (u0:=(.slice A s.blobs.length c)) (u1:= .slice B s.ents.length d) (u2:= .int .i64 s.room) (u3:= .int .i64 s.clock) (x0:= .int .i64 phase) (x1:=(.slice A5 grey.length c5)) (x2:= .string ats) hB (by omega) (by omega));obtain⟨f0,f1,f2,f3⟩:=sqF4 hR;obtain⟨y0,y1,y2,y3⟩:=sqC4 hR;obtain⟨e0,e1,e2⟩:=sqF3 hQ;obtain⟨x0,x1,x2⟩:=sqC3 hQ;obtain⟨s0,s1,s2,s3⟩:=sqC4 hS;obtain⟨t0,t1,t2⟩:=sqC3 h8;have n1:¬(H=H+2):=by omega
  have n2:¬(g8=H+2):=by omega
  have n3:¬(H=H+3):=by omega
  clear hR hQ ho hl hB hS h8
  repeat' ((fail_if_success (with_reducible refine at_reg_ 7 ?_));(fail_if_success (with_reducible refine at_sreg_ 7 ?_));(fail_if_success (with_reducible refine at_ssreg_ 7 ?_));(fail_if_success at_builtin);(fail_if_success at_make);(first | go_values | go_skip | go_guarded | go_step | go_upon | go_back))
  go_region
  all_goals (try dsimp only [Exit.then])
  go_wp2_with fail;refine bodyPost_ret (qR rfl _ _ (H+2) (H+3) _ _ _ _ _ _ _ _ (by rfl) (Arr.drew HF1.out) Tryz.underlying26 rfl (by kernel_rfl) (by rfl) (Arr.drew HF2.out) Tryz.underlying29 rfl (by kernel_rfl)) rfl ?_;have e9:=HATS.out;subst e9;rw [HKP.out];exact⟨_,_,rfl,HF3.out.drewX.mono (fun b hb=> .inl hb),ze HF4.out.drew (by omega),HF5.out.drew⟩
 ·have HKP:=sqH (show zw s ⟨phase,grey,at_⟩ ds=(s,⟨phase,uni (grey++ds),at_⟩) from by rw [z0a h3,h3]);have g1:((phase:Int)==1)=true:=by rw [h3];rfl
  have y1:=hC.cell (k:=1) rfl;have hrg:Rd wz 1 Ag grey.length (strs grey):=HRG.out _ hbz;have HAD:=sqH (Ur Ag D ng nd grey ds wz hgcap hdn (by omega) (by omega) hrg hD);have ho1:=(HO0.out.wider (N':=fun b=>N b∨H≤b) (fun b hb=>by
   rcases hb with hb | hb
   ·exact .inl (.inl hb)
   ·by_cases h:b<w0.heap.size
    ·exact .inl (.inr ⟨hb,h⟩)
    ·exact .inr (by omega))).below hbz
  have H8:=sqH h8;have HHS:=sqH hS;have HHR:=sqH hR;have HHQ:=sqH hQ;have HO1:=sqH ho1;have HBZ:=sqH hB;clear hC hD HKP0 h3 hrg ho1 ho hl h8 hS hR hQ hB;go_wp2_with fail;clear y0 y1 g1;refine HAD.out.mono ?_;rintro e_ w5 ⟨v5,N5,rfl,hN5, -,ho5,hb5⟩;dsimp only;obtain rfl:=hN5.uni (L:=grey++ds) (fun x=>List.mem_append.symm);obtain⟨A6,c6,rfl, -, -⟩:=Rd.of_own' ho5;have h8:=H8.out.below hb5;have hz1:=h8.cell (k:=1) rfl;have hf1:=h8.frozen 1;have h8':=h8.set (k:=1) (by simp) (.slice A6 (uni (grey++ds)).length c6);simp only [List.set_cons_succ,List.set_cons_zero]at h8';have hn8:=zg ho5 h8 (by decide);have hne:=(HO1.out.below hb5).nb h8 (by decide) (by decide);have ho':=((HO1.out.below hb5).setX (g:=g8) (k:=1) (.inr (by omega)) hne.1 hne.2 (.slice A6 (uni (grey++ds)).length c6)).mono (N':=fun b=>N b∨H≤b∧b<w0.heap.size) (fun b hb=>hb.imp id And.left);have hl':=zf (k:=1) (u:= .slice A6 (uni (grey++ds)).length c6) ho5 hn8;have hS':=(HHS.out.below hb5).other (k:=1) (g':=g8) (by omega) (.slice A6 (uni (grey++ds)).length c6);have hR':=(HHR.out.below hb5).other (k:=1) (g':=g8) (by omega) (.slice A6 (uni (grey++ds)).length c6);have hQ':=(HHQ.out.below hb5).other (k:=1) (g':=g8) (by omega) (.slice A6 (uni (grey++ds)).length c6);have hB':=(HBZ.out.trans (hb5.mono (show H≤wz.heap.size by omega))).setCell (p:=⟨g8,1,none⟩) (by simp only;omega) (.slice A6 (uni (grey++ds)).length c6);have HX:=sqH (And.intro ho' (And.intro hl' (And.intro hS' (And.intro hR' (And.intro hQ' (And.intro hB' h8'))))));clear ho' hl' hS' hR' hQ' hB' h8' hn8 hne h8 ho5 hb5 hN5;generalize uni (grey++ds)=U at *
  repeat' ((fail_if_success (with_reducible refine at_reg_ 7 ?_));(fail_if_success (with_reducible refine at_sreg_ 7 ?_));(fail_if_success (with_reducible refine at_ssreg_ 7 ?_));(fail_if_success at_builtin);(fail_if_success at_make);(first | go_values | go_skip | go_guarded | go_step | go_upon | go_back))
  clear hz1 hf1;obtain⟨ho,hl,hS,hR,hQ,hB,h8⟩:=HX.out;clear HX;have hHg:H+2≠H+3:=by omega
  have HF1:=sqH (zW (g:=H+2) (h:=H+3) (u0:=(.slice A s.blobs.length c)) (u1:= .slice B s.ents.length d) (u2:= .int .i64 s.room) (u3:= .int .i64 s.clock) (x0:= .int .i64 phase) (x1:=(.slice A6 U.length c6)) (x2:= .string ats) hR hHg);have HF2:=sqH (zY (g:=H+2) (h:=H+3) (u0:=(.slice A s.blobs.length c)) (u1:= .slice B s.ents.length d) (u2:= .int .i64 s.room) (u3:= .int .i64 s.clock) (x0:= .int .i64 phase) (x1:=(.slice A6 U.length c6)) (x2:= .string ats) hQ hHg);have HF3:=sqH (zT (g:=H+2) (h:=H+3) (u0:=(.slice A s.blobs.length c)) (u1:= .slice B s.ents.length d) (u2:= .int .i64 s.room) (u3:= .int .i64 s.clock) (x0:= .int .i64 phase) (x1:=(.slice A6 U.length c6)) (x2:= .string ats) ho (.inr ⟨by omega,by omega⟩) (.inr ⟨by omega,by omega⟩) (ho.nb hR (by decide) (by decide)).1 (ho.nb hR (by decide) (by decide)).2 (ho.nb hQ (by decide) (by decide)).1 (ho.nb hQ (by decide) (by decide)).2);have HF4:=sqH (zN (g:=H+2) (h:=H+3) (u0:=(.slice A s.blobs.length c)) (u1:= .slice B s.ents.length d) (u2:= .int .i64 s.room) (u3:= .int .i64 s.clock) (x0:= .int .i64 phase) (x1:=(.slice A6 U.length c6)) (x2:= .string ats) hl (zg hl hR (by decide)) (zg hl hQ (by decide)));have HF5:=sqH (zq (g:=H+2) (h:=H+3) (u0:=(.slice A s.blobs.length c)) (u1:= .slice B s.ents.length d) (u2:= .int .i64 s.room) (u3:= .int .i64 s.clock) (x0:= .int .i64 phase) (x1:=(.slice A6 U.length c6)) (x2:= .string ats) hB (by omega) (by omega));obtain⟨f0,f1,f2,f3⟩:=sqF4 hR;obtain⟨y0,y1,y2,y3⟩:=sqC4 hR;obtain⟨e0,e1,e2⟩:=sqF3 hQ;obtain⟨x0,x1,x2⟩:=sqC3 hQ;obtain⟨s0,s1,s2,s3⟩:=sqC4 hS;obtain⟨t0,t1,t2⟩:=sqC3 h8;have n1:¬(H=H+2):=by omega
  have n2:¬(g8=H+2):=by omega
  have n3:¬(H=H+3):=by omega
  clear hR hQ ho hl hB hS h8
  repeat' ((fail_if_success (with_reducible refine at_reg_ 7 ?_));(fail_if_success (with_reducible refine at_sreg_ 7 ?_));(fail_if_success (with_reducible refine at_ssreg_ 7 ?_));(fail_if_success at_builtin);(fail_if_success at_make);(first | go_values | go_skip | go_guarded | go_step | go_upon | go_back))
  go_region
  all_goals (try dsimp only [Exit.then])
  go_wp2_with fail;refine bodyPost_ret (qR rfl _ _ (H+2) (H+3) _ _ _ _ _ _ _ _ (by rfl) (Arr.drew HF1.out) Tryz.underlying26 rfl (by kernel_rfl) (by rfl) (Arr.drew HF2.out) Tryz.underlying29 rfl (by kernel_rfl)) rfl ?_;have e9:=HATS.out;subst e9;rw [HKP.out];exact⟨_,_,rfl,HF3.out.drewX.mono (fun b hb=> .inl hb),ze HF4.out.drew (by omega),HF5.out.drew⟩
 ·have HKP:=sqH (show zw s ⟨phase,grey,at_⟩ ds=({ s with blobs:=zR s.blobs (Q7 s.blobs ds) },⟨phase,grey,at_⟩) from z06 h3);have g1:((phase:Int)==1)=false:=by rw [h3];rfl
  have g2:((phase:Int)==2)=true:=by rw [h3];rfl
  have x0:=hS.cell (k:=0) rfl;obtain⟨_,_,_,_,e1,e2,hrd⟩:=ho.rows;cases e1;cases e2
  have HMA:=sqH (Jm A D c nd s.blobs ds wz (by omega) hrd.bc hrd.bm HG.out.b.ris (fun b hb=>by have:=(HG.out.b.one b hb).2.1;omega) (fun x hx=>by rw [(HG.out.b.one x hx).1];have:=qd (zu x.data);omega) hrd.b (by omega) hD);have H8:=sqH h8;have HHS:=sqH hS;have HHR:=sqH hR;have HHQ:=sqH hQ;have HO1:=sqH ho;have HLL:=sqH hl;have HBZ:=sqH hB;have hH2:H<wz.heap.size:=hS.lt;clear hC hD HKP0 h3 hrd ho hl h8 hS hR hQ hB;go_wp2_with fail;clear y0 x0 g1 g2;refine HMA.out.mono ?_;rintro e_ w5 ⟨g5,L5,rfl,hL5,hx5,hb5⟩;dsimp only;obtain rfl:=hL5.uniq (Qb HG.out.b.ris ds);have hS5:=HHS.out.below hb5;have hz0:=hS5.cell (k:=0) rfl;have hf0:=hS5.frozen 0;have ho5:=HO1.out.mixC (fun b hb=>by
   rcases hb with hb | hb
   ·have:=HN.out b hb;omega
   ·omega) hx5 (by omega) hb5
  have hne:=ho5.nb hS5 (by decide) (by decide);have ho':=ho5.setX (g:=H) (k:=0) (.inr ⟨Nat.le_refl _,by omega⟩) hne.1 hne.2 (.slice (some ⟨g5,0,none⟩) s.blobs.length s.blobs.length);have hl5:=z8 HLL.out hb5;have hl':=zf (k:=0) (u:= .slice (some ⟨g5,0,none⟩) s.blobs.length s.blobs.length) hl5 (zg hl5 hS5 (by decide));have hS':=hS5.set (k:=0) (by simp) (.slice (some ⟨g5,0,none⟩) s.blobs.length s.blobs.length);simp only [List.set_cons_zero]at hS';have h8':=(H8.out.below hb5).other (k:=0) (g':=H) (by omega) (.slice (some ⟨g5,0,none⟩) s.blobs.length s.blobs.length);have hR':=(HHR.out.below hb5).other (k:=0) (g':=H) (by omega) (.slice (some ⟨g5,0,none⟩) s.blobs.length s.blobs.length);have hQ':=(HHQ.out.below hb5).other (k:=0) (g':=H) (by omega) (.slice (some ⟨g5,0,none⟩) s.blobs.length s.blobs.length);have hB':=(HBZ.out.trans (hb5.mono (show H≤wz.heap.size by omega))).setCell (p:=⟨H,0,none⟩) (by simp only;omega) (.slice (some ⟨g5,0,none⟩) s.blobs.length s.blobs.length);have HX:=sqH (And.intro ho' (And.intro hl' (And.intro hS' (And.intro hR' (And.intro hQ' (And.intro hB' h8'))))));clear ho' hl' hS' hR' hQ' hB' h8' hne ho5 hl5 hb5 hL5 hx5 hS5;generalize zR s.blobs (Q7 s.blobs ds)=mk at *
  repeat' ((fail_if_success (with_reducible refine at_reg_ 7 ?_));(fail_if_success (with_reducible refine at_sreg_ 7 ?_));(fail_if_success (with_reducible refine at_ssreg_ 7 ?_));(fail_if_success at_builtin);(fail_if_success at_make);(first | go_values | go_skip | go_guarded | go_step | go_upon | go_back))
  clear hz0 hf0;obtain⟨ho,hl,hS,hR,hQ,hB,h8⟩:=HX.out;clear HX;have hHg:H+2≠H+3:=by omega
  have HF1:=sqH (zW (g:=H+2) (h:=H+3) (u0:=(.slice (some ⟨g5,0,none⟩) s.blobs.length s.blobs.length)) (u1:= .slice B s.ents.length d) (u2:= .int .i64 s.room) (u3:= .int .i64 s.clock) (x0:= .int .i64 phase) (x1:=(.slice A5 grey.length c5)) (x2:= .string ats) hR hHg);have HF2:=sqH (zY (g:=H+2) (h:=H+3) (u0:=(.slice (some ⟨g5,0,none⟩) s.blobs.length s.blobs.length)) (u1:= .slice B s.ents.length d) (u2:= .int .i64 s.room) (u3:= .int .i64 s.clock) (x0:= .int .i64 phase) (x1:=(.slice A5 grey.length c5)) (x2:= .string ats) hQ hHg);have HF3:=sqH (zT (g:=H+2) (h:=H+3) (u0:=(.slice (some ⟨g5,0,none⟩) s.blobs.length s.blobs.length)) (u1:= .slice B s.ents.length d) (u2:= .int .i64 s.room) (u3:= .int .i64 s.clock) (x0:= .int .i64 phase) (x1:=(.slice A5 grey.length c5)) (x2:= .string ats) ho (.inr ⟨by omega,by omega⟩) (.inr ⟨by omega,by omega⟩) (ho.nb hR (by decide) (by decide)).1 (ho.nb hR (by decide) (by decide)).2 (ho.nb hQ (by decide) (by decide)).1 (ho.nb hQ (by decide) (by decide)).2);have HF4:=sqH (zN (g:=H+2) (h:=H+3) (u0:=(.slice (some ⟨g5,0,none⟩) s.blobs.length s.blobs.length)) (u1:= .slice B s.ents.length d) (u2:= .int .i64 s.room) (u3:= .int .i64 s.clock) (x0:= .int .i64 phase) (x1:=(.slice A5 grey.length c5)) (x2:= .string ats) hl (zg hl hR (by decide)) (zg hl hQ (by decide)));have HF5:=sqH (zq (g:=H+2) (h:=H+3) (u0:=(.slice (some ⟨g5,0,none⟩) s.blobs.length s.blobs.length)) (u1:= .slice B s.ents.length d) (u2:= .int .i64 s.room) (u3:= .int .i64 s.clock) (x0:= .int .i64 phase) (x1:=(.slice A5 grey.length c5)) (x2:= .string ats) hB (by omega) (by omega));obtain⟨f0,f1,f2,f3⟩:=sqF4 hR;obtain⟨y0,y1,y2,y3⟩:=sqC4 hR;obtain⟨e0,e1,e2⟩:=sqF3 hQ;obtain⟨x0,x1,x2⟩:=sqC3 hQ;obtain⟨s0,s1,s2,s3⟩:=sqC4 hS;obtain⟨t0,t1,t2⟩:=sqC3 h8;have n1:¬(H=H+2):=by omega
  have n2:¬(g8=H+2):=by omega
  have n3:¬(H=H+3):=by omega
  clear hR hQ ho hl hB hS h8
  repeat' ((fail_if_success (with_reducible refine at_reg_ 7 ?_));(fail_if_success (with_reducible refine at_sreg_ 7 ?_));(fail_if_success (with_reducible refine at_ssreg_ 7 ?_));(fail_if_success at_builtin);(fail_if_success at_make);(first | go_values | go_skip | go_guarded | go_step | go_upon | go_back))
  go_region
  all_goals (try dsimp only [Exit.then])
  go_wp2_with fail;refine bodyPost_ret (qR rfl _ _ (H+2) (H+3) _ _ _ _ _ _ _ _ (by rfl) (Arr.drew HF1.out) Tryz.underlying26 rfl (by kernel_rfl) (by rfl) (Arr.drew HF2.out) Tryz.underlying29 rfl (by kernel_rfl)) rfl ?_;have e9:=HATS.out;subst e9;rw [HKP.out];exact⟨_,_,rfl,HF3.out.drewX.mono (fun b hb=> .inl hb),ze HF4.out.drew (by omega),HF5.out.drew⟩
end Go.Proofs.YtnmlbflhnnmoeaaGreat
namespace Go.Proofs.YtnmlbflhnnmoeaaGreat
open Go.RowKit
theorem UB (A:Option Addr) (c:Nat) (x:List PartP) (w:World) (hx8:x.length≤1000) (hr:Rd w 3 A x.length (pcs x)) :
  Calls Tryz.prog 127 #[.slice A x.length c] w fun e w'=>∃v,e= .returned v∧w'.ownsRow w.heap.size 9 1 v (x.map (·.dig)).length (strs (x.map (·.dig)))∧Below w.heap.size w w':=by
 have HR2:=sqH hr;clear hr;go_enter Tryz.func127,Tryz.ntmps127;go_wp2_with fail;go_loopg [3,8,5] x.length (fun gn v i u wr=>∃k:Nat,gn=x.length - k∧i= .int .i64 k∧k≤x.length∧wr.ownsRow w.heap.size 9 1 v k (dcs (x.take k))∧Below w.heap.size w wr)
 case atStart=>exact⟨0,rfl,rfl,by omega,World.ownsRow_nil _ _ _ _,Below.refl _ _⟩
 case round =>
  obtain⟨k,hgk,rfl,hk,ho,hbl⟩:=hrel;have HGK:=sqH hgk;clear hgk;by_cases hlt:k<x.length
  ·have hstep:=ZZ x k hlt;have hat:=fun j (hj:j<3)=>xP x k j hlt hj;obtain⟨b,off,rfl,hbw',hcell⟩:=(HR2.out.below hbl).2 (by omega);have c0:=hcell (k*3+0) _ (hat 0 (by omega));have c1:=hcell (k*3+1) _ (hat 1 (by omega));have c2:=hcell (k*3+2) _ (hat 2 (by omega));rw [Nat.add_zero]at c0;rw [show off+(k*3+1)=off+k*3+1 by omega]at c1;rw [show off+(k*3+2)=off+k*3+2 by omega]at c2
   try dsimp only [ym,List.getElem?_cons_zero,List.getElem?_cons_succ]at c0 c1 c2
   generalize (⟨x[k].name.toArray⟩:ByteArray)=s' at *
   generalize (⟨x[k].dig.toArray⟩:ByteArray)=t' at *
   generalize (x[k].size:Int)=z' at *
   have HST:=sqH hstep;have hk0:(0:Int)≤(k:Int):=by omega
   have hk1:(k:Int)<(x.length:Int):=by omega
   have hcc:decide (k<x.length)=true:=decide_eq_true hlt;clear hstep hat hcell
   repeat' (fail_if_success (first|at_builtin|at_make));first|go_values|go_skip|go_guarded|go_step|go_upon|go_back
   have hbl':=hbl.alloc hbl.size (.cells #[.string s',.string t',.int .i64 z'] 65);have ho':=ho.alloc (.cells #[.string s',.string t',.int .i64 z'] 65);have hs1:(wr.alloc (.cells #[.string s',.string t',.int .i64 z'] 65)).heap.size=wr.heap.size+1:=World.size_alloc _ _;generalize wr.alloc (.cells #[.string s',.string t',.int .i64 z'] 65)=wb at *
   rw [←hs1];clear hs1 ho hbl c0 c1 c2;refine zn rfl (.tmp 12) (.tmp 15) rfl z0e (by rfl) ho' (us:= [.string t']) (m:=1) (by rfl) rfl (by intro u hu;simp at hu;subst hu;rfl) (by omega) hbl'.size ?_;intro v5 w5 ho5 hg5 hv5;rw [←HST.out]at ho5;have hbl5:=zi hbl' ho' (Nat.le_refl _) hg5;go_wp2_with fail;go_roundg (x.length - (k+1))
   case measure=>have:=HGK.out;omega
   case rel=>exact⟨k+1,rfl,by go_num,by omega,ho5,hbl5⟩
  ·obtain rfl:k=x.length:=by omega
   have hcc:decide (x.length<x.length)=false:=by simp
   rw [List.take_length,vo]at ho;have hml:(x.map (·.dig)).length=x.length:=List.length_map _;have HML:=sqH hml;clear hml;go_wp2_with fail;go_ret;exact⟨_,rfl,by rw [HML.out];exact ho,hbl⟩
end Go.Proofs.YtnmlbflhnnmoeaaGreat
