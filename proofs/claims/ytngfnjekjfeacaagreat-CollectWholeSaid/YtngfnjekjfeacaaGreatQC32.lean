/- Lemmas of a proof, made shorter by a program. Conditions: none, or as each states. -/
import Derived.Test.YtngfnjekjfeacaaGreatQC31
namespace Go.Proofs.YtngfnjekjfeacaaGreat
open Go.RowKit Go.Maps
set_option linter.unusedVariables false
set_option linter.unusedSimpArgs false
set_option maxRecDepth 100000
theorem xN (s : StoP) (c : ColP) : (zG s c).2.1.grey = [] := by
 rcases zx s c with ⟨_, e⟩ | ⟨_, _, _, _, e⟩ | ⟨_, _, _, _, e⟩ <;> rw [e]
theorem vC (A : Option Addr) (c : Nat) (B : Option Addr) (d : Nat) (s : StoP) (Ag : Option Addr) (ng : Nat) (cp : ColP) (w : World) (hg : GoodS s) (hr : RdSt w A c B d s) (hp : cp.phase = 1 ∨ cp.phase = 2) (hgl : cp.grey.length ≤ 1000) (hgc : GoodC s cp) (hc : RdC w Ag ng cp) :
  Calls Tryz.prog 36 #[.agg #[.slice A s.blobs.length c, .slice B s.ents.length d, .int .i64 (s.room : Int), .int .i64 (s.clock : Int)], coV (.slice Ag cp.grey.length ng) cp] w fun e w' =>
   ∃ v1 v2 v3, e = .returned (.tuple #[stV v1 v2 s, coV v3 (zm s cp).2.1, .string ⟨(zm s cp).2.2.toArray⟩, .int .i64 0]) ∧ OwSt w' w.heap.size v1 v2 (zm s cp).1 (fun b => b < w.heap.size) ∧ w'.ownsRow w.heap.size 9 1 v3 (zm s cp).2.1.grey.length (strs (zm s cp).2.1.grey) ∧ Below w.heap.size w w' := by
 rcases hp with hp | hp
 ·have hT : zm s cp = ((ze s cp).1, (ze s cp).2, []) := by unfold zm; rw [if_pos hp]
  rw [hT]
  refine (Ku A c B d s Ag ng cp w hg hr hp hgl hgc hc).mono ?_
  rintro e w' ⟨v1, v2, v3, he, h1, h2, h3⟩
  exact ⟨v1, v2, v3, he, h1, h2, h3⟩
 ·have hT : zm s cp = zG s cp := by unfold zm; rw [if_neg (by omega)]
  rw [hT]
  refine (KD A c B d s Ag ng cp w hg hr hp hgl hgc hc).mono ?_
  rintro e w' ⟨v1, v2, he, h1, h3⟩
  refine ⟨v1, v2, .slice none 0 0, he, h1, ?_, h3⟩
  rw [xN]
  exact World.ownsRow_nil _ _ _ _
theorem Zc (w : World) (e1 e2 : TypeId) (c1 c2 c3 : List Value) : ∃ W, W = ((w.alloc (.cells c1.toArray e1)).alloc (.cells c2.toArray e2)).alloc (.cells c3.toArray e1) ∧ Arr W w.heap.size e1 c1 ∧ Arr W (w.heap.size + 1) e2 c2 ∧ Arr W (w.heap.size + 1 + 1) e1 c3 ∧ Below w.heap.size w W := by
 obtain ⟨W2, h2, a1, a2, b2⟩ := zP w e1 e2 c1 c2
 have a3 := Arr.new W2 e1 c3
 have hs : W2.heap.size = w.heap.size + 1 + 1 := by rw [h2]; simp
 have b3 := (Below.refl W2.heap.size W2).alloc (Nat.le_refl _) (.cells c3.toArray e1)
 rw [hs] at a3
 exact ⟨_, rfl, by rw [← h2]; exact a1.below b3, by rw [← h2]; exact a2.below b3, by rw [← h2]; exact a3, by rw [← h2]; exact b2.trans (b3.mono b2.size)⟩
theorem xx (s : StoP) (c : ColP) : (zm s c).1.room = s.room ∧ (zm s c).1.clock = s.clock ∧ (zm s c).1.ents = s.ents := by
 unfold zm
 split
 ·have e := (zI s c).2
  exact ⟨(congrArg StoP.room e).trans rfl, (congrArg StoP.clock e).trans rfl, (congrArg StoP.ents e).trans rfl⟩
 ·rcases zx s c with ⟨_, e⟩ | ⟨_, _, _, _, e⟩ | ⟨_, _, _, _, e⟩ <;> rw [e] <;> exact ⟨rfl, rfl, rfl⟩
theorem xg (s : StoP) (c : ColP) : 8 * unm (zm s c).1.blobs + (zm s c).2.1.grey.length ≤ 8 * unm s.blobs + c.grey.length := by
 unfold zm
 split
 ·rcases yS s c with h | h
  ·have := xK (kj s.blobs) h
   show 8 * unm (ze s c).1.blobs + (ze s c).2.grey.length ≤ _
   omega
  ·rcases zO s c with ⟨_, e⟩ | ⟨_, _, _, _, e⟩ | ⟨_, _, _, _, _, _, _, _, e⟩ | ⟨_, _, _, _, _, _, _, _, e⟩
   ·rw [e]; show 8 * unm s.blobs + 0 ≤ _; omega
   all_goals rw [e] at h; cases h
 ·have h1 : unm (zG s c).1.blobs ≤ unm s.blobs := by
   rcases zx s c with ⟨_, e⟩ | ⟨_, _, _, _, e⟩ | ⟨_, _, _, _, e⟩
   ·rw [e]; exact Nat.le_refl _
   ·rw [e]; exact Nat.le_refl _
   ·rw [e]; exact ((List.eraseIdx_sublist _ _).filter _).length_le
  rw [xN]
  show 8 * unm (zG s c).1.blobs + 0 ≤ _
  omega
theorem K0 (s : StoP) (c : ColP) : (zm s c).1.blobs.length + (if (zm s c).2.2 = [] then 0 else 1) ≤ s.blobs.length := by
 unfold zm
 split
 ·have := uo s c
  show (ze s c).1.blobs.length + (if ([] : List UInt8) = [] then 0 else 1) ≤ _
  rw [if_pos rfl]; omega
 ·rcases zx s c with ⟨_, e⟩ | ⟨_, _, _, _, e⟩ | ⟨i, hi, _, _, e⟩
  ·rw [e]; exact Nat.le_refl _
  ·rw [e]; exact Nat.le_refl _
  ·rw [e]
   show (s.blobs.eraseIdx i).length + _ ≤ _
   rw [List.length_eraseIdx, if_pos hi]
   split <;> omega
theorem Qd {w : World} {base base' size size' n n' : Nat} {e e' : TypeId} {v v' : Value} {xs xs' : List Value} (h : w.ownsRow base e size v n xs) (h' : w.ownsRow base' e' size' v' n' xs') (hne : e ≠ e') : ∀ b, v.ownBlock = some b → v'.ownBlock ≠ some b := fun b hb hb' => by
 rcases h.2 with ⟨rfl, _⟩ | ⟨g, cap, cur, rfl, _, h2, _⟩
 ·cases hb
 ·cases hb
  rcases h'.2 with ⟨rfl, _⟩ | ⟨g', cap', cur', rfl, _, h3, _⟩
  ·cases hb'
  ·cases hb'
   have h4 := Eq.trans (Eq.symm h2) h3
   simp only [Option.some.injEq, Obj.cells.injEq] at h4
   exact hne h4.2.1
theorem Z7 {w : World} {g h k : Nat} {e : TypeId} {xs : List Value} (u0 u1 u2 u3 x0 x1 x2 : Value) (hA : Arr w k e xs) (h1 : k ≠ g) (h2 : k ≠ h) : Arr (QZ w g h u0 u1 u2 u3 x0 x1 x2) k e xs :=
 ((((((hA.other h1 u0).other h1 u1).other h1 u2).other h1 u3).other h2 x0).other h2 x1).other h2 x2
structure RunC (w : World) (H K gs gc : Nat) (v1 v2 v3 : Value) (Ag : Option Addr) (ng : Nat) (t : StoP) (cc : ColP) (g : List (List UInt8)) : Prop where
 bs : Arr w gs 26 [v1, v2, .int .i64 (t.room : Int), .int .i64 (t.clock : Int)]
 bc : Arr w gc 66 [.int .i64 (cc.phase : Int), .slice Ag cc.grey.length ng, .string ⟨cc.at_.toArray⟩]
 st : OwSt w H v1 v2 t (fun b => b < K ∨ b = gs ∨ v3.ownBlock = some b)
 gr : RdC w Ag ng cc
 gone : w.ownsRow H 9 1 v3 g.length (strs g)
section
variable {w w' : World} {H K gs gc : Nat} {v1 v2 v3 v3' : Value} {Ag : Option Addr} {ng : Nat} {t : StoP} {cc : ColP} {g : List (List UInt8)}
theorem RunC.below (h : RunC w H K gs gc v1 v2 v3 Ag ng t cc g) (hb : Below w.heap.size w w') : RunC w' H K gs gc v1 v2 v3 Ag ng t cc g := ⟨h.bs.below hb, h.bc.below hb, h.st.below hb, h.gr.below hb, z6 h.gone hb⟩
theorem RunC.key (h : RunC w H K gs gc v1 v2 v3 Ag ng t cc g) {B : Nat} (hgr : ∃ vg, w.ownsRow B 9 1 vg cc.grey.length (strs cc.grey) ∧ vg = .slice Ag cc.grey.length ng) (hB : ∀ b, v3.ownBlock = some b → b < B) {g' : List (List UInt8)} (ho : w'.ownsRow H 9 1 v3' g'.length (strs g')) (hg : w.grownBy w' v3.ownBlock) (hv : v3'.ownBlock = v3.ownBlock ∨ ∃ b, v3'.ownBlock = some b ∧ w.heap.size ≤ b) : RunC w' H K gs gc v1 v2 v3' Ag ng t cc g' := by
 obtain ⟨xs, hx⟩ := h.st.b.own_m
 obtain ⟨ys, hy⟩ := h.st.e.own_m
 have n1 := Qd h.gone hx (by decide)
 have n2 := Qd h.gone hy (by decide)
 have h1 : OwSt w H v1 v2 t (fun b => b < K ∨ b = gs ∨ v3'.ownBlock = some b ∨ v3.ownBlock = some b) := h.st.wider fun b hb => by
  rcases hb with hb | hb | hb | hb
  ·exact .inl (.inl hb)
  ·exact .inl (.inr (.inl hb))
  ·rcases hv with e | ⟨b', e, hb'⟩
   ·exact .inl (.inr (.inr (by rw [← e]; exact hb)))
   ·rw [e] at hb; cases hb; exact .inr hb'
  ·exact .inl (.inr (.inr hb))
 have h2 : OwSt w' H v1 v2 t (fun b => b < K ∨ b = gs ∨ v3'.ownBlock = some b ∨ v3.ownBlock = some b) :=
  ⟨h1.b.other hg (fun b e => n1 b e) (fun b e => .inl (.inr (.inr (.inr e)))), h1.e.other hg (fun b e => n2 b e) (fun b e => .inl (.inr (.inr (.inr e)))), h1.ne⟩
 obtain ⟨vg, hvg, rfl⟩ := hgr
 have hvg' : w'.ownsRow B 9 1 (.slice Ag cc.grey.length ng) cc.grey.length (strs cc.grey) := hvg.kept hg (by
  rcases hvg.2 with ⟨e2, _⟩ | ⟨g2, cap, cur, e2, h4, _⟩
  ·exact .inl (by rw [e2]; rfl)
  ·refine .inr fun e => ?_
   rw [e2] at e
   have h3 : g2 < B := hB g2 e.symm
   omega)
 obtain ⟨_, _, e1, hgr2⟩ := RdC.of_own (c := cc) hvg'
 cases e1
 exact ⟨h.bs.grown hg (zn h.gone h.bs (by decide)), h.bc.grown hg (zn h.gone h.bc (by decide)), h2.mono (fun b hb => hb.imp id fun h => h.imp id .inl), hgr2, ho⟩
end
set_option maxHeartbeats 16000000 in
theorem vK (A : Option Addr) (c : Nat) (B : Option Addr) (d : Nat) (s : StoP) (Ag : Option Addr) (ng : Nat) (cp : ColP) (w : World) (hg : GoodS s) (hr : RdSt w A c B d s) (hgl : 8 * unm s.blobs + cp.grey.length ≤ 1000) (hgc : GoodC s cp) (hc : RdC w Ag ng cp) :
  Calls Tryz.prog 39 #[.agg #[.slice A s.blobs.length c, .slice B s.ents.length d, .int .i64 (s.room : Int), .int .i64 (s.clock : Int)], coV (.slice Ag cp.grey.length ng) cp] w fun e w' =>
   ∃ v1 v2 v3, e = .returned (.tuple #[stV v1 v2 s, v3, .int .i64 0]) ∧ OwSt w' w.heap.size v1 v2 (kx s cp).1 (fun b => b < w.heap.size) ∧ w'.ownsRow w.heap.size 9 1 v3 (kx s cp).2.length (strs (kx s cp).2) ∧ Below w.heap.size w w' := by
 have hlb : s.blobs.length ≤ 24 := hg.b.len
 have hle : s.ents.length ≤ 10 := hg.e.len
 obtain ⟨phase, grey, at_⟩ := cp
 simp only at hgl
 obtain ⟨w0, hw0, hS, hC, hR, hb0⟩ := Zc w 26 66 [.slice A s.blobs.length c, .slice B s.ents.length d, .int .i64 (s.room : Int), .int .i64 (s.clock : Int)] [.int .i64 (phase : Int), .slice Ag grey.length ng, .string ⟨at_.toArray⟩] [.slice none 0 0, .slice none 0 0, .int .i64 0, .int .i64 0]
 have hr0 := hr.below hb0
 have hc0 := hc.below hb0
 obtain ⟨H, hH⟩ : ∃ H, H = w.heap.size := ⟨_, rfl⟩
 have HCK := Lib.hid (k8 A c B d s Ag ng ⟨phase, grey, at_⟩ w0 hg hr0 (by show grey.length ≤ 1000; omega) hgc hc0)
 have HCP := Lib.hid (fun W (h : Below w0.heap.size w0 W) => kk A c B d s W (by omega) (by omega) (fun b hb => by have := (hg.b.one b hb).2.1; omega) (fun x hx => by have := (zi (hg.e.one x hx).2.1).1; omega) (hr0.below h))
 have HGD := Lib.hid hg
 have HGC := Lib.hid hgc
 have HC0 := Lib.hid hc0
 rw [← hH] at hS hC hR hb0 ⊢
 have hHl : H + 1 + 1 < w0.heap.size := hR.lt
 have x0 := hS.cell (k := 0) rfl
 have x1 := hS.cell (k := 1) rfl
 have x2 := hS.cell (k := 2) rfl
 have x3 := hS.cell (k := 3) rfl
 have y0 := hC.cell (k := 0) rfl
 have y1 := hC.cell (k := 1) rfl
 have y2 := hC.cell (k := 2) rfl
 rw [hw0, hH] at x0 x1 x2 x3 y0 y1 y2
 clear hg hr hgc hc hr0 hc0
 go_enter Tryz.func39, Tryz.ntmps39
 go_wp2_with fail
 rw [← hw0, ← hH]
 have HH := Lib.hid hH
 clear hw0 hH x0 x1 x2 x3 y0 y1 y2
 refine ((HCK.out)).mono ?_; rintro e_ w1 ⟨rfl, hb1⟩; dsimp only
 have z0 := (hS.below hb1).cell (k := 0) rfl
 have z1 := (hS.below hb1).cell (k := 1) rfl
 have z2 := (hS.below hb1).cell (k := 2) rfl
 have z3 := (hS.below hb1).cell (k := 3) rfl
 clear HCK
 go_wp2_with fail
 clear z0 z1 z2 z3
 refine (((HCP.out _ hb1))).mono ?_; rintro e_ w2 ⟨q1, q2, rfl, ho2, hb2⟩; dsimp only
 have hb12 := hb1.trans (hb2.mono hb1.size)
 have hs1 := hb1.size
 have hs2 := hb12.size
 obtain ⟨gs, hgs⟩ : ∃ G, G = w2.heap.size := ⟨_, rfl⟩
 have hal := (Below.refl w2.heap.size w2).alloc (Nat.le_refl _) (.cells #[.slice (some ⟨q1, 0, none⟩) s.blobs.length s.blobs.length, .slice (some ⟨q2, 0, none⟩) s.ents.length s.ents.length, .int .i64 (s.room : Int), .int .i64 (s.clock : Int)] 26)
 have hb13 := hb12.trans (hal.mono hb12.size)
 have HRW := Lib.hid (show RunC (w2.alloc (.cells #[.slice (some ⟨q1, 0, none⟩) s.blobs.length s.blobs.length, .slice (some ⟨q2, 0, none⟩) s.ents.length s.ents.length, .int .i64 (s.room : Int), .int .i64 (s.clock : Int)] 26)) H w0.heap.size gs (H + 1) (.slice (some ⟨q1, 0, none⟩) s.blobs.length s.blobs.length) (.slice (some ⟨q2, 0, none⟩) s.ents.length s.ents.length) (.slice none 0 0) Ag ng s ⟨phase, grey, at_⟩ [] by
  refine ⟨by rw [hgs]; exact Arr.new w2 26 _, hC.below hb13, ?_, HC0.out.below hb13, World.ownsRow_nil _ _ _ _⟩
  refine ((ho2.lower (base' := H) (by omega)).wider fun b hb => ?_).below hal
  rcases hb with hb | hb | hb
  ·exact .inl (Nat.lt_of_lt_of_le hb hs1)
  ·exact .inr (by rw [hb, hgs]; exact Nat.le_refl _)
  ·cases hb)
 have HBK := Lib.hid (hb0.trans (hb13.mono (show H ≤ w0.heap.size by omega)))
 have HRES := Lib.hid (hR.below hb13)
 have hgs0 : w0.heap.size ≤ gs := by omega
 have HG := Lib.hid hgs
 clear hS hC hR hb1 hb2 hb12 hb13 ho2 hal HCP hb0 hgs HC0
 go_wp2_with fail
 rw [← HG.out]
 generalize (w2.alloc (.cells #[.slice (some ⟨q1, 0, none⟩) s.blobs.length s.blobs.length, .slice (some ⟨q2, 0, none⟩) s.ents.length s.ents.length, .int .i64 (s.room : Int), .int .i64 (s.clock : Int)] 26)) = w4 at *
 go_loopg [9] (q8 8 s ⟨phase, grey, at_⟩) (fun gn u wr => ∃ (t : StoP) (cc : ColP) (g : List (List UInt8)) (X : Option Addr) (cX : Nat) (Y : Option Addr) (dY : Nat) (Ag : Option Addr) (ng : Nat), gn = q8 8 t cc ∧ RunC wr H w0.heap.size gs (H + 1) (.slice X t.blobs.length cX) (.slice Y t.ents.length dY) u Ag ng t cc g ∧ Arr wr (H + 1 + 1) 26 [.slice none 0 0, .slice none 0 0, .int .i64 0, .int .i64 0] ∧ GoodS t ∧ GoodC t cc ∧ 8 * unm t.blobs + cc.grey.length ≤ 1000 ∧ kx s ⟨phase, grey, at_⟩ = ((kx t cc).1, g ++ (kx t cc).2) ∧ t.room = s.room ∧ t.clock = s.clock ∧ g.length + t.blobs.length ≤ 24 ∧ Below H w wr)
 case atStart => exact ⟨s, ⟨phase, grey, at_⟩, [], _, _, _, _, Ag, ng, rfl, HRW.out, HRES.out, HGD.out, HGC.out, hgl, rfl, rfl, rfl, by simpa using hlb, HBK.out⟩
 case round =>
  obtain ⟨t, cc, g, X, cX, Y, dY, Ag, ng, hgn, RW, hR, hg, hgc, hgl, hrun, hrm, hck, hgg, hbk⟩ := hrel
  have HGN := Lib.hid hgn
  have HG2 := Lib.hid hg
  have HGC2 := Lib.hid hgc
  have HGL := Lib.hid hgl
  have HRN := Lib.hid hrun
  have HRM := Lib.hid hrm
  have HCK := Lib.hid hck
  have HGG := Lib.hid hgg
  have htb := hg.b.len
  have hte := hg.e.len
  have HRWX := Lib.hid RW
  have hA := RW.bs
  have hC := RW.bc
  rw [hrm, hck] at hA
  have x0 := hA.cell (k := 0) rfl
  have x1 := hA.cell (k := 1) rfl
  have x2 := hA.cell (k := 2) rfl
  have x3 := hA.cell (k := 3) rfl
  have y0 := hC.cell (k := 0) rfl
  have y1 := hC.cell (k := 1) rfl
  have y2 := hC.cell (k := 2) rfl
  have hgsl := hA.lt
  have HR := Lib.hid hR
  have HHB := Lib.hid hbk
  clear HRW HBK HRES hgn hrun hrm hck hgg RW hA hC hR hbk hgl
  by_cases h0 : cc.phase = 0
  ·have g1 : ((cc.phase : Int) != 0) = false := by rw [h0]; rfl
   have f0 := HR.out.frozen 0
   have f1 := HR.out.frozen 1
   have f2 := HR.out.frozen 2
   have f3 := HR.out.frozen 3
   have r0 := HR.out.cell (k := 0) rfl
   have r1 := HR.out.cell (k := 1) rfl
   have r2 := HR.out.cell (k := 2) rfl
   have r3 := HR.out.cell (k := 3) rfl
   have n1 := HRWX.out.st.nb HR.out (by decide) (by decide)
   have n3 : u9.ownBlock ≠ some (H + 1 + 1) := zn HRWX.out.gone HR.out (by decide)
   have HF1 := Lib.hid (HR.out.all4 (.slice X t.blobs.length cX) (.slice Y t.ents.length dY) (.int .i64 (s.room : Int)) (.int .i64 (s.clock : Int)))
   have HF2 := Lib.hid (HRWX.out.st.set4N (g := H + 1 + 1) (.inl hHl) n1.1 n1.2 (.slice X t.blobs.length cX) (.slice Y t.ents.length dY) (.int .i64 (s.room : Int)) (.int .i64 (s.clock : Int)))
   have HF3 := Lib.hid (vO HRWX.out.gone n3 (.slice X t.blobs.length cX) (.slice Y t.ents.length dY) (.int .i64 (s.room : Int)) (.int .i64 (s.clock : Int)))
   have HF4 := Lib.hid ((((HHB.out.setCell (p := ⟨H + 1 + 1, 0, none⟩) (by simp only; omega) (.slice X t.blobs.length cX)).setCell (p := ⟨H + 1 + 1, 1, none⟩) (by simp only; omega) (.slice Y t.ents.length dY)).setCell (p := ⟨H + 1 + 1, 2, none⟩) (by simp only; omega) (.int .i64 (s.room : Int))).setCell (p := ⟨H + 1 + 1, 3, none⟩) (by simp only; omega) (.int .i64 (s.clock : Int)))
   clear n1 n3
   go_wp2_with fail
   refine bodyPost_ret (kV rfl _ _ (H + 1 + 1) _ _ _ _ (by rfl) HF1.out Tryz.underlying26 rfl (by kernel_rfl)) rfl ?_
   have hr := HRN.out
   rw [xl h0, List.append_nil] at hr
   rw [hr]
   exact ⟨_, _, _, rfl, HF2.out.mono (fun b hb => .inl (by omega)), HF3.out, HF4.out⟩
  ·have hp : cc.phase = 1 ∨ cc.phase = 2 := by have := HGC2.out.ph; omega
   have HP := Lib.hid hp
   have g1 : ((cc.phase : Int) != 0) = true := by
    rw [bne_iff_ne]; intro h; exact h0 (by omega)
   obtain ⟨_, _, _, _, e1, e2, hrd⟩ := HRWX.out.st.rows
   cases e1; cases e2
   have hms := vC X cX Y dY t Ag ng cc wr HG2.out hrd hp (by have := HGL.out; omega) HGC2.out HRWX.out.gr
   obtain ⟨k1, k2, -⟩ := xx t cc
   simp only [stV, coV] at hms
   rw [HRM.out] at hms k1
   rw [HCK.out] at hms k2
   obtain ⟨m1, m2, -⟩ := yf HG2.out HGC2.out hp
   have m3 := xg t cc
   have m4 := K0 t cc
   have m5 := qS (s := t) hp
   have m6 := qC (k := 8) (kj t.blobs) hp
   generalize (zm t cc).1 = t' at *
   generalize (zm t cc).2.1 = cc' at *
   generalize (zm t cc).2.2 = dd at *
   have HMS := Lib.hid hms
   clear hms hrd hp h0
   go_wp2_with fail
   clear x0 x1 x2 x3 y0 y1 y2
   refine ((HMS.out)).mono ?_; rintro e_ w5 ⟨v5, v6, v7, rfl, ho5, hl5, hb5⟩; dsimp only
   obtain ⟨X5, c5, Y5, d5, e1, e2, _⟩ := ho5.rows
   obtain ⟨A7, n7, e3, hc7⟩ := RdC.of_own (c := cc') hl5
   subst e1 e2 e3
   have hs5 := hb5.size
   have hgc0 : H + 1 < w0.heap.size := by omega
   have hne : gs ≠ H + 1 := by omega
   obtain ⟨W6, hW6, h6, h7, hb6⟩ := zP w5 26 66 [.slice X5 t'.blobs.length c5, .slice Y5 t'.ents.length d5, .int .i64 (s.room : Int), .int .i64 (s.clock : Int)] [.int .i64 (cc'.phase : Int), .slice A7 cc'.grey.length n7, .string ⟨cc'.at_.toArray⟩]
   have hb56 := hb5.trans (hb6.mono hs5)
   have hA6 := HRWX.out.bs.below hb56
   have hC6 := HRWX.out.bc.below hb56
   have hR6 := HR.out.below hb56
   have ho6 := ho5.below hb6
   have hl6 := z6 hl5 hb6
   have hg6 := z6 HRWX.out.gone hb56
   have hgw : gs < wr.heap.size := HRWX.out.bs.lt
   have hK : w0.heap.size ≤ wr.heap.size := by omega
   have hHw : H ≤ wr.heap.size := by omega
   have hb16 := HHB.out.trans (hb56.mono hHw)
   have hgcl := hC6.lt
   have hcw : H + 1 < wr.heap.size := HRWX.out.bc.lt
   have hv9 : ∀ b, u9.ownBlock = some b → b < wr.heap.size := fun b e => (HRWX.out.gone.lt b e).2
   have hwr : wr.heap.size ≤ W6.heap.size := hb56.size
   have ho6' := (ho6.lower (base' := H) hHw).mono (N' := fun b => b < w0.heap.size ∨ b = gs ∨ u9.ownBlock = some b) (fun b hb => by
    rcases hb with hb | hb | hb
    ·show b < wr.heap.size; have : w0.heap.size ≤ wr.heap.size := hK; omega
    ·rw [hb]; exact hgw
    ·exact hv9 b hb)
   have HF1 := Lib.hid (qq (g := gs) (h := H + 1) (u0 := .slice X5 t'.blobs.length c5) (u1 := .slice Y5 t'.ents.length d5) (u2 := .int .i64 (s.room : Int)) (u3 := .int .i64 (s.clock : Int)) (x0 := .int .i64 (cc'.phase : Int)) (x1 := .slice A7 cc'.grey.length n7) (x2 := .string ⟨cc'.at_.toArray⟩) hA6 hne)
   have HF2 := Lib.hid (qp (g := gs) (h := H + 1) (u0 := .slice X5 t'.blobs.length c5) (u1 := .slice Y5 t'.ents.length d5) (u2 := .int .i64 (s.room : Int)) (u3 := .int .i64 (s.clock : Int)) (x0 := .int .i64 (cc'.phase : Int)) (x1 := .slice A7 cc'.grey.length n7) (x2 := .string ⟨cc'.at_.toArray⟩) hC6 hne)
   have HF3 := Lib.hid (zW (g := gs) (h := H + 1) (u0 := .slice X5 t'.blobs.length c5) (u1 := .slice Y5 t'.ents.length d5) (u2 := .int .i64 (s.room : Int)) (u3 := .int .i64 (s.clock : Int)) (x0 := .int .i64 (cc'.phase : Int)) (x1 := .slice A7 cc'.grey.length n7) (x2 := .string ⟨cc'.at_.toArray⟩) ho6' (.inr (.inl rfl)) (.inl hgc0) (ho6.nb hA6 (by decide) (by decide)).1 (ho6.nb hA6 (by decide) (by decide)).2 (ho6.nb hC6 (by decide) (by decide)).1 (ho6.nb hC6 (by decide) (by decide)).2)
   have HF4 := Lib.hid (zY (g := gs) (h := H + 1) (u0 := .slice X5 t'.blobs.length c5) (u1 := .slice Y5 t'.ents.length d5) (u2 := .int .i64 (s.room : Int)) (u3 := .int .i64 (s.clock : Int)) (x0 := .int .i64 (cc'.phase : Int)) (x1 := .slice A7 cc'.grey.length n7) (x2 := .string ⟨cc'.at_.toArray⟩) hl6 (zn hl6 hA6 (by decide)) (zn hl6 hC6 (by decide)))
   have HF5 := Lib.hid (zy (g := gs) (h := H + 1) (u0 := .slice X5 t'.blobs.length c5) (u1 := .slice Y5 t'.ents.length d5) (u2 := .int .i64 (s.room : Int)) (u3 := .int .i64 (s.clock : Int)) (x0 := .int .i64 (cc'.phase : Int)) (x1 := .slice A7 cc'.grey.length n7) (x2 := .string ⟨cc'.at_.toArray⟩) hb16 (by omega) (by omega))
   have HF6 := Lib.hid (zY (g := gs) (h := H + 1) (u0 := .slice X5 t'.blobs.length c5) (u1 := .slice Y5 t'.ents.length d5) (u2 := .int .i64 (s.room : Int)) (u3 := .int .i64 (s.clock : Int)) (x0 := .int .i64 (cc'.phase : Int)) (x1 := .slice A7 cc'.grey.length n7) (x2 := .string ⟨cc'.at_.toArray⟩) hg6 (zn hg6 hA6 (by decide)) (zn hg6 hC6 (by decide)))
   have HF7 := Lib.hid (Z7 (g := gs) (h := H + 1) (.slice X5 t'.blobs.length c5) (.slice Y5 t'.ents.length d5) (.int .i64 (s.room : Int)) (.int .i64 (s.clock : Int)) (.int .i64 (cc'.phase : Int)) (.slice A7 cc'.grey.length n7) (.string ⟨cc'.at_.toArray⟩) hR6 (by omega) (by omega))
   have f0 := hA6.frozen 0
   have f1 := hA6.frozen 1
   have f2 := hA6.frozen 2
   have f3 := hA6.frozen 3
   have y0 := hA6.cell (k := 0) rfl
   have y1 := hA6.cell (k := 1) rfl
   have y2 := hA6.cell (k := 2) rfl
   have y3 := hA6.cell (k := 3) rfl
   have e0 := hC6.frozen 0
   have e1 := hC6.frozen 1
   have e2 := hC6.frozen 2
   have x0 := hC6.cell (k := 0) rfl
   have x1 := hC6.cell (k := 1) rfl
   have x2 := hC6.cell (k := 2) rfl
   obtain ⟨g6, hg6'⟩ : ∃ g, g = w5.heap.size := ⟨_, rfl⟩
   rw [← hg6'] at h6 h7
   have s0 := h6.cell (k := 0) rfl
   have s1 := h6.cell (k := 1) rfl
   have s2 := h6.cell (k := 2) rfl
   have s3 := h6.cell (k := 3) rfl
   have t0' := h7.cell (k := 0) rfl
   have t1 := h7.cell (k := 1) rfl
   have t2 := h7.cell (k := 2) rfl
   have n1 : ¬ (g6 = gs) := by omega
   have n2 : ¬ (g6 + 1 = gs) := by omega
   have n3 : ¬ (g6 = H + 1) := by omega
   have HG6 := Lib.hid hg6'
   have HW6 := Lib.hid hW6
   have HM := Lib.hid (And.intro m1 (And.intro m2 (And.intro m3 (And.intro m4 (And.intro m5 m6)))))
   have HKK := Lib.hid (And.intro k1 k2)
   have HV9 := Lib.hid hv9
   have HS5 := Lib.hid hs5
   have HSZ := Lib.hid (show wr.heap.size ≤ (QZ W6 gs (H + 1) (.slice X5 t'.blobs.length c5) (.slice Y5 t'.ents.length d5) (.int .i64 (s.room : Int)) (.int .i64 (s.clock : Int)) (.int .i64 (cc'.phase : Int)) (.slice A7 cc'.grey.length n7) (.string ⟨cc'.at_.toArray⟩)).heap.size from by simp; exact hwr)
   clear hA6 hC6 hR6 ho6 ho6' hl6 hg6 hb16 hb56 h6 h7 ho5 hl5 hb5 hb6 m1 m2 m3 m4 m5 m6 k1 k2 hW6 hg6' HMS HRWX HR HHB hc7 hv9
   have hdd : (⟨dd.toArray⟩ : ByteArray).toList = dd := ByteArray.toList_eq _
   generalize hds : (⟨dd.toArray⟩ : ByteArray) = ds at *
   have HDS := Lib.hid hds
   have HDD := Lib.hid hdd
   clear hds hdd
   repeat' ((fail_if_success (with_reducible refine at_reg_ 10 ?_)); (fail_if_success (with_reducible refine at_sreg_ 10 ?_)); (fail_if_success (with_reducible refine at_ssreg_ 10 ?_)); (fail_if_success at_builtin); (fail_if_success at_make); (first | go_values | go_skip | go_guarded | go_step | go_upon | go_back))
   rw [← HG6.out, ← HW6.out]
   clear HW6 HG6
   go_region
   all_goals (try dsimp only [Exit.then])
   clear f0 f1 f2 f3 y0 y1 y2 y3 e0 e1 e2 x0 x1 x2 s0 s1 s2 s3 t0' t1 t2
   have HRX := Lib.hid (show RunC (QZ W6 gs (H + 1) (.slice X5 t'.blobs.length c5) (.slice Y5 t'.ents.length d5) (.int .i64 (s.room : Int)) (.int .i64 (s.clock : Int)) (.int .i64 (cc'.phase : Int)) (.slice A7 cc'.grey.length n7) (.string ⟨cc'.at_.toArray⟩)).drew H w0.heap.size gs (H + 1) (.slice X5 t'.blobs.length c5) (.slice Y5 t'.ents.length d5) u9 A7 n7 t' cc' g from by
    refine ⟨?_, Arr.drew HF2.out, HF3.out.drewX, ?_, HF6.out.drew⟩
    ·rw [HKK.out.1, HKK.out.2]; exact Arr.drew HF1.out
    ·obtain ⟨_, _, e1, h⟩ := RdC.of_own (c := cc') (z6 HF4.out (Below.refl _ _).drew)
     cases e1; exact h)
   have HRR := Lib.hid (Arr.drew HF7.out)
   have HBB := Lib.hid (HF5.out.drew)
   have HGR := Lib.hid (z6 HF4.out (Below.refl _ _).drew)
   have HSZ2 := Lib.hid (show wr.heap.size ≤ (QZ W6 gs (H + 1) (.slice X5 t'.blobs.length c5) (.slice Y5 t'.ents.length d5) (.int .i64 (s.room : Int)) (.int .i64 (s.clock : Int)) (.int .i64 (cc'.phase : Int)) (.slice A7 cc'.grey.length n7) (.string ⟨cc'.at_.toArray⟩)).drew.heap.size from Nat.le_trans HSZ.out ((Below.refl 0 _).drew).size)
   clear HF1 HF2 HF3 HF4 HF5 HF6 HF7 HSZ
   generalize (QZ W6 gs (H + 1) (.slice X5 t'.blobs.length c5) (.slice Y5 t'.ents.length d5) (.int .i64 (s.room : Int)) (.int .i64 (s.clock : Int)) (.int .i64 (cc'.phase : Int)) (.slice A7 cc'.grey.length n7) (.string ⟨cc'.at_.toArray⟩)).drew = wz at *
   by_cases hd : dd = []
   ·have e1 : ds.toList.isEmpty = true := by rw [HDD.out, hd]; rfl
    go_wp2_with fail
    go_roundg (q8 8 t' cc')
    case measure => have := HM.out.2.2.2.2.2; have := HGN.out; omega
    case rel =>
     obtain ⟨m1, m2, m3, m4, m5, m6⟩ := HM.out
     refine ⟨t', cc', g, X5, c5, Y5, d5, A7, n7, rfl, HRX.out, HRR.out, m1, m2, by have := HGL.out; omega, ?_, HKK.out.1, HKK.out.2, by have := HGG.out; omega, HBB.out⟩
     rw [HRN.out, m5, if_pos hd]; rfl
   ·have e1 : ds.toList.isEmpty = false := by rw [HDD.out]; cases dd with | nil => exact absurd rfl hd | cons _ _ => rfl
    have hgo := HRX.out.gone
    have hgl2 : g.length ≤ 24 := by have := HGG.out; omega
    have hHz : H ≤ wz.heap.size := by have := HSZ2.out; omega
    repeat' (fail_if_success (first|at_builtin|at_make));first|go_values|go_skip|go_guarded|go_step|go_upon|go_back
    refine zh rfl (.tmp 42) (.tmp 44) rfl xu (by rfl) hgo (us := [.string ds]) (by rfl) rfl (by intro u hu; rw [List.mem_singleton.1 hu]; rfl) (by omega) hHz ?_
    intro v9 w9 ho9 hg9 hv9
    have hb9 : Below H w w9 := by
     have hh := HH.out
     have h1 := HBB.out
     rw [hh] at h1 hgo ⊢
     exact zc h1 hgo (Nat.le_refl _) hg9
    have hR9 := HRR.out.grown hg9 (zn hgo HRR.out (by decide))
    have e5 : strs g ++ [Value.string ds] = strs (g ++ [dd]) := by rw [y8, ← HDS.out]; rfl
    have e6 : g.length + 1 = (g ++ [dd]).length := by simp
    rw [e5, e6] at ho9
    have HO9 := Lib.hid (HRX.out.key (B := wr.heap.size) ⟨_, HGR.out, rfl⟩ HV9.out ho9 hg9 hv9)
    have HR9 := Lib.hid hR9
    have HB9 := Lib.hid hb9
    clear ho9 hg9 hv9 hb9 hR9 e5 e6 hgo
    go_wp2_with fail
    go_roundg (q8 8 t' cc')
    case measure => have := HM.out.2.2.2.2.2; have := HGN.out; omega
    case rel =>
     obtain ⟨m1, m2, m3, m4, m5, m6⟩ := HM.out
     refine ⟨t', cc', g ++ [dd], X5, c5, Y5, d5, A7, n7, rfl, HO9.out, HR9.out, m1, m2, by have := HGL.out; omega, ?_, HKK.out.1, HKK.out.2, by rw [List.length_append]; rw [if_neg hd] at m4; have := HGG.out; simp only [List.length_singleton]; omega, HB9.out⟩
     rw [HRN.out, m5, if_neg hd, List.append_assoc]
theorem vI {s : StoP} (hg : GoodS s) : 8 * unm (qi s).blobs + (qE s).grey.length ≤ 1000 := by
 have h1 := YV (qi s).blobs
 have h2 : (qi s).blobs.length = s.blobs.length := (qF s.blobs).len.symm
 have h3 : (qE s).grey.length ≤ (rts s).length := jo _
 have h4 := yR s.ents (fun x hx => (zi (hg.e.one x hx).2.1).1)
 have h5 := yN s.blobs
 have h6 : (rts s).length = (vh s.ents).length + (xF s.blobs).length := List.length_append
 have := hg.b.len
 have := hg.e.len
 omega
end Go.Proofs.YtngfnjekjfeacaaGreat
namespace Go.Proofs.YtngfnjekjfeacaaGreat
open Go.RowKit Go.Maps
set_option linter.unusedVariables false
set_option linter.unusedSimpArgs false
set_option maxRecDepth 100000
theorem Zi {l m : List BlobP} (h : EqM l m) : zH l m = true := yA.2 h
theorem jk (l : List EntP) : zT l l = true := yF.2 rfl
set_option maxHeartbeats 16000000 in
theorem yy (A : Option Addr) (n c : Nat) (l : List RawP) (w : World) (hl : l.length = n) (hc : n ≤ c) (hm : c ≤ maxLen) (hok : ∀ r ∈ l, RawOk r) (hr : Rd w 4 A n (rcs l)) :
  Calls Tryz.prog 8 #[.slice A n c] w fun e w' => e = .returned (.bool true) ∧ Below w.heap.size w w' := by
 have HS := Lib.hid (vp A n c l w hl hc hm hok hr)
 have HGS := Lib.hid (vq l)
 clear hok hl hr hc hm
 generalize sto l = s at *
 have hbl := HGS.out.b.len
 have hel := HGS.out.e.len
 go_enter Tryz.func8, Tryz.ntmps8
 go_wp2_with fail
 refine ((HS.out)).mono ?_; rintro e_ w1 ⟨v1, v2, rfl, hb, he, hb1⟩; dsimp only
 obtain ⟨Ab, cb, rfl, hcb1, hcb2, hRb⟩ := hb.rows
 obtain ⟨Ae, ce, rfl, hce1, hce2, hRe⟩ := he.rows
 have hrd1 : RdSt w1 Ab cb Ae ce s := ⟨hRb, hRe, hcb1, hcb2, hce1, hce2⟩
 obtain ⟨w2, hw2⟩ : ∃ W, W = w1.alloc (.cells #[.slice Ab s.blobs.length cb, .slice Ae s.ents.length ce, .int .i64 (s.room : Int), .int .i64 (s.clock : Int)] 26) := ⟨_, rfl⟩
 have hAs : Arr w2 w1.heap.size 26 [.slice Ab s.blobs.length cb, .slice Ae s.ents.length ce, .int .i64 (s.room : Int), .int .i64 (s.clock : Int)] := by rw [hw2]; exact Arr.new w1 26 _
 have hal : Below w1.heap.size w1 w2 := by rw [hw2]; exact (Below.refl w1.heap.size w1).alloc (Nat.le_refl _) _
 have hB := hb1.trans (hal.mono hb1.size)
 obtain ⟨gs, hgs⟩ : ∃ g, g = w1.heap.size := ⟨_, rfl⟩
 rw [← hgs] at hAs
 have hrd2 := hrd1.below hal
 have HK := Lib.hid (show ∀ W, Below w2.heap.size w2 W → Arr W gs 26 [.slice Ab s.blobs.length cb, .slice Ae s.ents.length ce, .int .i64 (s.room : Int), .int .i64 (s.clock : Int)] ∧ RdSt W Ab cb Ae ce s from fun W h => ⟨hAs.below h, hrd2.below h⟩)
 have x0 := hAs.cell (k := 0) rfl
 have x1 := hAs.cell (k := 1) rfl
 have x2 := hAs.cell (k := 2) rfl
 have x3 := hAs.cell (k := 3) rfl
 have HWA := Lib.hid (Yd Ab Ae cb ce s w2 HGS.out hrd2)
 have HB1 := Lib.hid (fun W (h : Below w2.heap.size w2 W) => yU Ab cb Ae ce s W HGS.out (HK.out W h).2)
 have HCL := Lib.hid (fun W (h : Below w2.heap.size w2 W) => Kw Ab cb Ae ce s W HGS.out (HK.out W h).2)
 rw [hw2, hgs] at x0 x1 x2 x3
 clear hb he hRb hRe hrd1 hb1 hal hAs hrd2 HS
 go_wp2_with fail
 rw [← hw2, ← hgs]
 clear hw2 hgs x0 x1 x2 x3
 have x0 := (HK.out w2 (Below.refl _ _)).1.cell (k := 0) rfl
 have x1 := (HK.out w2 (Below.refl _ _)).1.cell (k := 1) rfl
 have x2 := (HK.out w2 (Below.refl _ _)).1.cell (k := 2) rfl
 have x3 := (HK.out w2 (Below.refl _ _)).1.cell (k := 3) rfl
 go_wp2_with fail
 clear x0 x1 x2 x3
 refine ((HWA.out)).mono ?_; rintro e_ w3 ⟨v3, L, rfl, hL, hoW, hb3⟩; dsimp only
 obtain ⟨m, hme, hmg, hmr⟩ := XX HGS.out hL
 obtain ⟨AW, cW, rfl, _, hrW⟩ := Rd.of_own' hoW
 have HRW := Lib.hid (show ∀ W, Below w3.heap.size w3 W → Rd W 1 AW (wst s.blobs L).length (strs (wst s.blobs L)) from fun W h => hrW.below h)
 have hB3 := hB.trans (hb3.mono hB.size)
 have HK3 := Lib.hid (show ∀ W, Below w3.heap.size w3 W → Below w2.heap.size w2 W from fun W h => hb3.trans (h.mono hb3.size))
 have x0 := (HK.out _ hb3).1.cell (k := 0) rfl
 have x1 := (HK.out _ hb3).1.cell (k := 1) rfl
 have x2 := (HK.out _ hb3).1.cell (k := 2) rfl
 have x3 := (HK.out _ hb3).1.cell (k := 3) rfl
 have hwl : (wst s.blobs L).length ≤ s.blobs.length := ZW _ _
 have hW2 : (s.blobs.filter (fun b => !decide (b.dig ∈ L))).map (·.dig) = wst s.blobs L := rfl
 rw [hW2] at hmr
 clear hW2
 have HB3 := Lib.hid (HB1.out _ hb3)
 clear hL hoW hrW HWA HB1
 generalize wst s.blobs L = WL at *
 go_wp2_with fail
 clear x0 x1 x2 x3
 refine ((HB3.out)).mono ?_; rintro e_ w4 ⟨v5, v6, v7, rfl, ho4, hl4, hb4⟩; dsimp only
 obtain ⟨X4, c4, Y4, d4, e1, e2, hr4⟩ := ho4.rows
 obtain ⟨A5, n5, e3, hc5⟩ := RdC.of_own (c := qE s) hl4
 subst e1 e2 e3
 have hb24 := hb3.trans (hb4.mono hb3.size)
 have hB4 := hB3.trans (hb4.mono hB3.size)
 have HRN := Lib.hid (fun W (h : Below w4.heap.size w4 W) => show Calls Tryz.prog 39 #[.agg #[.slice X4 (qi s).blobs.length c4, .slice Y4 (qi s).ents.length d4, .int .i64 (s.room : Int), .int .i64 (s.clock : Int)], coV (.slice A5 (qE s).grey.length n5) (qE s)] W fun e w' => ∃ v1 v2 v3, e = .returned (.tuple #[stV v1 v2 s, v3, .int .i64 0]) ∧ OwSt w' W.heap.size v1 v2 { s with blobs := m } (fun b => b < W.heap.size) ∧ w'.ownsRow W.heap.size 9 1 v3 WL.length (strs WL) ∧ Below W.heap.size W w' from by
  have := vK X4 c4 Y4 d4 (qi s) A5 n5 (qE s) W (kW HGS.out) (hr4.below h) (vI HGS.out) (kX HGS.out) (hc5.below h)
  rw [hmr] at this
  exact this)
 generalize (qi s).blobs.length = nb at *
 generalize (qi s).ents.length = ne at *
 generalize qE s = c0 at *
 obtain ⟨W5, hW5, hA5, hC5, hb5⟩ := vD w4 26 66 [.slice X4 nb c4, .slice Y4 ne d4, .int .i64 (s.room : Int), .int .i64 (s.clock : Int)] [.int .i64 (c0.phase : Int), .slice A5 c0.grey.length n5, .string ⟨c0.at_.toArray⟩]
 have HRN5 := Lib.hid (HRN.out _ hb5)
 have hb25 := hb24.trans (hb5.mono hb24.size)
 have hB5 := hB4.trans (hb5.mono hB4.size)
 have hb35 := hb4.trans (hb5.mono hb4.size)
 have x0 := hA5.cell (k := 0) rfl
 have x1 := hA5.cell (k := 1) rfl
 have x2 := hA5.cell (k := 2) rfl
 have x3 := hA5.cell (k := 3) rfl
 have y0 := hC5.cell (k := 0) rfl
 have y1 := hC5.cell (k := 1) rfl
 have y2 := hC5.cell (k := 2) rfl
 obtain ⟨g4, hg4⟩ : ∃ g, g = w4.heap.size := ⟨_, rfl⟩
 rw [← hg4] at x0 x1 x2 x3 y0 y1 y2
 clear ho4 hl4 hr4 hc5 hb4 hb24 hB3 hB4 hb5 HRN HB3 hA5 hC5 hmr
 rw [hW5, hg4] at x0 x1 x2 x3 y0 y1 y2
 go_wp2_with fail
 rw [← hW5]
 clear hW5 x0 x1 x2 x3 y0 y1 y2 hg4
 refine ((HRN5.out)).mono ?_; rintro e_ w6 ⟨v8, v9, v10, rfl, ho6, hg6, hb6⟩; dsimp only
 obtain ⟨X6, c6, Y6, d6, e1, e2, hr6⟩ := ho6.rows
 obtain ⟨A6, n6, e3, _, hrg6⟩ := Rd.of_own' hg6
 subst e1 e2 e3
 have hb26 := hb25.trans (hb6.mono hb25.size)
 have hb36 := hb35.trans (hb6.mono hb35.size)
 have hB6 := hB5.trans (hb6.mono hB5.size)
 obtain ⟨W7, hW7⟩ : ∃ W, W = w6.alloc (.cells #[.slice X6 m.length c6, .slice Y6 s.ents.length d6, .int .i64 (s.room : Int), .int .i64 (s.clock : Int)] 26) := ⟨_, rfl⟩
 have hA7 : Arr W7 w6.heap.size 26 [.slice X6 m.length c6, .slice Y6 s.ents.length d6, .int .i64 (s.room : Int), .int .i64 (s.clock : Int)] := by rw [hW7]; exact Arr.new w6 26 _
 have hal : Below w6.heap.size w6 W7 := by rw [hW7]; exact (Below.refl w6.heap.size w6).alloc (Nat.le_refl _) _
 have hb27 := hb26.trans (hal.mono hb26.size)
 have hb37 := hb36.trans (hal.mono hb36.size)
 have hB7 := hB6.trans (hal.mono hB6.size)
 have hr7 := hr6.below hal
 have hrg7 := hrg6.below hal
 obtain ⟨g6, hg6'⟩ : ∃ g, g = w6.heap.size := ⟨_, rfl⟩
 rw [← hg6'] at hA7
 have HK7 := Lib.hid (show ∀ W, Below W7.heap.size W7 W → Arr W g6 26 [.slice X6 m.length c6, .slice Y6 s.ents.length d6, .int .i64 (s.room : Int), .int .i64 (s.clock : Int)] ∧ RdSt W X6 c6 Y6 d6 { s with blobs := m } ∧ Rd W 1 A6 WL.length (strs WL) from fun W h => ⟨hA7.below h, hr7.below h, hrg7.below h⟩)
 have x0 := (HK.out _ hb27).1.cell (k := 0) rfl
 have x1 := (HK.out _ hb27).1.cell (k := 1) rfl
 have x2 := (HK.out _ hb27).1.cell (k := 2) rfl
 have x3 := (HK.out _ hb27).1.cell (k := 3) rfl
 have HCL7 := Lib.hid (HCL.out _ hb27)
 have HW7 := Lib.hid hW7
 have HG7 := Lib.hid hg6'
 rw [hW7] at x0 x1 x2 x3
 clear ho6 hg6 hb6 hal hb26 hb36 hB6 hr6 hrg6 hr7 hrg7 hb25 hb35 hB5 hW7 hg6' HRN5 HCL hA7
 go_wp2_with fail
 rw [← HW7.out, ← HG7.out]
 clear x0 x1 x2 x3
 refine ((HCL7.out)).mono ?_; rintro e_ w8 ⟨v11, v12, rfl, ho8, hb8⟩; dsimp only
 obtain ⟨X8, c8, Y8, d8, e1, e2, hr8⟩ := ho8.rows
 rw [Z9] at e2
 subst e1 e2
 have hb38 := hb37.trans (hb8.mono hb37.size)
 have hB8 := hB7.trans (hb8.mono hB7.size)
 have hcl := ji s
 obtain ⟨W9, hW9⟩ : ∃ W, W = w8.alloc (.cells #[.slice X8 (cln s).blobs.length c8, .slice Y8 s.ents.length d8, .int .i64 (s.room : Int), .int .i64 (s.clock : Int)] 26) := ⟨_, rfl⟩
 have hA9 : Arr W9 w8.heap.size 26 [.slice X8 (cln s).blobs.length c8, .slice Y8 s.ents.length d8, .int .i64 (s.room : Int), .int .i64 (s.clock : Int)] := by rw [hW9]; exact Arr.new w8 26 _
 have hal : Below w8.heap.size w8 W9 := by rw [hW9]; exact (Below.refl w8.heap.size w8).alloc (Nat.le_refl _) _
 have hb39 := hb38.trans (hal.mono hb38.size)
 have hB9 := hB8.trans (hal.mono hB8.size)
 have hb79 := hb8.trans (hal.mono hb8.size)
 have hr9 := hr8.below hal
 obtain ⟨g8, hg8⟩ : ∃ g, g = w8.heap.size := ⟨_, rfl⟩
 rw [← hg8] at hA9
 have HRW9 := Lib.hid (HRW.out _ hb39)
 have HK9 := Lib.hid (HK7.out _ hb79)
 have HRG := Lib.hid (vL HGS.out)
 have HMG := Lib.hid hmg
 have HEM := Lib.hid (show zH m (cln s).blobs = true from Zi hme.symm)
 have HMK := Lib.hid (vF W9)
 have HW9 := Lib.hid hW9
 have HG9 := Lib.hid hg8
 have HA9 := Lib.hid hA9
 have HR9 := Lib.hid hr9
 clear ho8 hb8 hal hb38 hB8 hr8 hr9 hA9 hW9 hg8 HCL7 hb27 hb37 hB7 hmg hme HK HK7 HRW HW7 HG7 hB
 go_wp2_with fail
 rw [← HW9.out, ← HG9.out]
 refine ((HMK.out)).mono ?_; rintro e_ w10 ⟨rfl, hb10⟩; dsimp only
 have hB10 := hB9.trans (hb10.mono hB9.size)
 have heq := YQ A6 AW n6 cW WL WL w10 (by omega) (by omega) (HK9.out.2.2.below hb10) (HRW9.out.below hb10)
 rw [decide_eq_true rfl] at heq
 have HEQ := Lib.hid heq
 have HA10 := Lib.hid (HA9.out.below hb10)
 have HR10 := Lib.hid (HR9.out.below hb10)
 have HS10 := Lib.hid (HK9.out.1.below hb10)
 have HT10 := Lib.hid (HK9.out.2.1.below hb10)
 clear heq hb10 hB9 hb39 hb79 HMK HW9 HG9
 go_wp2_with fail
 refine ((HEQ.out)).mono ?_; rintro e_ w11 ⟨rfl, hb11⟩; dsimp only
 have hB11 := hB10.trans (hb11.mono hB10.size)
 have x0 := (HA10.out.below hb11).cell (k := 0) rfl
 have x1 := (HA10.out.below hb11).cell (k := 1) rfl
 have x2 := (HA10.out.below hb11).cell (k := 2) rfl
 have x3 := (HA10.out.below hb11).cell (k := 3) rfl
 have y0 := (HS10.out.below hb11).cell (k := 0) rfl
 have y1 := (HS10.out.below hb11).cell (k := 1) rfl
 have y2 := (HS10.out.below hb11).cell (k := 2) rfl
 have y3 := (HS10.out.below hb11).cell (k := 3) rfl
 have hR1 := HT10.out.below hb11
 have hR2 := HR10.out.below hb11
 have hss := qR X6 X8 Y6 Y8 c6 c8 d6 d8 m (cln s).blobs s.ents s.ents (s.room : Int) (s.clock : Int) w11 (by have := HMG.out.b.len; simp only at this; omega) (by have := HRG.out.b.len; omega) (fun b hb => by have := (HMG.out.b.one b hb).2.1; omega) (fun b hb => by have := (HRG.out.b.one b hb).2.1; omega) (by omega) (by omega) (fun x hx => by have := (zi (HGS.out.e.one x hx).2.1).1; omega) (fun x hx => by have := (zi (HGS.out.e.one x hx).2.1).1; omega) hR1.b hR2.b hR1.e hR2.e
 rw [HEM.out, jk] at hss
 have HSS := Lib.hid hss
 clear hss hR1 hR2 hb11 hB10 HEM
 go_wp2_with fail
 clear x0 x1 x2 x3 y0 y1 y2 y3
 refine ((HSS.out)).mono ?_; rintro e_ w12 ⟨rfl, hb12⟩; dsimp only
 have HB12 := Lib.hid (hB11.trans (hb12.mono hB11.size))
 clear hb12 hB11
 go_wp2_with fail
 go_ret
 exact ⟨by simp, HB12.out⟩
end Go.Proofs.YtngfnjekjfeacaaGreat
namespace Go.Proofs.YtngfnjekjfeacaaGreat
open Go.RowKit Go.Maps
set_option linter.unusedVariables false
set_option linter.unusedSimpArgs false
set_option maxRecDepth 100000
theorem Q3 {k : Nat} {s : StoP} {c : ColP} (h : qN k s.blobs) : qN k (zm s c).1.blobs := by
 unfold zm
 split
 ·exact h.eqM (zI s c).1
 ·rcases zx s c with ⟨_, e⟩ | ⟨_, _, _, _, e⟩ | ⟨i, hi, _, _, e⟩
  ·rw [e]; exact h
  ·rw [e]; exact h
  ·rw [e]; exact fun b hb => h b (qU _ _ b hb)
theorem Zd (l : List RawP) : q8 4 (qi (sto l)) (qE (sto l)) ≤ 120 := by
 have h1 := QF l
 have h2 := (jO l).1
 have h3 := uL (sto l)
 unfold q8
 rw [if_pos (show (qE (sto l)).phase = 1 from rfl)]
 omega
set_option maxHeartbeats 16000000 in
theorem yJ (A : Option Addr) (n c : Nat) (l : List RawP) (w : World) (hl : l.length = n) (hc : n ≤ c) (hm : c ≤ maxLen) (hok : ∀ r ∈ l, RawOk r) (hr : Rd w 4 A n (rcs l)) :
  Calls Tryz.prog 5 #[.slice A n c] w fun e w' => e = .returned (.bool true) ∧ Below w.heap.size w w' := by
 have HBS := Lib.hid (Zd l)
 have HKD := Lib.hid (Xe l)
 have HS := Lib.hid (vp A n c l w hl hc hm hok hr)
 have HGS := Lib.hid (vq l)
 clear hok hl hr hc hm
 generalize sto l = s at *
 have hbl := HGS.out.b.len
 have hel := HGS.out.e.len
 go_enter Tryz.func5, Tryz.ntmps5
 go_wp2_with fail
 refine ((HS.out)).mono ?_; rintro e_ w1 ⟨v1, v2, rfl, hb, he, hb1⟩; dsimp only
 obtain ⟨Ab, cb, rfl, hcb1, hcb2, hRb⟩ := hb.rows
 obtain ⟨Ae, ce, rfl, hce1, hce2, hRe⟩ := he.rows
 have HB1 := Lib.hid (show Calls Tryz.prog 33 #[.agg #[.slice Ab s.blobs.length cb, .slice Ae s.ents.length ce, .int .i64 (s.room : Int), .int .i64 (s.clock : Int)]] w1 fun e w' => ∃ v1 v2 v3, e = .returned (.tuple #[stV v1 v2 (qi s), coV v3 (qE s), .int .i64 0]) ∧ OwSt w' w1.heap.size v1 v2 (qi s) (fun b => b < w1.heap.size) ∧ w'.ownsRow w1.heap.size 9 1 v3 (qE s).grey.length (strs (qE s).grey) ∧ Below w1.heap.size w1 w' from yU Ab cb Ae ce s w1 HGS.out ⟨hRb, hRe, hcb1, hcb2, hce1, hce2⟩)
 have H1 := Lib.hid (kW HGS.out)
 have H2 := Lib.hid (kX HGS.out)
 have H3 := Lib.hid (vI HGS.out)
 have H4 := Lib.hid (HKD.out.eqM (qF s.blobs) : qN 4 (qi s).blobs)
 have H5 : (qE s).phase = 1 := rfl
 have H6 := Lib.hid H5
 clear hb he hRb hRe H5
 generalize qi s = t0 at *
 generalize qE s = c0 at *
 go_wp2_with fail
 refine ((HB1.out)).mono ?_; rintro e_ w2 ⟨v1, v2, v3, rfl, ho2, hl2, hb2⟩; dsimp only
 obtain ⟨X2, c2, Y2, d2, e1, e2, hr2⟩ := ho2.rows
 obtain ⟨A3, n3, e3, hc3⟩ := RdC.of_own (c := c0) hl2
 subst e1 e2 e3
 have hb12 := hb1.trans (hb2.mono hb1.size)
 obtain ⟨W3, hW3, hA3, hC3, hb3⟩ := zP w2 26 66 [.slice X2 t0.blobs.length c2, .slice Y2 t0.ents.length d2, .int .i64 (t0.room : Int), .int .i64 (t0.clock : Int)] [.int .i64 (c0.phase : Int), .slice A3 c0.grey.length n3, .string ⟨c0.at_.toArray⟩]
 have hr3 := hr2.below hb3
 have hc4 := hc3.below hb3
 have hb13 := hb12.trans (hb3.mono hb12.size)
 have hs2 : w.heap.size ≤ w2.heap.size := hb12.size
 have HMK := Lib.hid (vF W3)
 clear ho2 hl2 hr2 hc3 hb2 hb1 hb12 hb3 HB1
 go_wp2_with fail
 rw [← hW3]
 clear hW3
 generalize w2.heap.size = g3 at *
 refine ((HMK.out)).mono ?_; rintro e_ w4 ⟨rfl, hb4⟩; dsimp only
 have hA4 := hA3.below hb4
 have hC4 := hC3.below hb4
 have hr4 := hr3.below hb4
 have hc4 := hc4.below hb4
 have hb14 := hb13.trans (hb4.mono hb13.size)
 have HAL := Lib.hid (xt X2 Y2 c2 d2 t0 (t0.room : Int) (t0.clock : Int) w4 H1.out.rts hr4)
 have x0 := (hA4).cell (k := 0) rfl
 have x1 := (hA4).cell (k := 1) rfl
 have x2 := (hA4).cell (k := 2) rfl
 have x3 := (hA4).cell (k := 3) rfl
 have y0 := (hC4).cell (k := 0) rfl
 have y1 := (hC4).cell (k := 1) rfl
 have y2 := (hC4).cell (k := 2) rfl
 clear hA3 hC3 hr3 hb4 hb13 HMK
 go_wp2_with fail
 clear x0 x1 x2 x3 y0 y1 y2
 refine ((HAL.out)).mono ?_; rintro e_ w5 ⟨v5, L, rfl, hL, hLl, hoL, hb5⟩; dsimp only
 obtain ⟨AL, cL, rfl, _, hrL⟩ := Rd.of_own' hoL
 have HLO := Lib.hid (zb hoL (show w.heap.size ≤ w4.heap.size from hb14.size))
 have HRC := Lib.hid (show StrL L (Rch t0.blobs (rts t0)) from hL)
 have hL24 : L.length ≤ 24 := by have := H1.out.b.len; omega
 have hA5 := hA4.below hb5
 have hC5 := hC4.below hb5
 have hr5 := hr4.below hb5
 have hc5 := hc4.below hb5
 have hb15 := hb14.trans (hb5.mono hb14.size)
 clear hA4 hC4 hr4 hc4 hb14 hb5 hL hoL hrL HAL hLl
 go_wp2_with fail
 generalize hLR : Rch t0.blobs (rts t0) = R at *
 go_loopg [7] (q8 4 t0 c0) (fun gn u wr => ∃ (j : Nat) (t : StoP) (cc : ColP) (X : Option Addr) (cX : Nat) (Y : Option Addr) (dY : Nat) (Ag : Option Addr) (ng : Nat), gn = q8 4 t cc ∧ u = .int .i64 (j : Int) ∧ j + q8 4 t cc ≤ 120 ∧ Arr wr g3 26 [.slice X t.blobs.length cX, .slice Y t.ents.length dY, .int .i64 (t.room : Int), .int .i64 (t.clock : Int)] ∧ Arr wr (g3 + 1) 66 [.int .i64 (cc.phase : Int), .slice Ag cc.grey.length ng, .string ⟨cc.at_.toArray⟩] ∧ RdSt wr X cX Y dY t ∧ RdC wr Ag ng cc ∧ GoodS t ∧ GoodC t cc ∧ qN 4 t.blobs ∧ 8 * unm t.blobs + cc.grey.length ≤ 1000 ∧ Rch t.blobs (rts t) = R ∧ wr.ownsRow w.heap.size 9 1 (.slice AL L.length cL) L.length (strs L) ∧ Below w.heap.size w wr)
 case atStart => exact ⟨0, t0, c0, X2, c2, Y2, d2, A3, n3, rfl, rfl, by have := HBS.out; omega, hA5, hC5, hr5, hc5, H1.out, H2.out, H4.out, H3.out, hLR, HLO.out, hb15⟩
 case round =>
  obtain ⟨j, t, cc, X, cX, Y, dY, Ag, ng, hgn, rfl, hj, hA, hC, hrd, hrc, hg, hgc, hk, hgl, hR, hlo, hbk⟩ := hrel
  have HLO2 := Lib.hid hlo
  have HGN := Lib.hid hgn
  have HG := Lib.hid hg
  have HGC := Lib.hid hgc
  have HK := Lib.hid hk
  have HGL := Lib.hid hgl
  have HR := Lib.hid hR
  have HJ := Lib.hid hj
  have htb := hg.b.len
  have hte := hg.e.len
  have hj120 : j ≤ 120 := by omega
  have x0 := (hA).cell (k := 0) rfl
  have x1 := (hA).cell (k := 1) rfl
  have x2 := (hA).cell (k := 2) rfl
  have x3 := (hA).cell (k := 3) rfl
  have y0 := (hC).cell (k := 0) rfl
  have y1 := (hC).cell (k := 1) rfl
  have y2 := (hC).cell (k := 2) rfl
  have HHA := Lib.hid hA
  have HHC := Lib.hid hC
  have HHB := Lib.hid hbk
  have hws := hbk.size
  have hg3w := hC.lt
  clear hgn hk hgl hR hA hC hbk hA5 hC5 hr5 hc5 H1 H2 H3 H4 H6 hLR hj HLO hlo hb15
  by_cases h0 : cc.phase = 0
  ·have g1 : ((cc.phase : Int) != 0) = false := by rw [h0]; rfl
   have HT0 := Lib.hid (jG X cX Y dY t Ag ng cc wr HG.out hrd h0 (by have := HGL.out; omega) HGC.out hrc)
   have hb16 := HHB.out
   clear hg hgc hrd hrc h0
   go_wp2_with fail
   clear x0 x1 x2 x3 y0 y1 y2
   refine ((HT0.out)).mono ?_; rintro e_ w6 ⟨rfl, hb6⟩; dsimp only
   have hb17 := hb16.trans (hb6.mono hb16.size)
   go_wp2_with fail
   go_ret
   exact ⟨by simp, (hb17.alloc hb17.size _).alloc (hb17.alloc hb17.size _).size _⟩
  ·have hp : cc.phase = 1 ∨ cc.phase = 2 := by have := HGC.out.ph; omega
   have g1 : ((cc.phase : Int) != 0) = true := by
    rw [bne_iff_ne]; intro h; exact h0 (by omega)
   have hms := vC X cX Y dY t Ag ng cc wr HG.out hrd hp (by have := HGL.out; omega) HGC.out hrc
   obtain ⟨k1, k2, -⟩ := xx t cc
   simp only [stV, coV] at hms
   obtain ⟨m1, m2, m2r, -⟩ := yf HG.out HGC.out hp
   have m3 := xg t cc
   have m6 := qC (k := 4) HK.out hp
   have m7 := Q3 (c := cc) HK.out
   generalize (zm t cc).1 = t' at *
   generalize (zm t cc).2.1 = cc' at *
   generalize (zm t cc).2.2 = dd at *
   generalize hds : (⟨dd.toArray⟩ : ByteArray) = ds at *
   clear hds
   have HMS := Lib.hid hms
   have M1 := Lib.hid m1
   have M2 := Lib.hid m2
   have MR := Lib.hid (m2r.trans HR.out)
   have M3 := Lib.hid m3
   have M6 := Lib.hid m6
   have M7 := Lib.hid m7
   have KK := Lib.hid (And.intro k1 k2)
   have htb' := m1.b.len
   clear hms hrd hp h0 hg hgc hrc k1 k2 m1 m2 m2r m3 m6 m7
   go_wp2_with fail
   clear x0 x1 x2 x3 y0 y1 y2
   refine ((HMS.out)).mono ?_; rintro e_ w6 ⟨v5, v6, v7, rfl, ho5, hl5, hb5⟩; dsimp only
   obtain ⟨X5, c5, Y5, d5, e1, e2, hr5⟩ := ho5.rows
   obtain ⟨A7, n7, e3, hc7⟩ := RdC.of_own (c := cc') hl5
   subst e1 e2 e3
   have hs5 := hb5.size
   obtain ⟨W6, hW6, h6, h7, hb6⟩ := zP w6 26 66 [.slice X5 t'.blobs.length c5, .slice Y5 t'.ents.length d5, .int .i64 (t.room : Int), .int .i64 (t.clock : Int)] [.int .i64 (cc'.phase : Int), .slice A7 cc'.grey.length n7, .string ⟨cc'.at_.toArray⟩]
   have hr6 := hr5.below hb6
   have hc6 := hc7.below hb6
   have ho6 := ho5.below hb6
   have hl6 := z6 hl5 hb6
   have hlo6 := z6 (z6 HLO2.out hb5) hb6
   have hbB := HHB.out.trans ((hb5.trans (hb6.mono hs5)).mono HHB.out.size)
   obtain ⟨g6, hg6⟩ : ∃ g, g = w6.heap.size := ⟨_, rfl⟩
   rw [← hg6] at h6 h7
   have hg6w : wr.heap.size ≤ g6 := by omega
   have h6lt := h6.lt
   have HX := Lib.hid (show ∀ W, Below W6.heap.size W6 W → Arr W g6 26 [.slice X5 t'.blobs.length c5, .slice Y5 t'.ents.length d5, .int .i64 (t.room : Int), .int .i64 (t.clock : Int)] ∧ Arr W (g6 + 1) 66 [.int .i64 (cc'.phase : Int), .slice A7 cc'.grey.length n7, .string ⟨cc'.at_.toArray⟩] ∧ RdSt W X5 c5 Y5 d5 t' ∧ RdC W A7 n7 cc' ∧ Arr W g3 26 [.slice X t.blobs.length cX, .slice Y t.ents.length dY, .int .i64 (t.room : Int), .int .i64 (t.clock : Int)] ∧ Arr W (g3 + 1) 66 [.int .i64 (cc.phase : Int), .slice Ag cc.grey.length ng, .string ⟨cc.at_.toArray⟩] ∧ OwSt W wr.heap.size (.slice X5 t'.blobs.length c5) (.slice Y5 t'.ents.length d5) t' (fun b => b < wr.heap.size) ∧ W.ownsRow wr.heap.size 9 1 (.slice A7 cc'.grey.length n7) cc'.grey.length (strs cc'.grey) ∧ W.ownsRow w.heap.size 9 1 (.slice AL L.length cL) L.length (strs L) ∧ Below w.heap.size w W from fun W h => ⟨h6.below h, h7.below h, hr6.below h, hc6.below h, ((HHA.out.below hb5).below hb6).below h, ((HHC.out.below hb5).below hb6).below h, ho6.below h, z6 hl6 h, z6 hlo6 h, hbB.trans (h.mono hbB.size)⟩)
   have hck := k8 X5 c5 Y5 d5 t' A7 n7 cc' W6 M1.out hr6 (by have := HGL.out; have := M3.out; omega) M2.out hc6
   rw [KK.out.1, KK.out.2] at hck
   have HCK := Lib.hid hck
   have x0 := (h6).cell (k := 0) rfl
   have x1 := (h6).cell (k := 1) rfl
   have x2 := (h6).cell (k := 2) rfl
   have x3 := (h6).cell (k := 3) rfl
   have y0 := (h7).cell (k := 0) rfl
   have y1 := (h7).cell (k := 1) rfl
   have y2 := (h7).cell (k := 2) rfl
   have HW6 := Lib.hid hW6
   have HG6 := Lib.hid hg6
   rw [hW6] at x0 x1 x2 x3 y0 y1 y2
   clear ho5 hl5 hb5 hb6 hr5 hc7 hr6 hc6 ho6 hl6 hlo6 hbB hck h6 h7 hW6 hg6 HMS HHA HHC HHB
   go_wp2_with fail
   rw [← HW6.out, ← HG6.out]
   clear x0 x1 x2 x3 y0 y1 y2
   refine ((HCK.out)).mono ?_; rintro e_ w7 ⟨rfl, hb7⟩; dsimp only
   obtain ⟨z1, z2, z3, -, -, -, -, -, z7, -⟩ := HX.out _ hb7
   have hal := xt X5 Y5 c5 d5 t' (t.room : Int) (t.clock : Int) w7 M1.out.rts z3
   have HAL := Lib.hid hal
   have HB7 := Lib.hid hb7
   have x0 := (z1).cell (k := 0) rfl
   have x1 := (z1).cell (k := 1) rfl
   have x2 := (z1).cell (k := 2) rfl
   have x3 := (z1).cell (k := 3) rfl
   have y0 := (z2).cell (k := 0) rfl
   have y1 := (z2).cell (k := 1) rfl
   have y2 := (z2).cell (k := 2) rfl
   clear hb7 z1 z2 z3 z7 hal HCK
   go_wp2_with fail
   clear x0 x1 x2 x3 y0 y1 y2
   refine ((HAL.out)).mono ?_; rintro e_ w8 ⟨v8, L8, rfl, hL8, hLl8, hoL8, hb8⟩; dsimp only
   obtain ⟨A8, n8, rfl, _, hrL8⟩ := Rd.of_own' hoL8
   have hLe : L8 = L := by
    rw [MR.out] at hL8
    exact hL8.uniq HRC.out
   have hb68 := HB7.out.trans (hb8.mono HB7.out.size)
   subst hLe
   obtain ⟨z1, z2, z3, -, -, -, -, -, z7, -⟩ := HX.out _ hb68
   have heq := YQ A8 AL n8 cL L8 L8 w8 (by omega) (by omega) hrL8 (by
    obtain ⟨_, _, e, _, h⟩ := Rd.of_own' z7
    cases e; exact h)
   rw [decide_eq_true rfl] at heq
   have HEQ := Lib.hid heq
   have HB8 := Lib.hid hb68
   clear hL8 hoL8 hrL8 hb8 hb68 heq z1 z2 z3 z7 HAL HB7 hLl8
   go_wp2_with fail
   refine ((HEQ.out)).mono ?_; rintro e_ w9 ⟨rfl, hb9⟩; dsimp only
   obtain ⟨h6, h7, -, -, hA6, hC6, ho6, hl6, hlo6, hb56⟩ := HX.out _ (HB8.out.trans (hb9.mono HB8.out.size))
   have h200 : decide ((j : Int) > 200) = false := decide_eq_false (by omega)
   have h201 : decide ((200 : Int) < (j : Int)) = false := decide_eq_false (by omega)
   have h202 : decide (200 < j) = false := decide_eq_false (by omega)
   have hn3 : g3 ≠ g3 + 1 := by omega
   have HF1 := Lib.hid (qq (g := g3) (h := g3 + 1) (u0 := .slice X5 t'.blobs.length c5) (u1 := .slice Y5 t'.ents.length d5) (u2 := .int .i64 (t.room : Int)) (u3 := .int .i64 (t.clock : Int)) (x0 := .int .i64 (cc'.phase : Int)) (x1 := .slice A7 cc'.grey.length n7) (x2 := .string ⟨cc'.at_.toArray⟩) hA6 hn3)
   have HF2 := Lib.hid (qp (g := g3) (h := g3 + 1) (u0 := .slice X5 t'.blobs.length c5) (u1 := .slice Y5 t'.ents.length d5) (u2 := .int .i64 (t.room : Int)) (u3 := .int .i64 (t.clock : Int)) (x0 := .int .i64 (cc'.phase : Int)) (x1 := .slice A7 cc'.grey.length n7) (x2 := .string ⟨cc'.at_.toArray⟩) hC6 hn3)
   have HF3 := Lib.hid (zW (g := g3) (h := g3 + 1) (u0 := .slice X5 t'.blobs.length c5) (u1 := .slice Y5 t'.ents.length d5) (u2 := .int .i64 (t.room : Int)) (u3 := .int .i64 (t.clock : Int)) (x0 := .int .i64 (cc'.phase : Int)) (x1 := .slice A7 cc'.grey.length n7) (x2 := .string ⟨cc'.at_.toArray⟩) ho6 (by omega) (by omega) (ho6.nb hA6 (by decide) (by decide)).1 (ho6.nb hA6 (by decide) (by decide)).2 (ho6.nb hC6 (by decide) (by decide)).1 (ho6.nb hC6 (by decide) (by decide)).2)
   have HF4 := Lib.hid (zY (g := g3) (h := g3 + 1) (u0 := .slice X5 t'.blobs.length c5) (u1 := .slice Y5 t'.ents.length d5) (u2 := .int .i64 (t.room : Int)) (u3 := .int .i64 (t.clock : Int)) (x0 := .int .i64 (cc'.phase : Int)) (x1 := .slice A7 cc'.grey.length n7) (x2 := .string ⟨cc'.at_.toArray⟩) hl6 (zn hl6 hA6 (by decide)) (zn hl6 hC6 (by decide)))
   have HF5 := Lib.hid (zy (g := g3) (h := g3 + 1) (u0 := .slice X5 t'.blobs.length c5) (u1 := .slice Y5 t'.ents.length d5) (u2 := .int .i64 (t.room : Int)) (u3 := .int .i64 (t.clock : Int)) (x0 := .int .i64 (cc'.phase : Int)) (x1 := .slice A7 cc'.grey.length n7) (x2 := .string ⟨cc'.at_.toArray⟩) hb56 (by omega) (by omega))
   have HF6 := Lib.hid (zY (g := g3) (h := g3 + 1) (u0 := .slice X5 t'.blobs.length c5) (u1 := .slice Y5 t'.ents.length d5) (u2 := .int .i64 (t.room : Int)) (u3 := .int .i64 (t.clock : Int)) (x0 := .int .i64 (cc'.phase : Int)) (x1 := .slice A7 cc'.grey.length n7) (x2 := .string ⟨cc'.at_.toArray⟩) hlo6 (zn hlo6 hA6 (by decide)) (zn hlo6 hC6 (by decide)))
   have f0 := hA6.frozen 0
   have f1 := hA6.frozen 1
   have f2 := hA6.frozen 2
   have f3 := hA6.frozen 3
   have y0 := hA6.cell (k := 0) rfl
   have y1 := hA6.cell (k := 1) rfl
   have y2 := hA6.cell (k := 2) rfl
   have y3 := hA6.cell (k := 3) rfl
   have e0 := hC6.frozen 0
   have e1 := hC6.frozen 1
   have e2 := hC6.frozen 2
   have x0 := hC6.cell (k := 0) rfl
   have x1 := hC6.cell (k := 1) rfl
   have x2 := hC6.cell (k := 2) rfl
   have s0 := h6.cell (k := 0) rfl
   have s1 := h6.cell (k := 1) rfl
   have s2 := h6.cell (k := 2) rfl
   have s3 := h6.cell (k := 3) rfl
   have t0' := h7.cell (k := 0) rfl
   have t1 := h7.cell (k := 1) rfl
   have t2 := h7.cell (k := 2) rfl
   have n1 : ¬ (g6 = g3) := by omega
   have n2 : ¬ (g6 + 1 = g3) := by omega
   have n3 : ¬ (g6 = g3 + 1) := by omega
   clear hA6 hC6 ho6 hl6 hlo6 hb56 h6 h7 hb9 HB8 HX
   repeat' ((fail_if_success (with_reducible refine at_reg_ 10 ?_)); (fail_if_success (with_reducible refine at_sreg_ 10 ?_)); (fail_if_success (with_reducible refine at_ssreg_ 10 ?_)); (fail_if_success at_builtin); (fail_if_success at_make); (first | go_values | go_skip | go_guarded | go_step | go_upon | go_back))
   go_region
   all_goals (try dsimp only [Exit.then])
   clear f0 f1 f2 f3 y0 y1 y2 y3 e0 e1 e2 x0 x1 x2 s0 s1 s2 s3 t0' t1 t2
   have HRZ := Lib.hid (show RdSt _ X5 c5 Y5 d5 t' from by
    obtain ⟨_, _, _, _, e1, e2, h⟩ := HF3.out.drewX.rows
    cases e1; cases e2; exact h)
   have HCZ := Lib.hid (show RdC _ A7 n7 cc' from by
    obtain ⟨_, _, e1, h⟩ := RdC.of_own (c := cc') (z6 HF4.out (Below.refl _ _).drew)
    cases e1; exact h)
   have hj63 : (j : Int) + 1 ≤ 9223372036854775807 := by omega
   go_wp2_with fail
   go_roundg (q8 4 t' cc')
   case measure => have := M6.out; have := HGN.out; omega
   case rel =>
    exact ⟨j + 1, t', cc', X5, c5, Y5, d5, A7, n7, rfl, by go_num, by have := M6.out; have := HJ.out; omega, by rw [KK.out.1, KK.out.2]; exact Arr.drew HF1.out, Arr.drew HF2.out, HRZ.out, HCZ.out, M1.out, M2.out, M7.out, by have := M3.out; have := HGL.out; omega, MR.out, HF6.out.drew, HF5.out.drew⟩
end Go.Proofs.YtngfnjekjfeacaaGreat
