/- order.Decode. Conditions: the sizes. -/
import Derived.Test.YtdpedkgdobfemaaOrE
namespace Go.Proofs.Ytdpedkgdobfemaa
open Go.RowKit
set_option linter.unusedVariables false
set_option linter.unusedSimpArgs false
set_option maxRecDepth 100000

def zeroO : Value := .agg #[.int .i64 0, .int .i64 0, .string ⟨#[]⟩, .slice none 0 0, .slice none 0 0]
theorem NoO_ok (er : Int) (w : World) : Calls Try.prog 34 #[.int .i64 er] w fun e w' => e = .returned (.tuple #[zeroO, .int .i64 er]) ∧ Below w.heap.size w w' := by
  go_enter Try.func34, Try.ntmps34
  repeat' ((fail_if_success at_builtin); (fail_if_success at_make); (first | go_values | go_skip | go_guarded | go_step | go_upon | go_back))
  refine bodyPost_ret (res_cell_tmp3 rfl _ _ w.heap.size _ _ _ _ (by rfl) (World.alloc_heap_new w _) Try.underlying28 rfl (by kernel_rfl)) rfl ⟨rfl, (Below.refl _ _).alloc (Nat.le_refl _) _⟩

def put5 (w : World) (g : Nat) (u0 u1 u2 u3 u4 : Value) : World := ((((w.setCell ⟨g, 0, none⟩ u0).setCell ⟨g, 1, none⟩ u1).setCell ⟨g, 2, none⟩ u2).setCell ⟨g, 3, none⟩ u3).setCell ⟨g, 4, none⟩ u4
theorem Arr.put5 {W : World} {g : Nat} {e : TypeId} {a0 a1 a2 a3 a4 : Value} (h : Arr W g e [a0, a1, a2, a3, a4]) (u0 u1 u2 u3 u4 : Value) : Arr (put5 W g u0 u1 u2 u3 u4) g e [u0, u1, u2, u3, u4] :=
  ((((h.set (k := 0) (by simp) u0).set (k := 1) (by simp) u1).set (k := 2) (by simp) u2).set (k := 3) (by simp) u3).set (k := 4) (by simp) u4
theorem Below.put5 {B : Nat} {a W : World} {g : Nat} (h : Below B a W) (hg : B ≤ g) (u0 u1 u2 u3 u4 : Value) : Below B a (put5 W g u0 u1 u2 u3 u4) :=
  Below.setCell (Below.setCell (Below.setCell (Below.setCell (Below.setCell h hg _) hg _) hg _) hg _) hg _
theorem Rd.put5 {w : World} {s n g : Nat} {A : Option Addr} {xs : List Value} (h : Rd w s A n xs) (hne : ∀ b off, A = some ⟨b, off, none⟩ → 0 < n → b ≠ g) (u0 u1 u2 u3 u4 : Value) : Rd (put5 w g u0 u1 u2 u3 u4) s A n xs :=
  ((((h.far (grown_set _ g 0 u0) hne).far (grown_set _ g 1 u1) hne).far (grown_set _ g 2 u2) hne).far (grown_set _ g 3 u3) hne).far (grown_set _ g 4 u4) hne
/-- what the walk of a store of five asks for -/
structure Five (W : World) (g : Nat) (u0 u1 u2 u3 u4 : Value) : Prop where
  f0 : W.frozen? ⟨g, 0, none⟩ = false
  f1 : (W.setCell ⟨g, 0, none⟩ u0).frozen? ⟨g, 1, none⟩ = false
  f2 : ((W.setCell ⟨g, 0, none⟩ u0).setCell ⟨g, 1, none⟩ u1).frozen? ⟨g, 2, none⟩ = false
  f3 : (((W.setCell ⟨g, 0, none⟩ u0).setCell ⟨g, 1, none⟩ u1).setCell ⟨g, 2, none⟩ u2).frozen? ⟨g, 3, none⟩ = false
  f4 : ((((W.setCell ⟨g, 0, none⟩ u0).setCell ⟨g, 1, none⟩ u1).setCell ⟨g, 2, none⟩ u2).setCell ⟨g, 3, none⟩ u3).frozen? ⟨g, 4, none⟩ = false
  c0 : ∃ v, W.cell? ⟨g, 0, none⟩ = some v
  c1 : ∃ v, (W.setCell ⟨g, 0, none⟩ u0).cell? ⟨g, 1, none⟩ = some v
  c2 : ∃ v, ((W.setCell ⟨g, 0, none⟩ u0).setCell ⟨g, 1, none⟩ u1).cell? ⟨g, 2, none⟩ = some v
  c3 : ∃ v, (((W.setCell ⟨g, 0, none⟩ u0).setCell ⟨g, 1, none⟩ u1).setCell ⟨g, 2, none⟩ u2).cell? ⟨g, 3, none⟩ = some v
  c4 : ∃ v, ((((W.setCell ⟨g, 0, none⟩ u0).setCell ⟨g, 1, none⟩ u1).setCell ⟨g, 2, none⟩ u2).setCell ⟨g, 3, none⟩ u3).cell? ⟨g, 4, none⟩ = some v
theorem Arr.five {W : World} {g : Nat} {e : TypeId} {a0 a1 a2 a3 a4 : Value} (h : Arr W g e [a0, a1, a2, a3, a4]) (u0 u1 u2 u3 u4 : Value) : Five W g u0 u1 u2 u3 u4 := by
  have h0 := h.set (k := 0) (by simp) u0
  have h1 := h0.set (k := 1) (by simp) u1
  have h2 := h1.set (k := 2) (by simp) u2
  have h3 := h2.set (k := 3) (by simp) u3
  exact ⟨h.frozen 0, h0.frozen 1, h1.frozen 2, h2.frozen 3, h3.frozen 4, ⟨_, h.cell (k := 0) rfl⟩, ⟨_, h0.cell (k := 1) rfl⟩, ⟨_, h1.cell (k := 2) rfl⟩, ⟨_, h2.cell (k := 3) rfl⟩, ⟨_, h3.cell (k := 4) rfl⟩⟩
theorem Rd.nil (w : World) (s : Nat) : Rd w s none 0 [] := ⟨by simp, fun h => absurd h (by omega)⟩
def DecPost (w : World) (r : OrdP × Nat) : Ending → World → Prop := fun e w' => ∃ A c A' c', e = .returned (.tuple #[ordV r.1 A c A' c', .int .i64 (r.2 : Int)]) ∧ Rd w' 1 A r.1.data.length (bys r.1.data) ∧ Rd w' 3 A' r.1.parts.length (pcs r.1.parts) ∧ r.1.data.length ≤ c ∧ r.1.parts.length ≤ c' ∧ Below w.heap.size w w'
set_option maxHeartbeats 4000000 in
theorem ODecode_e1 (A : Option Addr) (n c : Nat) (l : List UInt8) (w : World) (hl : l.length = n) (hc : n ≤ c) (hm : n ≤ 140737488353280) (hr : Rd w 1 A n (bys l)) (he : (rdNum l).2.2 ≠ 0) :
    Calls Try.prog 9 #[.slice A n c] w (DecPost w (decO l)) := by
  unfold DecPost
  have hrs : decO l = noO (rdNum l).2.2 := by rw [decO, if_pos he]
  obtain ⟨m, rest, er, hrd⟩ : ∃ m rest er, rdNum l = (m, rest, er) := ⟨_, _, _, rfl⟩
  rw [hrd] at hrs he
  dsimp only at hrs he
  have e6 : ((er : Int) != 0) = true := by rw [bne_iff_ne]; omega
  have hA1 : Arr (w.alloc (.cells #[.int .i64 0, .int .i64 0, .string ⟨#[]⟩, .slice none 0 0, .slice none 0 0] 28)) w.heap.size 28 [.int .i64 0, .int .i64 0, .string ⟨#[]⟩, .slice none 0 0, .slice none 0 0] := Arr.new w 28 _
  have hb1 := (Below.refl w.heap.size w).alloc (Nat.le_refl _) (.cells #[.int .i64 0, .int .i64 0, .string ⟨#[]⟩, .slice none 0 0, .slice none 0 0] 28)
  have hr1 := hr.alloc (.cells #[.int .i64 0, .int .i64 0, .string ⟨#[]⟩, .slice none 0 0, .slice none 0 0] 28)
  have HRN := Lib.hid (ReadNumber_at (er : Int) rfl hrd hl hc hm hr1)
  have HRS := Lib.hid hrs
  clear hrs hl hr hrd he hr1
  go_enter Try.func9, Try.ntmps9
  repeat' ((fail_if_success at_builtin); (fail_if_success at_make); (first | go_values | go_skip | go_guarded | go_step | go_upon | go_back))
  generalize w.alloc (.cells #[.int .i64 0, .int .i64 0, .string ⟨#[]⟩, .slice none 0 0, .slice none 0 0] 28) = w1 at *
  obtain ⟨g, hg⟩ : ∃ g, g = w.heap.size := ⟨_, rfl⟩
  have hgw : w.heap.size ≤ g := by omega
  rw [← hg] at hA1 ⊢
  clear hg
  refine ((HRN.out)).mono ?_; rintro e_ w2 ⟨A2, c2, rfl, ho2, hb2⟩; dsimp only
  have hA2 := hA1.below hb2
  have hB2 := hb1.trans (hb2.mono hb1.size)
  clear hA1 hb1
  repeat' ((fail_if_success at_builtin); (fail_if_success at_make); (first | go_values | go_skip | go_guarded | go_step | go_upon | go_back))
  refine ((NoO_ok _ _)).mono ?_; rintro e_ wz ⟨rfl, hbz⟩; dsimp only
  unfold zeroO
  have hAz := hA2.below hbz
  have hBz := hB2.trans (hbz.mono hB2.size)
  have hA9 := hAz.put5 (.int .i64 0) (.int .i64 0) (.string ⟨#[]⟩) (.slice none 0 0) (.slice none 0 0)
  have hB9 := Below.put5 hBz hgw (.int .i64 0) (.int .i64 0) (.string ⟨#[]⟩) (.slice none 0 0) (.slice none 0 0)
  obtain ⟨z0, z1, z2, z3, z4, ⟨_, y0⟩, ⟨_, y1⟩, ⟨_, y2⟩, ⟨_, y3⟩, ⟨_, y4⟩⟩ := hAz.five (.int .i64 0) (.int .i64 0) (.string ⟨#[]⟩) (.slice none 0 0) (.slice none 0 0)
  repeat' ((fail_if_success at_builtin); (fail_if_success at_make); (first | go_values | go_skip | go_guarded | go_step | go_upon | go_back))
  refine bodyPost_ret (res_cell_tmp3 rfl _ _ g _ _ _ _ (by rfl) hA9 Try.underlying28 rfl (by kernel_rfl)) rfl ?_
  rw [HRS.out]
  exact ⟨none, 0, none, 0, rfl, Rd.nil _ _, Rd.nil _ _, Nat.le_refl _, Nat.le_refl _, hB9⟩
--ODEC
set_option maxHeartbeats 4000000 in
theorem ODecode_e2 (A : Option Addr) (n c : Nat) (l rest : List UInt8) (m : Nat) (w : World) (hl : l.length = n) (hc : n ≤ c) (hm : n ≤ 140737488353280) (hr : Rd w 1 A n (bys l)) (hrd : rdNum l = (m, rest, 0)) (hff : fOf m = (⟨false, false, false, false⟩, false)) :
    Calls Try.prog 9 #[.slice A n c] w (DecPost w (decO l)) := by
  have hrs : decO l = noO 2 := by rw [decO, hrd]; dsimp only; rw [if_neg (by simp), hff, if_pos rfl]
  have HRS := Lib.hid hrs
  clear hrs
  unfold DecPost
  have hA1 : Arr (w.alloc (.cells #[.int .i64 0, .int .i64 0, .string ⟨#[]⟩, .slice none 0 0, .slice none 0 0] 28)) w.heap.size 28 [.int .i64 0, .int .i64 0, .string ⟨#[]⟩, .slice none 0 0, .slice none 0 0] := Arr.new w 28 _
  have hb1 := (Below.refl w.heap.size w).alloc (Nat.le_refl _) (.cells #[.int .i64 0, .int .i64 0, .string ⟨#[]⟩, .slice none 0 0, .slice none 0 0] 28)
  have hr1 := hr.alloc (.cells #[.int .i64 0, .int .i64 0, .string ⟨#[]⟩, .slice none 0 0, .slice none 0 0] 28)
  have HRN := Lib.hid (ReadNumber_at 0 rfl hrd hl hc hm hr1)
  have hof := fun w' => Of_ok m w'
  unfold OfAt at hof
  rw [hff] at hof
  simp only [fcs] at hof
  have HOF := Lib.hid hof
  have HRL := Lib.hid (show rest.length ≤ n from by have := rdGo_rest l 0 0; rw [← rdNum, hrd] at this; dsimp only at this; omega)
  have HM := Lib.hid hm
  clear hof hff hl hr hrd hr1 hm
  go_enter Try.func9, Try.ntmps9
  repeat' ((fail_if_success at_builtin); (fail_if_success at_make); (first | go_values | go_skip | go_guarded | go_step | go_upon | go_back))
  generalize w.alloc (.cells #[.int .i64 0, .int .i64 0, .string ⟨#[]⟩, .slice none 0 0, .slice none 0 0] 28) = w1 at *
  obtain ⟨g, hg⟩ : ∃ g, g = w.heap.size := ⟨_, rfl⟩
  have hgw : w.heap.size ≤ g := by omega
  rw [← hg] at hA1 ⊢
  clear hg
  refine ((HRN.out)).mono ?_; rintro e_ w2 ⟨A2, c2, rfl, ho2, hb2⟩; dsimp only
  have hA2 := hA1.below hb2
  have hB2 := hb1.trans (hb2.mono hb1.size)
  have hlt := hA1.lt
  have hs2 := hb2.size
  clear hA1 hb1 hb2
  repeat' ((fail_if_success at_builtin); (fail_if_success at_make); (first | go_values | go_skip | go_guarded | go_step | go_upon | go_back))
  refine ((HOF.out w2)).mono ?_; rintro e_ w3 ⟨rfl, hb3⟩; dsimp only
  have hA3 := hA2.below hb3
  have hB3 := hB2.trans (hb3.mono hB2.size)
  have hR3 := ho2.rd.below hb3
  have hne3 : ∀ b off, A2 = some ⟨b, off, none⟩ → 0 < rest.length → b < w3.heap.size := fun b off e h0 => by
    obtain ⟨b', off', e', hb', _⟩ := hR3.2 h0
    rw [e] at e'; cases e'; exact hb'
  have hcap := ho2.cap
  have HCM := Lib.hid (show c2 ≤ maxLen from by
    rcases ho2.own.2 with ⟨h1, h2⟩ | ⟨_, cap, _, h1, _, _, _, h2, _⟩
    · injection h1 with _ _ h3; subst h3; exact Nat.zero_le _
    · injection h1 with _ _ h3; subst h3; exact h2)
  clear ho2 hA2 hB2 hb3
  have hA4 := hA3.alloc (.cells #[.bool false, .bool false, .bool false, .bool false] 61)
  have hB4 := hB3.alloc hB3.size (.cells #[.bool false, .bool false, .bool false, .bool false] 61)
  repeat' ((fail_if_success at_builtin); (fail_if_success at_make); (first | go_values | go_skip | go_guarded | go_step | go_upon | go_back))
  generalize w3.alloc (.cells #[.bool false, .bool false, .bool false, .bool false] 61) = w4 at *
  repeat' ((fail_if_success at_builtin); (fail_if_success at_make); (first | go_values | go_skip | go_guarded | go_step | go_upon | go_back))
  refine ((NoO_ok _ _)).mono ?_; rintro e_ wz ⟨rfl, hbz⟩; dsimp only
  unfold zeroO
  have hAz := hA4.below hbz
  have hBz := hB4.trans (hbz.mono hB4.size)
  have hA9 := hAz.put5 (.int .i64 0) (.int .i64 0) (.string ⟨#[]⟩) (.slice none 0 0) (.slice none 0 0)
  have hB9 := Below.put5 hBz hgw (.int .i64 0) (.int .i64 0) (.string ⟨#[]⟩) (.slice none 0 0) (.slice none 0 0)
  obtain ⟨z0, z1, z2, z3, z4, ⟨_, y0⟩, ⟨_, y1⟩, ⟨_, y2⟩, ⟨_, y3⟩, ⟨_, y4⟩⟩ := hAz.five (.int .i64 0) (.int .i64 0) (.string ⟨#[]⟩) (.slice none 0 0) (.slice none 0 0)
  repeat' ((fail_if_success at_builtin); (fail_if_success at_make); (first | go_values | go_skip | go_guarded | go_step | go_upon | go_back))
  refine bodyPost_ret (res_cell_tmp3 rfl _ _ g _ _ _ _ (by rfl) hA9 Try.underlying28 rfl (by kernel_rfl)) rfl ?_
  rw [HRS.out]
  exact ⟨none, 0, none, 0, rfl, Rd.nil _ _, Rd.nil _ _, Nat.le_refl _, Nat.le_refl _, hB9⟩
theorem ordC_f {o : OrdP} {f : FldP} (h : fOf o.kind = (f, true)) (h1 : f.n = false → o.n = 0) (h2 : f.dig = false → o.dig = []) (h3 : f.data = false → o.data = []) (h4 : f.parts = false → o.parts = []) : ordC o = rstC f.dig o.n o.dig o.data o.parts := by
  unfold ordC rstC
  rw [h, if_neg (by simp), if_neg]
  rintro (g | g | g | g)
  · exact g.2 (h1 g.1)
  · exact g.2 (h2 g.1)
  · exact g.2 (h3 g.1)
  · exact g.2 (h4 g.1)
set_option maxHeartbeats 4000000 in
theorem ODecode_f4 (A : Option Addr) (n c : Nat) (l rest : List UInt8) (m : Nat) (w : World) (hl : l.length = n) (hc : n ≤ c) (hm : n ≤ 140737488353280) (hr : Rd w 1 A n (bys l)) (hrd : rdNum l = (m, rest, 0)) (hff : fOf m = (⟨false, false, false, false⟩, true)) :
    Calls Try.prog 9 #[.slice A n c] w (DecPost w (decO l)) := by
  have hrs : decO l = decO5 ⟨m, 0, [], [], []⟩ rest := by rw [decO, hrd]; dsimp only; rw [if_neg (by simp), hff, if_neg (by simp)]; rfl
  have HRS := Lib.hid hrs
  have HFF := Lib.hid hff
  clear hrs
  unfold DecPost
  have hA1 : Arr (w.alloc (.cells #[.int .i64 0, .int .i64 0, .string ⟨#[]⟩, .slice none 0 0, .slice none 0 0] 28)) w.heap.size 28 [.int .i64 0, .int .i64 0, .string ⟨#[]⟩, .slice none 0 0, .slice none 0 0] := Arr.new w 28 _
  have hb1 := (Below.refl w.heap.size w).alloc (Nat.le_refl _) (.cells #[.int .i64 0, .int .i64 0, .string ⟨#[]⟩, .slice none 0 0, .slice none 0 0] 28)
  have hr1 := hr.alloc (.cells #[.int .i64 0, .int .i64 0, .string ⟨#[]⟩, .slice none 0 0, .slice none 0 0] 28)
  have HRN := Lib.hid (ReadNumber_at 0 rfl hrd hl hc hm hr1)
  have hof := fun w' => Of_ok m w'
  unfold OfAt at hof
  rw [hff] at hof
  simp only [fcs] at hof
  have HOF := Lib.hid hof
  have HRL := Lib.hid (show rest.length ≤ n from by have := rdGo_rest l 0 0; rw [← rdNum, hrd] at this; dsimp only at this; omega)
  have HM := Lib.hid hm
  clear hof hff hl hr hrd hr1 hm
  go_enter Try.func9, Try.ntmps9
  repeat' ((fail_if_success at_builtin); (fail_if_success at_make); (first | go_values | go_skip | go_guarded | go_step | go_upon | go_back))
  generalize w.alloc (.cells #[.int .i64 0, .int .i64 0, .string ⟨#[]⟩, .slice none 0 0, .slice none 0 0] 28) = w1 at *
  obtain ⟨g, hg⟩ : ∃ g, g = w.heap.size := ⟨_, rfl⟩
  have hgw : w.heap.size ≤ g := by omega
  rw [← hg] at hA1 ⊢
  clear hg
  refine ((HRN.out)).mono ?_; rintro e_ w2 ⟨A2, c2, rfl, ho2, hb2⟩; dsimp only
  have hA2 := hA1.below hb2
  have hB2 := hb1.trans (hb2.mono hb1.size)
  have hlt := hA1.lt
  have hs2 := hb2.size
  clear hA1 hb1 hb2
  repeat' ((fail_if_success at_builtin); (fail_if_success at_make); (first | go_values | go_skip | go_guarded | go_step | go_upon | go_back))
  refine ((HOF.out w2)).mono ?_; rintro e_ w3 ⟨rfl, hb3⟩; dsimp only
  have hA3 := hA2.below hb3
  have hB3 := hB2.trans (hb3.mono hB2.size)
  have hR3 := ho2.rd.below hb3
  have hne3 : ∀ b off, A2 = some ⟨b, off, none⟩ → 0 < rest.length → b < w3.heap.size := fun b off e h0 => by
    obtain ⟨b', off', e', hb', _⟩ := hR3.2 h0
    rw [e] at e'; cases e'; exact hb'
  have hcap := ho2.cap
  have HCM := Lib.hid (show c2 ≤ maxLen from by
    rcases ho2.own.2 with ⟨h1, h2⟩ | ⟨_, cap, _, h1, _, _, _, h2, _⟩
    · injection h1 with _ _ h3; subst h3; exact Nat.zero_le _
    · injection h1 with _ _ h3; subst h3; exact h2)
  clear ho2 hA2 hB2 hb3
  have hA4 := hA3.alloc (.cells #[.bool false, .bool false, .bool false, .bool false] 61)
  have hB4 := hB3.alloc hB3.size (.cells #[.bool false, .bool false, .bool false, .bool false] 61)
  have hF4 : Arr (w3.alloc (.cells #[.bool false, .bool false, .bool false, .bool false] 61)) w3.heap.size 61 [.bool false, .bool false, .bool false, .bool false] := Arr.new w3 61 _
  have hR4 := hR3.alloc (.cells #[.bool false, .bool false, .bool false, .bool false] 61)
  have hs4 : (w3.alloc (.cells #[.bool false, .bool false, .bool false, .bool false] 61)).heap.size = w3.heap.size + 1 := World.size_alloc _ _
  have hs3 := hB3.size
  clear hA3 hB3 hR3
  have hAa := hA4.alloc (.cells #[.int .i64 (m : Int), .int .i64 0, .string ⟨#[]⟩, .slice none 0 0, .slice none 0 0] 28)
  have hBa := hB4.alloc hB4.size (.cells #[.int .i64 (m : Int), .int .i64 0, .string ⟨#[]⟩, .slice none 0 0, .slice none 0 0] 28)
  have hOa := Arr.new (w3.alloc (.cells #[.bool false, .bool false, .bool false, .bool false] 61)) 28 [.int .i64 (m : Int), .int .i64 0, .string ⟨#[]⟩, .slice none 0 0, .slice none 0 0]
  rw [hs4] at hOa
  have hck : Calls Try.prog 26 #[.agg #[.int .i64 (m : Int), .int .i64 0, .string ⟨#[]⟩, .slice none 0 0, .slice none 0 0]] ((w3.alloc (.cells #[.bool false, .bool false, .bool false, .bool false] 61)).alloc (.cells #[.int .i64 (m : Int), .int .i64 0, .string ⟨#[]⟩, .slice none 0 0, .slice none 0 0] 28)) fun e w' => e = .returned (.int .i64 (ordC ⟨m, 0, [], [], []⟩ : Nat)) ∧ Below ((w3.alloc (.cells #[.bool false, .bool false, .bool false, .bool false] 61)).alloc (.cells #[.int .i64 (m : Int), .int .i64 0, .string ⟨#[]⟩, .slice none 0 0, .slice none 0 0] 28)).heap.size ((w3.alloc (.cells #[.bool false, .bool false, .bool false, .bool false] 61)).alloc (.cells #[.int .i64 (m : Int), .int .i64 0, .string ⟨#[]⟩, .slice none 0 0, .slice none 0 0] 28)) w' := by
    rw [ordC_f (o := ⟨m, 0, [], [], []⟩) HFF.out (fun _ => rfl) (fun _ => rfl) (fun _ => rfl) (fun _ => rfl)]
    exact OCheck_f4 m 0 [] [] [] none none 0 0 _ HFF.out (by simp) (by simp) (by simp) (by intro p hp; cases hp) (Rd.nil _ _) rfl rfl rfl rfl
  have HCK := Lib.hid hck
  clear hck hA4 hB4 hF4 hR4
  by_cases hrl : 0 < rest.length
  · have hres : decO l = noO 3 := by rw [HRS.out, decO5, if_pos hrl]
    clear HRS
    have HRS := Lib.hid hres
    have e6 : decide ((0 : Int) < (rest.length : Int)) = true := decide_eq_true (by omega)
    have e6' : decide (0 < rest.length) = true := decide_eq_true hrl
    clear hres
    repeat' ((fail_if_success at_builtin); (fail_if_success at_make); (first | go_values | go_skip | go_guarded | go_step | go_upon | go_back))
    refine ((NoO_ok _ _)).mono ?_; rintro e_ wz ⟨rfl, hbz⟩; dsimp only
    unfold zeroO
    have hAz := hAa.below hbz
    have hBz := hBa.trans (hbz.mono hBa.size)
    have hA9 := hAz.put5 (.int .i64 0) (.int .i64 0) (.string ⟨#[]⟩) (.slice none 0 0) (.slice none 0 0)
    have hB9 := Below.put5 hBz hgw (.int .i64 0) (.int .i64 0) (.string ⟨#[]⟩) (.slice none 0 0) (.slice none 0 0)
    obtain ⟨z0, z1, z2, z3, z4, ⟨_, y0⟩, ⟨_, y1⟩, ⟨_, y2⟩, ⟨_, y3⟩, ⟨_, y4⟩⟩ := hAz.five (.int .i64 0) (.int .i64 0) (.string ⟨#[]⟩) (.slice none 0 0) (.slice none 0 0)
    repeat' ((fail_if_success at_builtin); (fail_if_success at_make); (first | go_values | go_skip | go_guarded | go_step | go_upon | go_back))
    refine bodyPost_ret (res_cell_tmp3 rfl _ _ g _ _ _ _ (by rfl) hA9 Try.underlying28 rfl (by kernel_rfl)) rfl ?_
    rw [HRS.out]
    exact ⟨none, 0, none, 0, rfl, Rd.nil _ _, Rd.nil _ _, Nat.le_refl _, Nat.le_refl _, hB9⟩
  have hrs1 : decO l = if ordC ⟨m, 0, [], [], []⟩ ≠ 0 then noO (ordC ⟨m, 0, [], [], []⟩) else (⟨m, 0, [], [], []⟩, 0) := by rw [HRS.out, decO5, if_neg hrl]
  have e6 : decide ((0 : Int) < (rest.length : Int)) = false := decide_eq_false (by omega)
  have e6' : decide (0 < rest.length) = false := decide_eq_false hrl
  clear HRS
  obtain ⟨cc, hcc0⟩ : ∃ cc, cc = ordC ⟨m, 0, [], [], []⟩ := ⟨_, rfl⟩
  rw [← hcc0] at hrs1 HCK
  clear hcc0
  have f0 := hOa.cell (k := 0) rfl
  have f1 := hOa.cell (k := 1) rfl
  have f2 := hOa.cell (k := 2) rfl
  have f3 := hOa.cell (k := 3) rfl
  have f4 := hOa.cell (k := 4) rfl
  by_cases hcc : cc = 0
  rotate_left
  · have hres : decO l = noO cc := by rw [hrs1, if_pos hcc]
    have HRS := Lib.hid hres
    have e7 : ((cc : Int) != 0) = true := by rw [bne_iff_ne]; omega
    clear hres hrs1
    repeat' ((fail_if_success at_builtin); (fail_if_success at_make); (first | go_values | go_skip | go_guarded | go_step | go_upon | go_back))
    refine ((HCK.out)).mono ?_; rintro e_ wb ⟨rfl, hbb⟩; dsimp only
    have hAb := hAa.below hbb
    have hBb := hBa.trans (hbb.mono hBa.size)
    clear f0 f1 f2 f3 f4
    repeat' ((fail_if_success at_builtin); (fail_if_success at_make); (first | go_values | go_skip | go_guarded | go_step | go_upon | go_back))
    refine ((NoO_ok _ _)).mono ?_; rintro e_ wz ⟨rfl, hbz⟩; dsimp only
    unfold zeroO
    have hAz := hAb.below hbz
    have hBz := hBb.trans (hbz.mono hBb.size)
    have hA9 := hAz.put5 (.int .i64 0) (.int .i64 0) (.string ⟨#[]⟩) (.slice none 0 0) (.slice none 0 0)
    have hB9 := Below.put5 hBz hgw (.int .i64 0) (.int .i64 0) (.string ⟨#[]⟩) (.slice none 0 0) (.slice none 0 0)
    obtain ⟨z0, z1, z2, z3, z4, ⟨_, y0⟩, ⟨_, y1⟩, ⟨_, y2⟩, ⟨_, y3⟩, ⟨_, y4⟩⟩ := hAz.five (.int .i64 0) (.int .i64 0) (.string ⟨#[]⟩) (.slice none 0 0) (.slice none 0 0)
    repeat' ((fail_if_success at_builtin); (fail_if_success at_make); (first | go_values | go_skip | go_guarded | go_step | go_upon | go_back))
    refine bodyPost_ret (res_cell_tmp3 rfl _ _ g _ _ _ _ (by rfl) hA9 Try.underlying28 rfl (by kernel_rfl)) rfl ?_
    rw [HRS.out]
    exact ⟨none, 0, none, 0, rfl, Rd.nil _ _, Rd.nil _ _, Nat.le_refl _, Nat.le_refl _, hB9⟩
  have hres : decO l = (⟨m, 0, [], [], []⟩, 0) := by rw [hrs1, if_neg (by omega)]
  have HRS := Lib.hid hres
  subst hcc
  clear hres hrs1
  repeat' ((fail_if_success at_builtin); (fail_if_success at_make); (first | go_values | go_skip | go_guarded | go_step | go_upon | go_back))
  refine ((HCK.out)).mono ?_; rintro e_ wb ⟨rfl, hbb⟩; dsimp only
  rw [show ((0 : Nat) : Int) = 0 from rfl]
  have hAb := hAa.below hbb
  have hBb := hBa.trans (hbb.mono hBa.size)
  have hOb := hOa.below hbb
  clear f0 f1 f2 f3 f4
  have f0 := hOb.cell (k := 0) rfl
  have f1 := hOb.cell (k := 1) rfl
  have f2 := hOb.cell (k := 2) rfl
  have f3 := hOb.cell (k := 3) rfl
  have f4 := hOb.cell (k := 4) rfl
  have hA9 := hAb.put5 (.int .i64 (m : Int)) (.int .i64 0) (.string ⟨#[]⟩) (.slice none 0 0) (.slice none 0 0)
  have hB9 := Below.put5 hBb hgw (.int .i64 (m : Int)) (.int .i64 0) (.string ⟨#[]⟩) (.slice none 0 0) (.slice none 0 0)
  obtain ⟨z0, z1, z2, z3, z4, ⟨_, y0⟩, ⟨_, y1⟩, ⟨_, y2⟩, ⟨_, y3⟩, ⟨_, y4⟩⟩ := hAb.five (.int .i64 (m : Int)) (.int .i64 0) (.string ⟨#[]⟩) (.slice none 0 0) (.slice none 0 0)
  repeat' ((fail_if_success at_builtin); (fail_if_success at_make); (first | go_values | go_skip | go_guarded | go_step | go_upon | go_back))
  refine bodyPost_ret (res_cell_tmp3 rfl _ _ g _ _ _ _ (by rfl) hA9 Try.underlying28 rfl (by kernel_rfl)) rfl ?_
  rw [HRS.out]
  exact ⟨none, 0, none, 0, rfl, Rd.nil _ _, Rd.nil _ _, Nat.le_refl _, Nat.le_refl _, hB9⟩
set_option maxHeartbeats 4000000 in
theorem ODecode_f3 (A : Option Addr) (n c : Nat) (l rest : List UInt8) (m : Nat) (w : World) (hl : l.length = n) (hc : n ≤ c) (hm : n ≤ 140737488353280) (hr : Rd w 1 A n (bys l)) (hrd : rdNum l = (m, rest, 0)) (hff : fOf m = (⟨true, false, false, false⟩, true)) :
    Calls Try.prog 9 #[.slice A n c] w (DecPost w (decO l)) := by
  have hrs : decO l = decO1 ⟨true, false, false, false⟩ ⟨m, 0, [], [], []⟩ rest := by rw [decO, hrd]; dsimp only; rw [if_neg (by simp), hff, if_neg (by simp)]
  have HRS := Lib.hid hrs
  have HFF := Lib.hid hff
  clear hrs
  unfold DecPost
  have hA1 : Arr (w.alloc (.cells #[.int .i64 0, .int .i64 0, .string ⟨#[]⟩, .slice none 0 0, .slice none 0 0] 28)) w.heap.size 28 [.int .i64 0, .int .i64 0, .string ⟨#[]⟩, .slice none 0 0, .slice none 0 0] := Arr.new w 28 _
  have hb1 := (Below.refl w.heap.size w).alloc (Nat.le_refl _) (.cells #[.int .i64 0, .int .i64 0, .string ⟨#[]⟩, .slice none 0 0, .slice none 0 0] 28)
  have hr1 := hr.alloc (.cells #[.int .i64 0, .int .i64 0, .string ⟨#[]⟩, .slice none 0 0, .slice none 0 0] 28)
  have HRN := Lib.hid (ReadNumber_at 0 rfl hrd hl hc hm hr1)
  have hof := fun w' => Of_ok m w'
  unfold OfAt at hof
  rw [hff] at hof
  simp only [fcs] at hof
  have HOF := Lib.hid hof
  have HRL := Lib.hid (show rest.length ≤ n from by have := rdGo_rest l 0 0; rw [← rdNum, hrd] at this; dsimp only at this; omega)
  have HM := Lib.hid hm
  clear hof hff hl hr hrd hr1 hm
  go_enter Try.func9, Try.ntmps9
  repeat' ((fail_if_success at_builtin); (fail_if_success at_make); (first | go_values | go_skip | go_guarded | go_step | go_upon | go_back))
  generalize w.alloc (.cells #[.int .i64 0, .int .i64 0, .string ⟨#[]⟩, .slice none 0 0, .slice none 0 0] 28) = w1 at *
  obtain ⟨g, hg⟩ : ∃ g, g = w.heap.size := ⟨_, rfl⟩
  have hgw : w.heap.size ≤ g := by omega
  rw [← hg] at hA1 ⊢
  clear hg
  refine ((HRN.out)).mono ?_; rintro e_ w2 ⟨A2, c2, rfl, ho2, hb2⟩; dsimp only
  have hA2 := hA1.below hb2
  have hB2 := hb1.trans (hb2.mono hb1.size)
  have hlt := hA1.lt
  have hs2 := hb2.size
  clear hA1 hb1 hb2
  repeat' ((fail_if_success at_builtin); (fail_if_success at_make); (first | go_values | go_skip | go_guarded | go_step | go_upon | go_back))
  refine ((HOF.out w2)).mono ?_; rintro e_ w3 ⟨rfl, hb3⟩; dsimp only
  have hA3 := hA2.below hb3
  have hB3 := hB2.trans (hb3.mono hB2.size)
  have hR3 := ho2.rd.below hb3
  have hne3 : ∀ b off, A2 = some ⟨b, off, none⟩ → 0 < rest.length → b < w3.heap.size := fun b off e h0 => by
    obtain ⟨b', off', e', hb', _⟩ := hR3.2 h0
    rw [e] at e'; cases e'; exact hb'
  have hcap := ho2.cap
  have HCM := Lib.hid (show c2 ≤ maxLen from by
    rcases ho2.own.2 with ⟨h1, h2⟩ | ⟨_, cap, _, h1, _, _, _, h2, _⟩
    · injection h1 with _ _ h3; subst h3; exact Nat.zero_le _
    · injection h1 with _ _ h3; subst h3; exact h2)
  clear ho2 hA2 hB2 hb3
  have hs3 := hB3.size
  have hA4 := hA3.alloc (.cells #[.bool true, .bool false, .bool false, .bool false] 61)
  have hB4 := hB3.alloc hs3 (.cells #[.bool true, .bool false, .bool false, .bool false] 61)
  have hF4 : Arr (w3.alloc (.cells #[.bool true, .bool false, .bool false, .bool false] 61)) w3.heap.size 61 [.bool true, .bool false, .bool false, .bool false] := Arr.new w3 61 _
  have hR4 := hR3.alloc (.cells #[.bool true, .bool false, .bool false, .bool false] 61)
  have hs4 : (w3.alloc (.cells #[.bool true, .bool false, .bool false, .bool false] 61)).heap.size = w3.heap.size + 1 := World.size_alloc _ _
  have hA5 := hA4.alloc (.cells #[.int .i64 (m : Int), .int .i64 0, .string ⟨#[]⟩, .slice none 0 0, .slice none 0 0] 28)
  have hB5 := hB4.alloc hB4.size (.cells #[.int .i64 (m : Int), .int .i64 0, .string ⟨#[]⟩, .slice none 0 0, .slice none 0 0] 28)
  have hF5 := hF4.alloc (.cells #[.int .i64 (m : Int), .int .i64 0, .string ⟨#[]⟩, .slice none 0 0, .slice none 0 0] 28)
  have hR5 := hR4.alloc (.cells #[.int .i64 (m : Int), .int .i64 0, .string ⟨#[]⟩, .slice none 0 0, .slice none 0 0] 28)
  have hO5 : Arr ((w3.alloc (.cells #[.bool true, .bool false, .bool false, .bool false] 61)).alloc (.cells #[.int .i64 (m : Int), .int .i64 0, .string ⟨#[]⟩, .slice none 0 0, .slice none 0 0] 28)) (w3.alloc (.cells #[.bool true, .bool false, .bool false, .bool false] 61)).heap.size 28 [.int .i64 (m : Int), .int .i64 0, .string ⟨#[]⟩, .slice none 0 0, .slice none 0 0] := Arr.new (w3.alloc (.cells #[.bool true, .bool false, .bool false, .bool false] 61)) 28 [.int .i64 (m : Int), .int .i64 0, .string ⟨#[]⟩, .slice none 0 0, .slice none 0 0]
  rw [hs4] at hO5
  have hgl := hA3.lt
  clear hA3 hB3 hR3 hA4 hB4 hF4 hR4 hs4
  repeat' ((fail_if_success at_builtin); (fail_if_success at_make); (first | go_values | go_skip | go_guarded | go_step | go_upon | go_back))
  generalize ((w3.alloc (.cells #[.bool true, .bool false, .bool false, .bool false] 61)).alloc (.cells #[.int .i64 (m : Int), .int .i64 0, .string ⟨#[]⟩, .slice none 0 0, .slice none 0 0] 28)) = w5 at *
  generalize w3.heap.size = gf at *
  generalize hgo : gf + 1 = go at *
  have hgg : g ≠ go := by omega
  have hfg : gf ≠ go := by omega
  have hwo : w.heap.size ≤ go := by omega
  have hne5 : ∀ b off, A2 = some ⟨b, off, none⟩ → 0 < rest.length → b ≠ go := fun b off e h0 => by have := hne3 b off e h0; omega
  clear hgo hne3
  have hrl := rdGo_rest rest 0 0
  rw [← rdNum] at hrl
  obtain ⟨nn, r1, er, hrd1⟩ : ∃ nn r1 er, rdNum rest = (nn, r1, er) := ⟨_, _, _, rfl⟩
  have hrs1 := HRS.out
  rw [decO1, if_pos rfl, hrd1] at hrs1
  rw [hrd1] at hrl
  dsimp only at hrs1 hrl
  have HRS1 := Lib.hid hrs1
  have HRL1 := Lib.hid hrl
  have hgol := hO5.lt
  refine ((ReadNumber_at (er : Int) rfl hrd1 rfl hcap (by have := HRL.out; have := HM.out; omega) hR5)).mono ?_; rintro e_ w6 ⟨A6, c6, rfl, ho6, hb6⟩; dsimp only
  have hne6 : ∀ b off, A6 = some ⟨b, off, none⟩ → 0 < r1.length → b ≠ go := fun b off e h0 => by
    subst e
    have := (ho6.own.lt b rfl).1
    omega
  have hA6 := hA5.below hb6
  have hF6 := hF5.below hb6
  have hO6 := hO5.below hb6
  have hB6 := hB5.trans (hb6.mono hB5.size)
  have hcap6 := ho6.cap
  have HCX := Lib.hid (show c6 ≤ maxLen from by
    rcases ho6.own.2 with ⟨h1, h2⟩ | ⟨_, cap, _, h1, _, _, _, h2, _⟩
    · injection h1 with _ _ h3; subst h3; exact Nat.zero_le _
    · injection h1 with _ _ h3; subst h3; exact h2)
  have z1 := hO6.frozen 1
  have y1 := hO6.cell (k := 1) rfl
  have hO7 := hO6.set (k := 1) (by simp) (.int .i64 (nn : Int))
  have hA7 : Arr (w6.setCell ⟨go, 1, none⟩ (.int .i64 (nn : Int))) g 28 _ := (Below.heap_setCell w6 ⟨go, 1, none⟩ (.int .i64 (nn : Int)) g hgg).trans hA6
  have hF7 : Arr (w6.setCell ⟨go, 1, none⟩ (.int .i64 (nn : Int))) gf 61 _ := (Below.heap_setCell w6 ⟨go, 1, none⟩ (.int .i64 (nn : Int)) gf hfg).trans hF6
  have hB7 : Below w.heap.size w (w6.setCell ⟨go, 1, none⟩ (.int .i64 (nn : Int))) := Below.setCell hB6 hwo _
  have hR7 := ho6.rd.far (grown_set w6 go 1 (.int .i64 (nn : Int))) hne6
  clear hrs1 hrl hrd1 hA5 hF5 hO5 hB5 hR5 hne5 hcap hb6 ho6 hA6 hF6 hB6 hO6 HRS
  by_cases her : er = 0
  rotate_left
  · have HRS := Lib.hid (show decO l = noO er from by rw [HRS1.out, if_pos her])
    have e6 : ((er : Int) != 0) = true := by rw [bne_iff_ne]; omega
    clear HRS1
    repeat' ((fail_if_success at_builtin); (fail_if_success at_make); (first | go_values | go_skip | go_guarded | go_step | go_upon | go_back))
    refine ((NoO_ok _ _)).mono ?_; rintro e_ wz ⟨rfl, hbz⟩; dsimp only
    unfold zeroO
    have hAz := hA7.below hbz
    have hBz := hB7.trans (hbz.mono hB7.size)
    have hA9 := hAz.put5 (.int .i64 0) (.int .i64 0) (.string ⟨#[]⟩) (.slice none 0 0) (.slice none 0 0)
    have hB9 := Below.put5 hBz hgw (.int .i64 0) (.int .i64 0) (.string ⟨#[]⟩) (.slice none 0 0) (.slice none 0 0)
    obtain ⟨z0, z1, z2, z3, z4, ⟨_, y0⟩, ⟨_, y1⟩, ⟨_, y2⟩, ⟨_, y3⟩, ⟨_, y4⟩⟩ := hAz.five (.int .i64 0) (.int .i64 0) (.string ⟨#[]⟩) (.slice none 0 0) (.slice none 0 0)
    repeat' ((fail_if_success at_builtin); (fail_if_success at_make); (first | go_values | go_skip | go_guarded | go_step | go_upon | go_back))
    refine bodyPost_ret (res_cell_tmp3 rfl _ _ g _ _ _ _ (by rfl) hA9 Try.underlying28 rfl (by kernel_rfl)) rfl ?_
    rw [HRS.out]
    exact ⟨none, 0, none, 0, rfl, Rd.nil _ _, Rd.nil _ _, Nat.le_refl _, Nat.le_refl _, hB9⟩
  subst her
  rw [show ((0 : Nat) : Int) = 0 from rfl]
  have HRS := Lib.hid (show decO l = decO2 ⟨true, false, false, false⟩ ⟨m, nn, [], [], []⟩ r1 from by rw [HRS1.out, if_neg (by simp)])
  clear HRS1
  have ff1 := hF7.cell (k := 1) rfl
  have ff2 := hF7.cell (k := 2) rfl
  have ff3 := hF7.cell (k := 3) rfl
  have hOa : Arr (w6.setCell ⟨go, 1, none⟩ (.int .i64 (nn : Int))) go 28 [.int .i64 (m : Int), .int .i64 (nn : Int), .string ⟨#[]⟩, .slice none 0 0, .slice none 0 0] := hO7
  have hck : Calls Try.prog 26 #[.agg #[.int .i64 (m : Int), .int .i64 (nn : Int), .string ⟨#[]⟩, .slice none 0 0, .slice none 0 0]] (w6.setCell ⟨go, 1, none⟩ (.int .i64 (nn : Int))) fun e w' => e = .returned (.int .i64 (ordC ⟨m, nn, [], [], []⟩ : Nat)) ∧ Below (w6.setCell ⟨go, 1, none⟩ (.int .i64 (nn : Int))).heap.size (w6.setCell ⟨go, 1, none⟩ (.int .i64 (nn : Int))) w' := by
    rw [ordC_f (o := ⟨m, nn, [], [], []⟩) HFF.out (fun h => by cases h) (fun _ => rfl) (fun _ => rfl) (fun _ => rfl)]
    exact OCheck_f3 m nn [] [] [] none none 0 0 _ HFF.out (by simp) (by simp) (by simp) (by intro p hp; cases hp) (Rd.nil _ _) rfl rfl rfl
  have HCK := Lib.hid hck
  have HRS' := Lib.hid (show decO l = decO5 ⟨m, nn, [], [], []⟩ r1 from HRS.out)
  clear hck HRS hF7 hO7 hR7 hne6
  have HRS := HRS'
  have hAa := hA7
  have hBa := hB7
  clear HRS' hA7 hB7
  by_cases hrl : 0 < r1.length
  · have hres : decO l = noO 3 := by rw [HRS.out, decO5, if_pos hrl]
    clear HRS
    have HRS := Lib.hid hres
    have e6 : decide ((0 : Int) < (r1.length : Int)) = true := decide_eq_true (by omega)
    have e6' : decide (0 < r1.length) = true := decide_eq_true hrl
    clear hres
    repeat' ((fail_if_success at_builtin); (fail_if_success at_make); (first | go_values | go_skip | go_guarded | go_step | go_upon | go_back))
    refine ((NoO_ok _ _)).mono ?_; rintro e_ wz ⟨rfl, hbz⟩; dsimp only
    unfold zeroO
    have hAz := hAa.below hbz
    have hBz := hBa.trans (hbz.mono hBa.size)
    have hA9 := hAz.put5 (.int .i64 0) (.int .i64 0) (.string ⟨#[]⟩) (.slice none 0 0) (.slice none 0 0)
    have hB9 := Below.put5 hBz hgw (.int .i64 0) (.int .i64 0) (.string ⟨#[]⟩) (.slice none 0 0) (.slice none 0 0)
    obtain ⟨z0, z1, z2, z3, z4, ⟨_, y0⟩, ⟨_, y1⟩, ⟨_, y2⟩, ⟨_, y3⟩, ⟨_, y4⟩⟩ := hAz.five (.int .i64 0) (.int .i64 0) (.string ⟨#[]⟩) (.slice none 0 0) (.slice none 0 0)
    repeat' ((fail_if_success at_builtin); (fail_if_success at_make); (first | go_values | go_skip | go_guarded | go_step | go_upon | go_back))
    refine bodyPost_ret (res_cell_tmp3 rfl _ _ g _ _ _ _ (by rfl) hA9 Try.underlying28 rfl (by kernel_rfl)) rfl ?_
    rw [HRS.out]
    exact ⟨none, 0, none, 0, rfl, Rd.nil _ _, Rd.nil _ _, Nat.le_refl _, Nat.le_refl _, hB9⟩
  have hrs1 : decO l = if ordC ⟨m, nn, [], [], []⟩ ≠ 0 then noO (ordC ⟨m, nn, [], [], []⟩) else (⟨m, nn, [], [], []⟩, 0) := by rw [HRS.out, decO5, if_neg hrl]
  have e6 : decide ((0 : Int) < (r1.length : Int)) = false := decide_eq_false (by omega)
  have e6' : decide (0 < r1.length) = false := decide_eq_false hrl
  clear HRS
  obtain ⟨cc, hcc0⟩ : ∃ cc, cc = ordC ⟨m, nn, [], [], []⟩ := ⟨_, rfl⟩
  rw [← hcc0] at hrs1 HCK
  clear hcc0
  have f0 := hOa.cell (k := 0) rfl
  have f1 := hOa.cell (k := 1) rfl
  have f2 := hOa.cell (k := 2) rfl
  have f3 := hOa.cell (k := 3) rfl
  have f4 := hOa.cell (k := 4) rfl
  by_cases hcc : cc = 0
  rotate_left
  · have hres : decO l = noO cc := by rw [hrs1, if_pos hcc]
    have HRS := Lib.hid hres
    have e7 : ((cc : Int) != 0) = true := by rw [bne_iff_ne]; omega
    clear hres hrs1
    repeat' ((fail_if_success at_builtin); (fail_if_success at_make); (first | go_values | go_skip | go_guarded | go_step | go_upon | go_back))
    refine ((HCK.out)).mono ?_; rintro e_ wb ⟨rfl, hbb⟩; dsimp only
    have hAb := hAa.below hbb
    have hBb := hBa.trans (hbb.mono hBa.size)
    clear f0 f1 f2 f3 f4
    repeat' ((fail_if_success at_builtin); (fail_if_success at_make); (first | go_values | go_skip | go_guarded | go_step | go_upon | go_back))
    refine ((NoO_ok _ _)).mono ?_; rintro e_ wz ⟨rfl, hbz⟩; dsimp only
    unfold zeroO
    have hAz := hAb.below hbz
    have hBz := hBb.trans (hbz.mono hBb.size)
    have hA9 := hAz.put5 (.int .i64 0) (.int .i64 0) (.string ⟨#[]⟩) (.slice none 0 0) (.slice none 0 0)
    have hB9 := Below.put5 hBz hgw (.int .i64 0) (.int .i64 0) (.string ⟨#[]⟩) (.slice none 0 0) (.slice none 0 0)
    obtain ⟨z0, z1, z2, z3, z4, ⟨_, y0⟩, ⟨_, y1⟩, ⟨_, y2⟩, ⟨_, y3⟩, ⟨_, y4⟩⟩ := hAz.five (.int .i64 0) (.int .i64 0) (.string ⟨#[]⟩) (.slice none 0 0) (.slice none 0 0)
    repeat' ((fail_if_success at_builtin); (fail_if_success at_make); (first | go_values | go_skip | go_guarded | go_step | go_upon | go_back))
    refine bodyPost_ret (res_cell_tmp3 rfl _ _ g _ _ _ _ (by rfl) hA9 Try.underlying28 rfl (by kernel_rfl)) rfl ?_
    rw [HRS.out]
    exact ⟨none, 0, none, 0, rfl, Rd.nil _ _, Rd.nil _ _, Nat.le_refl _, Nat.le_refl _, hB9⟩
  have hres : decO l = (⟨m, nn, [], [], []⟩, 0) := by rw [hrs1, if_neg (by omega)]
  have HRS := Lib.hid hres
  subst hcc
  clear hres hrs1
  repeat' ((fail_if_success at_builtin); (fail_if_success at_make); (first | go_values | go_skip | go_guarded | go_step | go_upon | go_back))
  refine ((HCK.out)).mono ?_; rintro e_ wb ⟨rfl, hbb⟩; dsimp only
  rw [show ((0 : Nat) : Int) = 0 from rfl]
  have hAb := hAa.below hbb
  have hBb := hBa.trans (hbb.mono hBa.size)
  have hOb := hOa.below hbb
  clear f0 f1 f2 f3 f4
  have f0 := hOb.cell (k := 0) rfl
  have f1 := hOb.cell (k := 1) rfl
  have f2 := hOb.cell (k := 2) rfl
  have f3 := hOb.cell (k := 3) rfl
  have f4 := hOb.cell (k := 4) rfl
  have hA9 := hAb.put5 (.int .i64 (m : Int)) (.int .i64 (nn : Int)) (.string ⟨#[]⟩) (.slice none 0 0) (.slice none 0 0)
  have hB9 := Below.put5 hBb hgw (.int .i64 (m : Int)) (.int .i64 (nn : Int)) (.string ⟨#[]⟩) (.slice none 0 0) (.slice none 0 0)
  obtain ⟨z0, z1, z2, z3, z4, ⟨_, y0⟩, ⟨_, y1⟩, ⟨_, y2⟩, ⟨_, y3⟩, ⟨_, y4⟩⟩ := hAb.five (.int .i64 (m : Int)) (.int .i64 (nn : Int)) (.string ⟨#[]⟩) (.slice none 0 0) (.slice none 0 0)
  repeat' ((fail_if_success at_builtin); (fail_if_success at_make); (first | go_values | go_skip | go_guarded | go_step | go_upon | go_back))
  refine bodyPost_ret (res_cell_tmp3 rfl _ _ g _ _ _ _ (by rfl) hA9 Try.underlying28 rfl (by kernel_rfl)) rfl ?_
  rw [HRS.out]
  exact ⟨none, 0, none, 0, rfl, Rd.nil _ _, Rd.nil _ _, Nat.le_refl _, Nat.le_refl _, hB9⟩
set_option maxHeartbeats 4000000 in
theorem ODecode_f1 (A : Option Addr) (n c : Nat) (l rest : List UInt8) (m : Nat) (w : World) (hl : l.length = n) (hc : n ≤ c) (hm : n ≤ 140737488353280) (hr : Rd w 1 A n (bys l)) (hrd : rdNum l = (m, rest, 0)) (hff : fOf m = (⟨false, true, false, false⟩, true)) :
    Calls Try.prog 9 #[.slice A n c] w (DecPost w (decO l)) := by
  have hrs : decO l = decO2 ⟨false, true, false, false⟩ ⟨m, 0, [], [], []⟩ rest := by rw [decO, hrd]; dsimp only; rw [if_neg (by simp), hff, if_neg (by simp)]; rfl
  have HRS := Lib.hid hrs
  have HFF := Lib.hid hff
  clear hrs
  unfold DecPost
  have hA1 : Arr (w.alloc (.cells #[.int .i64 0, .int .i64 0, .string ⟨#[]⟩, .slice none 0 0, .slice none 0 0] 28)) w.heap.size 28 [.int .i64 0, .int .i64 0, .string ⟨#[]⟩, .slice none 0 0, .slice none 0 0] := Arr.new w 28 _
  have hb1 := (Below.refl w.heap.size w).alloc (Nat.le_refl _) (.cells #[.int .i64 0, .int .i64 0, .string ⟨#[]⟩, .slice none 0 0, .slice none 0 0] 28)
  have hr1 := hr.alloc (.cells #[.int .i64 0, .int .i64 0, .string ⟨#[]⟩, .slice none 0 0, .slice none 0 0] 28)
  have HRN := Lib.hid (ReadNumber_at 0 rfl hrd hl hc hm hr1)
  have hof := fun w' => Of_ok m w'
  unfold OfAt at hof
  rw [hff] at hof
  simp only [fcs] at hof
  have HOF := Lib.hid hof
  have HRL := Lib.hid (show rest.length ≤ n from by have := rdGo_rest l 0 0; rw [← rdNum, hrd] at this; dsimp only at this; omega)
  have HM := Lib.hid hm
  clear hof hff hl hr hrd hr1 hm
  go_enter Try.func9, Try.ntmps9
  repeat' ((fail_if_success at_builtin); (fail_if_success at_make); (first | go_values | go_skip | go_guarded | go_step | go_upon | go_back))
  generalize w.alloc (.cells #[.int .i64 0, .int .i64 0, .string ⟨#[]⟩, .slice none 0 0, .slice none 0 0] 28) = w1 at *
  obtain ⟨g, hg⟩ : ∃ g, g = w.heap.size := ⟨_, rfl⟩
  have hgw : w.heap.size ≤ g := by omega
  rw [← hg] at hA1 ⊢
  clear hg
  refine ((HRN.out)).mono ?_; rintro e_ w2 ⟨A2, c2, rfl, ho2, hb2⟩; dsimp only
  have hA2 := hA1.below hb2
  have hB2 := hb1.trans (hb2.mono hb1.size)
  have hlt := hA1.lt
  have hs2 := hb2.size
  clear hA1 hb1 hb2
  repeat' ((fail_if_success at_builtin); (fail_if_success at_make); (first | go_values | go_skip | go_guarded | go_step | go_upon | go_back))
  refine ((HOF.out w2)).mono ?_; rintro e_ w3 ⟨rfl, hb3⟩; dsimp only
  have hA3 := hA2.below hb3
  have hB3 := hB2.trans (hb3.mono hB2.size)
  have hR3 := ho2.rd.below hb3
  have hne3 : ∀ b off, A2 = some ⟨b, off, none⟩ → 0 < rest.length → b < w3.heap.size := fun b off e h0 => by
    obtain ⟨b', off', e', hb', _⟩ := hR3.2 h0
    rw [e] at e'; cases e'; exact hb'
  have hcap := ho2.cap
  have HCM := Lib.hid (show c2 ≤ maxLen from by
    rcases ho2.own.2 with ⟨h1, h2⟩ | ⟨_, cap, _, h1, _, _, _, h2, _⟩
    · injection h1 with _ _ h3; subst h3; exact Nat.zero_le _
    · injection h1 with _ _ h3; subst h3; exact h2)
  clear ho2 hA2 hB2 hb3
  by_cases h32 : rest.length < 32
  · have e5 : decide ((rest.length : Int) < 32) = true := decide_eq_true (by omega)
    have hrs1 : decO l = noO 8 := by rw [HRS.out, decO2, if_pos rfl, if_pos h32]
    clear HRS
    have HRS := Lib.hid hrs1
    clear hrs1
    have hs3 := hB3.size
    have hA4 := hA3.alloc (.cells #[.bool false, .bool true, .bool false, .bool false] 61)
    have hB4 := hB3.alloc hs3 (.cells #[.bool false, .bool true, .bool false, .bool false] 61)
    have hF4 : Arr (w3.alloc (.cells #[.bool false, .bool true, .bool false, .bool false] 61)) w3.heap.size 61 [.bool false, .bool true, .bool false, .bool false] := Arr.new w3 61 _
    have hR4 := hR3.alloc (.cells #[.bool false, .bool true, .bool false, .bool false] 61)
    have hs4 : (w3.alloc (.cells #[.bool false, .bool true, .bool false, .bool false] 61)).heap.size = w3.heap.size + 1 := World.size_alloc _ _
    have hA5 := hA4.alloc (.cells #[.int .i64 (m : Int), .int .i64 0, .string ⟨#[]⟩, .slice none 0 0, .slice none 0 0] 28)
    have hB5 := hB4.alloc hB4.size (.cells #[.int .i64 (m : Int), .int .i64 0, .string ⟨#[]⟩, .slice none 0 0, .slice none 0 0] 28)
    have hF5 := hF4.alloc (.cells #[.int .i64 (m : Int), .int .i64 0, .string ⟨#[]⟩, .slice none 0 0, .slice none 0 0] 28)
    have hR5 := hR4.alloc (.cells #[.int .i64 (m : Int), .int .i64 0, .string ⟨#[]⟩, .slice none 0 0, .slice none 0 0] 28)
    have hO5 : Arr ((w3.alloc (.cells #[.bool false, .bool true, .bool false, .bool false] 61)).alloc (.cells #[.int .i64 (m : Int), .int .i64 0, .string ⟨#[]⟩, .slice none 0 0, .slice none 0 0] 28)) (w3.alloc (.cells #[.bool false, .bool true, .bool false, .bool false] 61)).heap.size 28 [.int .i64 (m : Int), .int .i64 0, .string ⟨#[]⟩, .slice none 0 0, .slice none 0 0] := Arr.new (w3.alloc (.cells #[.bool false, .bool true, .bool false, .bool false] 61)) 28 [.int .i64 (m : Int), .int .i64 0, .string ⟨#[]⟩, .slice none 0 0, .slice none 0 0]
    rw [hs4] at hO5
    have hgl := hA3.lt
    clear hA3 hB3 hR3 hA4 hB4 hF4 hR4 hs4
    repeat' ((fail_if_success at_builtin); (fail_if_success at_make); (first | go_values | go_skip | go_guarded | go_step | go_upon | go_back))
    generalize ((w3.alloc (.cells #[.bool false, .bool true, .bool false, .bool false] 61)).alloc (.cells #[.int .i64 (m : Int), .int .i64 0, .string ⟨#[]⟩, .slice none 0 0, .slice none 0 0] 28)) = w5 at *
    generalize w3.heap.size = gf at *
    generalize hgo : gf + 1 = go at *
    have hgg : g ≠ go := by omega
    have hfg : gf ≠ go := by omega
    have hwo : w.heap.size ≤ go := by omega
    have hne5 : ∀ b off, A2 = some ⟨b, off, none⟩ → 0 < rest.length → b ≠ go := fun b off e h0 => by have := hne3 b off e h0; omega
    clear hgo hne3
    repeat' ((fail_if_success at_builtin); (fail_if_success at_make); (first | go_values | go_skip | go_guarded | go_step | go_upon | go_back))
    refine ((NoO_ok _ _)).mono ?_; rintro e_ wz ⟨rfl, hbz⟩; dsimp only
    unfold zeroO
    have hAz := hA5.below hbz
    have hBz := hB5.trans (hbz.mono hB5.size)
    have hA9 := hAz.put5 (.int .i64 0) (.int .i64 0) (.string ⟨#[]⟩) (.slice none 0 0) (.slice none 0 0)
    have hB9 := Below.put5 hBz hgw (.int .i64 0) (.int .i64 0) (.string ⟨#[]⟩) (.slice none 0 0) (.slice none 0 0)
    obtain ⟨z0, z1, z2, z3, z4, ⟨_, y0⟩, ⟨_, y1⟩, ⟨_, y2⟩, ⟨_, y3⟩, ⟨_, y4⟩⟩ := hAz.five (.int .i64 0) (.int .i64 0) (.string ⟨#[]⟩) (.slice none 0 0) (.slice none 0 0)
    repeat' ((fail_if_success at_builtin); (fail_if_success at_make); (first | go_values | go_skip | go_guarded | go_step | go_upon | go_back))
    refine bodyPost_ret (res_cell_tmp3 rfl _ _ g _ _ _ _ (by rfl) hA9 Try.underlying28 rfl (by kernel_rfl)) rfl ?_
    rw [HRS.out]
    exact ⟨none, 0, none, 0, rfl, Rd.nil _ _, Rd.nil _ _, Nat.le_refl _, Nat.le_refl _, hB9⟩
  · have e5 : decide ((rest.length : Int) < 32) = false := decide_eq_false (by omega)
    have hrs1 : decO l = decO3 ⟨false, true, false, false⟩ ⟨m, 0, hexs (rest.take 32), [], []⟩ (rest.drop 32) := by rw [HRS.out, decO2, if_pos rfl, if_neg h32]
    clear HRS
    have HRS := Lib.hid hrs1
    clear hrs1
    have hs3 := hB3.size
    have hA4 := hA3.alloc (.cells #[.bool false, .bool true, .bool false, .bool false] 61)
    have hB4 := hB3.alloc hs3 (.cells #[.bool false, .bool true, .bool false, .bool false] 61)
    have hF4 : Arr (w3.alloc (.cells #[.bool false, .bool true, .bool false, .bool false] 61)) w3.heap.size 61 [.bool false, .bool true, .bool false, .bool false] := Arr.new w3 61 _
    have hR4 := hR3.alloc (.cells #[.bool false, .bool true, .bool false, .bool false] 61)
    have hs4 : (w3.alloc (.cells #[.bool false, .bool true, .bool false, .bool false] 61)).heap.size = w3.heap.size + 1 := World.size_alloc _ _
    have hA5 := hA4.alloc (.cells #[.int .i64 (m : Int), .int .i64 0, .string ⟨#[]⟩, .slice none 0 0, .slice none 0 0] 28)
    have hB5 := hB4.alloc hB4.size (.cells #[.int .i64 (m : Int), .int .i64 0, .string ⟨#[]⟩, .slice none 0 0, .slice none 0 0] 28)
    have hF5 := hF4.alloc (.cells #[.int .i64 (m : Int), .int .i64 0, .string ⟨#[]⟩, .slice none 0 0, .slice none 0 0] 28)
    have hR5 := hR4.alloc (.cells #[.int .i64 (m : Int), .int .i64 0, .string ⟨#[]⟩, .slice none 0 0, .slice none 0 0] 28)
    have hO5 : Arr ((w3.alloc (.cells #[.bool false, .bool true, .bool false, .bool false] 61)).alloc (.cells #[.int .i64 (m : Int), .int .i64 0, .string ⟨#[]⟩, .slice none 0 0, .slice none 0 0] 28)) (w3.alloc (.cells #[.bool false, .bool true, .bool false, .bool false] 61)).heap.size 28 [.int .i64 (m : Int), .int .i64 0, .string ⟨#[]⟩, .slice none 0 0, .slice none 0 0] := Arr.new (w3.alloc (.cells #[.bool false, .bool true, .bool false, .bool false] 61)) 28 [.int .i64 (m : Int), .int .i64 0, .string ⟨#[]⟩, .slice none 0 0, .slice none 0 0]
    rw [hs4] at hO5
    have hgl := hA3.lt
    clear hA3 hB3 hR3 hA4 hB4 hF4 hR4 hs4
    repeat' ((fail_if_success at_builtin); (fail_if_success at_make); (first | go_values | go_skip | go_guarded | go_step | go_upon | go_back))
    generalize ((w3.alloc (.cells #[.bool false, .bool true, .bool false, .bool false] 61)).alloc (.cells #[.int .i64 (m : Int), .int .i64 0, .string ⟨#[]⟩, .slice none 0 0, .slice none 0 0] 28)) = w5 at *
    generalize w3.heap.size = gf at *
    generalize hgo : gf + 1 = go at *
    have hgg : g ≠ go := by omega
    have hfg : gf ≠ go := by omega
    have hwo : w.heap.size ≤ go := by omega
    have hne5 : ∀ b off, A2 = some ⟨b, off, none⟩ → 0 < rest.length → b ≠ go := fun b off e h0 => by have := hne3 b off e h0; omega
    clear hgo hne3
    have hle : (32 : Int) ≤ (c2 : Int) := by omega
    have hle2 : (32 : Int) ≤ (rest.length : Int) := by omega
    have hcm : (c2 : Int) ≤ 9223372036854775807 := by have := HCM.out; unfold maxLen at this; omega
    have r1 := hR5.pre (k := 32) (by omega)
    rw [Nat.mul_one, bys_take] at r1
    have r2 := hR5.cut (k := 32) (cap := c2) (by omega) hcap
    rw [Nat.mul_one, bys_drop] at r2
    have HR1 := Lib.hid r1
    have HR2 := Lib.hid r2
    have HTL := Lib.hid (show (rest.take 32).length = 32 from by rw [List.length_take]; omega)
    have HLE := Lib.hid (show 32 ≤ c2 from by omega)
    have HNE := Lib.hid (show ∀ b off, (if c2 = 32 then A2 else A2.map (·.add 32)) = some ⟨b, off, none⟩ → 0 < rest.length - 32 → b ≠ go from fun b off e' h0 => by
      obtain ⟨b2, o2, e2, _⟩ := hR5.2 (show 0 < rest.length by omega)
      have hb := hne5 b2 o2 e2 (by omega)
      rw [e2] at e'
      split at e'
      · cases e'; exact hb
      · simp only [Option.map_some, Option.some.injEq] at e'
        have := congrArg Addr.block e'
        rw [addBlock] at this
        have hbb : b = b2 := this.symm
        rw [hbb]; exact hb)
    clear r1 r2 hR5 hne5
    refine wp_region_held_drew (S := (fun w' => True)) (by kernel_rfl) ?_ (fun hHeld => ?_)
    · trivial
    have hB := (Below.refl w5.heap.size w5).drew
    generalize w5.drew = wn0 at *
    refine wpAnyH_take (i := 0) (oi := _) (v := ?_) rfl (by kernel_rfl) (by kernel_rfl) (by kernel_rfl) (fun _ _ _ h => h) (Or.inl ⟨by rfl, ?_⟩) (by assumption) ?_
    rotate_left
    · (intro w hSw; (try dsimp only at hSw); go_simp; try (with_reducible rfl))
    try simp only [List.getElem_toArray, List.getElem_cons_zero, List.getElem_cons_succ, Act.put, List.setIfInBounds_toArray, List.set_cons_zero, List.set_cons_succ]
    refine wpAnyH_take (i := 1) (oi := _) (v := ?_) rfl (by kernel_rfl) (by kernel_rfl) (by kernel_rfl) (fun _ _ _ h => h) (Or.inl ⟨by rfl, ?_⟩) (by assumption) ?_
    rotate_left
    · (intro w hSw; (try dsimp only at hSw); go_simp; try (with_reducible rfl))
    try simp only [List.getElem_toArray, List.getElem_cons_zero, List.getElem_cons_succ, Act.put, List.setIfInBounds_toArray, List.set_cons_zero, List.set_cons_succ]
    refine wpAnyH_take (i := 3) (oi := _) (v := ?_) rfl (by kernel_rfl) (by kernel_rfl) (by kernel_rfl) (fun _ _ _ h => h) (Or.inl ⟨by rfl, ?_⟩) (by assumption) ?_
    rotate_left
    · (intro w hSw; (try dsimp only at hSw); go_simp; try (with_reducible rfl))
    try simp only [List.getElem_toArray, List.getElem_cons_zero, List.getElem_cons_succ, Act.put, List.setIfInBounds_toArray, List.set_cons_zero, List.set_cons_succ]
    refine wpAnyH_take (i := 4) (oi := _) (v := ?_) rfl (by kernel_rfl) (by kernel_rfl) (by kernel_rfl) (fun _ _ _ h => h) (Or.inl ⟨by rfl, ?_⟩) (by assumption) ?_
    rotate_left
    · (intro w hSw; (try dsimp only at hSw); go_simp; try (with_reducible rfl))
    try simp only [List.getElem_toArray, List.getElem_cons_zero, List.getElem_cons_succ, Act.put, List.setIfInBounds_toArray, List.set_cons_zero, List.set_cons_succ]
    refine wpAnyH_ready (rs := [2]) (by kernel_rfl) (by simp) ?_
    refine AllReadyH.cons (o := _) rfl (fun K hK => ?_) ?_
    ·
      go_simp
      refine (Text_ok A2 32 c2 (rest.take 32) wn0 HTL.out (by omega) HLE.out (HR1.out.below hB)).mono ?_
      rintro e9 w9 ⟨rfl, hb9⟩
      dsimp only
      refine outG hK ?_ (Below wn0.heap.size wn0) (fun W => True) ?_ ?_ (fun wn1 hHeld hst hnew => ?_)
      · (trivial)
      · (exact hb9)
      · (trivial)
      have hB := hB.trans (hst.mono hB.size)
      clear hst
      clear hK K
      try simp only [List.getElem_toArray, List.getElem_cons_zero, List.getElem_cons_succ, Act.put, List.setIfInBounds_toArray, List.set_cons_zero, List.set_cons_succ]
      refine wpAnyH_take (i := 5) (oi := _) (v := ?_) rfl (by kernel_rfl) (by kernel_rfl) (by kernel_rfl) (fun _ _ _ h => h) (Or.inl ⟨by rfl, ?_⟩) (by assumption) ?_
      rotate_left
      · (intro w hSw; (try dsimp only at hSw); go_simp; try (with_reducible rfl))
      try simp only [List.getElem_toArray, List.getElem_cons_zero, List.getElem_cons_succ, Act.put, List.setIfInBounds_toArray, List.set_cons_zero, List.set_cons_succ]
      refine wpAnyH_ready (rs := [6]) (by kernel_rfl) (by simp) ?_
      refine AllReadyH.cons (o := _) rfl (fun K hK => ?_) ?_
      ·
        have z2 := (hO5.below hB).frozen 2
        have y2 := (hO5.below hB).cell (k := 2) rfl
        go_simp
        clear z2 y2
        have hO6 := (hO5.below hB).set (k := 2) (by simp) (.string ⟨(hexs (rest.take 32)).toArray⟩)
        have hA6 := (Below.heap_setCell wn1 ⟨go, 2, none⟩ (.string ⟨(hexs (rest.take 32)).toArray⟩) g hgg).trans (hA5.below hB)
        have hF6 := (Below.heap_setCell wn1 ⟨go, 2, none⟩ (.string ⟨(hexs (rest.take 32)).toArray⟩) gf hfg).trans (hF5.below hB)
        have hB6 : Below w.heap.size w (wn1.setCell ⟨go, 2, none⟩ (.string ⟨(hexs (rest.take 32)).toArray⟩)) := Below.setCell (hB5.trans (hB.mono hB5.size)) hwo _
        have hR6 := (HR2.out.below hB).far (grown_set wn1 go 2 (.string ⟨(hexs (rest.take 32)).toArray⟩)) HNE.out
        refine outG hK ?_ (fun W => Arr W g 28 [.int .i64 0, .int .i64 0, .string ⟨#[]⟩, .slice none 0 0, .slice none 0 0] ∧ Arr W gf 61 [.bool false, .bool true, .bool false, .bool false] ∧ Arr W go 28 [.int .i64 (m : Int), .int .i64 0, .string ⟨(hexs (rest.take 32)).toArray⟩, .slice none 0 0, .slice none 0 0]) (fun W => Below w.heap.size w W ∧ Rd W 1 (if c2 = 32 then A2 else A2.map (·.add 32)) (rest.length - 32) (bys (rest.drop 32))) ?_ ?_ (fun wn2 hHeld hF hG => ?_)
        · trivial
        · exact ⟨hA6, hF6, hO6⟩
        · exact ⟨hB6, hR6⟩
        clear hB hO6 hA6 hF6 hB6 hR6
        clear hK K
        try simp only [List.getElem_toArray, List.getElem_cons_zero, List.getElem_cons_succ, Act.put, List.setIfInBounds_toArray, List.set_cons_zero, List.set_cons_succ]
        refine wpAnyH_take (i := 7) (oi := _) (v := ?_) rfl (by kernel_rfl) (by kernel_rfl) (by kernel_rfl) (fun _ _ _ h => h) (Or.inl ⟨by rfl, ?_⟩) (by assumption) ?_
        rotate_left
        · (intro w hSw; (try dsimp only at hSw); go_simp; try (with_reducible rfl))
        try simp only [List.getElem_toArray, List.getElem_cons_zero, List.getElem_cons_succ, Act.put, List.setIfInBounds_toArray, List.set_cons_zero, List.set_cons_succ]
        refine wpAnyH_done (by kernel_rfl) ?_ _
        dsimp only [Exit.then]
        clear hHeld
        obtain ⟨hAa, hF7, hOa⟩ := hF
        obtain ⟨hBa, hR7⟩ := hG
        have hRl : rest.length - 32 = (rest.drop 32).length := List.length_drop.symm
        rw [hRl] at hR7 ⊢
        have HD64 := Lib.hid (show (hexs (rest.take 32)).length ≤ 140737488351232 from by rw [hexs_len]; have := HTL.out; omega)
        clear hRl HR1 HR2 HTL HNE HLE hle hle2 e5 h32
        generalize rest.drop 32 = R at *
        generalize hexs (rest.take 32) = D at *
        have ff2 := hF7.cell (k := 2) rfl
        have ff3 := hF7.cell (k := 3) rfl
        have hck : Calls Try.prog 26 #[.agg #[.int .i64 (m : Int), .int .i64 0, .string ⟨D.toArray⟩, .slice none 0 0, .slice none 0 0]] wn2 fun e w' => e = .returned (.int .i64 (ordC ⟨m, 0, D, [], []⟩ : Nat)) ∧ Below wn2.heap.size wn2 w' := by
          rw [ordC_f (o := ⟨m, 0, D, [], []⟩) HFF.out (fun _ => rfl) (fun h => by cases h) (fun _ => rfl) (fun _ => rfl)]
          exact OCheck_f1 m 0 D [] [] none none 0 0 _ HFF.out HD64.out (by simp) (by simp) (by intro p hp; cases hp) (Rd.nil _ _) rfl rfl rfl
        have HCK := Lib.hid hck
        have HRS' := Lib.hid (show decO l = decO5 ⟨m, 0, D, [], []⟩ R from HRS.out)
        clear hck HRS
        have HRS := HRS'
        clear HRS'
        by_cases hrl : 0 < R.length
        · have hres : decO l = noO 3 := by rw [HRS.out, decO5, if_pos hrl]
          clear HRS
          have HRS := Lib.hid hres
          have e6 : decide ((0 : Int) < (R.length : Int)) = true := decide_eq_true (by omega)
          have e6' : decide (0 < R.length) = true := decide_eq_true hrl
          clear hres
          repeat' ((fail_if_success at_builtin); (fail_if_success at_make); (first | go_values | go_skip | go_guarded | go_step | go_upon | go_back))
          refine ((NoO_ok _ _)).mono ?_; rintro e_ wz ⟨rfl, hbz⟩; dsimp only
          unfold zeroO
          have hAz := hAa.below hbz
          have hBz := hBa.trans (hbz.mono hBa.size)
          have hA9 := hAz.put5 (.int .i64 0) (.int .i64 0) (.string ⟨#[]⟩) (.slice none 0 0) (.slice none 0 0)
          have hB9 := Below.put5 hBz hgw (.int .i64 0) (.int .i64 0) (.string ⟨#[]⟩) (.slice none 0 0) (.slice none 0 0)
          obtain ⟨z0, z1, z2, z3, z4, ⟨_, y0⟩, ⟨_, y1⟩, ⟨_, y2⟩, ⟨_, y3⟩, ⟨_, y4⟩⟩ := hAz.five (.int .i64 0) (.int .i64 0) (.string ⟨#[]⟩) (.slice none 0 0) (.slice none 0 0)
          repeat' ((fail_if_success at_builtin); (fail_if_success at_make); (first | go_values | go_skip | go_guarded | go_step | go_upon | go_back))
          refine bodyPost_ret (res_cell_tmp3 rfl _ _ g _ _ _ _ (by rfl) hA9 Try.underlying28 rfl (by kernel_rfl)) rfl ?_
          rw [HRS.out]
          exact ⟨none, 0, none, 0, rfl, Rd.nil _ _, Rd.nil _ _, Nat.le_refl _, Nat.le_refl _, hB9⟩
        have hrs1 : decO l = if ordC ⟨m, 0, D, [], []⟩ ≠ 0 then noO (ordC ⟨m, 0, D, [], []⟩) else (⟨m, 0, D, [], []⟩, 0) := by rw [HRS.out, decO5, if_neg hrl]
        have e6 : decide ((0 : Int) < (R.length : Int)) = false := decide_eq_false (by omega)
        have e6' : decide (0 < R.length) = false := decide_eq_false hrl
        clear HRS
        obtain ⟨cc, hcc0⟩ : ∃ cc, cc = ordC ⟨m, 0, D, [], []⟩ := ⟨_, rfl⟩
        rw [← hcc0] at hrs1 HCK
        clear hcc0
        have f0 := hOa.cell (k := 0) rfl
        have f1 := hOa.cell (k := 1) rfl
        have f2 := hOa.cell (k := 2) rfl
        have f3 := hOa.cell (k := 3) rfl
        have f4 := hOa.cell (k := 4) rfl
        by_cases hcc : cc = 0
        rotate_left
        · have hres : decO l = noO cc := by rw [hrs1, if_pos hcc]
          have HRS := Lib.hid hres
          have e7 : ((cc : Int) != 0) = true := by rw [bne_iff_ne]; omega
          clear hres hrs1
          repeat' ((fail_if_success at_builtin); (fail_if_success at_make); (first | go_values | go_skip | go_guarded | go_step | go_upon | go_back))
          refine ((HCK.out)).mono ?_; rintro e_ wb ⟨rfl, hbb⟩; dsimp only
          have hAb := hAa.below hbb
          have hBb := hBa.trans (hbb.mono hBa.size)
          clear f0 f1 f2 f3 f4
          repeat' ((fail_if_success at_builtin); (fail_if_success at_make); (first | go_values | go_skip | go_guarded | go_step | go_upon | go_back))
          refine ((NoO_ok _ _)).mono ?_; rintro e_ wz ⟨rfl, hbz⟩; dsimp only
          unfold zeroO
          have hAz := hAb.below hbz
          have hBz := hBb.trans (hbz.mono hBb.size)
          have hA9 := hAz.put5 (.int .i64 0) (.int .i64 0) (.string ⟨#[]⟩) (.slice none 0 0) (.slice none 0 0)
          have hB9 := Below.put5 hBz hgw (.int .i64 0) (.int .i64 0) (.string ⟨#[]⟩) (.slice none 0 0) (.slice none 0 0)
          obtain ⟨z0, z1, z2, z3, z4, ⟨_, y0⟩, ⟨_, y1⟩, ⟨_, y2⟩, ⟨_, y3⟩, ⟨_, y4⟩⟩ := hAz.five (.int .i64 0) (.int .i64 0) (.string ⟨#[]⟩) (.slice none 0 0) (.slice none 0 0)
          repeat' ((fail_if_success at_builtin); (fail_if_success at_make); (first | go_values | go_skip | go_guarded | go_step | go_upon | go_back))
          refine bodyPost_ret (res_cell_tmp3 rfl _ _ g _ _ _ _ (by rfl) hA9 Try.underlying28 rfl (by kernel_rfl)) rfl ?_
          rw [HRS.out]
          exact ⟨none, 0, none, 0, rfl, Rd.nil _ _, Rd.nil _ _, Nat.le_refl _, Nat.le_refl _, hB9⟩
        have hres : decO l = (⟨m, 0, D, [], []⟩, 0) := by rw [hrs1, if_neg (by omega)]
        have HRS := Lib.hid hres
        subst hcc
        clear hres hrs1
        repeat' ((fail_if_success at_builtin); (fail_if_success at_make); (first | go_values | go_skip | go_guarded | go_step | go_upon | go_back))
        refine ((HCK.out)).mono ?_; rintro e_ wb ⟨rfl, hbb⟩; dsimp only
        rw [show ((0 : Nat) : Int) = 0 from rfl]
        have hAb := hAa.below hbb
        have hBb := hBa.trans (hbb.mono hBa.size)
        have hOb := hOa.below hbb
        clear f0 f1 f2 f3 f4
        have f0 := hOb.cell (k := 0) rfl
        have f1 := hOb.cell (k := 1) rfl
        have f2 := hOb.cell (k := 2) rfl
        have f3 := hOb.cell (k := 3) rfl
        have f4 := hOb.cell (k := 4) rfl
        have hA9 := hAb.put5 (.int .i64 (m : Int)) (.int .i64 0) (.string ⟨D.toArray⟩) (.slice none 0 0) (.slice none 0 0)
        have hB9 := Below.put5 hBb hgw (.int .i64 (m : Int)) (.int .i64 0) (.string ⟨D.toArray⟩) (.slice none 0 0) (.slice none 0 0)
        obtain ⟨z0, z1, z2, z3, z4, ⟨_, y0⟩, ⟨_, y1⟩, ⟨_, y2⟩, ⟨_, y3⟩, ⟨_, y4⟩⟩ := hAb.five (.int .i64 (m : Int)) (.int .i64 0) (.string ⟨D.toArray⟩) (.slice none 0 0) (.slice none 0 0)
        repeat' ((fail_if_success at_builtin); (fail_if_success at_make); (first | go_values | go_skip | go_guarded | go_step | go_upon | go_back))
        refine bodyPost_ret (res_cell_tmp3 rfl _ _ g _ _ _ _ (by rfl) hA9 Try.underlying28 rfl (by kernel_rfl)) rfl ?_
        rw [HRS.out]
        exact ⟨none, 0, none, 0, rfl, Rd.nil _ _, Rd.nil _ _, Nat.le_refl _, Nat.le_refl _, hB9⟩
      exact AllReadyH.nil
    exact AllReadyH.nil
set_option maxHeartbeats 4000000 in
theorem ODecode_f0 (A : Option Addr) (n c : Nat) (l rest : List UInt8) (m : Nat) (w : World) (hl : l.length = n) (hc : n ≤ c) (hm : n ≤ 140737488353280) (hr : Rd w 1 A n (bys l)) (hrd : rdNum l = (m, rest, 0)) (hff : fOf m = (⟨false, false, true, false⟩, true)) :
    Calls Try.prog 9 #[.slice A n c] w (DecPost w (decO l)) := by
  have hrs : decO l = decO3 ⟨false, false, true, false⟩ ⟨m, 0, [], [], []⟩ rest := by rw [decO, hrd]; dsimp only; rw [if_neg (by simp), hff, if_neg (by simp)]; rfl
  have HRS := Lib.hid hrs
  have HFF := Lib.hid hff
  clear hrs
  unfold DecPost
  have hA1 : Arr (w.alloc (.cells #[.int .i64 0, .int .i64 0, .string ⟨#[]⟩, .slice none 0 0, .slice none 0 0] 28)) w.heap.size 28 [.int .i64 0, .int .i64 0, .string ⟨#[]⟩, .slice none 0 0, .slice none 0 0] := Arr.new w 28 _
  have hb1 := (Below.refl w.heap.size w).alloc (Nat.le_refl _) (.cells #[.int .i64 0, .int .i64 0, .string ⟨#[]⟩, .slice none 0 0, .slice none 0 0] 28)
  have hr1 := hr.alloc (.cells #[.int .i64 0, .int .i64 0, .string ⟨#[]⟩, .slice none 0 0, .slice none 0 0] 28)
  have HRN := Lib.hid (ReadNumber_at 0 rfl hrd hl hc hm hr1)
  have hof := fun w' => Of_ok m w'
  unfold OfAt at hof
  rw [hff] at hof
  simp only [fcs] at hof
  have HOF := Lib.hid hof
  have HRL := Lib.hid (show rest.length ≤ n from by have := rdGo_rest l 0 0; rw [← rdNum, hrd] at this; dsimp only at this; omega)
  have HM := Lib.hid hm
  clear hof hff hl hr hrd hr1 hm
  go_enter Try.func9, Try.ntmps9
  repeat' ((fail_if_success at_builtin); (fail_if_success at_make); (first | go_values | go_skip | go_guarded | go_step | go_upon | go_back))
  generalize w.alloc (.cells #[.int .i64 0, .int .i64 0, .string ⟨#[]⟩, .slice none 0 0, .slice none 0 0] 28) = w1 at *
  obtain ⟨g, hg⟩ : ∃ g, g = w.heap.size := ⟨_, rfl⟩
  have hgw : w.heap.size ≤ g := by omega
  rw [← hg] at hA1 ⊢
  clear hg
  refine ((HRN.out)).mono ?_; rintro e_ w2 ⟨A2, c2, rfl, ho2, hb2⟩; dsimp only
  have hA2 := hA1.below hb2
  have hB2 := hb1.trans (hb2.mono hb1.size)
  have hlt := hA1.lt
  have hs2 := hb2.size
  clear hA1 hb1 hb2
  repeat' ((fail_if_success at_builtin); (fail_if_success at_make); (first | go_values | go_skip | go_guarded | go_step | go_upon | go_back))
  refine ((HOF.out w2)).mono ?_; rintro e_ w3 ⟨rfl, hb3⟩; dsimp only
  have hA3 := hA2.below hb3
  have hB3 := hB2.trans (hb3.mono hB2.size)
  have hR3 := ho2.rd.below hb3
  have hne3 : ∀ b off, A2 = some ⟨b, off, none⟩ → 0 < rest.length → b < w3.heap.size := fun b off e h0 => by
    obtain ⟨b', off', e', hb', _⟩ := hR3.2 h0
    rw [e] at e'; cases e'; exact hb'
  have hcap := ho2.cap
  have HCM := Lib.hid (show c2 ≤ maxLen from by
    rcases ho2.own.2 with ⟨h1, h2⟩ | ⟨_, cap, _, h1, _, _, _, h2, _⟩
    · injection h1 with _ _ h3; subst h3; exact Nat.zero_le _
    · injection h1 with _ _ h3; subst h3; exact h2)
  clear ho2 hA2 hB2 hb3
  have hs3 := hB3.size
  have hA4 := hA3.alloc (.cells #[.bool false, .bool false, .bool true, .bool false] 61)
  have hB4 := hB3.alloc hs3 (.cells #[.bool false, .bool false, .bool true, .bool false] 61)
  have hF4 : Arr (w3.alloc (.cells #[.bool false, .bool false, .bool true, .bool false] 61)) w3.heap.size 61 [.bool false, .bool false, .bool true, .bool false] := Arr.new w3 61 _
  have hR4 := hR3.alloc (.cells #[.bool false, .bool false, .bool true, .bool false] 61)
  have hs4 : (w3.alloc (.cells #[.bool false, .bool false, .bool true, .bool false] 61)).heap.size = w3.heap.size + 1 := World.size_alloc _ _
  have hA5 := hA4.alloc (.cells #[.int .i64 (m : Int), .int .i64 0, .string ⟨#[]⟩, .slice none 0 0, .slice none 0 0] 28)
  have hB5 := hB4.alloc hB4.size (.cells #[.int .i64 (m : Int), .int .i64 0, .string ⟨#[]⟩, .slice none 0 0, .slice none 0 0] 28)
  have hF5 := hF4.alloc (.cells #[.int .i64 (m : Int), .int .i64 0, .string ⟨#[]⟩, .slice none 0 0, .slice none 0 0] 28)
  have hR5 := hR4.alloc (.cells #[.int .i64 (m : Int), .int .i64 0, .string ⟨#[]⟩, .slice none 0 0, .slice none 0 0] 28)
  have hO5 : Arr ((w3.alloc (.cells #[.bool false, .bool false, .bool true, .bool false] 61)).alloc (.cells #[.int .i64 (m : Int), .int .i64 0, .string ⟨#[]⟩, .slice none 0 0, .slice none 0 0] 28)) (w3.alloc (.cells #[.bool false, .bool false, .bool true, .bool false] 61)).heap.size 28 [.int .i64 (m : Int), .int .i64 0, .string ⟨#[]⟩, .slice none 0 0, .slice none 0 0] := Arr.new (w3.alloc (.cells #[.bool false, .bool false, .bool true, .bool false] 61)) 28 [.int .i64 (m : Int), .int .i64 0, .string ⟨#[]⟩, .slice none 0 0, .slice none 0 0]
  rw [hs4] at hO5
  have hgl := hA3.lt
  clear hA3 hB3 hR3 hA4 hB4 hF4 hR4 hs4
  repeat' ((fail_if_success at_builtin); (fail_if_success at_make); (first | go_values | go_skip | go_guarded | go_step | go_upon | go_back))
  generalize ((w3.alloc (.cells #[.bool false, .bool false, .bool true, .bool false] 61)).alloc (.cells #[.int .i64 (m : Int), .int .i64 0, .string ⟨#[]⟩, .slice none 0 0, .slice none 0 0] 28)) = w5 at *
  generalize w3.heap.size = gf at *
  generalize hgo : gf + 1 = go at *
  have hgg : g ≠ go := by omega
  have hfg : gf ≠ go := by omega
  have hwo : w.heap.size ≤ go := by omega
  have hne5 : ∀ b off, A2 = some ⟨b, off, none⟩ → 0 < rest.length → b ≠ go := fun b off e h0 => by have := hne3 b off e h0; omega
  clear hgo hne3
  have hrl := rdTxt_rest rest
  have htl : (rdTxt rest).1.length ≤ rest.length := by
    have h := txtR_name rest 0
    rw [txtR, if_neg (by decide)] at h; exact h
  obtain ⟨t, r1, er, hrd1⟩ : ∃ t r1 er, rdTxt rest = (t, r1, er) := ⟨_, _, _, rfl⟩
  have hrs1 := HRS.out
  rw [decO3, if_pos rfl, hrd1] at hrs1
  rw [hrd1] at hrl htl
  dsimp only at hrs1 hrl htl
  have HRS1 := Lib.hid hrs1
  have HTL := Lib.hid htl
  have hgol := hO5.lt
  refine ((ReadText_at (er : Int) rfl hrd1 rfl hcap (by have := HRL.out; have := HM.out; omega) hR5)).mono ?_; rintro e_ w6 ⟨A6, c6, rfl, ho6, hb6⟩; dsimp only
  have hA6 := hA5.below hb6
  have hF6 := hF5.below hb6
  have hO6 := hO5.below hb6
  have hB6 := hB5.trans (hb6.mono hB5.size)
  clear hrs1 hrl htl hrd1 hA5 hF5 hO5 hB5 hR5 hne5 hcap hb6 ho6 HRS
  by_cases her : er = 0
  rotate_left
  · have HRS := Lib.hid (show decO l = noO er from by rw [HRS1.out, if_pos her])
    have e6 : ((er : Int) != 0) = true := by rw [bne_iff_ne]; omega
    clear HRS1
    repeat' ((fail_if_success at_builtin); (fail_if_success at_make); (first | go_values | go_skip | go_guarded | go_step | go_upon | go_back))
    refine ((NoO_ok _ _)).mono ?_; rintro e_ wz ⟨rfl, hbz⟩; dsimp only
    unfold zeroO
    have hAz := hA6.below hbz
    have hBz := hB6.trans (hbz.mono hB6.size)
    have hA9 := hAz.put5 (.int .i64 0) (.int .i64 0) (.string ⟨#[]⟩) (.slice none 0 0) (.slice none 0 0)
    have hB9 := Below.put5 hBz hgw (.int .i64 0) (.int .i64 0) (.string ⟨#[]⟩) (.slice none 0 0) (.slice none 0 0)
    obtain ⟨z0, z1, z2, z3, z4, ⟨_, y0⟩, ⟨_, y1⟩, ⟨_, y2⟩, ⟨_, y3⟩, ⟨_, y4⟩⟩ := hAz.five (.int .i64 0) (.int .i64 0) (.string ⟨#[]⟩) (.slice none 0 0) (.slice none 0 0)
    repeat' ((fail_if_success at_builtin); (fail_if_success at_make); (first | go_values | go_skip | go_guarded | go_step | go_upon | go_back))
    refine bodyPost_ret (res_cell_tmp3 rfl _ _ g _ _ _ _ (by rfl) hA9 Try.underlying28 rfl (by kernel_rfl)) rfl ?_
    rw [HRS.out]
    exact ⟨none, 0, none, 0, rfl, Rd.nil _ _, Rd.nil _ _, Nat.le_refl _, Nat.le_refl _, hB9⟩
  subst her
  rw [show ((0 : Nat) : Int) = 0 from rfl]
  obtain ⟨w7, hcv, hoz, hb7⟩ := conv_Z ⟨t.toArray⟩ w6 (by have := HTL.out; have := HRL.out; have := HM.out; simp [ByteArray.size, maxLen]; omega)
  have hsd : (⟨t.toArray⟩ : ByteArray).data.toList = t := rfl
  rw [hsd] at hcv hoz
  clear hsd
  have hrz := hoz.rd
  have HCZ := Lib.hid hoz.cap.1
  have hA7 := hA6.below hb7
  have hF7 := hF6.below hb7
  have hO7 := hO6.below hb7
  have hB7 := hB6.trans (hb7.mono hB6.size)
  have hgo6 := hO6.lt
  have hg6 := hA6.lt
  clear hA6 hF6 hO6 hB6 hoz
  generalize grownCap w6 (⟨t.toArray⟩ : ByteArray).size 0 5 = cz at *
  generalize hgz : w6.heap.size = gz at *
  have hzo : gz ≠ go := by omega
  have hzg : gz ≠ g := by omega
  have z3 := hO7.frozen 3
  have y3 := hO7.cell (k := 3) rfl
  have hOa : Arr (w7.setCell ⟨go, 3, none⟩ (.slice (some ⟨gz, 0, none⟩) t.length cz)) go 28 [.int .i64 (m : Int), .int .i64 0, .string ⟨#[]⟩, .slice (some ⟨gz, 0, none⟩) t.length cz, .slice none 0 0] := hO7.set (k := 3) (by simp) (.slice (some ⟨gz, 0, none⟩) t.length cz)
  have hAa : Arr (w7.setCell ⟨go, 3, none⟩ (.slice (some ⟨gz, 0, none⟩) t.length cz)) g 28 _ := (Below.heap_setCell w7 ⟨go, 3, none⟩ (.slice (some ⟨gz, 0, none⟩) t.length cz) g hgg).trans hA7
  have hF8 : Arr (w7.setCell ⟨go, 3, none⟩ (.slice (some ⟨gz, 0, none⟩) t.length cz)) gf 61 _ := (Below.heap_setCell w7 ⟨go, 3, none⟩ (.slice (some ⟨gz, 0, none⟩) t.length cz) gf hfg).trans hF7
  have hBa : Below w.heap.size w (w7.setCell ⟨go, 3, none⟩ (.slice (some ⟨gz, 0, none⟩) t.length cz)) := Below.setCell hB7 hwo _
  have HRZ := Lib.hid (hrz.far (grown_set w7 go 3 (.slice (some ⟨gz, 0, none⟩) t.length cz)) (fun b off e h0 => by cases e; exact hzo))
  have HNG := Lib.hid (show ∀ b off, (some ⟨gz, 0, none⟩ : Option Addr) = some ⟨b, off, none⟩ → 0 < t.length → b ≠ g from fun b off e h0 => by cases e; exact hzg)
  clear hrz hA7 hF7 hO7 hB7 hb7 hgz hgo6 hg6
  have ff3 := hF8.cell (k := 3) rfl
  have hck : Calls Try.prog 26 #[.agg #[.int .i64 (m : Int), .int .i64 0, .string ⟨#[]⟩, .slice (some ⟨gz, 0, none⟩) t.length cz, .slice none 0 0]] (w7.setCell ⟨go, 3, none⟩ (.slice (some ⟨gz, 0, none⟩) t.length cz)) fun e w' => e = .returned (.int .i64 (ordC ⟨m, 0, [], t, []⟩ : Nat)) ∧ Below (w7.setCell ⟨go, 3, none⟩ (.slice (some ⟨gz, 0, none⟩) t.length cz)).heap.size (w7.setCell ⟨go, 3, none⟩ (.slice (some ⟨gz, 0, none⟩) t.length cz)) w' := by
    rw [ordC_f (o := ⟨m, 0, [], t, []⟩) HFF.out (fun _ => rfl) (fun _ => rfl) (fun h => by cases h) (fun _ => rfl)]
    exact OCheck_f0 m 0 [] t [] (some ⟨gz, 0, none⟩) none cz 0 _ HFF.out (by simp) (by simp) (by simp) (by intro p hp; cases hp) (Rd.nil _ _) rfl rfl rfl
  have HCK := Lib.hid hck
  have HRS := Lib.hid (show decO l = decO5 ⟨m, 0, [], t, []⟩ r1 from by rw [HRS1.out, if_neg (by simp)]; rfl)
  clear hck HRS1 hF8
  by_cases hrl : 0 < r1.length
  · have hres : decO l = noO 3 := by rw [HRS.out, decO5, if_pos hrl]
    clear HRS
    have HRS := Lib.hid hres
    have e6 : decide ((0 : Int) < (r1.length : Int)) = true := decide_eq_true (by omega)
    have e6' : decide (0 < r1.length) = true := decide_eq_true hrl
    clear hres
    repeat' ((fail_if_success at_builtin); (fail_if_success at_make); (first | go_values | go_skip | go_guarded | go_step | go_upon | go_back))
    refine ((NoO_ok _ _)).mono ?_; rintro e_ wz ⟨rfl, hbz⟩; dsimp only
    unfold zeroO
    have hAz := hAa.below hbz
    have hBz := hBa.trans (hbz.mono hBa.size)
    have hA9 := hAz.put5 (.int .i64 0) (.int .i64 0) (.string ⟨#[]⟩) (.slice none 0 0) (.slice none 0 0)
    have hB9 := Below.put5 hBz hgw (.int .i64 0) (.int .i64 0) (.string ⟨#[]⟩) (.slice none 0 0) (.slice none 0 0)
    obtain ⟨z0, z1, z2, z3, z4, ⟨_, y0⟩, ⟨_, y1⟩, ⟨_, y2⟩, ⟨_, y3⟩, ⟨_, y4⟩⟩ := hAz.five (.int .i64 0) (.int .i64 0) (.string ⟨#[]⟩) (.slice none 0 0) (.slice none 0 0)
    repeat' ((fail_if_success at_builtin); (fail_if_success at_make); (first | go_values | go_skip | go_guarded | go_step | go_upon | go_back))
    refine bodyPost_ret (res_cell_tmp3 rfl _ _ g _ _ _ _ (by rfl) hA9 Try.underlying28 rfl (by kernel_rfl)) rfl ?_
    rw [HRS.out]
    exact ⟨none, 0, none, 0, rfl, Rd.nil _ _, Rd.nil _ _, Nat.le_refl _, Nat.le_refl _, hB9⟩
  have hrs1 : decO l = if ordC ⟨m, 0, [], t, []⟩ ≠ 0 then noO (ordC ⟨m, 0, [], t, []⟩) else (⟨m, 0, [], t, []⟩, 0) := by rw [HRS.out, decO5, if_neg hrl]
  have e6 : decide ((0 : Int) < (r1.length : Int)) = false := decide_eq_false (by omega)
  have e6' : decide (0 < r1.length) = false := decide_eq_false hrl
  clear HRS
  obtain ⟨cc, hcc0⟩ : ∃ cc, cc = ordC ⟨m, 0, [], t, []⟩ := ⟨_, rfl⟩
  rw [← hcc0] at hrs1 HCK
  clear hcc0
  have f0 := hOa.cell (k := 0) rfl
  have f1 := hOa.cell (k := 1) rfl
  have f2 := hOa.cell (k := 2) rfl
  have f3 := hOa.cell (k := 3) rfl
  have f4 := hOa.cell (k := 4) rfl
  by_cases hcc : cc = 0
  rotate_left
  · have hres : decO l = noO cc := by rw [hrs1, if_pos hcc]
    have HRS := Lib.hid hres
    have e7 : ((cc : Int) != 0) = true := by rw [bne_iff_ne]; omega
    clear hres hrs1
    repeat' ((fail_if_success at_builtin); (fail_if_success at_make); (first | go_values | go_skip | go_guarded | go_step | go_upon | go_back))
    refine ((HCK.out)).mono ?_; rintro e_ wb ⟨rfl, hbb⟩; dsimp only
    have hAb := hAa.below hbb
    have hBb := hBa.trans (hbb.mono hBa.size)
    clear f0 f1 f2 f3 f4
    repeat' ((fail_if_success at_builtin); (fail_if_success at_make); (first | go_values | go_skip | go_guarded | go_step | go_upon | go_back))
    refine ((NoO_ok _ _)).mono ?_; rintro e_ wz ⟨rfl, hbz⟩; dsimp only
    unfold zeroO
    have hAz := hAb.below hbz
    have hBz := hBb.trans (hbz.mono hBb.size)
    have hA9 := hAz.put5 (.int .i64 0) (.int .i64 0) (.string ⟨#[]⟩) (.slice none 0 0) (.slice none 0 0)
    have hB9 := Below.put5 hBz hgw (.int .i64 0) (.int .i64 0) (.string ⟨#[]⟩) (.slice none 0 0) (.slice none 0 0)
    obtain ⟨z0, z1, z2, z3, z4, ⟨_, y0⟩, ⟨_, y1⟩, ⟨_, y2⟩, ⟨_, y3⟩, ⟨_, y4⟩⟩ := hAz.five (.int .i64 0) (.int .i64 0) (.string ⟨#[]⟩) (.slice none 0 0) (.slice none 0 0)
    repeat' ((fail_if_success at_builtin); (fail_if_success at_make); (first | go_values | go_skip | go_guarded | go_step | go_upon | go_back))
    refine bodyPost_ret (res_cell_tmp3 rfl _ _ g _ _ _ _ (by rfl) hA9 Try.underlying28 rfl (by kernel_rfl)) rfl ?_
    rw [HRS.out]
    exact ⟨none, 0, none, 0, rfl, Rd.nil _ _, Rd.nil _ _, Nat.le_refl _, Nat.le_refl _, hB9⟩
  have hres : decO l = (⟨m, 0, [], t, []⟩, 0) := by rw [hrs1, if_neg (by omega)]
  have HRS := Lib.hid hres
  subst hcc
  clear hres hrs1
  repeat' ((fail_if_success at_builtin); (fail_if_success at_make); (first | go_values | go_skip | go_guarded | go_step | go_upon | go_back))
  refine ((HCK.out)).mono ?_; rintro e_ wb ⟨rfl, hbb⟩; dsimp only
  rw [show ((0 : Nat) : Int) = 0 from rfl]
  have hAb := hAa.below hbb
  have hBb := hBa.trans (hbb.mono hBa.size)
  have hOb := hOa.below hbb
  clear f0 f1 f2 f3 f4
  have f0 := hOb.cell (k := 0) rfl
  have f1 := hOb.cell (k := 1) rfl
  have f2 := hOb.cell (k := 2) rfl
  have f3 := hOb.cell (k := 3) rfl
  have f4 := hOb.cell (k := 4) rfl
  have hA9 := hAb.put5 (.int .i64 (m : Int)) (.int .i64 0) (.string ⟨#[]⟩) (.slice (some ⟨gz, 0, none⟩) t.length cz) (.slice none 0 0)
  have hB9 := Below.put5 hBb hgw (.int .i64 (m : Int)) (.int .i64 0) (.string ⟨#[]⟩) (.slice (some ⟨gz, 0, none⟩) t.length cz) (.slice none 0 0)
  obtain ⟨z0, z1, z2, z3, z4, ⟨_, y0⟩, ⟨_, y1⟩, ⟨_, y2⟩, ⟨_, y3⟩, ⟨_, y4⟩⟩ := hAb.five (.int .i64 (m : Int)) (.int .i64 0) (.string ⟨#[]⟩) (.slice (some ⟨gz, 0, none⟩) t.length cz) (.slice none 0 0)
  repeat' ((fail_if_success at_builtin); (fail_if_success at_make); (first | go_values | go_skip | go_guarded | go_step | go_upon | go_back))
  refine bodyPost_ret (res_cell_tmp3 rfl _ _ g _ _ _ _ (by rfl) hA9 Try.underlying28 rfl (by kernel_rfl)) rfl ?_
  rw [HRS.out]
  exact ⟨some ⟨gz, 0, none⟩, cz, none, 0, rfl, (HRZ.out.below hbb).put5 HNG.out _ _ _ _ _, Rd.nil _ _, HCZ.out, Nat.le_refl _, hB9⟩
--ODEC2
set_option maxHeartbeats 4000000 in
theorem ODecode_f2 (A : Option Addr) (n c : Nat) (l rest : List UInt8) (m : Nat) (w : World) (hl : l.length = n) (hc : n ≤ c) (hm : n ≤ 140737488353280) (hr : Rd w 1 A n (bys l)) (hrd : rdNum l = (m, rest, 0)) (hff : fOf m = (⟨false, true, false, true⟩, true)) :
    Calls Try.prog 9 #[.slice A n c] w (DecPost w (decO l)) := by
  have hrs : decO l = decO2 ⟨false, true, false, true⟩ ⟨m, 0, [], [], []⟩ rest := by rw [decO, hrd]; dsimp only; rw [if_neg (by simp), hff, if_neg (by simp)]; rfl
  have HRS := Lib.hid hrs
  have HFF := Lib.hid hff
  clear hrs
  unfold DecPost
  have hA1 : Arr (w.alloc (.cells #[.int .i64 0, .int .i64 0, .string ⟨#[]⟩, .slice none 0 0, .slice none 0 0] 28)) w.heap.size 28 [.int .i64 0, .int .i64 0, .string ⟨#[]⟩, .slice none 0 0, .slice none 0 0] := Arr.new w 28 _
  have hb1 := (Below.refl w.heap.size w).alloc (Nat.le_refl _) (.cells #[.int .i64 0, .int .i64 0, .string ⟨#[]⟩, .slice none 0 0, .slice none 0 0] 28)
  have hr1 := hr.alloc (.cells #[.int .i64 0, .int .i64 0, .string ⟨#[]⟩, .slice none 0 0, .slice none 0 0] 28)
  have HRN := Lib.hid (ReadNumber_at 0 rfl hrd hl hc hm hr1)
  have hof := fun w' => Of_ok m w'
  unfold OfAt at hof
  rw [hff] at hof
  simp only [fcs] at hof
  have HOF := Lib.hid hof
  have HRL := Lib.hid (show rest.length ≤ n from by have := rdGo_rest l 0 0; rw [← rdNum, hrd] at this; dsimp only at this; omega)
  have HM := Lib.hid hm
  clear hof hff hl hr hrd hr1 hm
  go_enter Try.func9, Try.ntmps9
  repeat' ((fail_if_success at_builtin); (fail_if_success at_make); (first | go_values | go_skip | go_guarded | go_step | go_upon | go_back))
  generalize w.alloc (.cells #[.int .i64 0, .int .i64 0, .string ⟨#[]⟩, .slice none 0 0, .slice none 0 0] 28) = w1 at *
  obtain ⟨g, hg⟩ : ∃ g, g = w.heap.size := ⟨_, rfl⟩
  have hgw : w.heap.size ≤ g := by omega
  rw [← hg] at hA1 ⊢
  clear hg
  refine ((HRN.out)).mono ?_; rintro e_ w2 ⟨A2, c2, rfl, ho2, hb2⟩; dsimp only
  have hA2 := hA1.below hb2
  have hB2 := hb1.trans (hb2.mono hb1.size)
  have hlt := hA1.lt
  have hs2 := hb2.size
  clear hA1 hb1 hb2
  repeat' ((fail_if_success at_builtin); (fail_if_success at_make); (first | go_values | go_skip | go_guarded | go_step | go_upon | go_back))
  refine ((HOF.out w2)).mono ?_; rintro e_ w3 ⟨rfl, hb3⟩; dsimp only
  have hA3 := hA2.below hb3
  have hB3 := hB2.trans (hb3.mono hB2.size)
  have hR3 := ho2.rd.below hb3
  have hne3 : ∀ b off, A2 = some ⟨b, off, none⟩ → 0 < rest.length → b < w3.heap.size := fun b off e h0 => by
    obtain ⟨b', off', e', hb', _⟩ := hR3.2 h0
    rw [e] at e'; cases e'; exact hb'
  have hcap := ho2.cap
  have HCM := Lib.hid (show c2 ≤ maxLen from by
    rcases ho2.own.2 with ⟨h1, h2⟩ | ⟨_, cap, _, h1, _, _, _, h2, _⟩
    · injection h1 with _ _ h3; subst h3; exact Nat.zero_le _
    · injection h1 with _ _ h3; subst h3; exact h2)
  clear ho2 hA2 hB2 hb3
  by_cases h32 : rest.length < 32
  · have e5 : decide ((rest.length : Int) < 32) = true := decide_eq_true (by omega)
    have hrs1 : decO l = noO 8 := by rw [HRS.out, decO2, if_pos rfl, if_pos h32]
    clear HRS
    have HRS := Lib.hid hrs1
    clear hrs1
    have hs3 := hB3.size
    have hA4 := hA3.alloc (.cells #[.bool false, .bool true, .bool false, .bool true] 61)
    have hB4 := hB3.alloc hs3 (.cells #[.bool false, .bool true, .bool false, .bool true] 61)
    have hF4 : Arr (w3.alloc (.cells #[.bool false, .bool true, .bool false, .bool true] 61)) w3.heap.size 61 [.bool false, .bool true, .bool false, .bool true] := Arr.new w3 61 _
    have hR4 := hR3.alloc (.cells #[.bool false, .bool true, .bool false, .bool true] 61)
    have hs4 : (w3.alloc (.cells #[.bool false, .bool true, .bool false, .bool true] 61)).heap.size = w3.heap.size + 1 := World.size_alloc _ _
    have hA5 := hA4.alloc (.cells #[.int .i64 (m : Int), .int .i64 0, .string ⟨#[]⟩, .slice none 0 0, .slice none 0 0] 28)
    have hB5 := hB4.alloc hB4.size (.cells #[.int .i64 (m : Int), .int .i64 0, .string ⟨#[]⟩, .slice none 0 0, .slice none 0 0] 28)
    have hF5 := hF4.alloc (.cells #[.int .i64 (m : Int), .int .i64 0, .string ⟨#[]⟩, .slice none 0 0, .slice none 0 0] 28)
    have hR5 := hR4.alloc (.cells #[.int .i64 (m : Int), .int .i64 0, .string ⟨#[]⟩, .slice none 0 0, .slice none 0 0] 28)
    have hO5 : Arr ((w3.alloc (.cells #[.bool false, .bool true, .bool false, .bool true] 61)).alloc (.cells #[.int .i64 (m : Int), .int .i64 0, .string ⟨#[]⟩, .slice none 0 0, .slice none 0 0] 28)) (w3.alloc (.cells #[.bool false, .bool true, .bool false, .bool true] 61)).heap.size 28 [.int .i64 (m : Int), .int .i64 0, .string ⟨#[]⟩, .slice none 0 0, .slice none 0 0] := Arr.new (w3.alloc (.cells #[.bool false, .bool true, .bool false, .bool true] 61)) 28 [.int .i64 (m : Int), .int .i64 0, .string ⟨#[]⟩, .slice none 0 0, .slice none 0 0]
    rw [hs4] at hO5
    have hgl := hA3.lt
    clear hA3 hB3 hR3 hA4 hB4 hF4 hR4 hs4
    repeat' ((fail_if_success at_builtin); (fail_if_success at_make); (first | go_values | go_skip | go_guarded | go_step | go_upon | go_back))
    generalize ((w3.alloc (.cells #[.bool false, .bool true, .bool false, .bool true] 61)).alloc (.cells #[.int .i64 (m : Int), .int .i64 0, .string ⟨#[]⟩, .slice none 0 0, .slice none 0 0] 28)) = w5 at *
    generalize w3.heap.size = gf at *
    generalize hgo : gf + 1 = go at *
    have hgg : g ≠ go := by omega
    have hfg : gf ≠ go := by omega
    have hwo : w.heap.size ≤ go := by omega
    have hne5 : ∀ b off, A2 = some ⟨b, off, none⟩ → 0 < rest.length → b ≠ go := fun b off e h0 => by have := hne3 b off e h0; omega
    clear hgo hne3
    repeat' ((fail_if_success at_builtin); (fail_if_success at_make); (first | go_values | go_skip | go_guarded | go_step | go_upon | go_back))
    refine ((NoO_ok _ _)).mono ?_; rintro e_ wz ⟨rfl, hbz⟩; dsimp only
    unfold zeroO
    have hAz := hA5.below hbz
    have hBz := hB5.trans (hbz.mono hB5.size)
    have hA9 := hAz.put5 (.int .i64 0) (.int .i64 0) (.string ⟨#[]⟩) (.slice none 0 0) (.slice none 0 0)
    have hB9 := Below.put5 hBz hgw (.int .i64 0) (.int .i64 0) (.string ⟨#[]⟩) (.slice none 0 0) (.slice none 0 0)
    obtain ⟨z0, z1, z2, z3, z4, ⟨_, y0⟩, ⟨_, y1⟩, ⟨_, y2⟩, ⟨_, y3⟩, ⟨_, y4⟩⟩ := hAz.five (.int .i64 0) (.int .i64 0) (.string ⟨#[]⟩) (.slice none 0 0) (.slice none 0 0)
    repeat' ((fail_if_success at_builtin); (fail_if_success at_make); (first | go_values | go_skip | go_guarded | go_step | go_upon | go_back))
    refine bodyPost_ret (res_cell_tmp3 rfl _ _ g _ _ _ _ (by rfl) hA9 Try.underlying28 rfl (by kernel_rfl)) rfl ?_
    rw [HRS.out]
    exact ⟨none, 0, none, 0, rfl, Rd.nil _ _, Rd.nil _ _, Nat.le_refl _, Nat.le_refl _, hB9⟩
  · have e5 : decide ((rest.length : Int) < 32) = false := decide_eq_false (by omega)
    have hrs1 : decO l = decO3 ⟨false, true, false, true⟩ ⟨m, 0, hexs (rest.take 32), [], []⟩ (rest.drop 32) := by rw [HRS.out, decO2, if_pos rfl, if_neg h32]
    clear HRS
    have HRS := Lib.hid hrs1
    clear hrs1
    have hs3 := hB3.size
    have hA4 := hA3.alloc (.cells #[.bool false, .bool true, .bool false, .bool true] 61)
    have hB4 := hB3.alloc hs3 (.cells #[.bool false, .bool true, .bool false, .bool true] 61)
    have hF4 : Arr (w3.alloc (.cells #[.bool false, .bool true, .bool false, .bool true] 61)) w3.heap.size 61 [.bool false, .bool true, .bool false, .bool true] := Arr.new w3 61 _
    have hR4 := hR3.alloc (.cells #[.bool false, .bool true, .bool false, .bool true] 61)
    have hs4 : (w3.alloc (.cells #[.bool false, .bool true, .bool false, .bool true] 61)).heap.size = w3.heap.size + 1 := World.size_alloc _ _
    have hA5 := hA4.alloc (.cells #[.int .i64 (m : Int), .int .i64 0, .string ⟨#[]⟩, .slice none 0 0, .slice none 0 0] 28)
    have hB5 := hB4.alloc hB4.size (.cells #[.int .i64 (m : Int), .int .i64 0, .string ⟨#[]⟩, .slice none 0 0, .slice none 0 0] 28)
    have hF5 := hF4.alloc (.cells #[.int .i64 (m : Int), .int .i64 0, .string ⟨#[]⟩, .slice none 0 0, .slice none 0 0] 28)
    have hR5 := hR4.alloc (.cells #[.int .i64 (m : Int), .int .i64 0, .string ⟨#[]⟩, .slice none 0 0, .slice none 0 0] 28)
    have hO5 : Arr ((w3.alloc (.cells #[.bool false, .bool true, .bool false, .bool true] 61)).alloc (.cells #[.int .i64 (m : Int), .int .i64 0, .string ⟨#[]⟩, .slice none 0 0, .slice none 0 0] 28)) (w3.alloc (.cells #[.bool false, .bool true, .bool false, .bool true] 61)).heap.size 28 [.int .i64 (m : Int), .int .i64 0, .string ⟨#[]⟩, .slice none 0 0, .slice none 0 0] := Arr.new (w3.alloc (.cells #[.bool false, .bool true, .bool false, .bool true] 61)) 28 [.int .i64 (m : Int), .int .i64 0, .string ⟨#[]⟩, .slice none 0 0, .slice none 0 0]
    rw [hs4] at hO5
    have hgl := hA3.lt
    clear hA3 hB3 hR3 hA4 hB4 hF4 hR4 hs4
    repeat' ((fail_if_success at_builtin); (fail_if_success at_make); (first | go_values | go_skip | go_guarded | go_step | go_upon | go_back))
    generalize ((w3.alloc (.cells #[.bool false, .bool true, .bool false, .bool true] 61)).alloc (.cells #[.int .i64 (m : Int), .int .i64 0, .string ⟨#[]⟩, .slice none 0 0, .slice none 0 0] 28)) = w5 at *
    generalize w3.heap.size = gf at *
    generalize hgo : gf + 1 = go at *
    have hgg : g ≠ go := by omega
    have hfg : gf ≠ go := by omega
    have hwo : w.heap.size ≤ go := by omega
    have hne5 : ∀ b off, A2 = some ⟨b, off, none⟩ → 0 < rest.length → b ≠ go := fun b off e h0 => by have := hne3 b off e h0; omega
    clear hgo hne3
    have hle : (32 : Int) ≤ (c2 : Int) := by omega
    have hle2 : (32 : Int) ≤ (rest.length : Int) := by omega
    have hcm : (c2 : Int) ≤ 9223372036854775807 := by have := HCM.out; unfold maxLen at this; omega
    have r1_ := hR5.pre (k := 32) (by omega)
    rw [Nat.mul_one, bys_take] at r1_
    have r2_ := hR5.cut (k := 32) (cap := c2) (by omega) hcap
    rw [Nat.mul_one, bys_drop] at r2_
    have HR1 := Lib.hid r1_
    have HR2 := Lib.hid r2_
    have HTL := Lib.hid (show (rest.take 32).length = 32 from by rw [List.length_take]; omega)
    have HLE := Lib.hid (show 32 ≤ c2 from by omega)
    have HCR := Lib.hid (show (rest.drop 32).length ≤ c2 - 32 from by rw [List.length_drop]; omega)
    have HNE := Lib.hid (show ∀ b off, (if c2 = 32 then A2 else A2.map (·.add 32)) = some ⟨b, off, none⟩ → 0 < rest.length - 32 → b ≠ go from fun b off e' h0 => by
      obtain ⟨b2, o2, e2, _⟩ := hR5.2 (show 0 < rest.length by omega)
      have hb := hne5 b2 o2 e2 (by omega)
      rw [e2] at e'
      split at e'
      · cases e'; exact hb
      · simp only [Option.map_some, Option.some.injEq] at e'
        have := congrArg Addr.block e'
        rw [addBlock] at this
        have hbb : b = b2 := this.symm
        rw [hbb]; exact hb)
    clear r1_ r2_ hR5 hne5
    refine wp_region_held_drew (S := (fun w' => True)) (by kernel_rfl) ?_ (fun hHeld => ?_)
    · trivial
    have hB := (Below.refl w5.heap.size w5).drew
    generalize w5.drew = wn0 at *
    refine wpAnyH_take (i := 0) (oi := _) (v := ?_) rfl (by kernel_rfl) (by kernel_rfl) (by kernel_rfl) (fun _ _ _ h => h) (Or.inl ⟨by rfl, ?_⟩) (by assumption) ?_
    rotate_left
    · (intro w hSw; (try dsimp only at hSw); go_simp; try (with_reducible rfl))
    try simp only [List.getElem_toArray, List.getElem_cons_zero, List.getElem_cons_succ, Act.put, List.setIfInBounds_toArray, List.set_cons_zero, List.set_cons_succ]
    refine wpAnyH_take (i := 1) (oi := _) (v := ?_) rfl (by kernel_rfl) (by kernel_rfl) (by kernel_rfl) (fun _ _ _ h => h) (Or.inl ⟨by rfl, ?_⟩) (by assumption) ?_
    rotate_left
    · (intro w hSw; (try dsimp only at hSw); go_simp; try (with_reducible rfl))
    try simp only [List.getElem_toArray, List.getElem_cons_zero, List.getElem_cons_succ, Act.put, List.setIfInBounds_toArray, List.set_cons_zero, List.set_cons_succ]
    refine wpAnyH_take (i := 3) (oi := _) (v := ?_) rfl (by kernel_rfl) (by kernel_rfl) (by kernel_rfl) (fun _ _ _ h => h) (Or.inl ⟨by rfl, ?_⟩) (by assumption) ?_
    rotate_left
    · (intro w hSw; (try dsimp only at hSw); go_simp; try (with_reducible rfl))
    try simp only [List.getElem_toArray, List.getElem_cons_zero, List.getElem_cons_succ, Act.put, List.setIfInBounds_toArray, List.set_cons_zero, List.set_cons_succ]
    refine wpAnyH_take (i := 4) (oi := _) (v := ?_) rfl (by kernel_rfl) (by kernel_rfl) (by kernel_rfl) (fun _ _ _ h => h) (Or.inl ⟨by rfl, ?_⟩) (by assumption) ?_
    rotate_left
    · (intro w hSw; (try dsimp only at hSw); go_simp; try (with_reducible rfl))
    try simp only [List.getElem_toArray, List.getElem_cons_zero, List.getElem_cons_succ, Act.put, List.setIfInBounds_toArray, List.set_cons_zero, List.set_cons_succ]
    refine wpAnyH_ready (rs := [2]) (by kernel_rfl) (by simp) ?_
    refine AllReadyH.cons (o := _) rfl (fun K hK => ?_) ?_
    ·
      go_simp
      refine (Text_ok A2 32 c2 (rest.take 32) wn0 HTL.out (by omega) HLE.out (HR1.out.below hB)).mono ?_
      rintro e9 w9 ⟨rfl, hb9⟩
      dsimp only
      refine outG hK ?_ (Below wn0.heap.size wn0) (fun W => True) ?_ ?_ (fun wn1 hHeld hst hnew => ?_)
      · (trivial)
      · (exact hb9)
      · (trivial)
      have hB := hB.trans (hst.mono hB.size)
      clear hst
      clear hK K
      try simp only [List.getElem_toArray, List.getElem_cons_zero, List.getElem_cons_succ, Act.put, List.setIfInBounds_toArray, List.set_cons_zero, List.set_cons_succ]
      refine wpAnyH_take (i := 5) (oi := _) (v := ?_) rfl (by kernel_rfl) (by kernel_rfl) (by kernel_rfl) (fun _ _ _ h => h) (Or.inl ⟨by rfl, ?_⟩) (by assumption) ?_
      rotate_left
      · (intro w hSw; (try dsimp only at hSw); go_simp; try (with_reducible rfl))
      try simp only [List.getElem_toArray, List.getElem_cons_zero, List.getElem_cons_succ, Act.put, List.setIfInBounds_toArray, List.set_cons_zero, List.set_cons_succ]
      refine wpAnyH_ready (rs := [6]) (by kernel_rfl) (by simp) ?_
      refine AllReadyH.cons (o := _) rfl (fun K hK => ?_) ?_
      ·
        have z2 := (hO5.below hB).frozen 2
        have y2 := (hO5.below hB).cell (k := 2) rfl
        go_simp
        clear z2 y2
        have hO6 := (hO5.below hB).set (k := 2) (by simp) (.string ⟨(hexs (rest.take 32)).toArray⟩)
        have hA6 := (Below.heap_setCell wn1 ⟨go, 2, none⟩ (.string ⟨(hexs (rest.take 32)).toArray⟩) g hgg).trans (hA5.below hB)
        have hF6 := (Below.heap_setCell wn1 ⟨go, 2, none⟩ (.string ⟨(hexs (rest.take 32)).toArray⟩) gf hfg).trans (hF5.below hB)
        have hB6 : Below w.heap.size w (wn1.setCell ⟨go, 2, none⟩ (.string ⟨(hexs (rest.take 32)).toArray⟩)) := Below.setCell (hB5.trans (hB.mono hB5.size)) hwo _
        have hR6 := (HR2.out.below hB).far (grown_set wn1 go 2 (.string ⟨(hexs (rest.take 32)).toArray⟩)) HNE.out
        refine outG hK ?_ (fun W => Arr W g 28 [.int .i64 0, .int .i64 0, .string ⟨#[]⟩, .slice none 0 0, .slice none 0 0] ∧ Arr W gf 61 [.bool false, .bool true, .bool false, .bool true] ∧ Arr W go 28 [.int .i64 (m : Int), .int .i64 0, .string ⟨(hexs (rest.take 32)).toArray⟩, .slice none 0 0, .slice none 0 0]) (fun W => Below w.heap.size w W ∧ Rd W 1 (if c2 = 32 then A2 else A2.map (·.add 32)) (rest.length - 32) (bys (rest.drop 32))) ?_ ?_ (fun wn2 hHeld hF hG => ?_)
        · trivial
        · exact ⟨hA6, hF6, hO6⟩
        · exact ⟨hB6, hR6⟩
        clear hB hO6 hA6 hF6 hB6 hR6
        clear hK K
        try simp only [List.getElem_toArray, List.getElem_cons_zero, List.getElem_cons_succ, Act.put, List.setIfInBounds_toArray, List.set_cons_zero, List.set_cons_succ]
        refine wpAnyH_take (i := 7) (oi := _) (v := ?_) rfl (by kernel_rfl) (by kernel_rfl) (by kernel_rfl) (fun _ _ _ h => h) (Or.inl ⟨by rfl, ?_⟩) (by assumption) ?_
        rotate_left
        · (intro w hSw; (try dsimp only at hSw); go_simp; try (with_reducible rfl))
        try simp only [List.getElem_toArray, List.getElem_cons_zero, List.getElem_cons_succ, Act.put, List.setIfInBounds_toArray, List.set_cons_zero, List.set_cons_succ]
        refine wpAnyH_done (by kernel_rfl) ?_ _
        dsimp only [Exit.then]
        clear hHeld
        obtain ⟨hAa, hF7, hOa⟩ := hF
        obtain ⟨hBa, hR7⟩ := hG
        have hRl : rest.length - 32 = (rest.drop 32).length := List.length_drop.symm
        rw [hRl] at hR7 ⊢
        have HD64 := Lib.hid (show (hexs (rest.take 32)).length ≤ 140737488351232 from by rw [hexs_len]; have := HTL.out; omega)
        have HCC := Lib.hid (show c2 - 32 ≤ maxLen from by have := HCM.out; omega)
        clear hRl HR1 HR2 HTL HNE HLE hle hle2 e5 h32
        generalize rest.drop 32 = R at *
        generalize hexs (rest.take 32) = D at *
        have ff2 := hF7.cell (k := 2) rfl
        have ff3 := hF7.cell (k := 3) rfl
        have HIV := Lib.hid (fun (x : List PartP) => decL_inv (b := R) (x := x))
        have hD0 := Decode_ok (if c2 = 32 then A2 else A2.map (·.add 32)) R.length (c2 - 32) R wn2 rfl HCR.out HCC.out hR7
        have HRS' := Lib.hid (show decO l = if (decL R).2 ≠ 0 then noO (decL R).2 else decO5 ⟨m, 0, D, [], (decL R).1⟩ [] from HRS.out)
        clear HRS
        generalize decL R = DL at *
        obtain ⟨x, e2⟩ := DL
        dsimp only at hD0
        have HD := Lib.hid hD0
        have HRS := Lib.hid (show decO l = if e2 ≠ 0 then noO e2 else decO5 ⟨m, 0, D, [], x⟩ [] from HRS'.out)
        have hgo7 := hOa.lt
        clear hD0 HRS' hR7
        repeat' ((fail_if_success at_builtin); (fail_if_success at_make); (first | go_values | go_skip | go_guarded | go_step | go_upon | go_back))
        refine ((HD.out)).mono ?_; rintro e_ w8 ⟨v8, rfl, ho8, hb8⟩; dsimp only
        have hO8 := hOa.below hb8
        have hA8 := hAa.below hb8
        have hB8 := hBa.trans (hb8.mono hBa.size)
        have hne8 : ∀ b, v8.ownBlock = some b → b ≠ go := fun b h => by have := (ho8.lt b h).1; omega
        have hng8 : ∀ b, v8.ownBlock = some b → b ≠ g := fun b h => by have := (ho8.lt b h).1; have := hAa.lt; omega
        obtain ⟨A8, c8, rfl, hc8, hr8⟩ := Rd.of_own' ho8
        have hne8' : ∀ b off, A8 = some ⟨b, off, none⟩ → 0 < x.length → b ≠ go := fun b off h _ => hne8 b (by rw [h]; rfl)
        have HNG := Lib.hid (show ∀ b off, A8 = some ⟨b, off, none⟩ → 0 < x.length → b ≠ g from fun b off h _ => hng8 b (by rw [h]; rfl))
        have z4 := hO8.frozen 4
        have y4 := hO8.cell (k := 4) rfl
        have hO9 : Arr (w8.setCell ⟨go, 4, none⟩ (.slice A8 x.length c8)) go 28 [.int .i64 (m : Int), .int .i64 0, .string ⟨D.toArray⟩, .slice none 0 0, .slice A8 x.length c8] := hO8.set (k := 4) (by simp) (.slice A8 x.length c8)
        have hA9a : Arr (w8.setCell ⟨go, 4, none⟩ (.slice A8 x.length c8)) g 28 _ := (Below.heap_setCell w8 ⟨go, 4, none⟩ (.slice A8 x.length c8) g hgg).trans hA8
        have hB9a : Below w.heap.size w (w8.setCell ⟨go, 4, none⟩ (.slice A8 x.length c8)) := Below.setCell hB8 hwo _
        have hR9 := hr8.far (grown_set w8 go 4 (.slice A8 x.length c8)) hne8'
        clear hO8 hA8 hB8 hne8 hng8 hne8' ho8 hr8 hAa hBa hOa HD hF7 hb8 hgo7
        by_cases her : e2 = 0
        rotate_left
        · have HRS1 := Lib.hid (show decO l = noO e2 from by rw [HRS.out, if_pos her])
          have e6 : ((e2 : Int) != 0) = true := by rw [bne_iff_ne]; omega
          clear HRS HIV
          have HRS := HRS1
          clear HRS1
          repeat' ((fail_if_success at_builtin); (fail_if_success at_make); (first | go_values | go_skip | go_guarded | go_step | go_upon | go_back))
          refine ((NoO_ok _ _)).mono ?_; rintro e_ wz ⟨rfl, hbz⟩; dsimp only
          unfold zeroO
          have hAz := hA9a.below hbz
          have hBz := hB9a.trans (hbz.mono hB9a.size)
          have hA9 := hAz.put5 (.int .i64 0) (.int .i64 0) (.string ⟨#[]⟩) (.slice none 0 0) (.slice none 0 0)
          have hB9 := Below.put5 hBz hgw (.int .i64 0) (.int .i64 0) (.string ⟨#[]⟩) (.slice none 0 0) (.slice none 0 0)
          obtain ⟨z0, z1, z2, z3, z4, ⟨_, y0⟩, ⟨_, y1⟩, ⟨_, y2⟩, ⟨_, y3⟩, ⟨_, y4⟩⟩ := hAz.five (.int .i64 0) (.int .i64 0) (.string ⟨#[]⟩) (.slice none 0 0) (.slice none 0 0)
          repeat' ((fail_if_success at_builtin); (fail_if_success at_make); (first | go_values | go_skip | go_guarded | go_step | go_upon | go_back))
          refine bodyPost_ret (res_cell_tmp3 rfl _ _ g _ _ _ _ (by rfl) hA9 Try.underlying28 rfl (by kernel_rfl)) rfl ?_
          rw [HRS.out]
          exact ⟨none, 0, none, 0, rfl, Rd.nil _ _, Rd.nil _ _, Nat.le_refl _, Nat.le_refl _, hB9⟩
        subst her
        rw [show ((0 : Nat) : Int) = 0 from rfl]
        have hchk := (HIV.out x rfl).2
        have hx8 := (chk_zero hchk).1
        have hOa := hO9
        have hAa := hA9a
        have hBa := hB9a
        clear hO9 hA9a hB9a HIV
        have hck : Calls Try.prog 26 #[.agg #[.int .i64 (m : Int), .int .i64 0, .string ⟨D.toArray⟩, .slice none 0 0, .slice A8 x.length c8]] (w8.setCell ⟨go, 4, none⟩ (.slice A8 x.length c8)) fun e w' => e = .returned (.int .i64 (ordC ⟨m, 0, D, [], x⟩ : Nat)) ∧ Below (w8.setCell ⟨go, 4, none⟩ (.slice A8 x.length c8)).heap.size (w8.setCell ⟨go, 4, none⟩ (.slice A8 x.length c8)) w' := by
          rw [ordC_f (o := ⟨m, 0, D, [], x⟩) HFF.out (fun _ => rfl) (fun h => by cases h) (fun _ => rfl) (fun h => by cases h)]
          exact OCheck_f2 m 0 D [] x none A8 0 c8 _ HFF.out HD64.out hc8 (by omega) (fine_partsO hchk) hR9 rfl rfl
        have HCK := Lib.hid hck
        have HR9 := Lib.hid hR9
        have hrs1 : decO l = if ordC ⟨m, 0, D, [], x⟩ ≠ 0 then noO (ordC ⟨m, 0, D, [], x⟩) else (⟨m, 0, D, [], x⟩, 0) := by rw [HRS.out, if_neg (by simp), decO5, if_neg (by simp)]
        have HC8 := Lib.hid hc8
        clear hck HRS hchk hx8 hR9 hc8
        obtain ⟨cc, hcc0⟩ : ∃ cc, cc = ordC ⟨m, 0, D, [], x⟩ := ⟨_, rfl⟩
        rw [← hcc0] at hrs1 HCK
        clear hcc0
        have f0 := hOa.cell (k := 0) rfl
        have f1 := hOa.cell (k := 1) rfl
        have f2 := hOa.cell (k := 2) rfl
        have f3 := hOa.cell (k := 3) rfl
        have f4 := hOa.cell (k := 4) rfl
        by_cases hcc : cc = 0
        rotate_left
        · have hres : decO l = noO cc := by rw [hrs1, if_pos hcc]
          have HRS := Lib.hid hres
          have e7 : ((cc : Int) != 0) = true := by rw [bne_iff_ne]; omega
          clear hres hrs1
          repeat' ((fail_if_success at_builtin); (fail_if_success at_make); (first | go_values | go_skip | go_guarded | go_step | go_upon | go_back))
          refine ((HCK.out)).mono ?_; rintro e_ wb ⟨rfl, hbb⟩; dsimp only
          have hAb := hAa.below hbb
          have hBb := hBa.trans (hbb.mono hBa.size)
          clear f0 f1 f2 f3 f4
          repeat' ((fail_if_success at_builtin); (fail_if_success at_make); (first | go_values | go_skip | go_guarded | go_step | go_upon | go_back))
          refine ((NoO_ok _ _)).mono ?_; rintro e_ wz ⟨rfl, hbz⟩; dsimp only
          unfold zeroO
          have hAz := hAb.below hbz
          have hBz := hBb.trans (hbz.mono hBb.size)
          have hA9 := hAz.put5 (.int .i64 0) (.int .i64 0) (.string ⟨#[]⟩) (.slice none 0 0) (.slice none 0 0)
          have hB9 := Below.put5 hBz hgw (.int .i64 0) (.int .i64 0) (.string ⟨#[]⟩) (.slice none 0 0) (.slice none 0 0)
          obtain ⟨z0, z1, z2, z3, z4, ⟨_, y0⟩, ⟨_, y1⟩, ⟨_, y2⟩, ⟨_, y3⟩, ⟨_, y4⟩⟩ := hAz.five (.int .i64 0) (.int .i64 0) (.string ⟨#[]⟩) (.slice none 0 0) (.slice none 0 0)
          repeat' ((fail_if_success at_builtin); (fail_if_success at_make); (first | go_values | go_skip | go_guarded | go_step | go_upon | go_back))
          refine bodyPost_ret (res_cell_tmp3 rfl _ _ g _ _ _ _ (by rfl) hA9 Try.underlying28 rfl (by kernel_rfl)) rfl ?_
          rw [HRS.out]
          exact ⟨none, 0, none, 0, rfl, Rd.nil _ _, Rd.nil _ _, Nat.le_refl _, Nat.le_refl _, hB9⟩
        have hres : decO l = (⟨m, 0, D, [], x⟩, 0) := by rw [hrs1, if_neg (by omega)]
        have HRS := Lib.hid hres
        subst hcc
        clear hres hrs1
        repeat' ((fail_if_success at_builtin); (fail_if_success at_make); (first | go_values | go_skip | go_guarded | go_step | go_upon | go_back))
        refine ((HCK.out)).mono ?_; rintro e_ wb ⟨rfl, hbb⟩; dsimp only
        rw [show ((0 : Nat) : Int) = 0 from rfl]
        have hAb := hAa.below hbb
        have hBb := hBa.trans (hbb.mono hBa.size)
        have hOb := hOa.below hbb
        clear f0 f1 f2 f3 f4
        have f0 := hOb.cell (k := 0) rfl
        have f1 := hOb.cell (k := 1) rfl
        have f2 := hOb.cell (k := 2) rfl
        have f3 := hOb.cell (k := 3) rfl
        have f4 := hOb.cell (k := 4) rfl
        have hA9 := hAb.put5 (.int .i64 (m : Int)) (.int .i64 0) (.string ⟨D.toArray⟩) (.slice none 0 0) (.slice A8 x.length c8)
        have hB9 := Below.put5 hBb hgw (.int .i64 (m : Int)) (.int .i64 0) (.string ⟨D.toArray⟩) (.slice none 0 0) (.slice A8 x.length c8)
        obtain ⟨z0, z1, z2, z3, z4, ⟨_, y0⟩, ⟨_, y1⟩, ⟨_, y2⟩, ⟨_, y3⟩, ⟨_, y4⟩⟩ := hAb.five (.int .i64 (m : Int)) (.int .i64 0) (.string ⟨D.toArray⟩) (.slice none 0 0) (.slice A8 x.length c8)
        repeat' ((fail_if_success at_builtin); (fail_if_success at_make); (first | go_values | go_skip | go_guarded | go_step | go_upon | go_back))
        refine bodyPost_ret (res_cell_tmp3 rfl _ _ g _ _ _ _ (by rfl) hA9 Try.underlying28 rfl (by kernel_rfl)) rfl ?_
        rw [HRS.out]
        exact ⟨none, 0, A8, c8, rfl, Rd.nil _ _, (HR9.out.below hbb).put5 HNG.out _ _ _ _ _, Nat.le_refl _, HC8.out, hB9⟩
      exact AllReadyH.nil
    exact AllReadyH.nil
set_option maxHeartbeats 4000000 in
theorem ODecode_f5 (A : Option Addr) (n c : Nat) (l rest : List UInt8) (m : Nat) (w : World) (hl : l.length = n) (hc : n ≤ c) (hm : n ≤ 140737488353280) (hr : Rd w 1 A n (bys l)) (hrd : rdNum l = (m, rest, 0)) (hff : fOf m = (⟨true, true, false, false⟩, true)) :
    Calls Try.prog 9 #[.slice A n c] w (DecPost w (decO l)) := by
  have hrs : decO l = decO1 ⟨true, true, false, false⟩ ⟨m, 0, [], [], []⟩ rest := by rw [decO, hrd]; dsimp only; rw [if_neg (by simp), hff, if_neg (by simp)]
  have HRS := Lib.hid hrs
  have HFF := Lib.hid hff
  clear hrs
  unfold DecPost
  have hA1 : Arr (w.alloc (.cells #[.int .i64 0, .int .i64 0, .string ⟨#[]⟩, .slice none 0 0, .slice none 0 0] 28)) w.heap.size 28 [.int .i64 0, .int .i64 0, .string ⟨#[]⟩, .slice none 0 0, .slice none 0 0] := Arr.new w 28 _
  have hb1 := (Below.refl w.heap.size w).alloc (Nat.le_refl _) (.cells #[.int .i64 0, .int .i64 0, .string ⟨#[]⟩, .slice none 0 0, .slice none 0 0] 28)
  have hr1 := hr.alloc (.cells #[.int .i64 0, .int .i64 0, .string ⟨#[]⟩, .slice none 0 0, .slice none 0 0] 28)
  have HRN := Lib.hid (ReadNumber_at 0 rfl hrd hl hc hm hr1)
  have hof := fun w' => Of_ok m w'
  unfold OfAt at hof
  rw [hff] at hof
  simp only [fcs] at hof
  have HOF := Lib.hid hof
  have HRL := Lib.hid (show rest.length ≤ n from by have := rdGo_rest l 0 0; rw [← rdNum, hrd] at this; dsimp only at this; omega)
  have HM := Lib.hid hm
  clear hof hff hl hr hrd hr1 hm
  go_enter Try.func9, Try.ntmps9
  repeat' ((fail_if_success at_builtin); (fail_if_success at_make); (first | go_values | go_skip | go_guarded | go_step | go_upon | go_back))
  generalize w.alloc (.cells #[.int .i64 0, .int .i64 0, .string ⟨#[]⟩, .slice none 0 0, .slice none 0 0] 28) = w1 at *
  obtain ⟨g, hg⟩ : ∃ g, g = w.heap.size := ⟨_, rfl⟩
  have hgw : w.heap.size ≤ g := by omega
  rw [← hg] at hA1 ⊢
  clear hg
  refine ((HRN.out)).mono ?_; rintro e_ w2 ⟨A2, c2, rfl, ho2, hb2⟩; dsimp only
  have hA2 := hA1.below hb2
  have hB2 := hb1.trans (hb2.mono hb1.size)
  have hlt := hA1.lt
  have hs2 := hb2.size
  clear hA1 hb1 hb2
  repeat' ((fail_if_success at_builtin); (fail_if_success at_make); (first | go_values | go_skip | go_guarded | go_step | go_upon | go_back))
  refine ((HOF.out w2)).mono ?_; rintro e_ w3 ⟨rfl, hb3⟩; dsimp only
  have hA3 := hA2.below hb3
  have hB3 := hB2.trans (hb3.mono hB2.size)
  have hR3 := ho2.rd.below hb3
  have hne3 : ∀ b off, A2 = some ⟨b, off, none⟩ → 0 < rest.length → b < w3.heap.size := fun b off e h0 => by
    obtain ⟨b', off', e', hb', _⟩ := hR3.2 h0
    rw [e] at e'; cases e'; exact hb'
  have hcap := ho2.cap
  have HCM := Lib.hid (show c2 ≤ maxLen from by
    rcases ho2.own.2 with ⟨h1, h2⟩ | ⟨_, cap, _, h1, _, _, _, h2, _⟩
    · injection h1 with _ _ h3; subst h3; exact Nat.zero_le _
    · injection h1 with _ _ h3; subst h3; exact h2)
  clear ho2 hA2 hB2 hb3
  have hs3 := hB3.size
  have hA4 := hA3.alloc (.cells #[.bool true, .bool true, .bool false, .bool false] 61)
  have hB4 := hB3.alloc hs3 (.cells #[.bool true, .bool true, .bool false, .bool false] 61)
  have hF4 : Arr (w3.alloc (.cells #[.bool true, .bool true, .bool false, .bool false] 61)) w3.heap.size 61 [.bool true, .bool true, .bool false, .bool false] := Arr.new w3 61 _
  have hR4 := hR3.alloc (.cells #[.bool true, .bool true, .bool false, .bool false] 61)
  have hs4 : (w3.alloc (.cells #[.bool true, .bool true, .bool false, .bool false] 61)).heap.size = w3.heap.size + 1 := World.size_alloc _ _
  have hA5 := hA4.alloc (.cells #[.int .i64 (m : Int), .int .i64 0, .string ⟨#[]⟩, .slice none 0 0, .slice none 0 0] 28)
  have hB5 := hB4.alloc hB4.size (.cells #[.int .i64 (m : Int), .int .i64 0, .string ⟨#[]⟩, .slice none 0 0, .slice none 0 0] 28)
  have hF5 := hF4.alloc (.cells #[.int .i64 (m : Int), .int .i64 0, .string ⟨#[]⟩, .slice none 0 0, .slice none 0 0] 28)
  have hR5 := hR4.alloc (.cells #[.int .i64 (m : Int), .int .i64 0, .string ⟨#[]⟩, .slice none 0 0, .slice none 0 0] 28)
  have hO5 : Arr ((w3.alloc (.cells #[.bool true, .bool true, .bool false, .bool false] 61)).alloc (.cells #[.int .i64 (m : Int), .int .i64 0, .string ⟨#[]⟩, .slice none 0 0, .slice none 0 0] 28)) (w3.alloc (.cells #[.bool true, .bool true, .bool false, .bool false] 61)).heap.size 28 [.int .i64 (m : Int), .int .i64 0, .string ⟨#[]⟩, .slice none 0 0, .slice none 0 0] := Arr.new (w3.alloc (.cells #[.bool true, .bool true, .bool false, .bool false] 61)) 28 [.int .i64 (m : Int), .int .i64 0, .string ⟨#[]⟩, .slice none 0 0, .slice none 0 0]
  rw [hs4] at hO5
  have hgl := hA3.lt
  clear hA3 hB3 hR3 hA4 hB4 hF4 hR4 hs4
  repeat' ((fail_if_success at_builtin); (fail_if_success at_make); (first | go_values | go_skip | go_guarded | go_step | go_upon | go_back))
  generalize ((w3.alloc (.cells #[.bool true, .bool true, .bool false, .bool false] 61)).alloc (.cells #[.int .i64 (m : Int), .int .i64 0, .string ⟨#[]⟩, .slice none 0 0, .slice none 0 0] 28)) = w5 at *
  generalize w3.heap.size = gf at *
  generalize hgo : gf + 1 = go at *
  have hgg : g ≠ go := by omega
  have hfg : gf ≠ go := by omega
  have hwo : w.heap.size ≤ go := by omega
  have hne5 : ∀ b off, A2 = some ⟨b, off, none⟩ → 0 < rest.length → b ≠ go := fun b off e h0 => by have := hne3 b off e h0; omega
  clear hgo hne3
  have hrl := rdGo_rest rest 0 0
  rw [← rdNum] at hrl
  obtain ⟨nn, r1, er, hrd1⟩ : ∃ nn r1 er, rdNum rest = (nn, r1, er) := ⟨_, _, _, rfl⟩
  have hrs1 := HRS.out
  rw [decO1, if_pos rfl, hrd1] at hrs1
  rw [hrd1] at hrl
  dsimp only at hrs1 hrl
  have HRS1 := Lib.hid hrs1
  have HRL1 := Lib.hid hrl
  have hgol := hO5.lt
  refine ((ReadNumber_at (er : Int) rfl hrd1 rfl hcap (by have := HRL.out; have := HM.out; omega) hR5)).mono ?_; rintro e_ w6 ⟨A6, c6, rfl, ho6, hb6⟩; dsimp only
  have hne6 : ∀ b off, A6 = some ⟨b, off, none⟩ → 0 < r1.length → b ≠ go := fun b off e h0 => by
    subst e
    have := (ho6.own.lt b rfl).1
    omega
  have hA6 := hA5.below hb6
  have hF6 := hF5.below hb6
  have hO6 := hO5.below hb6
  have hB6 := hB5.trans (hb6.mono hB5.size)
  have hcap6 := ho6.cap
  have HCX := Lib.hid (show c6 ≤ maxLen from by
    rcases ho6.own.2 with ⟨h1, h2⟩ | ⟨_, cap, _, h1, _, _, _, h2, _⟩
    · injection h1 with _ _ h3; subst h3; exact Nat.zero_le _
    · injection h1 with _ _ h3; subst h3; exact h2)
  have z1 := hO6.frozen 1
  have y1 := hO6.cell (k := 1) rfl
  have hO7 := hO6.set (k := 1) (by simp) (.int .i64 (nn : Int))
  have hA7 : Arr (w6.setCell ⟨go, 1, none⟩ (.int .i64 (nn : Int))) g 28 _ := (Below.heap_setCell w6 ⟨go, 1, none⟩ (.int .i64 (nn : Int)) g hgg).trans hA6
  have hF7 : Arr (w6.setCell ⟨go, 1, none⟩ (.int .i64 (nn : Int))) gf 61 _ := (Below.heap_setCell w6 ⟨go, 1, none⟩ (.int .i64 (nn : Int)) gf hfg).trans hF6
  have hB7 : Below w.heap.size w (w6.setCell ⟨go, 1, none⟩ (.int .i64 (nn : Int))) := Below.setCell hB6 hwo _
  have hR7 := ho6.rd.far (grown_set w6 go 1 (.int .i64 (nn : Int))) hne6
  clear hrs1 hrl hrd1 hA5 hF5 hO5 hB5 hR5 hne5 hcap hb6 ho6 hA6 hF6 hB6 hO6 HRS
  by_cases her : er = 0
  rotate_left
  · have HRS := Lib.hid (show decO l = noO er from by rw [HRS1.out, if_pos her])
    have e6 : ((er : Int) != 0) = true := by rw [bne_iff_ne]; omega
    clear HRS1
    repeat' ((fail_if_success at_builtin); (fail_if_success at_make); (first | go_values | go_skip | go_guarded | go_step | go_upon | go_back))
    refine ((NoO_ok _ _)).mono ?_; rintro e_ wz ⟨rfl, hbz⟩; dsimp only
    unfold zeroO
    have hAz := hA7.below hbz
    have hBz := hB7.trans (hbz.mono hB7.size)
    have hA9 := hAz.put5 (.int .i64 0) (.int .i64 0) (.string ⟨#[]⟩) (.slice none 0 0) (.slice none 0 0)
    have hB9 := Below.put5 hBz hgw (.int .i64 0) (.int .i64 0) (.string ⟨#[]⟩) (.slice none 0 0) (.slice none 0 0)
    obtain ⟨z0, z1, z2, z3, z4, ⟨_, y0⟩, ⟨_, y1⟩, ⟨_, y2⟩, ⟨_, y3⟩, ⟨_, y4⟩⟩ := hAz.five (.int .i64 0) (.int .i64 0) (.string ⟨#[]⟩) (.slice none 0 0) (.slice none 0 0)
    repeat' ((fail_if_success at_builtin); (fail_if_success at_make); (first | go_values | go_skip | go_guarded | go_step | go_upon | go_back))
    refine bodyPost_ret (res_cell_tmp3 rfl _ _ g _ _ _ _ (by rfl) hA9 Try.underlying28 rfl (by kernel_rfl)) rfl ?_
    rw [HRS.out]
    exact ⟨none, 0, none, 0, rfl, Rd.nil _ _, Rd.nil _ _, Nat.le_refl _, Nat.le_refl _, hB9⟩
  subst her
  rw [show ((0 : Nat) : Int) = 0 from rfl]
  have HRS := Lib.hid (show decO l = decO2 ⟨true, true, false, false⟩ ⟨m, nn, [], [], []⟩ r1 from by rw [HRS1.out, if_neg (by simp)])
  clear HRS1
  have HCM6 := Lib.hid (show c6 ≤ maxLen from HCX.out)
  clear HCM HCX
  have HCM := HCM6
  clear HCM6
  have ff1 := hF7.cell (k := 1) rfl
  by_cases h32 : r1.length < 32
  · have e5 : decide ((r1.length : Int) < 32) = true := decide_eq_true (by omega)
    have hrs1 : decO l = noO 8 := by rw [HRS.out, decO2, if_pos rfl, if_pos h32]
    clear HRS
    have HRS := Lib.hid hrs1
    clear hrs1
    repeat' ((fail_if_success at_builtin); (fail_if_success at_make); (first | go_values | go_skip | go_guarded | go_step | go_upon | go_back))
    refine ((NoO_ok _ _)).mono ?_; rintro e_ wz ⟨rfl, hbz⟩; dsimp only
    unfold zeroO
    have hAz := hA7.below hbz
    have hBz := hB7.trans (hbz.mono hB7.size)
    have hA9 := hAz.put5 (.int .i64 0) (.int .i64 0) (.string ⟨#[]⟩) (.slice none 0 0) (.slice none 0 0)
    have hB9 := Below.put5 hBz hgw (.int .i64 0) (.int .i64 0) (.string ⟨#[]⟩) (.slice none 0 0) (.slice none 0 0)
    obtain ⟨z0, z1, z2, z3, z4, ⟨_, y0⟩, ⟨_, y1⟩, ⟨_, y2⟩, ⟨_, y3⟩, ⟨_, y4⟩⟩ := hAz.five (.int .i64 0) (.int .i64 0) (.string ⟨#[]⟩) (.slice none 0 0) (.slice none 0 0)
    repeat' ((fail_if_success at_builtin); (fail_if_success at_make); (first | go_values | go_skip | go_guarded | go_step | go_upon | go_back))
    refine bodyPost_ret (res_cell_tmp3 rfl _ _ g _ _ _ _ (by rfl) hA9 Try.underlying28 rfl (by kernel_rfl)) rfl ?_
    rw [HRS.out]
    exact ⟨none, 0, none, 0, rfl, Rd.nil _ _, Rd.nil _ _, Nat.le_refl _, Nat.le_refl _, hB9⟩
  · have e5 : decide ((r1.length : Int) < 32) = false := decide_eq_false (by omega)
    have hrs1 : decO l = decO3 ⟨true, true, false, false⟩ ⟨m, nn, hexs (r1.take 32), [], []⟩ (r1.drop 32) := by rw [HRS.out, decO2, if_pos rfl, if_neg h32]
    clear HRS
    have HRS := Lib.hid hrs1
    clear hrs1
    have hO7a : Arr (w6.setCell ⟨go, 1, none⟩ (.int .i64 (nn : Int))) go 28 [.int .i64 (m : Int), .int .i64 (nn : Int), .string ⟨#[]⟩, .slice none 0 0, .slice none 0 0] := hO7
    have hle : (32 : Int) ≤ (c6 : Int) := by omega
    have hle2 : (32 : Int) ≤ (r1.length : Int) := by omega
    have hcm : (c6 : Int) ≤ 9223372036854775807 := by have := HCM.out; unfold maxLen at this; omega
    have r1_ := hR7.pre (k := 32) (by omega)
    rw [Nat.mul_one, bys_take] at r1_
    have r2_ := hR7.cut (k := 32) (cap := c6) (by omega) hcap6
    rw [Nat.mul_one, bys_drop] at r2_
    have HR1 := Lib.hid r1_
    have HR2 := Lib.hid r2_
    have HTL := Lib.hid (show (r1.take 32).length = 32 from by rw [List.length_take]; omega)
    have HLE := Lib.hid (show 32 ≤ c6 from by omega)
    have HCR := Lib.hid (show (r1.drop 32).length ≤ c6 - 32 from by rw [List.length_drop]; omega)
    have HNE := Lib.hid (show ∀ b off, (if c6 = 32 then A6 else A6.map (·.add 32)) = some ⟨b, off, none⟩ → 0 < r1.length - 32 → b ≠ go from fun b off e' h0 => by
      obtain ⟨b2, o2, e2, _⟩ := hR7.2 (show 0 < r1.length by omega)
      have hb := hne6 b2 o2 e2 (by omega)
      rw [e2] at e'
      split at e'
      · cases e'; exact hb
      · simp only [Option.map_some, Option.some.injEq] at e'
        have := congrArg Addr.block e'
        rw [addBlock] at this
        have hbb : b = b2 := this.symm
        rw [hbb]; exact hb)
    clear r1_ r2_ hR7 hne6
    clear hO7 HRL1
    repeat' ((fail_if_success at_builtin); (fail_if_success at_make); (first | go_values | go_skip | go_guarded | go_step | go_upon | go_back))
    clear z1 y1 ff1
    generalize w6.setCell ⟨go, 1, none⟩ (.int .i64 (nn : Int)) = w7 at *

    refine wp_region_held_drew (S := (fun w' => True)) (by kernel_rfl) ?_ (fun hHeld => ?_)
    · trivial
    have hB := (Below.refl w7.heap.size w7).drew
    generalize w7.drew = wn0 at *
    refine wpAnyH_take (i := 0) (oi := _) (v := ?_) rfl (by kernel_rfl) (by kernel_rfl) (by kernel_rfl) (fun _ _ _ h => h) (Or.inl ⟨by rfl, ?_⟩) (by assumption) ?_
    rotate_left
    · (intro w hSw; (try dsimp only at hSw); go_simp; try (with_reducible rfl))
    try simp only [List.getElem_toArray, List.getElem_cons_zero, List.getElem_cons_succ, Act.put, List.setIfInBounds_toArray, List.set_cons_zero, List.set_cons_succ]
    refine wpAnyH_take (i := 1) (oi := _) (v := ?_) rfl (by kernel_rfl) (by kernel_rfl) (by kernel_rfl) (fun _ _ _ h => h) (Or.inl ⟨by rfl, ?_⟩) (by assumption) ?_
    rotate_left
    · (intro w hSw; (try dsimp only at hSw); go_simp; try (with_reducible rfl))
    try simp only [List.getElem_toArray, List.getElem_cons_zero, List.getElem_cons_succ, Act.put, List.setIfInBounds_toArray, List.set_cons_zero, List.set_cons_succ]
    refine wpAnyH_take (i := 3) (oi := _) (v := ?_) rfl (by kernel_rfl) (by kernel_rfl) (by kernel_rfl) (fun _ _ _ h => h) (Or.inl ⟨by rfl, ?_⟩) (by assumption) ?_
    rotate_left
    · (intro w hSw; (try dsimp only at hSw); go_simp; try (with_reducible rfl))
    try simp only [List.getElem_toArray, List.getElem_cons_zero, List.getElem_cons_succ, Act.put, List.setIfInBounds_toArray, List.set_cons_zero, List.set_cons_succ]
    refine wpAnyH_take (i := 4) (oi := _) (v := ?_) rfl (by kernel_rfl) (by kernel_rfl) (by kernel_rfl) (fun _ _ _ h => h) (Or.inl ⟨by rfl, ?_⟩) (by assumption) ?_
    rotate_left
    · (intro w hSw; (try dsimp only at hSw); go_simp; try (with_reducible rfl))
    try simp only [List.getElem_toArray, List.getElem_cons_zero, List.getElem_cons_succ, Act.put, List.setIfInBounds_toArray, List.set_cons_zero, List.set_cons_succ]
    refine wpAnyH_ready (rs := [2]) (by kernel_rfl) (by simp) ?_
    refine AllReadyH.cons (o := _) rfl (fun K hK => ?_) ?_
    ·
      go_simp
      refine (Text_ok A6 32 c6 (r1.take 32) wn0 HTL.out (by omega) HLE.out (HR1.out.below hB)).mono ?_
      rintro e9 w9 ⟨rfl, hb9⟩
      dsimp only
      refine outG hK ?_ (Below wn0.heap.size wn0) (fun W => True) ?_ ?_ (fun wn1 hHeld hst hnew => ?_)
      · (trivial)
      · (exact hb9)
      · (trivial)
      have hB := hB.trans (hst.mono hB.size)
      clear hst
      clear hK K
      try simp only [List.getElem_toArray, List.getElem_cons_zero, List.getElem_cons_succ, Act.put, List.setIfInBounds_toArray, List.set_cons_zero, List.set_cons_succ]
      refine wpAnyH_take (i := 5) (oi := _) (v := ?_) rfl (by kernel_rfl) (by kernel_rfl) (by kernel_rfl) (fun _ _ _ h => h) (Or.inl ⟨by rfl, ?_⟩) (by assumption) ?_
      rotate_left
      · (intro w hSw; (try dsimp only at hSw); go_simp; try (with_reducible rfl))
      try simp only [List.getElem_toArray, List.getElem_cons_zero, List.getElem_cons_succ, Act.put, List.setIfInBounds_toArray, List.set_cons_zero, List.set_cons_succ]
      refine wpAnyH_ready (rs := [6]) (by kernel_rfl) (by simp) ?_
      refine AllReadyH.cons (o := _) rfl (fun K hK => ?_) ?_
      ·
        have z2 := (hO7a.below hB).frozen 2
        have y2 := (hO7a.below hB).cell (k := 2) rfl
        go_simp
        clear z2 y2
        have hO6 := (hO7a.below hB).set (k := 2) (by simp) (.string ⟨(hexs (r1.take 32)).toArray⟩)
        have hA6 := (Below.heap_setCell wn1 ⟨go, 2, none⟩ (.string ⟨(hexs (r1.take 32)).toArray⟩) g hgg).trans (hA7.below hB)
        have hF6 := (Below.heap_setCell wn1 ⟨go, 2, none⟩ (.string ⟨(hexs (r1.take 32)).toArray⟩) gf hfg).trans (hF7.below hB)
        have hB6 : Below w.heap.size w (wn1.setCell ⟨go, 2, none⟩ (.string ⟨(hexs (r1.take 32)).toArray⟩)) := Below.setCell (hB7.trans (hB.mono hB7.size)) hwo _
        have hR6 := (HR2.out.below hB).far (grown_set wn1 go 2 (.string ⟨(hexs (r1.take 32)).toArray⟩)) HNE.out
        refine outG hK ?_ (fun W => Arr W g 28 [.int .i64 0, .int .i64 0, .string ⟨#[]⟩, .slice none 0 0, .slice none 0 0] ∧ Arr W gf 61 [.bool true, .bool true, .bool false, .bool false] ∧ Arr W go 28 [.int .i64 (m : Int), .int .i64 (nn : Int), .string ⟨(hexs (r1.take 32)).toArray⟩, .slice none 0 0, .slice none 0 0]) (fun W => Below w.heap.size w W ∧ Rd W 1 (if c6 = 32 then A6 else A6.map (·.add 32)) (r1.length - 32) (bys (r1.drop 32))) ?_ ?_ (fun wn2 hHeld hF hG => ?_)
        · trivial
        · exact ⟨hA6, hF6, hO6⟩
        · exact ⟨hB6, hR6⟩
        clear hB hO6 hA6 hF6 hB6 hR6
        clear hK K
        try simp only [List.getElem_toArray, List.getElem_cons_zero, List.getElem_cons_succ, Act.put, List.setIfInBounds_toArray, List.set_cons_zero, List.set_cons_succ]
        refine wpAnyH_take (i := 7) (oi := _) (v := ?_) rfl (by kernel_rfl) (by kernel_rfl) (by kernel_rfl) (fun _ _ _ h => h) (Or.inl ⟨by rfl, ?_⟩) (by assumption) ?_
        rotate_left
        · (intro w hSw; (try dsimp only at hSw); go_simp; try (with_reducible rfl))
        try simp only [List.getElem_toArray, List.getElem_cons_zero, List.getElem_cons_succ, Act.put, List.setIfInBounds_toArray, List.set_cons_zero, List.set_cons_succ]
        refine wpAnyH_done (by kernel_rfl) ?_ _
        dsimp only [Exit.then]
        clear hHeld
        obtain ⟨hAa, hF7, hOa⟩ := hF
        obtain ⟨hBa, hR7⟩ := hG
        have hRl : r1.length - 32 = (r1.drop 32).length := List.length_drop.symm
        rw [hRl] at hR7 ⊢
        have HD64 := Lib.hid (show (hexs (r1.take 32)).length ≤ 140737488351232 from by rw [hexs_len]; have := HTL.out; omega)
        have HCC := Lib.hid (show c6 - 32 ≤ maxLen from by have := HCM.out; omega)
        clear hRl HR1 HR2 HTL HNE HLE hle hle2 e5 h32
        generalize r1.drop 32 = R at *
        generalize hexs (r1.take 32) = D at *
        have ff2 := hF7.cell (k := 2) rfl
        have ff3 := hF7.cell (k := 3) rfl
        have hck : Calls Try.prog 26 #[.agg #[.int .i64 (m : Int), .int .i64 (nn : Int), .string ⟨D.toArray⟩, .slice none 0 0, .slice none 0 0]] wn2 fun e w' => e = .returned (.int .i64 (ordC ⟨m, nn, D, [], []⟩ : Nat)) ∧ Below wn2.heap.size wn2 w' := by
          rw [ordC_f (o := ⟨m, nn, D, [], []⟩) HFF.out (fun h => by cases h) (fun h => by cases h) (fun _ => rfl) (fun _ => rfl)]
          exact OCheck_f5 m nn D [] [] none none 0 0 _ HFF.out HD64.out (by simp) (by simp) (by intro p hp; cases hp) (Rd.nil _ _) rfl rfl
        have HCK := Lib.hid hck
        have HRS' := Lib.hid (show decO l = decO5 ⟨m, nn, D, [], []⟩ R from HRS.out)
        clear hck HRS
        have HRS := HRS'
        clear HRS'
        by_cases hrl : 0 < R.length
        · have hres : decO l = noO 3 := by rw [HRS.out, decO5, if_pos hrl]
          clear HRS
          have HRS := Lib.hid hres
          have e6 : decide ((0 : Int) < (R.length : Int)) = true := decide_eq_true (by omega)
          have e6' : decide (0 < R.length) = true := decide_eq_true hrl
          clear hres
          repeat' ((fail_if_success at_builtin); (fail_if_success at_make); (first | go_values | go_skip | go_guarded | go_step | go_upon | go_back))
          refine ((NoO_ok _ _)).mono ?_; rintro e_ wz ⟨rfl, hbz⟩; dsimp only
          unfold zeroO
          have hAz := hAa.below hbz
          have hBz := hBa.trans (hbz.mono hBa.size)
          have hA9 := hAz.put5 (.int .i64 0) (.int .i64 0) (.string ⟨#[]⟩) (.slice none 0 0) (.slice none 0 0)
          have hB9 := Below.put5 hBz hgw (.int .i64 0) (.int .i64 0) (.string ⟨#[]⟩) (.slice none 0 0) (.slice none 0 0)
          obtain ⟨z0, z1, z2, z3, z4, ⟨_, y0⟩, ⟨_, y1⟩, ⟨_, y2⟩, ⟨_, y3⟩, ⟨_, y4⟩⟩ := hAz.five (.int .i64 0) (.int .i64 0) (.string ⟨#[]⟩) (.slice none 0 0) (.slice none 0 0)
          repeat' ((fail_if_success at_builtin); (fail_if_success at_make); (first | go_values | go_skip | go_guarded | go_step | go_upon | go_back))
          refine bodyPost_ret (res_cell_tmp3 rfl _ _ g _ _ _ _ (by rfl) hA9 Try.underlying28 rfl (by kernel_rfl)) rfl ?_
          rw [HRS.out]
          exact ⟨none, 0, none, 0, rfl, Rd.nil _ _, Rd.nil _ _, Nat.le_refl _, Nat.le_refl _, hB9⟩
        have hrs1 : decO l = if ordC ⟨m, nn, D, [], []⟩ ≠ 0 then noO (ordC ⟨m, nn, D, [], []⟩) else (⟨m, nn, D, [], []⟩, 0) := by rw [HRS.out, decO5, if_neg hrl]
        have e6 : decide ((0 : Int) < (R.length : Int)) = false := decide_eq_false (by omega)
        have e6' : decide (0 < R.length) = false := decide_eq_false hrl
        clear HRS
        obtain ⟨cc, hcc0⟩ : ∃ cc, cc = ordC ⟨m, nn, D, [], []⟩ := ⟨_, rfl⟩
        rw [← hcc0] at hrs1 HCK
        clear hcc0
        have f0 := hOa.cell (k := 0) rfl
        have f1 := hOa.cell (k := 1) rfl
        have f2 := hOa.cell (k := 2) rfl
        have f3 := hOa.cell (k := 3) rfl
        have f4 := hOa.cell (k := 4) rfl
        by_cases hcc : cc = 0
        rotate_left
        · have hres : decO l = noO cc := by rw [hrs1, if_pos hcc]
          have HRS := Lib.hid hres
          have e7 : ((cc : Int) != 0) = true := by rw [bne_iff_ne]; omega
          clear hres hrs1
          repeat' ((fail_if_success at_builtin); (fail_if_success at_make); (first | go_values | go_skip | go_guarded | go_step | go_upon | go_back))
          refine ((HCK.out)).mono ?_; rintro e_ wb ⟨rfl, hbb⟩; dsimp only
          have hAb := hAa.below hbb
          have hBb := hBa.trans (hbb.mono hBa.size)
          clear f0 f1 f2 f3 f4
          repeat' ((fail_if_success at_builtin); (fail_if_success at_make); (first | go_values | go_skip | go_guarded | go_step | go_upon | go_back))
          refine ((NoO_ok _ _)).mono ?_; rintro e_ wz ⟨rfl, hbz⟩; dsimp only
          unfold zeroO
          have hAz := hAb.below hbz
          have hBz := hBb.trans (hbz.mono hBb.size)
          have hA9 := hAz.put5 (.int .i64 0) (.int .i64 0) (.string ⟨#[]⟩) (.slice none 0 0) (.slice none 0 0)
          have hB9 := Below.put5 hBz hgw (.int .i64 0) (.int .i64 0) (.string ⟨#[]⟩) (.slice none 0 0) (.slice none 0 0)
          obtain ⟨z0, z1, z2, z3, z4, ⟨_, y0⟩, ⟨_, y1⟩, ⟨_, y2⟩, ⟨_, y3⟩, ⟨_, y4⟩⟩ := hAz.five (.int .i64 0) (.int .i64 0) (.string ⟨#[]⟩) (.slice none 0 0) (.slice none 0 0)
          repeat' ((fail_if_success at_builtin); (fail_if_success at_make); (first | go_values | go_skip | go_guarded | go_step | go_upon | go_back))
          refine bodyPost_ret (res_cell_tmp3 rfl _ _ g _ _ _ _ (by rfl) hA9 Try.underlying28 rfl (by kernel_rfl)) rfl ?_
          rw [HRS.out]
          exact ⟨none, 0, none, 0, rfl, Rd.nil _ _, Rd.nil _ _, Nat.le_refl _, Nat.le_refl _, hB9⟩
        have hres : decO l = (⟨m, nn, D, [], []⟩, 0) := by rw [hrs1, if_neg (by omega)]
        have HRS := Lib.hid hres
        subst hcc
        clear hres hrs1
        repeat' ((fail_if_success at_builtin); (fail_if_success at_make); (first | go_values | go_skip | go_guarded | go_step | go_upon | go_back))
        refine ((HCK.out)).mono ?_; rintro e_ wb ⟨rfl, hbb⟩; dsimp only
        rw [show ((0 : Nat) : Int) = 0 from rfl]
        have hAb := hAa.below hbb
        have hBb := hBa.trans (hbb.mono hBa.size)
        have hOb := hOa.below hbb
        clear f0 f1 f2 f3 f4
        have f0 := hOb.cell (k := 0) rfl
        have f1 := hOb.cell (k := 1) rfl
        have f2 := hOb.cell (k := 2) rfl
        have f3 := hOb.cell (k := 3) rfl
        have f4 := hOb.cell (k := 4) rfl
        have hA9 := hAb.put5 (.int .i64 (m : Int)) (.int .i64 (nn : Int)) (.string ⟨D.toArray⟩) (.slice none 0 0) (.slice none 0 0)
        have hB9 := Below.put5 hBb hgw (.int .i64 (m : Int)) (.int .i64 (nn : Int)) (.string ⟨D.toArray⟩) (.slice none 0 0) (.slice none 0 0)
        obtain ⟨z0, z1, z2, z3, z4, ⟨_, y0⟩, ⟨_, y1⟩, ⟨_, y2⟩, ⟨_, y3⟩, ⟨_, y4⟩⟩ := hAb.five (.int .i64 (m : Int)) (.int .i64 (nn : Int)) (.string ⟨D.toArray⟩) (.slice none 0 0) (.slice none 0 0)
        repeat' ((fail_if_success at_builtin); (fail_if_success at_make); (first | go_values | go_skip | go_guarded | go_step | go_upon | go_back))
        refine bodyPost_ret (res_cell_tmp3 rfl _ _ g _ _ _ _ (by rfl) hA9 Try.underlying28 rfl (by kernel_rfl)) rfl ?_
        rw [HRS.out]
        exact ⟨none, 0, none, 0, rfl, Rd.nil _ _, Rd.nil _ _, Nat.le_refl _, Nat.le_refl _, hB9⟩
      exact AllReadyH.nil
    exact AllReadyH.nil
--ODEC2END
theorem fOf_none {k : Nat} (h : (fOf k).2 = false) : fOf k = (⟨false, false, false, false⟩, false) := by
  rcases Nat.lt_or_ge 14 k with h1 | h1
  · exact fOf_big h1
  · have h' : k = 0 ∨ k = 1 ∨ k = 2 ∨ k = 3 ∨ k = 4 ∨ k = 5 ∨ k = 6 ∨ k = 7 ∨ k = 8 ∨ k = 9 ∨ k = 10 ∨ k = 11 ∨ k = 12 ∨ k = 13 ∨ k = 14 := by omega
    rcases h' with rfl | rfl | rfl | rfl | rfl | rfl | rfl | rfl | rfl | rfl | rfl | rfl | rfl | rfl | rfl <;> simp_all [fOf]
theorem ODecode_ok (A : Option Addr) (n c : Nat) (l : List UInt8) (w : World) (hl : l.length = n) (hc : n ≤ c) (hm : n ≤ 140737488353280) (hr : Rd w 1 A n (bys l)) :
    Calls Try.prog 9 #[.slice A n c] w (DecPost w (decO l)) := by
  by_cases he : (rdNum l).2.2 = 0
  rotate_left
  · exact ODecode_e1 A n c l w hl hc hm hr he
  obtain ⟨m, rest, er, hrd⟩ : ∃ m rest er, rdNum l = (m, rest, er) := ⟨_, _, _, rfl⟩
  rw [hrd] at he
  dsimp only at he
  subst he
  cases hk : (fOf m).2 with
  | false => exact ODecode_e2 A n c l rest m w hl hc hm hr hrd (fOf_none hk)
  | true =>
    rcases fOf_six hk with h | h | h | h | h | h
    · exact ODecode_f0 A n c l rest m w hl hc hm hr hrd h
    · exact ODecode_f1 A n c l rest m w hl hc hm hr hrd h
    · exact ODecode_f2 A n c l rest m w hl hc hm hr hrd h
    · exact ODecode_f3 A n c l rest m w hl hc hm hr hrd h
    · exact ODecode_f4 A n c l rest m w hl hc hm hr hrd h
    · exact ODecode_f5 A n c l rest m w hl hc hm hr hrd h
end Go.Proofs.Ytdpedkgdobfemaa
