/- Stores of the same entries are the same. Conditions: the sizes. -/
import Derived.Test.YtooohfckhepcmaaIxP
namespace Go.Proofs.Ytooohfckhepcmaa
open Go.RowKit
set_option linter.unusedVariables false
set_option linter.unusedSimpArgs false
set_option maxRecDepth 100000

theorem SameE1_ok (x : EntP) (A B : Option Addr) (c d : Nat) (w : World) (hp : x.parts.length ≤ 1000000) (h1 : Sl w 3 A x.parts.length c (pcs x.parts)) (h2 : Sl w 3 B x.parts.length d (pcs x.parts)) :
    Calls Try.prog 103 #[.agg #[.string ⟨x.key.toArray⟩, .slice A x.parts.length c, .int .i64 (x.pins : Int), .int .i64 (x.stamp : Int)], .agg #[.string ⟨x.key.toArray⟩, .slice B x.parts.length d, .int .i64 (x.pins : Int), .int .i64 (x.stamp : Int)]] w fun e w' => e = .returned (.bool true) ∧ Below w.heap.size w w' := by
  obtain ⟨s, hs⟩ : ∃ s : ByteArray, s = ⟨x.key.toArray⟩ := ⟨_, rfl⟩
  rw [← hs]
  obtain ⟨W, hW, hA, hB, hb⟩ := two_new w 53 [.string s, .slice A x.parts.length c, .int .i64 (x.pins : Int), .int .i64 (x.stamp : Int)] [.string s, .slice B x.parts.length d, .int .i64 (x.pins : Int), .int .i64 (x.stamp : Int)]
  have a0 := hA.cell (k := 0) rfl
  have b0 := hB.cell (k := 0) rfl
  have a1 := hA.cell (k := 1) rfl
  have b1 := hB.cell (k := 1) rfl
  rw [hW] at a0 b0 a1 b1
  have hss : (s.toList == s.toList) = true := by simp
  have hpp : ((x.pins : Int) == (x.pins : Int)) = true := by simp
  have hst : ((x.stamp : Int) == (x.stamp : Int)) = true := by simp
  have HEQ := Lib.hid (EqualP_same A B x.parts.length c d x.parts W rfl (by omega) (h1.below hb).rd (h2.below hb).rd)
  clear hs h1 h2
  go_enter Try.func103, Try.ntmps103
  repeat' ((fail_if_success at_builtin); (fail_if_success at_make); (first | go_values | go_skip | go_guarded | go_step | go_upon | go_back))
  rw [← hW] at a0 b0 a1 b1 ⊢
  clear hW a0 b0 a1 b1
  refine ((HEQ.out)).mono ?_; rintro e_ w1 ⟨rfl, hb1⟩; dsimp only
  have hA1 := hA.below hb1
  have hB1 := hB.below hb1
  have a2 := hA1.cell (k := 2) rfl
  have a3 := hA1.cell (k := 3) rfl
  have b2 := hB1.cell (k := 2) rfl
  have b3 := hB1.cell (k := 3) rfl
  have hb2 := hb.trans (hb1.mono hb.size)
  repeat' ((fail_if_success at_builtin); (fail_if_success at_make); (first | go_values | go_skip | go_guarded | go_step | go_upon | go_back))
  go_ret
  exact ⟨rfl, hb2⟩
set_option maxHeartbeats 4000000 in
theorem EqEs_ok (A B : Option Addr) (c d : Nat) (l : List EntP) (w : World) (hl : l.length ≤ 1000000) (hp : ∀ x ∈ l, x.parts.length ≤ 1000000) (hA : Rw EntS w A l) (hB : Rw EntS w B l) :
    Calls Try.prog 102 #[.slice A l.length c, .slice B l.length d, .func (.func 103) #[] #[]] w fun e w' => e = .returned (.bool true) ∧ Below w.heap.size w w' := by
  have HP := Lib.hid hp
  clear hp
  have hnn : ((l.length : Int) != (l.length : Int)) = false := by simp
  go_enter Try.func102, Try.ntmps102
  repeat' ((fail_if_success at_builtin); (fail_if_success at_make); (first | go_values | go_skip | go_guarded | go_step | go_upon | go_back))
  go_loopg [17] l.length (fun gn i wr => ∃ j : Nat, gn = l.length - j ∧ i = .int .i64 j ∧ j ≤ l.length ∧ Below w.heap.size w wr)
  case atStart => exact ⟨0, rfl, rfl, by omega, Below.refl _ _⟩
  case round =>
    obtain ⟨j, hgk, rfl, hj, hbl⟩ := hrel
    have HGK := Lib.hid hgk
    clear hgk
    by_cases hlt : j < l.length
    · have hcc : decide (j < l.length) = true := decide_eq_true hlt
      obtain ⟨b, off, B1, c1, rfl, hbb, p0, p1, p2, p3, hs⟩ := (hA.below hbl).ent_at j hlt
      obtain ⟨b', off', B2, c2, rfl, hbb', q0, q1, q2, q3, hs'⟩ := (hB.below hbl).ent_at j hlt
      have hj0 : (0 : Int) ≤ (j : Int) := by omega
      have hj1 : (j : Int) < (l.length : Int) := by omega
      have hpl := HP.out l[j] (List.getElem_mem hlt)
      generalize l[j] = x at *
      obtain ⟨W, hW, hX, hY, hb⟩ := two_new wr 53 [.string ⟨x.key.toArray⟩, .slice B1 x.parts.length c1, .int .i64 (x.pins : Int), .int .i64 (x.stamp : Int)] [.string ⟨x.key.toArray⟩, .slice B2 x.parts.length c2, .int .i64 (x.pins : Int), .int .i64 (x.stamp : Int)]
      have HSM := Lib.hid (SameE1_ok x B1 B2 c1 c2 W hpl (hs.below hb) (hs'.below hb))
      have hba := (Below.refl wr.heap.size wr).alloc (Nat.le_refl _) (.cells #[.string ⟨x.key.toArray⟩, .slice B1 x.parts.length c1, .int .i64 (x.pins : Int), .int .i64 (x.stamp : Int)] 53)
      have q0' := (hba.cell (p := ⟨b', off' + j * 4, none⟩) hbb').trans q0
      have q1' := (hba.cell (p := ⟨b', off' + j * 4 + 1, none⟩) hbb').trans q1
      have q2' := (hba.cell (p := ⟨b', off' + j * 4 + 2, none⟩) hbb').trans q2
      have q3' := (hba.cell (p := ⟨b', off' + j * 4 + 3, none⟩) hbb').trans q3
      have x0 := hX.cell (k := 0) rfl
      have x1 := hX.cell (k := 1) rfl
      have x2 := hX.cell (k := 2) rfl
      have x3 := hX.cell (k := 3) rfl
      have y0 := hY.cell (k := 0) rfl
      have y1 := hY.cell (k := 1) rfl
      have y2 := hY.cell (k := 2) rfl
      have y3 := hY.cell (k := 3) rfl
      rw [hW] at x0 x1 x2 x3 y0 y1 y2 y3
      clear hs hs' q0 q1 q2 q3 hba
      repeat' ((fail_if_success at_builtin); (fail_if_success at_make); (first | go_values | go_skip | go_guarded | go_step | go_upon | go_back))
      rw [← hW] at x0 x1 x2 x3 y0 y1 y2 y3 ⊢
      clear hW x0 x1 x2 x3 y0 y1 y2 y3 p0 p1 p2 p3 q0' q1' q2' q3' hX hY
      refine ((HSM.out)).mono ?_; rintro e_ w5 ⟨rfl, hb5⟩; dsimp only
      have hb1 := hbl.trans (hb.mono hbl.size)
      have hb2 := hb1.trans (hb5.mono hb1.size)
      repeat' ((fail_if_success at_builtin); (fail_if_success at_make); (first | go_values | go_skip | go_guarded | go_step | go_upon | go_back))
      go_roundg (l.length - (j + 1))
      case measure => have := HGK.out; omega
      case rel => exact ⟨j + 1, rfl, by go_num, by omega, hb2⟩
    · obtain rfl : j = l.length := by omega
      have hcc : decide (l.length < l.length) = false := by simp
      repeat' ((fail_if_success at_builtin); (fail_if_success at_make); (first | go_values | go_skip | go_guarded | go_step | go_upon | go_back))
      go_ret
      exact ⟨rfl, hbl⟩
theorem EqBn_ok (cl : Value) (w : World) : Calls Try.prog 82 #[.slice none 0 0, .slice none 0 0, cl] w fun e w' => e = .returned (.bool true) ∧ Below w.heap.size w w' := by
  go_enter Try.func82, Try.ntmps82
  repeat' ((fail_if_success at_builtin); (fail_if_success at_make); (first | go_values | go_skip | go_guarded | go_step | go_upon | go_back))
  go_loopg [17] 0 (fun gn i wr => i = .int .i64 0 ∧ gn = 0 ∧ wr = w)
  case atStart => exact ⟨rfl, rfl, rfl⟩
  case round =>
    obtain ⟨rfl, rfl, rfl⟩ := hrel
    repeat' ((fail_if_success at_builtin); (fail_if_success at_make); (first | go_values | go_skip | go_guarded | go_step | go_upon | go_back))
    go_ret
    exact ⟨rfl, Below.refl _ _⟩
theorem SmBn_ok (w : World) : Calls Try.prog 31 #[.slice none 0 0, .slice none 0 0] w fun e w' => e = .returned (.bool true) ∧ Below w.heap.size w w' := by
  have HE := Lib.hid (fun cl => EqBn_ok cl w)
  go_enter Try.func31, Try.ntmps31
  repeat' ((fail_if_success at_builtin); (fail_if_success at_make); (first | go_values | go_skip | go_guarded | go_step | go_upon | go_back))
  refine ((HE.out _)).mono ?_; rintro e_ w1 ⟨rfl, hb1⟩; dsimp only
  repeat' ((fail_if_success at_builtin); (fail_if_success at_make); (first | go_values | go_skip | go_guarded | go_step | go_upon | go_back))
  go_ret
  exact ⟨rfl, hb1⟩
theorem SameStE_ok (A B : Option Addr) (c d : Nat) (l : List EntP) (w : World) (hl : l.length ≤ 1000000) (hp : ∀ x ∈ l, x.parts.length ≤ 1000000) (hA : Rw EntS w A l) (hB : Rw EntS w B l) :
    Calls Try.prog 49 #[.agg #[.slice none 0 0, .slice A l.length c, .int .i64 0, .int .i64 0], .agg #[.slice none 0 0, .slice B l.length d, .int .i64 0, .int .i64 0]] w fun e w' => e = .returned (.bool true) ∧ Below w.heap.size w w' := by
  obtain ⟨W, hW, hX, hY, hb⟩ := two_new w 45 [.slice none 0 0, .slice A l.length c, .int .i64 0, .int .i64 0] [.slice none 0 0, .slice B l.length d, .int .i64 0, .int .i64 0]
  have HS := Lib.hid (fun w' => SmBn_ok w')
  have HE := Lib.hid (fun w' (h1 : Rw EntS w' A l) (h2 : Rw EntS w' B l) => EqEs_ok A B c d l w' hl hp h1 h2)
  have hA1 := hA.below hb
  have hB1 := hB.below hb
  have a0 := hX.cell (k := 0) rfl
  have b0 := hY.cell (k := 0) rfl
  rw [hW] at a0 b0
  clear hA hB hp
  go_enter Try.func49, Try.ntmps49
  repeat' ((fail_if_success at_builtin); (fail_if_success at_make); (first | go_values | go_skip | go_guarded | go_step | go_upon | go_back))
  rw [← hW] at a0 b0 ⊢
  clear hW a0 b0
  refine ((HS.out _)).mono ?_; rintro e_ w1 ⟨rfl, hb1⟩; dsimp only
  have hX1 := hX.below hb1
  have hY1 := hY.below hb1
  have HE1 := Lib.hid (HE.out w1 (hA1.below hb1) (hB1.below hb1))
  have a1 := hX1.cell (k := 1) rfl
  have a2 := hX1.cell (k := 2) rfl
  have a3 := hX1.cell (k := 3) rfl
  have b1 := hY1.cell (k := 1) rfl
  have b2 := hY1.cell (k := 2) rfl
  have b3 := hY1.cell (k := 3) rfl
  clear HE hA1 hB1
  repeat' ((fail_if_success at_builtin); (fail_if_success at_make); (first | go_values | go_skip | go_guarded | go_step | go_upon | go_back))
  refine ((HE1.out)).mono ?_; rintro e_ w2 ⟨rfl, hb2⟩; dsimp only
  repeat' ((fail_if_success at_builtin); (fail_if_success at_make); (first | go_values | go_skip | go_guarded | go_step | go_upon | go_back))
  go_ret
  have h1 := hb.trans (hb1.mono hb.size)
  exact ⟨rfl, h1.trans (hb2.mono h1.size)⟩
end Go.Proofs.Ytooohfckhepcmaa
