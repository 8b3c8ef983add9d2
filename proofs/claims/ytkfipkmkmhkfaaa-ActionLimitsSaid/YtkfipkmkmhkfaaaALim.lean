/- The walk of ActionLimits. Conditions: the number fits. -/
import Derived.Test.YtkfipkmkmhkfaaaActO
namespace Go.Proofs.Ytkfipkmkmhkfaaa
open Go.RowKit
set_option linter.unusedVariables false
set_option linter.unusedSimpArgs false
set_option maxRecDepth 100000

theorem repc_all : ∀ k, (Lib.repeatL [99] k).all chA = true
  | 0 => rfl
  | k + 1 => by rw [Lib.repeatL, List.all_append, repc_all k]; decide
theorem chk_nil : chk [] = 0 := rfl
theorem repc_len (k : Nat) : (Lib.repeatL [99] k).length = k := by rw [Lib.repeatL_length]; simp
theorem repc_act (k : Nat) : actC (Lib.repeatL [99] k) [] = if k < 1 ∨ 60 < k then 1 else 0 := by
  rw [actC, cmdC, repc_len]
  by_cases h : k < 1 ∨ 60 < k
  · rw [if_pos h, if_pos h]; rfl
  · rw [if_neg h, if_neg h, repc_all, if_pos rfl, if_neg (by decide), chk_nil]

set_option maxHeartbeats 2000000 in
theorem ActionLimits_walk (m : Int) (w : World) (hm0 : -9223372036854775808 ≤ m) (hm1 : m ≤ 9223372036854775807) :
    Calls Try.prog 3 #[.int .i64 m] w fun e w' => e = .returned (.bool true) ∧ Below w.heap.size w w' := by
  have HP := Lib.hid (fun w' => Picked_ok m 120 120 rfl w' hm0 hm1 (by omega) (by omega))
  have hk := pk_lt m (m := 120) (by omega)
  generalize pk m 120 = k at *
  have HREP := Lib.hid (fun w' => Try.strings_Repeat ⟨#[99]⟩ k w' (by omega) (by show 1 * k ≤ _; omega))
  obtain ⟨X, hX⟩ : ∃ X : ByteArray, X = ⟨(Lib.repeatL [99] k).toArray⟩ := ⟨_, rfl⟩
  have hXd : X.data.toList = Lib.repeatL [99] k := by rw [hX]
  have hXs : X.size = k := by rw [hX]; show (Lib.repeatL [99] k).toArray.size = k; rw [List.size_toArray, repc_len]
  have HX := Lib.hid (show (⟨(Lib.repeatL (⟨#[99]⟩ : ByteArray).data.toList k).toArray⟩ : ByteArray) = X from hX.symm)
  have hact := repc_act k
  rw [← hXd] at hact
  have hE : k ≤ 60 → (encA X.data.toList []).length ≤ 2000 := fun h => by
    have h1 := txt_len X.data.toList (by rw [hXd, repc_len]; omega)
    rw [hXd, repc_len] at h1
    simp only [encA, List.length_append, List.length_cons, List.length_nil]
    rw [hXd]
    have : (enc []).length = 4 := (enc_length [] (by simp)).trans (by simp)
    omega
  clear hX hXd
  go_enter Try.func3, Try.ntmps3
  repeat' ((fail_if_success at_builtin); (fail_if_success at_make); (first | go_values | go_skip | go_guarded | go_step | go_upon | go_back))
  refine ((HP.out _)).mono ?_; rintro e_ _ ⟨rfl, rfl⟩; dsimp only
  repeat' ((fail_if_success at_builtin); (fail_if_success at_make); (first | go_values | go_skip | go_guarded | go_step | go_upon | go_back))
  refine ((HREP.out w)).mono ?_; rintro e_ w1 ⟨rfl, hb1⟩; dsimp only
  rw [HX.out]
  have hP2 : Arr (w1.alloc (.cells #[.string X, .slice none 0 0] 26)) w1.heap.size 26 [.string X, .slice none 0 0] := Arr.new w1 _ _
  have hb2 := hb1.alloc hb1.size (.cells #[.string X, .slice none 0 0] 26)
  obtain ⟨w2, hw2⟩ : ∃ w2, w2 = w1.alloc (.cells #[.string X, .slice none 0 0] 26) := ⟨_, rfl⟩
  rw [← hw2] at hP2 hb2
  have HW2 := Lib.hid hw2
  have HC := ACheck_ok X none 0 0 [] w2 (by omega) rfl (Nat.le_refl _) (by omega) (fun p hp => by cases hp) Rd.nil_
  by_cases hbad : k < 1 ∨ 60 < k
  · rw [hact, if_pos hbad, show ((1 : Nat) : Int) = 1 from rfl] at HC
    have HC' := Lib.hid HC
    have HK := Lib.hid (fun w' => (by
      have h := AKey_bad X none 0 0 [] w' (by omega) rfl (Nat.le_refl _) (by omega) (fun p hp => by cases hp) Rd.nil_ (by rw [hact, if_pos hbad]; decide)
      rw [hact, if_pos hbad] at h
      exact h : Calls Try.prog 10 #[.agg #[.string X, .slice none 0 0]] w' fun e w'' => e = .returned (.tuple #[.string ⟨#[]⟩, .int .i64 1]) ∧ Below w'.heap.size w' w''))
    have hb' : k < 1 ∨ ¬ k < 1 ∧ 60 < k := by omega
    clear hw2 HC hact hE hbad
    repeat' ((fail_if_success at_builtin); (fail_if_success at_make); (first | go_values | go_skip | go_guarded | go_step | go_upon | go_back))
    rw [← HW2.out]
    generalize w1.heap.size = g2 at *
    refine ((HC'.out)).mono ?_; rintro e_ w3 ⟨rfl, hb3⟩; dsimp only
    have hb23 := hb2.trans (hb3.mono hb2.size)
    have hP3 := hP2.below hb3
    have f0 := hP3.cell (k := 0) rfl
    have f1 := hP3.cell (k := 1) rfl
    repeat' ((fail_if_success at_builtin); (fail_if_success at_make); (first | go_values | go_skip | go_guarded | go_step | go_upon | go_back))
    refine ((HK.out w3)).mono ?_; rintro e_ w4 ⟨rfl, hb4⟩; dsimp only
    have hb24 := hb23.trans (hb4.mono hb23.size)
    rcases hb' with h1 | ⟨h1, h2⟩
    · have e1 : decide ((k : Int) < 1) = true := decide_eq_true (by omega)
      clear h1
      repeat' ((fail_if_success at_builtin); (fail_if_success at_make); (first | go_values | go_skip | go_guarded | go_step | go_upon | go_back))
      go_ret
      exact ⟨rfl, hb24⟩
    · have e1 : decide ((k : Int) < 1) = false := decide_eq_false (by omega)
      have e2 : decide ((60 : Int) < (k : Int)) = true := decide_eq_true (by omega)
      clear h1 h2
      repeat' ((fail_if_success at_builtin); (fail_if_success at_make); (first | go_values | go_skip | go_guarded | go_step | go_upon | go_back))
      go_ret
      exact ⟨rfl, hb24⟩
  · have e1 : decide ((k : Int) < 1) = false := decide_eq_false (by omega)
    have e2 : decide ((60 : Int) < (k : Int)) = false := decide_eq_false (by omega)
    have hE' := hE (by omega)
    rw [hact, if_neg hbad, show ((0 : Nat) : Int) = 0 from rfl] at HC
    have HC' := Lib.hid HC
    have HK := Lib.hid (fun w' => AKey_ok X none 0 0 [] w' (by omega) rfl (Nat.le_refl _) Rd.nil_ (by rw [hact, if_neg hbad]) hE')
    have HZ := Lib.hid (fun w' => (ACheck_ok ⟨#[]⟩ none 0 0 [] w' (by decide) rfl (Nat.le_refl _) (by omega) (fun p hp => by cases hp) Rd.nil_ : Calls Try.prog 9 #[.agg #[.string ⟨#[]⟩, .slice none 0 0]] w' fun e w'' => e = .returned (.int .i64 1) ∧ Below w'.heap.size w' w''))
    clear hw2 HC hact hE hE' hbad
    generalize shaS (encA X.data.toList []) = H at *
    repeat' ((fail_if_success at_builtin); (fail_if_success at_make); (first | go_values | go_skip | go_guarded | go_step | go_upon | go_back))
    rw [← HW2.out]
    generalize w1.heap.size = g2 at *
    refine ((HC'.out)).mono ?_; rintro e_ w3 ⟨rfl, hb3⟩; dsimp only
    have hb23 := hb2.trans (hb3.mono hb2.size)
    have hP3 := hP2.below hb3
    have f0 := hP3.cell (k := 0) rfl
    have f1 := hP3.cell (k := 1) rfl
    repeat' ((fail_if_success at_builtin); (fail_if_success at_make); (first | go_values | go_skip | go_guarded | go_step | go_upon | go_back))
    refine ((HK.out w3)).mono ?_; rintro e_ w4 ⟨rfl, hb4⟩; dsimp only
    have hb24 := hb23.trans (hb4.mono hb23.size)
    repeat' ((fail_if_success at_builtin); (fail_if_success at_make); (first | go_values | go_skip | go_guarded | go_step | go_upon | go_back))
    refine ((HZ.out w4)).mono ?_; rintro e_ w5 ⟨rfl, hb5⟩; dsimp only
    repeat' ((fail_if_success at_builtin); (fail_if_success at_make); (first | go_values | go_skip | go_guarded | go_step | go_upon | go_back))
    go_ret
    exact ⟨rfl, hb24.trans (hb5.mono hb24.size)⟩
end Go.Proofs.Ytkfipkmkmhkfaaa
