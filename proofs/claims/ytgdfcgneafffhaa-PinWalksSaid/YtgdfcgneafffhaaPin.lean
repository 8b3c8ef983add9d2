/- pin.Check and pin.Move; the walks of PinBack and PinWalks. Conditions: an int64's bounds. -/
import Derived.Test.YtgdfcgneafffhaaWord
namespace Go.Proofs.Ytgdfcgneafffhaa
open Go.RowKit
set_option linter.unusedVariables false
set_option linter.unusedSimpArgs false
theorem pinCheck_ok (n : Int) (w : World) (h0 : 0 ≤ n) (h1 : n ≤ 5) : Calls Try.prog 30 #[.int .i64 n] w fun e w' => e = .returned (.int .i64 0) ∧ w = w' := by
  go_enter Try.func30, Try.ntmps30
  repeat' ((fail_if_success at_builtin); (fail_if_success at_make); (first | go_values | go_skip | go_guarded | go_step | go_upon | go_back))
  go_ret
  exact ⟨rfl, rfl⟩
theorem Move_full (w : World) : Calls Try.prog 21 #[.int .i64 5, .bool true] w fun e w' => e = .returned (.tuple #[.int .i64 0, .int .i64 7]) ∧ w = w' := by
  go_enter Try.func21, Try.ntmps21
  repeat' ((fail_if_success at_builtin); (fail_if_success at_make); (first | go_values | go_skip | go_guarded | go_step | go_upon | go_back))
  refine ((pinCheck_ok 5 _ (by omega) (by omega))).mono ?_; rintro e_ w_ ⟨rfl, rfl⟩; dsimp only
  repeat' ((fail_if_success at_builtin); (fail_if_success at_make); (first | go_values | go_skip | go_guarded | go_step | go_upon | go_back))
  go_ret2
  exact ⟨rfl, rfl⟩
theorem Move_idle (w : World) : Calls Try.prog 21 #[.int .i64 0, .bool false] w fun e w' => e = .returned (.tuple #[.int .i64 0, .int .i64 11]) ∧ w = w' := by
  go_enter Try.func21, Try.ntmps21
  repeat' ((fail_if_success at_builtin); (fail_if_success at_make); (first | go_values | go_skip | go_guarded | go_step | go_upon | go_back))
  refine ((pinCheck_ok 0 _ (by omega) (by omega))).mono ?_; rintro e_ w_ ⟨rfl, rfl⟩; dsimp only
  repeat' ((fail_if_success at_builtin); (fail_if_success at_make); (first | go_values | go_skip | go_guarded | go_step | go_upon | go_back))
  go_ret2
  exact ⟨rfl, rfl⟩
theorem Move_up (n : Int) (w : World) (h0 : 0 ≤ n) (h1 : n < 5) : Calls Try.prog 21 #[.int .i64 n, .bool true] w fun e w' => e = .returned (.tuple #[.int .i64 (n + 1), .int .i64 0]) ∧ w = w' := by
  have h5 : (n == 5) = false := beq_eq_false_iff_ne.2 (by omega)
  go_enter Try.func21, Try.ntmps21
  repeat' ((fail_if_success at_builtin); (fail_if_success at_make); (first | go_values | go_skip | go_guarded | go_step | go_upon | go_back))
  refine ((pinCheck_ok n _ (by omega) (by omega))).mono ?_; rintro e_ w_ ⟨rfl, rfl⟩; dsimp only
  repeat' ((fail_if_success at_builtin); (fail_if_success at_make); (first | go_values | go_skip | go_guarded | go_step | go_upon | go_back))
  go_ret2
  exact ⟨rfl, rfl⟩
theorem Move_down (n : Int) (w : World) (h0 : 0 < n) (h1 : n ≤ 5) : Calls Try.prog 21 #[.int .i64 n, .bool false] w fun e w' => e = .returned (.tuple #[.int .i64 (n - 1), .int .i64 0]) ∧ w = w' := by
  have h5 : (n == 0) = false := beq_eq_false_iff_ne.2 (by omega)
  go_enter Try.func21, Try.ntmps21
  repeat' ((fail_if_success at_builtin); (fail_if_success at_make); (first | go_values | go_skip | go_guarded | go_step | go_upon | go_back))
  refine ((pinCheck_ok n _ (by omega) (by omega))).mono ?_; rintro e_ w_ ⟨rfl, rfl⟩; dsimp only
  repeat' ((fail_if_success at_builtin); (fail_if_success at_make); (first | go_values | go_skip | go_guarded | go_step | go_upon | go_back))
  go_ret2
  exact ⟨rfl, rfl⟩
theorem PinBack_walk (n : Int) (w : World) (h0 : -9223372036854775808 ≤ n) (h1 : n ≤ 9223372036854775807) :
    Calls Try.prog 8 #[.int .i64 n] w fun e w' => e = .returned (.bool true) ∧ Below w.heap.size w w' := by
  go_enter Try.func8, Try.ntmps8
  repeat' ((fail_if_success at_builtin); (fail_if_success at_make); (first | go_values | go_skip | go_guarded | go_step | go_upon | go_back))
  refine ((Picked_ok n 6 6 rfl _ h0 h1 (by omega) (by omega))).mono ?_; rintro e_ w_ ⟨rfl, rfl⟩; dsimp only
  have hp := pk_lt n (show 0 < 6 by omega)
  generalize pk n 6 = p at *
  by_cases h5 : p = 5
  · subst h5
    repeat' ((fail_if_success at_builtin); (fail_if_success at_make); (first | go_values | go_skip | go_guarded | go_step | go_upon | go_back))
    refine ((Move_full _)).mono ?_; rintro e_ w_ ⟨rfl, rfl⟩; dsimp only
    repeat' ((fail_if_success at_builtin); (fail_if_success at_make); (first | go_values | go_skip | go_guarded | go_step | go_upon | go_back))
    refine ((Move_idle _)).mono ?_; rintro e_ w_ ⟨rfl, rfl⟩; dsimp only
    repeat' ((fail_if_success at_builtin); (fail_if_success at_make); (first | go_values | go_skip | go_guarded | go_step | go_upon | go_back))
    go_ret
    exact ⟨rfl, Below.refl _ _⟩
  · repeat' ((fail_if_success at_builtin); (fail_if_success at_make); (first | go_values | go_skip | go_guarded | go_step | go_upon | go_back))
    refine ((Move_up _ _ (by omega) (by omega))).mono ?_; rintro e_ w_ ⟨rfl, rfl⟩; dsimp only
    repeat' ((fail_if_success at_builtin); (fail_if_success at_make); (first | go_values | go_skip | go_guarded | go_step | go_upon | go_back))
    refine ((Move_idle _)).mono ?_; rintro e_ w_ ⟨rfl, rfl⟩; dsimp only
    have h6 : ((p : Int) == 5) = false := beq_eq_false_iff_ne.2 (by omega)
    repeat' ((fail_if_success at_builtin); (fail_if_success at_make); (first | go_values | go_skip | go_guarded | go_step | go_upon | go_back))
    refine ((Move_down _ _ (by omega) (by omega))).mono ?_; rintro e_ w_ ⟨rfl, rfl⟩; dsimp only
    have h7 : ((p : Int) + 1 - 1 == p) = true := beq_iff_eq.2 (by omega)
    repeat' ((fail_if_success at_builtin); (fail_if_success at_make); (first | go_values | go_skip | go_guarded | go_step | go_upon | go_back))
    go_ret
    exact ⟨rfl, Below.refl _ _⟩
theorem PinWalks_walk (A : Option Addr) (n c : Nat) (l : List Int) (w : World) (hl : l.length = n) (hc : n ≤ c) (hm : c ≤ 140737488351232)
    (hz : ∀ z ∈ l, -9223372036854775808 ≤ z ∧ z ≤ 9223372036854775807) (hr : Rd w 1 A n (l.map (Value.int .i64))) :
    Calls Try.prog 9 #[.slice A n c] w fun e w' => e = .returned (.bool true) ∧ Below w.heap.size w w' := by
  go_enter Try.func9, Try.ntmps9
  repeat' ((fail_if_success at_builtin); (fail_if_success at_make); (first | go_values | go_skip | go_guarded | go_step | go_upon | go_back))
  go_loop [3, 4, 14] (fun a b i => ∃ (k q : Nat), i = .int .i64 k ∧ k ≤ n ∧ q ≤ 5 ∧ a = .int .i64 q ∧ b = .int .i64 q) (fun _ _ i => n - (intOf i).toNat)
  case atStart => exact ⟨0, 0, rfl, by omega, by omega, rfl, rfl⟩
  case round =>
    obtain ⟨k, q, rfl, hk, hq, rfl, rfl⟩ := hrel
    by_cases hlt : k < n
    · obtain ⟨b, off, u, rfl, _, hu, hcell⟩ := hr.at_ hlt
      obtain ⟨z, hz1, rfl⟩ : ∃ z ∈ l, u = .int .i64 z := by
        simp only [List.getElem?_map, Option.map_eq_some_iff] at hu
        obtain ⟨z, hz1, rfl⟩ := hu
        exact ⟨z, List.mem_of_getElem? hz1, rfl⟩
      clear hu
      have hb := hz z hz1
      by_cases h50 : k ≤ 50
      · repeat' ((fail_if_success at_builtin); (fail_if_success at_make); (first | go_values | go_skip | go_guarded | go_step | go_upon | go_back))
        refine ((Picked_ok z 2 2 rfl _ hb.1 hb.2 (by omega) (by omega))).mono ?_; rintro e_ w_ ⟨rfl, rfl⟩; dsimp only
        have hp := pk_lt z (show 0 < 2 by omega)
        generalize pk z 2 = p at *
        obtain rfl | rfl : p = 0 ∨ p = 1 := by omega
        · by_cases h5 : q = 5
          · subst h5
            repeat' ((fail_if_success at_builtin); (fail_if_success at_make); (first | go_values | go_skip | go_guarded | go_step | go_upon | go_back))
            refine ((Move_full _)).mono ?_; rintro e_ w_ ⟨rfl, rfl⟩; dsimp only
            repeat' ((fail_if_success at_builtin); (fail_if_success at_make); (first | go_values | go_skip | go_guarded | go_step | go_upon | go_back))
            go_round
            case rel => exact ⟨k + 1, 5, by go_num, by omega, by omega, rfl, rfl⟩
            case measure => simp [intOf]; omega
          · have h6 : ((q : Int) == 5) = false := beq_eq_false_iff_ne.2 (by omega)
            have h7 : ((q : Int) + 1 != (q : Int) + 1) = false := by simp
            repeat' ((fail_if_success at_builtin); (fail_if_success at_make); (first | go_values | go_skip | go_guarded | go_step | go_upon | go_back))
            refine ((Move_up _ _ (by omega) (by omega))).mono ?_; rintro e_ w_ ⟨rfl, rfl⟩; dsimp only
            repeat' ((fail_if_success at_builtin); (fail_if_success at_make); (first | go_values | go_skip | go_guarded | go_step | go_upon | go_back))
            go_round
            case rel => exact ⟨k + 1, q + 1, by go_num, by omega, by omega, by go_num, by go_num⟩
            case measure => simp [intOf]; omega
        · by_cases h5 : q = 0
          · subst h5
            repeat' ((fail_if_success at_builtin); (fail_if_success at_make); (first | go_values | go_skip | go_guarded | go_step | go_upon | go_back))
            refine ((Move_idle _)).mono ?_; rintro e_ w_ ⟨rfl, rfl⟩; dsimp only
            repeat' ((fail_if_success at_builtin); (fail_if_success at_make); (first | go_values | go_skip | go_guarded | go_step | go_upon | go_back))
            go_round
            case rel => exact ⟨k + 1, 0, by go_num, by omega, by omega, rfl, rfl⟩
            case measure => simp [intOf]; omega
          · have h6 : ((q : Int) == 0) = false := beq_eq_false_iff_ne.2 (by omega)
            have h7 : ((q : Int) - 1 != (q : Int) - 1) = false := by simp
            repeat' ((fail_if_success at_builtin); (fail_if_success at_make); (first | go_values | go_skip | go_guarded | go_step | go_upon | go_back))
            refine ((Move_down _ _ (by omega) (by omega))).mono ?_; rintro e_ w_ ⟨rfl, rfl⟩; dsimp only
            repeat' ((fail_if_success at_builtin); (fail_if_success at_make); (first | go_values | go_skip | go_guarded | go_step | go_upon | go_back))
            go_round
            case rel => exact ⟨k + 1, q - 1, by go_num, by omega, by omega, by go_num, by go_num⟩
            case measure => simp [intOf]; omega
      · repeat' ((fail_if_success at_builtin); (fail_if_success at_make); (first | go_values | go_skip | go_guarded | go_step | go_upon | go_back))
        refine ((Move_up 2 _ (by omega) (by omega))).mono ?_; rintro e_ w_ ⟨rfl, rfl⟩; dsimp only
        repeat' ((fail_if_success at_builtin); (fail_if_success at_make); (first | go_values | go_skip | go_guarded | go_step | go_upon | go_back))
        go_ret
        exact ⟨rfl, Below.refl _ _⟩
    · repeat' ((fail_if_success at_builtin); (fail_if_success at_make); (first | go_values | go_skip | go_guarded | go_step | go_upon | go_back))
      refine ((Move_up 2 _ (by omega) (by omega))).mono ?_; rintro e_ w_ ⟨rfl, rfl⟩; dsimp only
      repeat' ((fail_if_success at_builtin); (fail_if_success at_make); (first | go_values | go_skip | go_guarded | go_step | go_upon | go_back))
      go_ret
      exact ⟨rfl, Below.refl _ _⟩
end Go.Proofs.Ytgdfcgneafffhaa
