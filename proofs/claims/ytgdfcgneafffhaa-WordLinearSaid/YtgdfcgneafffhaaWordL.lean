/- The walks of WordRound, WordTwice and WordLinear. Conditions: an int64's bounds. -/
import Derived.Test.YtgdfcgneafffhaaWordM
namespace Go.Proofs.Ytgdfcgneafffhaa
open Go.RowKit
set_option linter.unusedVariables false
set_option linter.unusedSimpArgs false
theorem wd_beq (a b : BitVec 32) : (wd a == wd b) = (a == b) := by
  rw [Bool.eq_iff_iff]; simp [wd_inj]
theorem WordRound_walk (x : BitVec 32) (n : Int) (w : World) (h0 : -9223372036854775808 ≤ n) (h1 : n ≤ 9223372036854775807) :
    Calls Try.prog 4 #[.int .u32 (wd x), .int .i64 n] w fun e w' => e = .returned (.bool true) ∧ Below w.heap.size w w' := by
  go_enter Try.func4, Try.ntmps4
  repeat' ((fail_if_success at_builtin); (fail_if_success at_make); (first | go_values | go_skip | go_guarded | go_step | go_upon | go_back))
  refine ((Picked_ok n 32 32 rfl _ h0 h1 (by omega) (by omega))).mono ?_; rintro e_ w_ ⟨rfl, rfl⟩; dsimp only
  have hp := pk_lt n (show 0 < 32 by omega)
  generalize pk n 32 = p at *
  repeat' ((fail_if_success at_builtin); (fail_if_success at_make); (first | go_values | go_skip | go_guarded | go_step | go_upon | go_back))
  refine ((Rotate_ok x p _ rfl _ (by omega))).mono ?_; rintro e_ w_ ⟨rfl, k1, rfl⟩; dsimp only
  repeat' ((fail_if_success at_builtin); (fail_if_success at_make); (first | go_values | go_skip | go_guarded | go_step | go_upon | go_back))
  have e1 : ((x.rotateRight p).rotateRight ((32 - p) % 32)) = x := by
    rw [rot_rot x p ((32 - p) % 32) 0 (by omega) (by omega) (by omega) (by omega), rot_none]
  refine ((Rotate_ok (x.rotateRight p) ((32 - p) % 32) _ (by omega) _ (by omega))).mono ?_; rintro e_ w_ ⟨rfl, k2, rfl⟩; dsimp only
  rw [e1]
  repeat' ((fail_if_success at_builtin); (fail_if_success at_make); (first | go_values | go_skip | go_guarded | go_step | go_upon | go_back))
  refine ((Rotate_ok 1 1 _ rfl _ (by omega))).mono ?_; rintro e_ w_ ⟨rfl, k3, rfl⟩; dsimp only
  have e2 : (wd ((1 : BitVec 32).rotateRight 1) == 2147483648) = true := by decide +kernel
  repeat' ((fail_if_success at_builtin); (fail_if_success at_make); (first | go_values | go_skip | go_guarded | go_step | go_upon | go_back))
  go_ret
  exact ⟨rfl, bdrewN (Below.refl _ _) _⟩
theorem WordTwice_walk (x : BitVec 32) (n m : Int) (w : World) (h0 : -9223372036854775808 ≤ n) (h1 : n ≤ 9223372036854775807) (h2 : -9223372036854775808 ≤ m) (h3 : m ≤ 9223372036854775807) :
    Calls Try.prog 5 #[.int .u32 (wd x), .int .i64 n, .int .i64 m] w fun e w' => e = .returned (.bool true) ∧ Below w.heap.size w w' := by
  go_enter Try.func5, Try.ntmps5
  repeat' ((fail_if_success at_builtin); (fail_if_success at_make); (first | go_values | go_skip | go_guarded | go_step | go_upon | go_back))
  refine ((Picked_ok n 32 32 rfl _ h0 h1 (by omega) (by omega))).mono ?_; rintro e_ w_ ⟨rfl, rfl⟩; dsimp only
  repeat' ((fail_if_success at_builtin); (fail_if_success at_make); (first | go_values | go_skip | go_guarded | go_step | go_upon | go_back))
  refine ((Picked_ok m 32 32 rfl _ h2 h3 (by omega) (by omega))).mono ?_; rintro e_ w_ ⟨rfl, rfl⟩; dsimp only
  have hp := pk_lt n (show 0 < 32 by omega)
  have hq := pk_lt m (show 0 < 32 by omega)
  generalize pk n 32 = p at *
  generalize pk m 32 = q at *
  repeat' ((fail_if_success at_builtin); (fail_if_success at_make); (first | go_values | go_skip | go_guarded | go_step | go_upon | go_back))
  refine ((Rotate_ok x p _ rfl _ (by omega))).mono ?_; rintro e_ w_ ⟨rfl, k1, rfl⟩; dsimp only
  repeat' ((fail_if_success at_builtin); (fail_if_success at_make); (first | go_values | go_skip | go_guarded | go_step | go_upon | go_back))
  refine ((Rotate_ok _ q _ rfl _ (by omega))).mono ?_; rintro e_ w_ ⟨rfl, k2, rfl⟩; dsimp only
  rw [rot_rot x p q ((p + q) % 32) (by omega) (by omega) (by omega) rfl]
  repeat' ((fail_if_success at_builtin); (fail_if_success at_make); (first | go_values | go_skip | go_guarded | go_step | go_upon | go_back))
  refine ((Rotate_ok x ((p + q) % 32) _ (by omega) _ (by omega))).mono ?_; rintro e_ w_ ⟨rfl, k3, rfl⟩; dsimp only
  repeat' ((fail_if_success at_builtin); (fail_if_success at_make); (first | go_values | go_skip | go_guarded | go_step | go_upon | go_back))
  refine ((Rotate_ok 6 1 _ rfl _ (by omega))).mono ?_; rintro e_ w_ ⟨rfl, k4, rfl⟩; dsimp only
  have e2 : (wd ((6 : BitVec 32).rotateRight 1) == 3) = true := by decide +kernel
  repeat' ((fail_if_success at_builtin); (fail_if_success at_make); (first | go_values | go_skip | go_guarded | go_step | go_upon | go_back))
  go_ret
  exact ⟨rfl, bdrewN (Below.refl _ _) _⟩
theorem WordLinear_walk (x y : BitVec 32) (n : Int) (w : World) (h0 : -9223372036854775808 ≤ n) (h1 : n ≤ 9223372036854775807) :
    Calls Try.prog 7 #[.int .u32 (wd x), .int .u32 (wd y), .int .i64 n] w fun e w' => e = .returned (.bool true) ∧ Below w.heap.size w w' := by
  go_enter Try.func7, Try.ntmps7
  repeat' ((fail_if_success at_builtin); (fail_if_success at_make); (first | go_values | go_skip | go_guarded | go_step | go_upon | go_back))
  refine ((Picked_ok n 4 4 rfl _ h0 h1 (by omega) (by omega))).mono ?_; rintro e_ w_ ⟨rfl, rfl⟩; dsimp only
  have hp := pk_lt n (show 0 < 4 by omega)
  generalize pk n 4 = p at *
  repeat' ((fail_if_success at_builtin); (fail_if_success at_make); (first | go_values | go_skip | go_guarded | go_step | go_upon | go_back))
  refine ((Mix_ok x p _ rfl _ (by omega))).mono ?_; rintro e_ w_ ⟨rfl, k1, rfl⟩; dsimp only
  repeat' ((fail_if_success at_builtin); (fail_if_success at_make); (first | go_values | go_skip | go_guarded | go_step | go_upon | go_back))
  refine ((Mix_ok y p _ rfl _ (by omega))).mono ?_; rintro e_ w_ ⟨rfl, k2, rfl⟩; dsimp only
  repeat' ((fail_if_success at_builtin); (fail_if_success at_make); (first | go_values | go_skip | go_guarded | go_step | go_upon | go_back))
  rw [bits_xor32]
  refine ((Mix_ok (x ^^^ y) p _ rfl _ (by omega))).mono ?_; rintro e_ w_ ⟨rfl, k3, rfl⟩; dsimp only
  rw [mix_xor x y p (by omega)]
  repeat' ((fail_if_success at_builtin); (fail_if_success at_make); (first | go_values | go_skip | go_guarded | go_step | go_upon | go_back))
  refine ((Mix_ok 2147483648 2 _ rfl _ (by omega))).mono ?_; rintro e_ w_ ⟨rfl, k4, rfl⟩; dsimp only
  have e2 : (wd (mix32 2147483648 2) == 0) = false := by decide +kernel
  have e3 : (wd (mix32 2147483648 2) != 0) = true := by decide +kernel
  have e4 : (bits BinOp.xor IntKind.u32 (wd (mix32 x p)) (wd (mix32 y p)) == wd (mix32 x p ^^^ mix32 y p)) = true := by rw [bits_xor32]; exact beq_self_eq_true _
  repeat' ((fail_if_success at_builtin); (fail_if_success at_make); (first | go_values | go_skip | go_guarded | go_step | go_upon | go_back))
  go_ret
  exact ⟨rfl, bdrewN (Below.refl _ _) _⟩
end Go.Proofs.Ytgdfcgneafffhaa
