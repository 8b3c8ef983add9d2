/- keep.picked, word.Rotate, rotated, Mix. Conditions: the numbers fit. -/
import Derived.Test.YtgdfcgneafffhaaMem
import Derived.Test.YtgdfcgneafffhaaProg
namespace Go.Proofs.Ytgdfcgneafffhaa
open Go.RowKit
set_option linter.unusedVariables false
set_option linter.unusedSimpArgs false

/-- a number below m, from whatever number -/
def pk (n : Int) (m : Nat) : Nat := ((if n < 0 then -(n + 1) else n) % m).toNat
theorem pk_lt (n : Int) {m : Nat} (h : 0 < m) : pk n m < m := by
  unfold pk
  have := Int.emod_lt_of_pos (if n < 0 then -(n + 1) else n) (show (0 : Int) < m by omega)
  omega
theorem pk_id (n m : Nat) (h : n < m) : pk n m = n := by
  unfold pk; rw [if_neg (by omega)]; rw [Int.emod_eq_of_lt (by omega) (by omega)]; rfl

theorem Picked_ok (n : Int) (m : Nat) (M : Int) (hM : M = m) (w : World) (h0 : -9223372036854775808 ≤ n) (h1 : n ≤ 9223372036854775807) (hm : 0 < m) (hm2 : m ≤ 9223372036854775807) :
    Calls Try.prog 17 #[.int .i64 n, .int .i64 M] w fun e w' => e = .returned (.int .i64 (pk n m : Nat)) ∧ w = w' := by
  by_cases hn : n < 0
  · go_enter Try.func17, Try.ntmps17
    repeat' ((fail_if_success at_builtin); (fail_if_success at_make); (first | go_values | go_skip | go_guarded | go_step | go_upon | go_back))
    go_ret
    refine ⟨?_, rfl⟩
    show Ending.returned (.int .i64 (-((n + 1).tmod m))) = _
    unfold pk; rw [if_pos hn, ← Int.neg_tmod, Int.tmod_eq_emod_of_nonneg (by omega)]
    have := Int.emod_nonneg (-(n + 1)) (show (m : Int) ≠ 0 by omega)
    congr 2; omega
  · go_enter Try.func17, Try.ntmps17
    repeat' ((fail_if_success at_builtin); (fail_if_success at_make); (first | go_values | go_skip | go_guarded | go_step | go_upon | go_back))
    go_ret
    refine ⟨?_, rfl⟩
    show Ending.returned (.int .i64 (n % m)) = _
    unfold pk; rw [if_neg hn]
    have := Int.emod_nonneg n (show (m : Int) ≠ 0 by omega)
    congr 2; omega

theorem rotated_ok (x : BitVec 32) (n : Nat) (w : World) (hn : n ≤ 31) : Calls Try.prog 29 #[.int .u32 (wd x), .int .i64 n] w fun e w' => e = .returned (.int .u32 (wd (x.rotateRight n))) ∧ ∃ k, w' = w.drewN k := by
  go_enter Try.func29, Try.ntmps29
  repeat' ((fail_if_success at_builtin); (fail_if_success at_make); (first | go_values | go_skip | go_guarded | go_step | go_upon | go_back))
  go_quiet (fail)
  repeat' ((fail_if_success at_builtin); (fail_if_success at_make); (first | go_values | go_skip | go_guarded | go_step | go_upon | go_back))
  go_ret
  refine ⟨?_, _, rfl⟩
  show Ending.returned (.int .u32 (bits BinOp.or IntKind.u32 (wd x / 2 ^ n) (wd x * 2 ^ (32 - n) % 4294967296))) = _
  rw [rot32 x n hn]

theorem rotated_at (x : BitVec 32) (n : Nat) (N : Int) (hN : N = n) (w : World) (hn : n ≤ 31) : Calls Try.prog 29 #[.int .u32 (wd x), .int .i64 N] w fun e w' => e = .returned (.int .u32 (wd (x.rotateRight n))) ∧ ∃ k, w' = w.drewN k := by
  subst hN; exact rotated_ok x n w hn

theorem Rotate_ok (x : BitVec 32) (n : Nat) (N : Int) (hN : N = n) (w : World) (hn : n ≤ 31) : Calls Try.prog 18 #[.int .u32 (wd x), .int .i64 N] w fun e w' => e = .returned (.tuple #[.int .u32 (wd (x.rotateRight n)), .int .i64 0]) ∧ ∃ k, w' = w.drewN k := by
  subst hN
  go_enter Try.func18, Try.ntmps18
  repeat' ((fail_if_success at_builtin); (fail_if_success at_make); (first | go_values | go_skip | go_guarded | go_step | go_upon | go_back))
  go_quiet (fail)
  repeat' ((fail_if_success at_builtin); (fail_if_success at_make); (first | go_values | go_skip | go_guarded | go_step | go_upon | go_back))
  go_ret2
  refine ⟨?_, _, rfl⟩
  show Ending.returned (.tuple #[.int .u32 (bits BinOp.or IntKind.u32 (wd x / 2 ^ n) (wd x * 2 ^ (32 - n) % 4294967296)), .int .i64 0]) = _
  rw [rot32 x n hn]

def mix32 (x : BitVec 32) : Nat → BitVec 32
  | 0 => x.rotateRight 2 ^^^ x.rotateRight 13 ^^^ x.rotateRight 22
  | 1 => x.rotateRight 6 ^^^ x.rotateRight 11 ^^^ x.rotateRight 25
  | 2 => x.rotateRight 7 ^^^ x.rotateRight 18 ^^^ x >>> 3
  | _ => x.rotateRight 17 ^^^ x.rotateRight 19 ^^^ x >>> 10

theorem Mix_ok (x : BitVec 32) (n : Nat) (N : Int) (hN : N = n) (w : World) (hn : n ≤ 3) : Calls Try.prog 20 #[.int .u32 (wd x), .int .i64 N] w fun e w' => e = .returned (.tuple #[.int .u32 (wd (mix32 x n)), .int .i64 0]) ∧ ∃ k, w' = w.drewN k := by
  match n, hn with
  | 0, _ =>
    obtain rfl : N = 0 := hN
    go_enter Try.func20, Try.ntmps20
    repeat' ((fail_if_success at_builtin); (fail_if_success at_make); (first | go_values | go_skip | go_guarded | go_step | go_upon | go_back))
    refine ((rotated_at x 2 _ rfl _ (by omega))).mono ?_; rintro e_ w_ ⟨rfl, k1, rfl⟩; dsimp only
    repeat' ((fail_if_success at_builtin); (fail_if_success at_make); (first | go_values | go_skip | go_guarded | go_step | go_upon | go_back))
    refine ((rotated_at x 13 _ rfl _ (by omega))).mono ?_; rintro e_ w_ ⟨rfl, k2, rfl⟩; dsimp only
    repeat' ((fail_if_success at_builtin); (fail_if_success at_make); (first | go_values | go_skip | go_guarded | go_step | go_upon | go_back))
    refine ((rotated_at x 22 _ rfl _ (by omega))).mono ?_; rintro e_ w_ ⟨rfl, k3, rfl⟩; dsimp only
    repeat' ((fail_if_success at_builtin); (fail_if_success at_make); (first | go_values | go_skip | go_guarded | go_step | go_upon | go_back))
    go_ret2
    refine ⟨?_, _, rfl⟩
    simp only [bits_xor32]; rfl
  | 1, _ =>
    obtain rfl : N = 1 := hN
    go_enter Try.func20, Try.ntmps20
    repeat' ((fail_if_success at_builtin); (fail_if_success at_make); (first | go_values | go_skip | go_guarded | go_step | go_upon | go_back))
    refine ((rotated_at x 6 _ rfl _ (by omega))).mono ?_; rintro e_ w_ ⟨rfl, k1, rfl⟩; dsimp only
    repeat' ((fail_if_success at_builtin); (fail_if_success at_make); (first | go_values | go_skip | go_guarded | go_step | go_upon | go_back))
    refine ((rotated_at x 11 _ rfl _ (by omega))).mono ?_; rintro e_ w_ ⟨rfl, k2, rfl⟩; dsimp only
    repeat' ((fail_if_success at_builtin); (fail_if_success at_make); (first | go_values | go_skip | go_guarded | go_step | go_upon | go_back))
    refine ((rotated_at x 25 _ rfl _ (by omega))).mono ?_; rintro e_ w_ ⟨rfl, k3, rfl⟩; dsimp only
    repeat' ((fail_if_success at_builtin); (fail_if_success at_make); (first | go_values | go_skip | go_guarded | go_step | go_upon | go_back))
    go_ret2
    refine ⟨?_, _, rfl⟩
    simp only [bits_xor32]; rfl
  | 2, _ =>
    obtain rfl : N = 2 := hN
    go_enter Try.func20, Try.ntmps20
    repeat' ((fail_if_success at_builtin); (fail_if_success at_make); (first | go_values | go_skip | go_guarded | go_step | go_upon | go_back))
    refine ((rotated_at x 7 _ rfl _ (by omega))).mono ?_; rintro e_ w_ ⟨rfl, k1, rfl⟩; dsimp only
    repeat' ((fail_if_success at_builtin); (fail_if_success at_make); (first | go_values | go_skip | go_guarded | go_step | go_upon | go_back))
    refine ((rotated_at x 18 _ rfl _ (by omega))).mono ?_; rintro e_ w_ ⟨rfl, k2, rfl⟩; dsimp only
    repeat' ((fail_if_success at_builtin); (fail_if_success at_make); (first | go_values | go_skip | go_guarded | go_step | go_upon | go_back))
    go_ret2
    refine ⟨?_, _, rfl⟩
    rw [show (wd x : Int) / (8 : Int) = wd (x >>> 3) from shr32 x 3]; simp only [bits_xor32]; rfl
  | 3, _ =>
    obtain rfl : N = 3 := hN
    go_enter Try.func20, Try.ntmps20
    repeat' ((fail_if_success at_builtin); (fail_if_success at_make); (first | go_values | go_skip | go_guarded | go_step | go_upon | go_back))
    refine ((rotated_at x 17 _ rfl _ (by omega))).mono ?_; rintro e_ w_ ⟨rfl, k1, rfl⟩; dsimp only
    repeat' ((fail_if_success at_builtin); (fail_if_success at_make); (first | go_values | go_skip | go_guarded | go_step | go_upon | go_back))
    refine ((rotated_at x 19 _ rfl _ (by omega))).mono ?_; rintro e_ w_ ⟨rfl, k2, rfl⟩; dsimp only
    repeat' ((fail_if_success at_builtin); (fail_if_success at_make); (first | go_values | go_skip | go_guarded | go_step | go_upon | go_back))
    go_ret2
    refine ⟨?_, _, rfl⟩
    rw [show (wd x : Int) / (1024 : Int) = wd (x >>> 10) from shr32 x 10]; simp only [bits_xor32]; rfl
end Go.Proofs.Ytgdfcgneafffhaa
