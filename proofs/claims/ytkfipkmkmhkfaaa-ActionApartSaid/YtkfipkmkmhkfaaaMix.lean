/- word.rotated and word.Mix. Conditions: the numbers fit. -/
import Derived.Test.YtkfipkmkmhkfaaaMem
import Derived.Test.YtkfipkmkmhkfaaaProg
namespace Go.Proofs.Ytkfipkmkmhkfaaa
open Go.RowKit
set_option linter.unusedVariables false
set_option linter.unusedSimpArgs false

theorem rotated_ok (x : BitVec 32) (n : Nat) (w : World) (hn : n ≤ 31) : Calls Try.prog 68 #[.int .u32 (wd x), .int .i64 n] w fun e w' => e = .returned (.int .u32 (wd (x.rotateRight n))) ∧ ∃ k, w' = w.drewN k := by
  go_enter Try.func68, Try.ntmps68
  repeat' ((fail_if_success at_builtin); (fail_if_success at_make); (first | go_values | go_skip | go_guarded | go_step | go_upon | go_back))
  go_quiet (fail)
  repeat' ((fail_if_success at_builtin); (fail_if_success at_make); (first | go_values | go_skip | go_guarded | go_step | go_upon | go_back))
  go_ret
  refine ⟨?_, _, rfl⟩
  show Ending.returned (.int .u32 (bits BinOp.or IntKind.u32 (wd x / 2 ^ n) (wd x * 2 ^ (32 - n) % 4294967296))) = _
  rw [rot32 x n hn]

theorem rotated_at (x : BitVec 32) (n : Nat) (N : Int) (hN : N = n) (w : World) (hn : n ≤ 31) : Calls Try.prog 68 #[.int .u32 (wd x), .int .i64 N] w fun e w' => e = .returned (.int .u32 (wd (x.rotateRight n))) ∧ ∃ k, w' = w.drewN k := by
  subst hN; exact rotated_ok x n w hn

def mix32 (x : BitVec 32) : Nat → BitVec 32
  | 0 => x.rotateRight 2 ^^^ x.rotateRight 13 ^^^ x.rotateRight 22
  | 1 => x.rotateRight 6 ^^^ x.rotateRight 11 ^^^ x.rotateRight 25
  | 2 => x.rotateRight 7 ^^^ x.rotateRight 18 ^^^ x >>> 3
  | _ => x.rotateRight 17 ^^^ x.rotateRight 19 ^^^ x >>> 10

theorem Mix_ok (x : BitVec 32) (n : Nat) (N : Int) (hN : N = n) (w : World) (hn : n ≤ 3) : Calls Try.prog 62 #[.int .u32 (wd x), .int .i64 N] w fun e w' => e = .returned (.tuple #[.int .u32 (wd (mix32 x n)), .int .i64 0]) ∧ ∃ k, w' = w.drewN k := by
  match n, hn with
  | 0, _ =>
    obtain rfl : N = 0 := hN
    go_enter Try.func62, Try.ntmps62
    repeat' ((fail_if_success at_builtin); (fail_if_success at_make); (first | go_values | go_skip | go_guarded | go_step | go_upon | go_back))
    refine ((rotated_at x 2 _ rfl _ (by omega))).mono ?_; rintro e_ w_ ⟨rfl, k1, rfl⟩; dsimp only
    repeat' ((fail_if_success at_builtin); (fail_if_success at_make); (first | go_values | go_skip | go_guarded | go_step | go_upon | go_back))
    refine ((rotated_at x 13 _ rfl _ (by omega))).mono ?_; rintro e_ w_ ⟨rfl, k2, rfl⟩; dsimp only
    repeat' ((fail_if_success at_builtin); (fail_if_success at_make); (first | go_values | go_skip | go_guarded | go_step | go_upon | go_back))
    refine ((rotated_at x 22 _ rfl _ (by omega))).mono ?_; rintro e_ w_ ⟨rfl, k3, rfl⟩; dsimp only
    repeat' ((fail_if_success at_builtin); (fail_if_success at_make); (first | go_values | go_skip | go_guarded | go_step | go_upon | go_back))
    go_ret2
    refine ⟨?_, _, rfl⟩
    simp only [bits_xor32]; rfl
  | 1, _ =>
    obtain rfl : N = 1 := hN
    go_enter Try.func62, Try.ntmps62
    repeat' ((fail_if_success at_builtin); (fail_if_success at_make); (first | go_values | go_skip | go_guarded | go_step | go_upon | go_back))
    refine ((rotated_at x 6 _ rfl _ (by omega))).mono ?_; rintro e_ w_ ⟨rfl, k1, rfl⟩; dsimp only
    repeat' ((fail_if_success at_builtin); (fail_if_success at_make); (first | go_values | go_skip | go_guarded | go_step | go_upon | go_back))
    refine ((rotated_at x 11 _ rfl _ (by omega))).mono ?_; rintro e_ w_ ⟨rfl, k2, rfl⟩; dsimp only
    repeat' ((fail_if_success at_builtin); (fail_if_success at_make); (first | go_values | go_skip | go_guarded | go_step | go_upon | go_back))
    refine ((rotated_at x 25 _ rfl _ (by omega))).mono ?_; rintro e_ w_ ⟨rfl, k3, rfl⟩; dsimp only
    repeat' ((fail_if_success at_builtin); (fail_if_success at_make); (first | go_values | go_skip | go_guarded | go_step | go_upon | go_back))
    go_ret2
    refine ⟨?_, _, rfl⟩
    simp only [bits_xor32]; rfl
  | 2, _ =>
    obtain rfl : N = 2 := hN
    go_enter Try.func62, Try.ntmps62
    repeat' ((fail_if_success at_builtin); (fail_if_success at_make); (first | go_values | go_skip | go_guarded | go_step | go_upon | go_back))
    refine ((rotated_at x 7 _ rfl _ (by omega))).mono ?_; rintro e_ w_ ⟨rfl, k1, rfl⟩; dsimp only
    repeat' ((fail_if_success at_builtin); (fail_if_success at_make); (first | go_values | go_skip | go_guarded | go_step | go_upon | go_back))
    refine ((rotated_at x 18 _ rfl _ (by omega))).mono ?_; rintro e_ w_ ⟨rfl, k2, rfl⟩; dsimp only
    repeat' ((fail_if_success at_builtin); (fail_if_success at_make); (first | go_values | go_skip | go_guarded | go_step | go_upon | go_back))
    go_ret2
    refine ⟨?_, _, rfl⟩
    rw [show (wd x : Int) / (8 : Int) = wd (x >>> 3) from shr32 x 3]; simp only [bits_xor32]; rfl
  | 3, _ =>
    obtain rfl : N = 3 := hN
    go_enter Try.func62, Try.ntmps62
    repeat' ((fail_if_success at_builtin); (fail_if_success at_make); (first | go_values | go_skip | go_guarded | go_step | go_upon | go_back))
    refine ((rotated_at x 17 _ rfl _ (by omega))).mono ?_; rintro e_ w_ ⟨rfl, k1, rfl⟩; dsimp only
    repeat' ((fail_if_success at_builtin); (fail_if_success at_make); (first | go_values | go_skip | go_guarded | go_step | go_upon | go_back))
    refine ((rotated_at x 19 _ rfl _ (by omega))).mono ?_; rintro e_ w_ ⟨rfl, k2, rfl⟩; dsimp only
    repeat' ((fail_if_success at_builtin); (fail_if_success at_make); (first | go_values | go_skip | go_guarded | go_step | go_upon | go_back))
    go_ret2
    refine ⟨?_, _, rfl⟩
    rw [show (wd x : Int) / (1024 : Int) = wd (x >>> 10) from shr32 x 10]; simp only [bits_xor32]; rfl
end Go.Proofs.Ytkfipkmkmhkfaaa
