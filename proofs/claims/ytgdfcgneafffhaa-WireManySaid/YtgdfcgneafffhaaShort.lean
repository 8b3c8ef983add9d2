/- The walk of WireShort. Conditions: an int64's bounds. -/
import Derived.Test.YtgdfcgneafffhaaNumP
import Derived.Test.YtgdfcgneafffhaaWord
namespace Go.Proofs.Ytgdfcgneafffhaa
open Go.RowKit
set_option linter.unusedVariables false
set_option maxRecDepth 20000
theorem Number_at (N : Nat) (M : Int) (hM : M = N) (w : World) (hN : N ≤ 4294967295) : Calls Try.prog 19 #[.int .i64 M] w fun e w' => ∃ v, e = .returned (.tuple #[v, .int .i64 0]) ∧
    w'.ownsRow w.heap.size 5 1 v (num N).length (bys (num N)) ∧ Below w.heap.size w w' := by
  subst hM; exact Number_ok N w hN
theorem Number_own (N : Nat) (M : Int) (hM : M = N) (w : World) (hN : N ≤ 4294967295) : Calls Try.prog 19 #[.int .i64 M] w fun e w' => ∃ A c, e = .returned (.tuple #[.slice A (num N).length c, .int .i64 0]) ∧
    OwnB 5 w.heap.size w' A c (num N) ∧ Below w.heap.size w w' := by
  refine (Number_at N M hM w hN).mono fun e w' ⟨v, he, ho, hb⟩ => ?_
  obtain ⟨A', c', rfl, h⟩ := OwnB.of rfl ho
  exact ⟨A', c', he, h, hb⟩
theorem WireShort_walk (n m : Int) (w : World) (h0 : -9223372036854775808 ≤ n) (h1 : n ≤ 9223372036854775807) (h2 : -9223372036854775808 ≤ m) (h3 : m ≤ 9223372036854775807) :
    Calls Try.prog 6 #[.int .i64 n, .int .i64 m] w fun e w' => e = .returned (.bool true) ∧ Below w.heap.size w w' := by
  go_enter Try.func6, Try.ntmps6
  repeat' ((fail_if_success at_builtin); (fail_if_success at_make); (first | go_values | go_skip | go_guarded | go_step | go_upon | go_back))
  refine ((Picked_ok n 4294967296 4294967296 rfl _ h0 h1 (by omega) (by omega))).mono ?_; rintro e_ w_ ⟨rfl, rfl⟩; dsimp only
  repeat' ((fail_if_success at_builtin); (fail_if_success at_make); (first | go_values | go_skip | go_guarded | go_step | go_upon | go_back))
  refine ((Picked_ok m 4294967296 4294967296 rfl _ h2 h3 (by omega) (by omega))).mono ?_; rintro e_ w_ ⟨rfl, rfl⟩; dsimp only
  have hp := pk_lt n (show 0 < 4294967296 by omega)
  have hq := pk_lt m (show 0 < 4294967296 by omega)
  generalize pk n 4294967296 = p at *
  generalize pk m 4294967296 = q at *
  repeat' ((fail_if_success at_builtin); (fail_if_success at_make); (first | go_values | go_skip | go_guarded | go_step | go_upon | go_back))
  refine ((Number_at (min p q) _ (by split <;> omega) _ (by omega))).mono ?_; rintro e_ w1 ⟨v1, rfl, hown1, hb1⟩; dsimp only
  repeat' ((fail_if_success at_builtin); (fail_if_success at_make); (first | go_values | go_skip | go_guarded | go_step | go_upon | go_back))
  refine ((Number_at (max p q) _ (by split <;> omega) _ (by omega))).mono ?_; rintro e_ w2 ⟨v2, rfl, hown2, hb2⟩; dsimp only
  obtain ⟨A1, c1, rfl, _, _⟩ := Rd.of_own' hown1
  obtain ⟨A2, c2, rfl, _, _⟩ := Rd.of_own' hown2
  have hm1 := num_mono (min p q) (max p q) (by omega)
  have hm2 := num_bl (max p q)
  have hmx : ∀ x y : Nat, (if (x : Int) < y then (y : Int) else x) = ((max x y : Nat) : Int) := by intro x y; split <;> omega
  have hbl7 : bl (max p q) ≤ 32 := by
    have key : ∀ (k n : Nat), n < 2 ^ k → bl n ≤ k := by
      intro k
      induction k with
      | zero => intro n h; obtain rfl : n = 0 := by simpa using h
                rw [bl_0]; omega
      | succ k ih =>
        intro n h
        rcases Nat.eq_zero_or_pos n with rfl | h0
        · rw [bl_0]; omega
        · rw [bl_s h0]; have := ih (n / 2) (by rw [Nat.pow_succ] at h; omega); omega
    exact key 32 _ (by omega)
  have hMb : max p q ≤ 4294967295 := by omega
  generalize hM : max p q = M at *
  have HM2 := Lib.hid hm2; clear hm2
  have HMX := Lib.hid hmx; clear hmx
  have HMM := Lib.hid hM; clear hM
  repeat' ((fail_if_success at_builtin); (fail_if_success at_make); (first | go_values | go_skip | go_guarded | go_step | go_upon | go_back))
  go_loop [9, 10] (fun b k => ∃ B K : Nat, b = .int .i64 B ∧ k = .int .i64 K ∧ K ≤ 4294967295 ∧ B + bl K = bl M) (fun _ k => (intOf k).toNat)
  case atStart => 
    refine ⟨0, M, rfl, ?_, by omega, by omega⟩
    have := HMM.out
    congr 1; split <;> omega
  case round =>
    obtain ⟨B, K, rfl, rfl, hK, hB⟩ := hrel
    have HB := Lib.hid hB; clear hB
    by_cases h : 0 < K
    · have hBb : B ≤ 32 := by have := HB.out; omega
      have HS := Lib.hid (bl_s h)
      repeat' ((fail_if_success at_builtin); (fail_if_success at_make); (first | go_values | go_skip | go_guarded | go_step | go_upon | go_back))
      go_round
      case rel => exact ⟨B + 1, K / 2, by go_num, by go_num, by omega, by have := HB.out; rw [HS.out] at this; omega⟩
      case measure => simp [intOf]; omega
    · have hBl : B = bl M := by
        have h1 := HB.out
        obtain rfl : K = 0 := by omega
        rw [bl_0] at h1; omega
      have HBl := Lib.hid hBl; clear hBl
      have hBb : B ≤ 32 := by have := HBl.out; omega
      have hle : ((num (min p q)).length : Int) ≤ (num M).length := by omega
      repeat' ((fail_if_success at_builtin); (fail_if_success at_make); (first | go_values | go_skip | go_guarded | go_step | go_upon | go_back))
      go_ret
      refine ⟨?_, hb1.trans (hb2.mono hb1.size)⟩
      have hlen : ((num M).length : Int) = if 1 < ((B : Int) + 6) / 7 then ((B : Int) + 6) / 7 else 1 := by
        have h1 := HM2.out; have h2 := HBl.out
        split <;> omega
      show Ending.returned (.bool (((num M).length : Int) == if 1 < ((B : Int) + 6) / 7 then ((B : Int) + 6) / 7 else 1)) = _
      rw [beq_iff_eq.2 hlen]
end Go.Proofs.Ytgdfcgneafffhaa
