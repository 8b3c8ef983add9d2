/- keep.picked. Conditions: the numbers fit. -/
import Derived.Test.YtefhbgbhknobjaaMem
import Derived.Test.YtefhbgbhknobjaaProg
namespace Go.Proofs.Ytefhbgbhknobjaa
open Go.RowKit
set_option linter.unusedVariables false
set_option linter.unusedSimpArgs false

/-- a number below m, from whatever number -/
def pk (n : Int) (m : Nat) : Nat := ((if n < 0 then -(n + 1) else n) % m).toNat
theorem pk_lt (n : Int) {m : Nat} (h : 0 < m) : pk n m < m := by
  unfold pk
  have := Int.emod_lt_of_pos (if n < 0 then -(n + 1) else n) (show (0 : Int) < m by omega)
  omega
theorem pk_id (n m : Nat) (h : n < m) : pk n m = n := by
  unfold pk; rw [if_neg (by omega)]; rw [Int.emod_eq_of_lt (by omega) (by omega)]; rfl

theorem Picked_ok (n : Int) (m : Nat) (M : Int) (hM : M = m) (w : World) (h0 : -9223372036854775808 ≤ n) (h1 : n ≤ 9223372036854775807) (hm : 0 < m) (hm2 : m ≤ 9223372036854775807) :
    Calls Try.prog 12 #[.int .i64 n, .int .i64 M] w fun e w' => e = .returned (.int .i64 (pk n m : Nat)) ∧ w = w' := by
  by_cases hn : n < 0
  · go_enter Try.func12, Try.ntmps12
    repeat' ((fail_if_success at_builtin); (fail_if_success at_make); (first | go_values | go_skip | go_guarded | go_step | go_upon | go_back))
    go_ret
    refine ⟨?_, rfl⟩
    show Ending.returned (.int .i64 (-((n + 1).tmod m))) = _
    unfold pk; rw [if_pos hn, ← Int.neg_tmod, Int.tmod_eq_emod_of_nonneg (by omega)]
    have := Int.emod_nonneg (-(n + 1)) (show (m : Int) ≠ 0 by omega)
    congr 2; omega
  · go_enter Try.func12, Try.ntmps12
    repeat' ((fail_if_success at_builtin); (fail_if_success at_make); (first | go_values | go_skip | go_guarded | go_step | go_upon | go_back))
    go_ret
    refine ⟨?_, rfl⟩
    show Ending.returned (.int .i64 (n % m)) = _
    unfold pk; rw [if_neg hn]
    have := Int.emod_nonneg n (show (m : Int) ≠ 0 by omega)
    congr 2; omega

end Go.Proofs.Ytefhbgbhknobjaa
