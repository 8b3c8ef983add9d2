/- sha.Pad and hex.Check. Conditions: the sizes. -/
import Derived.Test.YtefhbgbhknobjaaDigP
import Derived.Test.YtefhbgbhknobjaaTurns
import Derived.Deep.LoopGhost
namespace Go.Proofs.Ytefhbgbhknobjaa
open Go.RowKit
set_option linter.unusedVariables false
set_option linter.unusedSimpArgs false
set_option maxRecDepth 20000

theorem be_val2 (n k j : Nat) (hj : j + k = 7) : 8 * (n : Int) / 2 ^ (8 * j) % 256 = ((UInt8.ofNat (8 * n / 256 ^ (7 - k))).toNat : Int) := by
  have h := be_val n k (by omega)
  rw [show 56 - 8 * k = 8 * j by omega] at h
  rw [Int.mul_comm]; exact h

/-- hex.Check: what it answers -/
def hexC (l : List UInt8) : Nat := if l.length ≠ 64 then 1 else (hexB l).2
theorem hCheck_ok (s : ByteArray) (w : World) (hs : s.size ≤ 140737488351232) :
    Calls Try.prog 16 #[.string s] w fun e w' => e = .returned (.int .i64 (hexC s.data.toList)) ∧ Below w.heap.size w w' := by
  have hsz : s.data.toList.length = s.size := by rw [Array.length_toList]; rfl
  by_cases h64 : s.size = 64
  · have hb : ((s.size : Int) != 64) = false := by rw [bne_eq_false_iff_eq]; omega
    have hfin : hexC s.data.toList = (hexB s.data.toList).2 := by rw [hexC, if_neg (by omega)]
    have HF := Lib.hid hfin
    clear hfin hsz h64
    go_enter Try.func16, Try.ntmps16
    repeat' ((fail_if_success at_builtin); (fail_if_success at_make); (first | go_values | go_skip | go_guarded | go_step | go_upon | go_back))
    refine ((hBytes_ok s _ hs)).mono ?_; rintro e_ w1 ⟨A1, c1, rfl, ho1, hb1⟩; dsimp only
    repeat' ((fail_if_success at_builtin); (fail_if_success at_make); (first | go_values | go_skip | go_guarded | go_step | go_upon | go_back))
    go_ret
    rw [HF.out]
    exact ⟨rfl, hb1⟩
  · have hb : ((s.size : Int) != 64) = true := by rw [bne_iff_ne]; omega
    have hfin : hexC s.data.toList = 1 := by rw [hexC, if_pos (by omega)]
    have HF := Lib.hid hfin
    clear hfin hsz h64
    go_enter Try.func16, Try.ntmps16
    repeat' ((fail_if_success at_builtin); (fail_if_success at_make); (first | go_values | go_skip | go_guarded | go_step | go_upon | go_back))
    go_ret
    rw [HF.out]
    exact ⟨rfl, Below.refl _ _⟩
end Go.Proofs.Ytefhbgbhknobjaa
