/- wire.Number gives a number's bytes. Condition: the number fits. -/
import Derived.Test.YtefhbgbhknobjaaMem
import Derived.Test.YtefhbgbhknobjaaNumM
import Derived.Test.YtefhbgbhknobjaaProg
namespace Go.Proofs.Ytefhbgbhknobjaa
open Go.RowKit
set_option linter.unusedVariables false
set_option linter.unusedSimpArgs false
theorem elU8 : El Try.prog 37 5 1 1 := El.mk' (z := .int .u8 0) Try.underlying37 (by kernel_rfl) rfl (by omega) (by omega)

theorem or128 (m : Nat) (h : m < 128) : bits .or .u8 (m : Int) 128 = ((m + 128 : Nat) : Int) := by
  have : ∀ m : Nat, m < 128 → bits .or .u8 (m : Int) 128 = ((m + 128 : Nat) : Int) := by decide +kernel
  exact this m h

end Go.Proofs.Ytefhbgbhknobjaa
