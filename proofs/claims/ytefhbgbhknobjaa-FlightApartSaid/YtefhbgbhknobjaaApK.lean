/- The key of another flight is none of the seven. No condition. -/
import Derived.Test.YtefhbgbhknobjaaFly
namespace Go.Proofs.Ytefhbgbhknobjaa
set_option linter.unusedVariables false
set_option linter.unusedSimpArgs false
set_option maxRecDepth 100000

/-- the key's bytes: 'another flight' -/
def apS : List UInt8 := shaS [97, 110, 111, 116, 104, 101, 114, 32, 102, 108, 105, 103, 104, 116]
theorem apS_key : ∀ k, k < 7 → keyS k ≠ apS := by
  have key : ∀ k : Fin 7, keyS k.val ≠ apS := by decide +kernel
  exact fun k h => key ⟨k, h⟩
end Go.Proofs.Ytefhbgbhknobjaa
