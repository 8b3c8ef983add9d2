/- store.HoldBlob, Hold, and what store's functions refuse. Conditions: stores that may be. -/
import Derived.Test.YtpcpffkbbhmahaaGreatSWg
namespace Go.Proofs.YtpcpffkbbhmahaaGreat
open Go.RowKit
set_option linter.unusedVariables false
set_option linter.unusedSimpArgs false
set_option maxRecDepth 100000

/-- pin.Move -/
def mvN (n : Nat) (up : Bool) : Nat := if up then n + 1 else n - 1
theorem mv_le {n : Nat} {up : Bool} (h : if up then n < 5 else 0 < n ∧ n ≤ 5) : mvN n up ≤ 5 := by
  cases up with
  | true => have h' : n < 5 := h; show n + 1 ≤ 5; omega
  | false => have h' : 0 < n ∧ n ≤ 5 := h; show n - 1 ≤ 5; omega
end Go.Proofs.YtpcpffkbbhmahaaGreat
