/- Lemmas of the proof. Conditions: as stated. -/
import Derived.Test.YtdbbehfbkiiloaaGreatDoorQS19
set_option linter.unusedVariables false
set_option linter.unusedSimpArgs false
set_option maxRecDepth 100000
namespace Go.Proofs.YtdbbehfbkiiloaaGreatDoor
open Go.RowKit
def Qv (r:Option Nat):Value:=match r with | some i=> .tuple #[.int .i64 i,.int .i64 0] | none=> .tuple #[.int .i64 0,.int .i64 5]
end Go.Proofs.YtdbbehfbkiiloaaGreatDoor
