/- Lemmas of the proof. Conditions: as stated. -/
import Derived.Test.YtfmnggcfhalfnaaGreatQW19
set_option linter.unusedVariables false
set_option linter.unusedSimpArgs false
set_option maxRecDepth 100000
namespace Go.Proofs.YtfmnggcfhalfnaaGreat
open Go.RowKit
def ZF (r:Option Nat):Value:=match r with | some i=> .tuple #[.int .i64 i,.int .i64 0] | none=> .tuple #[.int .i64 0,.int .i64 5]
end Go.Proofs.YtfmnggcfhalfnaaGreat
