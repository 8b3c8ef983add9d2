/- Lemmas of a proof, made shorter by a program. Conditions: none, or as each states. -/
import Derived.Test.YtngfnjekjfeacaaGreatQI21
namespace Go.Proofs.YtngfnjekjfeacaaGreat
open Go.RowKit
set_option linter.unusedVariables false
set_option linter.unusedSimpArgs false
set_option maxRecDepth 100000
def Kn (r : Option Nat) : Value := match r with | some i => .tuple #[.int .i64 (i : Int), .int .i64 0] | none => .tuple #[.int .i64 0, .int .i64 5]
end Go.Proofs.YtngfnjekjfeacaaGreat
