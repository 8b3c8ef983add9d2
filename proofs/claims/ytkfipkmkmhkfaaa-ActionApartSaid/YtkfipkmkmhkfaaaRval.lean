/- A Raw thing as a value. No condition. -/
import Derived.Test.YtkfipkmkmhkfaaaRaw
namespace Go.Proofs.Ytkfipkmkmhkfaaa
open Go.RowKit
set_option linter.unusedVariables false
set_option linter.unusedSimpArgs false

def rval (r : RawP) : Value := .agg #[.int .i64 r.kind, .int .i64 r.a, .int .i64 r.b, .string r.text]
end Go.Proofs.Ytkfipkmkmhkfaaa
