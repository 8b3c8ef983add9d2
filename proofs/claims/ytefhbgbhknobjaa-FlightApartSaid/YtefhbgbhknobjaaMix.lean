/- word.rotated and word.Mix. Conditions: the numbers fit. -/
import Derived.Test.YtefhbgbhknobjaaMem
import Derived.Test.YtefhbgbhknobjaaProg
namespace Go.Proofs.Ytefhbgbhknobjaa
open Go.RowKit
set_option linter.unusedVariables false
set_option linter.unusedSimpArgs false

def mix32 (x : BitVec 32) : Nat → BitVec 32
  | 0 => x.rotateRight 2 ^^^ x.rotateRight 13 ^^^ x.rotateRight 22
  | 1 => x.rotateRight 6 ^^^ x.rotateRight 11 ^^^ x.rotateRight 25
  | 2 => x.rotateRight 7 ^^^ x.rotateRight 18 ^^^ x >>> 3
  | _ => x.rotateRight 17 ^^^ x.rotateRight 19 ^^^ x >>> 10

end Go.Proofs.Ytefhbgbhknobjaa
