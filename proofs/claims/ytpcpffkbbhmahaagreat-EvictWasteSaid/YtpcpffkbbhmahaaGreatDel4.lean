/- slices.Delete of one blob, of one entry. Conditions: the sizes. -/
import Derived.Test.YtpcpffkbbhmahaaGreatBsL
namespace Go.Proofs.YtpcpffkbbhmahaaGreat
open Go.RowKit
set_option linter.unusedVariables false
set_option linter.unusedSimpArgs false
set_option maxRecDepth 100000

end Go.Proofs.YtpcpffkbbhmahaaGreat
