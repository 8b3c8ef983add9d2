/- blob.Copy, index.Copy: nothing is shared. Conditions: the sizes. -/
import Derived.Test.YtpcpffkbbhmahaaGreatApR
import Derived.Test.YtpcpffkbbhmahaaGreatRead
import Derived.Test.YtpcpffkbbhmahaaGreatRis
namespace Go.Proofs.YtpcpffkbbhmahaaGreat
open Go.RowKit
set_option linter.unusedVariables false
set_option linter.unusedSimpArgs false
set_option maxRecDepth 100000

end Go.Proofs.YtpcpffkbbhmahaaGreat
