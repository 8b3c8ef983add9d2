/- store.Put, Get, HoldBlob, Hold, of stores that may be. Conditions: that it may be done. -/
import Derived.Test.YtpcpffkbbhmahaaGreatSWk
namespace Go.Proofs.YtpcpffkbbhmahaaGreat
open Go.RowKit
set_option linter.unusedVariables false
set_option linter.unusedSimpArgs false
set_option maxRecDepth 100000

end Go.Proofs.YtpcpffkbbhmahaaGreat
