/- index.Find, index.Put. Conditions: entries that may be. -/
import Derived.Test.YtpcpffkbbhmahaaGreatBsf
import Derived.Test.YtpcpffkbbhmahaaGreatBsL
import Derived.Test.YtpcpffkbbhmahaaGreatChk
import Derived.Test.YtpcpffkbbhmahaaGreatCpy
import Derived.Test.YtpcpffkbbhmahaaGreatNxt
import Derived.Test.YtpcpffkbbhmahaaGreatDel4
namespace Go.Proofs.YtpcpffkbbhmahaaGreat
open Go.RowKit
set_option linter.unusedVariables false
set_option linter.unusedSimpArgs false
set_option maxRecDepth 100000

end Go.Proofs.YtpcpffkbbhmahaaGreat
