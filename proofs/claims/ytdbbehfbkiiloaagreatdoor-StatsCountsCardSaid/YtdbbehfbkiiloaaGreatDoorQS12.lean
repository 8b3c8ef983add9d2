/- Lemmas of the proof. Conditions: as stated. -/
import Derived.Test.YtdbbehfbkiiloaaGreatDoorQS11
import Derived.Shelf.Spec.SlicesInsertGrow
set_option linter.unusedVariables false
set_option linter.unusedSimpArgs false
set_option maxRecDepth 100000
namespace Go.Proofs.YtdbbehfbkiiloaaGreatDoor
open Go.RowKit
theorem RwX.lower {α:Type} {S:Shp α} {e:TypeId} {w:World} {v:Value} {N:Nat→Prop} {base base':Nat} {l:List α} (h:RwX S e w base v l N) (hb:base'≤base):RwX S e w base' v l N:=by
 obtain⟨ps,h1,h2,h3,h4⟩:=h;exact⟨ps,h1,h2,zg h3 hb,h4⟩
end Go.Proofs.YtdbbehfbkiiloaaGreatDoor
