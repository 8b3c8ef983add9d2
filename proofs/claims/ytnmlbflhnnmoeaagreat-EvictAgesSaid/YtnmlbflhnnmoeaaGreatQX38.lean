/- Lemmas of the proof. Conditions: as stated. -/
import Derived.Test.YtnmlbflhnnmoeaaGreatQX30
import Derived.Test.YtnmlbflhnnmoeaaGreatQX31
set_option linter.unusedVariables false
set_option linter.unusedSimpArgs false
set_option maxRecDepth 100000
namespace Go.Proofs.YtnmlbflhnnmoeaaGreat
open Go.RowKit
section
variable {w w6 w7 w8:World} {base:Nat} {v1 v1' v2 v2':Value} {s:StoP} {N:Nat→Prop}
end
theorem ki {w:World} {g g' k:Nat} (h:g≠g') {a b c d:Value}:((((w.setCell ⟨g',0,none⟩ a).setCell ⟨g',1,none⟩ b).setCell ⟨g',2,none⟩ c).setCell ⟨g',3,none⟩ d).cell? ⟨g,k,none⟩=w.cell? ⟨g,k,none⟩:=by
 refine(World.cell?_of_block (Below.heap_setCell _ _ d g h)).trans ((World.cell?_of_block (Below.heap_setCell _ _ c g h)).trans ((World.cell?_of_block (Below.heap_setCell _ _ b g h)).trans (World.cell?_of_block (Below.heap_setCell _ _ a g h))))
end Go.Proofs.YtnmlbflhnnmoeaaGreat
