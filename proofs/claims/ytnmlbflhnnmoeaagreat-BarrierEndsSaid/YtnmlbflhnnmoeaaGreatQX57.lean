/- Lemmas of the proof. Conditions: as stated. -/
import Derived.Test.YtnmlbflhnnmoeaaGreatQX56
set_option linter.unusedVariables false
set_option linter.unusedSimpArgs false
set_option maxRecDepth 100000
namespace Go.Proofs.YtnmlbflhnnmoeaaGreat
open Go.RowKit Go.Maps
theorem Ul (l:List RawP):∀x∈(sto l).ents,∃j,j<7∧x.key=keyS j:=fun x hx=>((Q9 l).eone x ((zz _ _).mem_iff.1 hx)).1
end Go.Proofs.YtnmlbflhnnmoeaaGreat
