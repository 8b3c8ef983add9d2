/- Three facts of the whole program, reckoned once. No condition. -/
import Derived.Test.YtpcpffkbbhmahaaDoorRows
import Derived.ProofKit
namespace Go.Proofs.YtpcpffkbbhmahaaDoor
open Go.RowKit
set_option linter.unusedVariables false
set_option linter.unusedSimpArgs false
theorem facts3 : (Tryd.prog.mayEnter && !Tryd.prog.liftsFinal && (Tryd.prog.make == some .cut)) = true := by kernel_rfl
theorem mayE : Tryd.prog.mayEnter = true := by have := facts3; simp only [Bool.and_eq_true] at this; exact this.1.1
theorem lft : Tryd.prog.liftsFinal = false := by have := facts3; simp only [Bool.and_eq_true, Bool.not_eq_true'] at this; exact this.1.2
theorem mk : Tryd.prog.make = some .cut := by have := facts3; simp only [Bool.and_eq_true, beq_iff_eq] at this; exact this.2
end Go.Proofs.YtpcpffkbbhmahaaDoor
