/- Three facts of the whole program, reckoned once. No condition. -/
import Derived.Test.YtmjcoebfldmgnaaGreatRows
import Derived.ProofKit
namespace Go.Proofs.YtmjcoebfldmgnaaGreat
open Go.RowKit
set_option linter.unusedVariables false
set_option linter.unusedSimpArgs false
theorem facts3 : (Tryz.prog.mayEnter && !Tryz.prog.liftsFinal && (Tryz.prog.make == some .cut)) = true := by kernel_rfl
theorem mayE : Tryz.prog.mayEnter = true := by have := facts3; simp only [Bool.and_eq_true] at this; exact this.1.1
theorem lft : Tryz.prog.liftsFinal = false := by have := facts3; simp only [Bool.and_eq_true, Bool.not_eq_true'] at this; exact this.1.2
theorem mk : Tryz.prog.make = some .cut := by have := facts3; simp only [Bool.and_eq_true, beq_iff_eq] at this; exact this.2
end Go.Proofs.YtmjcoebfldmgnaaGreat
