/- Lemmas of the proof. Conditions: as stated. -/
import Derived.Test.YtpbacomdoddhdaaGreatRows
import Derived.ProofKit
set_option linter.unusedVariables false
set_option linter.unusedSimpArgs false
namespace Go.Proofs.YtpbacomdoddhdaaGreat
open Go.RowKit
theorem Ko : (Tryz.prog.mayEnter && !Tryz.prog.liftsFinal && (Tryz.prog.make == some .cut)) = true := by kernel_rfl
theorem J8 : Tryz.prog.mayEnter = true := by have := Ko; simp only [Bool.and_eq_true] at this; exact this.1.1
theorem lft : Tryz.prog.liftsFinal = false := by have := Ko; simp only [Bool.and_eq_true, Bool.not_eq_true'] at this; exact this.1.2
theorem mk : Tryz.prog.make = some .cut := by have := Ko; simp only [Bool.and_eq_true, beq_iff_eq] at this; exact this.2
end Go.Proofs.YtpbacomdoddhdaaGreat
