/- Lemmas of a proof, made shorter by a program. Conditions: none, or as each states. -/
import Derived.Test.YtngfnjekjfeacaaGreatRows
import Derived.ProofKit
namespace Go.Proofs.YtngfnjekjfeacaaGreat
open Go.RowKit
set_option linter.unusedVariables false
set_option linter.unusedSimpArgs false
theorem Ze : (Tryz.prog.mayEnter && !Tryz.prog.liftsFinal && (Tryz.prog.make == some .cut)) = true := by kernel_rfl
theorem Xi : Tryz.prog.mayEnter = true := by have := Ze; simp only [Bool.and_eq_true] at this; exact this.1.1
theorem lft : Tryz.prog.liftsFinal = false := by have := Ze; simp only [Bool.and_eq_true, Bool.not_eq_true'] at this; exact this.1.2
theorem mk : Tryz.prog.make = some .cut := by have := Ze; simp only [Bool.and_eq_true, beq_iff_eq] at this; exact this.2
end Go.Proofs.YtngfnjekjfeacaaGreat
