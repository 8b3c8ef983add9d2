/- Lemmas of the proof. Conditions: as stated. -/
import Derived.Test.YtfmnggcfhalfnaaGreatRows
import Derived.ProofKit
set_option linter.unusedVariables false
set_option linter.unusedSimpArgs false
namespace Go.Proofs.YtfmnggcfhalfnaaGreat
open Go.RowKit
theorem uu:(Tryz.prog.mayEnter&& !Tryz.prog.liftsFinal&&(Tryz.prog.make==some .cut))=true:=by kernel_rfl
theorem Qj:Tryz.prog.mayEnter=true:=by have:=uu;simp only [Bool.and_eq_true]at this;exact this.1.1
theorem lft:Tryz.prog.liftsFinal=false:=by have:=uu;simp only [Bool.and_eq_true,Bool.not_eq_true']at this;exact this.1.2
theorem mk:Tryz.prog.make=some .cut:=by have:=uu;simp only [Bool.and_eq_true,beq_iff_eq]at this;exact this.2
end Go.Proofs.YtfmnggcfhalfnaaGreat
