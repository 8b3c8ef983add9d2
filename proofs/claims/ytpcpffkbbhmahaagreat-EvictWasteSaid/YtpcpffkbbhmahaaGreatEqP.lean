/- slices.Equal over parts. Conditions: the sizes. -/
import Derived.Test.YtpcpffkbbhmahaaGreatEnc
namespace Go.Proofs.YtpcpffkbbhmahaaGreat
open Go.RowKit
set_option linter.unusedVariables false
set_option linter.unusedSimpArgs false
set_option maxRecDepth 100000

theorem bytes_ne {s t : ByteArray} (h : ¬ s = t) : (s.toList == t.toList) = false := by
  rw [beq_eq_false_iff_ne, ByteArray.toList_eq, ByteArray.toList_eq]
  intro e; apply h
  cases s; cases t; simp only [ByteArray.mk.injEq]; exact Array.toList_inj.1 e
end Go.Proofs.YtpcpffkbbhmahaaGreat
