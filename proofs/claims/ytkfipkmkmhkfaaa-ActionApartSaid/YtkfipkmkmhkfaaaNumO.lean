/- wire.Number's bytes, owned. Condition: the number fits. -/
import Derived.Test.YtkfipkmkmhkfaaaNumP
namespace Go.Proofs.Ytkfipkmkmhkfaaa
open Go.RowKit
set_option linter.unusedVariables false
set_option linter.unusedSimpArgs false
set_option maxRecDepth 20000
theorem Number_at (N : Nat) (M : Int) (hM : M = N) (w : World) (hN : N ≤ 4294967295) : Calls Try.prog 48 #[.int .i64 M] w fun e w' => ∃ v, e = .returned (.tuple #[v, .int .i64 0]) ∧
    w'.ownsRow w.heap.size 5 1 v (num N).length (bys (num N)) ∧ Below w.heap.size w w' := by
  subst hM; exact Number_ok N w hN
theorem Number_own (N : Nat) (M : Int) (hM : M = N) (w : World) (hN : N ≤ 4294967295) : Calls Try.prog 48 #[.int .i64 M] w fun e w' => ∃ A c, e = .returned (.tuple #[.slice A (num N).length c, .int .i64 0]) ∧
    OwnB 5 w.heap.size w' A c (num N) ∧ Below w.heap.size w w' := by
  refine (Number_at N M hM w hN).mono fun e w' ⟨v, he, ho, hb⟩ => ?_
  obtain ⟨A', c', rfl, h⟩ := OwnB.of rfl ho
  exact ⟨A', c', he, h, hb⟩
end Go.Proofs.Ytkfipkmkmhkfaaa
