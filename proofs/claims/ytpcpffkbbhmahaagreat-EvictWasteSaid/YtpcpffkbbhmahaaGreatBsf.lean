/- slices.BinarySearchFunc of blobs, of entries. Conditions: the sizes. -/
import Derived.Test.YtpcpffkbbhmahaaGreatIns
import Derived.Test.YtpcpffkbbhmahaaGreatSort
namespace Go.Proofs.YtpcpffkbbhmahaaGreat
open Go.RowKit
set_option linter.unusedVariables false
set_option linter.unusedSimpArgs false
set_option maxRecDepth 100000

theorem cmp_zero : ∀ x y : List UInt8, Lib.compareBytes x y = 0 ↔ x = y
  | [], [] => by simp [Lib.compareBytes]
  | [], _ :: _ => by simp [Lib.compareBytes]
  | _ :: _, [] => by simp [Lib.compareBytes]
  | a :: x, b :: y => by
    rw [Lib.compareBytes]
    rcases u8_tri a b with h | h | h
    · rw [if_pos h]
      exact ⟨fun e => by omega, fun e => by cases e; exact absurd h (UInt8.lt_irrefl _)⟩
    · subst h
      rw [if_neg (UInt8.lt_irrefl _), if_neg (UInt8.lt_irrefl _), cmp_zero x y]
      simp
    · rw [if_neg (UInt8.lt_asymm h), if_pos h]
      exact ⟨fun e => by omega, fun e => by cases e; exact absurd h (UInt8.lt_irrefl _)⟩
end Go.Proofs.YtpcpffkbbhmahaaGreat
