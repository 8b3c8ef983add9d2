/- sweep.Next; SweepRises walked. Conditions: the sizes. -/
import Derived.Test.YtpcpffkbbhmahaaGreatFly
import Derived.Test.YtpcpffkbbhmahaaGreatStore
namespace Go.Proofs.YtpcpffkbbhmahaaGreat
open Go.RowKit
set_option linter.unusedVariables false
set_option linter.unusedSimpArgs false
set_option maxRecDepth 100000

theorem gt_eq (x y : List UInt8) : Op.bytesLess y x = (!Op.bytesLess x y && !(x == y)) := by
  rcases bl_tri x y with h | h | h
  · rw [h, bl_asym h]; rfl
  · subst h; rw [bl_irr]; simp
  · rw [h, bl_asym h, beq_eq_false_iff_ne.2 (bl_ne h).symm]; rfl
/-- what a finder returns -/
def fndR (r : Option Nat) : Value := match r with | some i => .tuple #[.int .i64 (i : Int), .int .i64 0] | none => .tuple #[.int .i64 0, .int .i64 5]
/-- behind which digest one stands -/
def atK (l : List BlobP) : Nat → List UInt8
  | 0 => []
  | j + 1 => match l[j]? with | some b => b.dig | none => []
theorem next_at {l : List BlobP} (h : RisesBy (·.dig) l) (h0 : ∀ b ∈ l, b.dig ≠ []) (j : Nat) (hj : j < l.length) : l.findIdx? (fun b => Op.bytesLess (atK l j) b.dig) = some j := by
  have hp := List.pairwise_iff_getElem.1 h
  rw [List.findIdx?_eq_some_iff_getElem]
  cases j with
  | zero =>
    refine ⟨hj, ?_, fun i hi => absurd hi (by omega)⟩
    show Op.bytesLess [] _ = true
    rw [bl_nil]
    have := h0 _ (List.getElem_mem hj)
    cases hd : l[0].dig with
    | nil => exact absurd hd this
    | cons a t => rfl
  | succ j =>
    have hj' : j < l.length := by omega
    have hat : atK l (j + 1) = l[j].dig := by rw [atK, List.getElem?_eq_getElem hj']
    rw [hat]
    refine ⟨hj, hp j (j + 1) hj' hj (by omega), fun i hi => ?_⟩
    rcases Nat.lt_or_ge i j with h1 | h1
    · rw [bl_asym (hp i j (by omega) hj' h1)]; simp
    · obtain rfl : i = j := by omega
      rw [bl_irr]; simp
theorem next_end {l : List BlobP} (h : RisesBy (·.dig) l) : l.findIdx? (fun b => Op.bytesLess (atK l l.length) b.dig) = none := by
  have hp := List.pairwise_iff_getElem.1 h
  rw [List.findIdx?_eq_none_iff]
  intro x hx
  obtain ⟨i, hi, rfl⟩ := List.mem_iff_getElem.1 hx
  obtain ⟨j, hj⟩ : ∃ j, l.length = j + 1 := ⟨l.length - 1, by omega⟩
  have hj' : j < l.length := by omega
  have hat : atK l l.length = l[j].dig := by rw [hj, atK, List.getElem?_eq_getElem hj']
  rw [hat]
  rcases Nat.lt_or_ge i j with h1 | h1
  · exact bl_asym (hp i j hi hj' h1)
  · obtain rfl : i = j := by omega
    exact bl_irr _
end Go.Proofs.YtpcpffkbbhmahaaGreat
