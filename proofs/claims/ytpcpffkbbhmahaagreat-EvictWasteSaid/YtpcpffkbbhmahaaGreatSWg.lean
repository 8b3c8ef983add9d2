/- store.Get, HoldBlob, Hold, of stores that may be. Conditions: that it may be done. -/
import Derived.Test.YtpcpffkbbhmahaaGreatSWp
namespace Go.Proofs.YtpcpffkbbhmahaaGreat
open Go.RowKit
set_option linter.unusedVariables false
set_option linter.unusedSimpArgs false
set_option maxRecDepth 100000

theorem cell_sets4 {w : World} {g g' k : Nat} (h : g ≠ g') {a b c d : Value} : ((((w.setCell ⟨g', 0, none⟩ a).setCell ⟨g', 1, none⟩ b).setCell ⟨g', 2, none⟩ c).setCell ⟨g', 3, none⟩ d).cell? ⟨g, k, none⟩ = w.cell? ⟨g, k, none⟩ := by
  refine (World.cell?_of_block (Below.heap_setCell _ _ d g h)).trans ((World.cell?_of_block (Below.heap_setCell _ _ c g h)).trans ((World.cell?_of_block (Below.heap_setCell _ _ b g h)).trans (World.cell?_of_block (Below.heap_setCell _ _ a g h))))
theorem own_sets4 {w : World} {base n g : Nat} {e : TypeId} {size : Nat} {v : Value} {xs : List Value} (h : w.ownsRow base e size v n xs) (hg : g < base) (a b c d : Value) :
    ((((w.setCell ⟨g, 0, none⟩ a).setCell ⟨g, 1, none⟩ b).setCell ⟨g, 2, none⟩ c).setCell ⟨g, 3, none⟩ d).ownsRow base e size v n xs := by
  have hne : v.ownBlock ≠ some g := fun e => by have := (h.lt g e).1; omega
  exact own_other (own_other (own_other (own_other h hne) hne) hne) hne
theorem fE_at {l : List EntP} {i : Nat} {k : List UInt8} (hr : RisesBy (·.key) l) (hi : i < l.length) (hk : l[i].key = k) : l.findIdx? (fun x => x.key == k) = some i := by
  rw [List.findIdx?_eq_some_iff_getElem]
  refine ⟨hi, by simp [hk], fun j hj => ?_⟩
  have := List.pairwise_iff_getElem.1 hr j i (by omega) hi hj
  rw [← hk]
  simpa using bl_ne this
theorem fB_at {l : List BlobP} {i : Nat} {k : List UInt8} (hr : RisesBy (·.dig) l) (hi : i < l.length) (hk : l[i].dig = k) : l.findIdx? (fun x => x.dig == k) = some i := by
  rw [List.findIdx?_eq_some_iff_getElem]
  refine ⟨hi, by simp [hk], fun j hj => ?_⟩
  have := List.pairwise_iff_getElem.1 hr j i (by omega) hi hj
  rw [← hk]
  simpa using bl_ne this
theorem Rw.ent_at' {w : World} {A : Option Addr} {l : List EntP} {k : Nat} {x : EntP} (h : Rw EntS w A l) (hx : l[k]? = some x) :
    ∃ b off B c, A = some ⟨b, off, none⟩ ∧ b < w.heap.size ∧ w.cell? ⟨b, off + k * 4, none⟩ = some (.string ⟨x.key.toArray⟩) ∧ w.cell? ⟨b, off + k * 4 + 1, none⟩ = some (.slice B x.parts.length c) ∧
      w.cell? ⟨b, off + k * 4 + 2, none⟩ = some (.int .i64 (x.pins : Int)) ∧ w.cell? ⟨b, off + k * 4 + 3, none⟩ = some (.int .i64 (x.stamp : Int)) ∧ Sl w 3 B x.parts.length c (pcs x.parts) := by
  obtain ⟨hk, rfl⟩ := List.getElem?_eq_some_iff.1 hx
  exact h.ent_at k hk
theorem getS_at (s : StoP) (i : Nat) (x : EntP) (hi : i < s.ents.length) : (getS s i x).ents[i]? = some { x with stamp := s.clock + 1 } := by
  unfold getS
  simp [hi]
end Go.Proofs.YtpcpffkbbhmahaaGreat
