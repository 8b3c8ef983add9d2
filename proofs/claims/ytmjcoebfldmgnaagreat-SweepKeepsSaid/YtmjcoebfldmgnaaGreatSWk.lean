/- store.tick, GetBlob, PutBlob, Put, Get, HoldBlob, Hold, of stores that may be. Conditions: that it may be done. store.Put, Get, HoldBlob, Hold, of stores that may be. Conditions: that it may be done. store.Get, HoldBlob, Hold, of stores that may be. Conditions: that it may be done. store.HoldBlob, Hold, and what store's functions refuse. Conditions: stores that may be. -/
import Derived.Test.YtmjcoebfldmgnaaGreatSCk
/-! store.tick, GetBlob, PutBlob, Put, Get, HoldBlob, Hold, of stores that may be. Conditions: that it may be done -/
namespace Go.Proofs.YtmjcoebfldmgnaaGreat
open Go.RowKit
set_option linter.unusedVariables false
set_option linter.unusedSimpArgs false
set_option maxRecDepth 100000

section
variable {w w6 w7 w8 : World} {base : Nat} {v1 v1' v2 v2' : Value} {s : StoP} {N : Nat → Prop}
theorem OwSt.mixB {l : List BlobP} (hv : RwX BlobS 51 w6 base v1 l N) (hN : ∀ b, N b → b < w6.heap.size) (hb : base ≤ w6.heap.size) (h : OwSt w7 w6.heap.size v1' v2 s (fun b => b < w6.heap.size)) (hbl : Below w6.heap.size w6 w7) : OwSt w7 base v1 v2 { s with blobs := l } N :=
  ⟨(hv.wider (fun b hb => hb.imp id (fun e => (h.e.rwo.blk e).1))).below hbl, (h.e.lower hb).wider (fun b hb => .inl (.inl (hb.elim (hN b) (fun e => (hv.rwo.blk e).2)))), fun g e1 e2 => by
    have := (hv.rwo.blk e1).2; have := (h.e.rwo.blk e2).1; omega⟩
theorem OwSt.mixE {l : List EntP} (h : OwSt w7 base v1 v2 s N) (hN : ∀ b, N b → b < w7.heap.size) (hv : RwX EntS 45 w8 w7.heap.size v2' l (fun b => b < w7.heap.size)) (hbs : base ≤ w7.heap.size) (hbl : Below w7.heap.size w7 w8) : OwSt w8 base v1 v2' { s with ents := l } N := by
  have h1 : ∀ g, v2'.ownBlock = some g → w7.heap.size ≤ g := fun g e => (hv.rwo.blk e).1
  have h2 : ∀ g, v1.ownBlock = some g → g < w7.heap.size := fun g e => (h.b.rwo.blk e).2
  refine ⟨RwX.below (RwX.wider h.b (N' := fun g => N g ∨ v2'.ownBlock = some g) fun b hb => ?_) hbl, RwX.wider (hv.lower hbs) (N' := fun g => N g ∨ v1.ownBlock = some g) fun b hb => .inl ?_, fun g e1 e2 => ?_⟩
  · rcases hb with hb | hb
    · exact .inl (.inl hb)
    · exact .inr (h1 b hb)
  · rcases hb with hb | hb
    · exact hN b hb
    · exact h2 b hb
  · have := h1 g e2; have := h2 g e1; omega
theorem OwSt.setX {g k : Nat} (h : OwSt w base v1 v2 s N) (hN : N g) (h1 : v1.ownBlock ≠ some g) (h2 : v2.ownBlock ≠ some g) (u : Value) : OwSt (w.setCell ⟨g, k, none⟩ u) base v1 v2 s N := by
  have hg := grown_set w g k u
  have e1 : ∀ b, some g = some b → v1.ownBlock ≠ some b := fun b e => by rw [← e]; exact h1
  have e2 : ∀ b, some g = some b → v2.ownBlock ≠ some b := fun b e => by rw [← e]; exact h2
  have e3 : ∀ b, some g = some b → N b := fun b e => by cases e; exact hN
  exact ⟨RwX.other h.b hg e1 fun b e => .inl (e3 b e), RwX.other h.e hg e2 fun b e => .inl (e3 b e), h.ne⟩
theorem OwSt.clk (h : OwSt w base v1 v2 s N) (r k : Nat) : OwSt w base v1 v2 { s with room := r, clock := k } N := ⟨h.b, h.e, h.ne⟩
/-- one cell of one element of a row is written anew -/
theorem RwX.set1 {α : Type} {S : Shp α} {e : TypeId} {g cap i j : Nat} {u : Value} {y : α} {l : List α} (h : RwX S e w base (.slice (some ⟨g, 0, none⟩) l.length cap) l N) (hi : i < l.length) (hj : j < S.size)
    (hR : ∀ W cs, S.R W l[i] cs → S.R W y (cs.set j u)) (hlead : ∀ b, ¬ leads b [u]) :
    (∃ v0, w.cell? ⟨g, i * S.size + j, none⟩ = some v0) ∧ w.frozen? ⟨g, i * S.size + j, none⟩ = false ∧
      RwX S e (w.setCell ⟨g, i * S.size + j, none⟩ u) base (.slice (some ⟨g, 0, none⟩) l.length cap) (l.set i y) N ∧ w.grownBy (w.setCell ⟨g, i * S.size + j, none⟩ u) (some g) := by
  obtain ⟨h1, h2, h3, h4⟩ := RwO.set1 (S := S.off N) (u := u) (y := y) h.off hi hj (fun W cs h => ⟨hR W cs h.1, fun b hb ⟨a, n, c, hm, e2⟩ => by
    rcases List.mem_or_eq_of_mem_set hm with h5 | h5
    · exact h.2 b hb ⟨a, n, c, h5, e2⟩
    · exact hlead b ⟨a, n, c, by simp [h5], e2⟩⟩) (fun b hb => absurd hb (hlead b))
  exact ⟨h1, h2, h3.on, h4⟩
theorem not_leads_int (z : Int) (b : Nat) : ¬ leads b [.int .i64 z] := fun ⟨a, n, c, hm, _⟩ => by simp at hm
theorem not_leads_bool (z : Bool) (b : Nat) : ¬ leads b [.bool z] := fun ⟨a, n, c, hm, _⟩ => by simp at hm
theorem OwSt.setB {g cap i j : Nat} {u : Value} {y : BlobP} (h : OwSt w base (.slice (some ⟨g, 0, none⟩) s.blobs.length cap) v2 s N) (hi : i < s.blobs.length) (hj : j < 4)
    (hR : ∀ W cs, BlobS.R W s.blobs[i] cs → BlobS.R W y (cs.set j u)) (hlead : ∀ b, ¬ leads b [u]) :
    (∃ v0, w.cell? ⟨g, i * 4 + j, none⟩ = some v0) ∧ w.frozen? ⟨g, i * 4 + j, none⟩ = false ∧
      OwSt (w.setCell ⟨g, i * 4 + j, none⟩ u) base (.slice (some ⟨g, 0, none⟩) s.blobs.length cap) v2 { s with blobs := s.blobs.set i y } N ∧ w.grownBy (w.setCell ⟨g, i * 4 + j, none⟩ u) (some g) := by
  obtain ⟨h1, h2, h3, h4⟩ := RwX.set1 (S := BlobS) (u := u) (y := y) h.b hi hj hR hlead
  refine ⟨h1, h2, ⟨h3, h.e.other h4 (fun b e1 e2 => ?_) (fun b e => ?_), h.ne⟩, h4⟩
  · cases e1; exact h.ne g rfl e2
  · cases e; exact .inr rfl
theorem OwSt.setE {g cap i j : Nat} {u : Value} {y : EntP} (h : OwSt w base v1 (.slice (some ⟨g, 0, none⟩) s.ents.length cap) s N) (hi : i < s.ents.length) (hj : j < 4)
    (hR : ∀ W cs, EntS.R W s.ents[i] cs → EntS.R W y (cs.set j u)) (hlead : ∀ b, ¬ leads b [u]) :
    (∃ v0, w.cell? ⟨g, i * 4 + j, none⟩ = some v0) ∧ w.frozen? ⟨g, i * 4 + j, none⟩ = false ∧
      OwSt (w.setCell ⟨g, i * 4 + j, none⟩ u) base v1 (.slice (some ⟨g, 0, none⟩) s.ents.length cap) { s with ents := s.ents.set i y } N ∧ w.grownBy (w.setCell ⟨g, i * 4 + j, none⟩ u) (some g) := by
  obtain ⟨h1, h2, h3, h4⟩ := RwX.set1 (S := EntS) (u := u) (y := y) h.e hi hj hR hlead
  refine ⟨h1, h2, ⟨h.b.other h4 (fun b e1 e2 => ?_) (fun b e => ?_), h3, h.ne⟩, h4⟩
  · cases e1; exact h.ne g e2 rfl
  · cases e; exact .inr rfl
theorem blob_pins (b : BlobP) (n : Nat) (W : World) (cs : List Value) (h : BlobS.R W b cs) : BlobS.R W { b with pins := n } (cs.set 2 (.int .i64 (n : Int))) := by
  obtain ⟨A, c, rfl, hs⟩ := h; exact ⟨A, c, rfl, hs⟩
theorem blob_mark (b : BlobP) (m : Bool) (W : World) (cs : List Value) (h : BlobS.R W b cs) : BlobS.R W { b with mark := m } (cs.set 3 (.bool m)) := by
  obtain ⟨A, c, rfl, hs⟩ := h; exact ⟨A, c, rfl, hs⟩
theorem ent_pins (b : EntP) (n : Nat) (W : World) (cs : List Value) (h : EntS.R W b cs) : EntS.R W { b with pins := n } (cs.set 2 (.int .i64 (n : Int))) := by
  obtain ⟨A, c, rfl, hs⟩ := h; exact ⟨A, c, rfl, hs⟩
theorem ent_stamp (b : EntP) (n : Nat) (W : World) (cs : List Value) (h : EntS.R W b cs) : EntS.R W { b with stamp := n } (cs.set 3 (.int .i64 (n : Int))) := by
  obtain ⟨A, c, rfl, hs⟩ := h; exact ⟨A, c, rfl, hs⟩
end
end Go.Proofs.YtmjcoebfldmgnaaGreat
/-! store.Put, Get, HoldBlob, Hold, of stores that may be. Conditions: that it may be done -/
namespace Go.Proofs.YtmjcoebfldmgnaaGreat
open Go.RowKit
set_option linter.unusedVariables false
set_option linter.unusedSimpArgs false
set_option maxRecDepth 100000

end Go.Proofs.YtmjcoebfldmgnaaGreat
/-! store.Get, HoldBlob, Hold, of stores that may be. Conditions: that it may be done -/
namespace Go.Proofs.YtmjcoebfldmgnaaGreat
open Go.RowKit
set_option linter.unusedVariables false
set_option linter.unusedSimpArgs false
set_option maxRecDepth 100000

theorem cell_sets4 {w : World} {g g' k : Nat} (h : g ≠ g') {a b c d : Value} : ((((w.setCell ⟨g', 0, none⟩ a).setCell ⟨g', 1, none⟩ b).setCell ⟨g', 2, none⟩ c).setCell ⟨g', 3, none⟩ d).cell? ⟨g, k, none⟩ = w.cell? ⟨g, k, none⟩ := by
  refine (World.cell?_of_block (Below.heap_setCell _ _ d g h)).trans ((World.cell?_of_block (Below.heap_setCell _ _ c g h)).trans ((World.cell?_of_block (Below.heap_setCell _ _ b g h)).trans (World.cell?_of_block (Below.heap_setCell _ _ a g h))))
theorem own_sets4 {w : World} {base n g : Nat} {e : TypeId} {size : Nat} {v : Value} {xs : List Value} (h : w.ownsRow base e size v n xs) (hg : g < base) (a b c d : Value) :
    ((((w.setCell ⟨g, 0, none⟩ a).setCell ⟨g, 1, none⟩ b).setCell ⟨g, 2, none⟩ c).setCell ⟨g, 3, none⟩ d).ownsRow base e size v n xs := by
  have hne : v.ownBlock ≠ some g := fun e => by have := (h.lt g e).1; omega
  exact own_other (own_other (own_other (own_other h hne) hne) hne) hne
theorem fE_at {l : List EntP} {i : Nat} {k : List UInt8} (hr : RisesBy (·.key) l) (hi : i < l.length) (hk : l[i].key = k) : l.findIdx? (fun x => x.key == k) = some i := by
  rw [List.findIdx?_eq_some_iff_getElem]
  refine ⟨hi, by simp [hk], fun j hj => ?_⟩
  have := List.pairwise_iff_getElem.1 hr j i (by omega) hi hj
  rw [← hk]
  simpa using bl_ne this
theorem fB_at {l : List BlobP} {i : Nat} {k : List UInt8} (hr : RisesBy (·.dig) l) (hi : i < l.length) (hk : l[i].dig = k) : l.findIdx? (fun x => x.dig == k) = some i := by
  rw [List.findIdx?_eq_some_iff_getElem]
  refine ⟨hi, by simp [hk], fun j hj => ?_⟩
  have := List.pairwise_iff_getElem.1 hr j i (by omega) hi hj
  rw [← hk]
  simpa using bl_ne this
theorem Rw.ent_at' {w : World} {A : Option Addr} {l : List EntP} {k : Nat} {x : EntP} (h : Rw EntS w A l) (hx : l[k]? = some x) :
    ∃ b off B c, A = some ⟨b, off, none⟩ ∧ b < w.heap.size ∧ w.cell? ⟨b, off + k * 4, none⟩ = some (.string ⟨x.key.toArray⟩) ∧ w.cell? ⟨b, off + k * 4 + 1, none⟩ = some (.slice B x.parts.length c) ∧
      w.cell? ⟨b, off + k * 4 + 2, none⟩ = some (.int .i64 (x.pins : Int)) ∧ w.cell? ⟨b, off + k * 4 + 3, none⟩ = some (.int .i64 (x.stamp : Int)) ∧ Sl w 3 B x.parts.length c (pcs x.parts) := by
  obtain ⟨hk, rfl⟩ := List.getElem?_eq_some_iff.1 hx
  exact h.ent_at k hk
theorem getS_at (s : StoP) (i : Nat) (x : EntP) (hi : i < s.ents.length) : (getS s i x).ents[i]? = some { x with stamp := s.clock + 1 } := by
  unfold getS
  simp [hi]
end Go.Proofs.YtmjcoebfldmgnaaGreat
/-! store.HoldBlob, Hold, and what store's functions refuse. Conditions: stores that may be -/
namespace Go.Proofs.YtmjcoebfldmgnaaGreat
open Go.RowKit
set_option linter.unusedVariables false
set_option linter.unusedSimpArgs false
set_option maxRecDepth 100000

/-- pin.Move -/
def mvN (n : Nat) (up : Bool) : Nat := if up then n + 1 else n - 1
theorem mv_le {n : Nat} {up : Bool} (h : if up then n < 5 else 0 < n ∧ n ≤ 5) : mvN n up ≤ 5 := by
  cases up with
  | true => have h' : n < 5 := h; show n + 1 ≤ 5; omega
  | false => have h' : 0 < n ∧ n ≤ 5 := h; show n - 1 ≤ 5; omega
end Go.Proofs.YtmjcoebfldmgnaaGreat
