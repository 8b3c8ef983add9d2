/- slices.Delete of one element of a row of one's own: what the row holds then. No condition. -/
import Derived.Test.YtefhbgbhknobjaaArr
import Derived.Deep.RegionLaw
import Derived.Lib.SliceRun
namespace Go.Proofs.Ytefhbgbhknobjaa
open Go.RowKit
set_option linter.unusedVariables false
set_option linter.unusedSimpArgs false

theorem run_clear_one {P : Program} (w : World) (t e ty : TypeId) (z : Value) (zs : List Value) (ht : P.underlying t = some (.slice e)) (hv : ∀ w, (zeroValue e).run P w = .ok z w) (hz : (Builtin.zeroCells z.cells 1).toList = zs) (h1 : ∀ u ∈ zs, u.oneCell' = true) (b o c : Nat)
    (hc : ∀ j, j < zs.length → (w.cell? ⟨b, o + j, none⟩).isSome = true) (hf : ∀ j, j < zs.length → w.frozen? ⟨b, o + j, none⟩ = false) :
    (Builtin.clear_ #[t] ty #[.slice (some ⟨b, o, none⟩) 1 c]).run P w = .ok (.tuple #[]) (w.setCells b o zs) := by
  have hst := run_storeCells_cells (P := P) b o zs 0 w (by simpa using hc) (by simpa using hf) h1
  simp only [Nat.add_zero] at hst
  simp [Builtin.clear_, run_underlying ht, hv, hz, hst]

section
variable {W : World} {g : Nat} {e : TypeId}
theorem del_sets (rs : List Value) : ∀ (ys xs zs : List Value) (W : World), Arr W g e (zs ++ (xs ++ rs)) → ys.length = xs.length → Arr (W.setCells g zs.length ys) g e (zs ++ (ys ++ rs))
  | [], [], zs, W, h, _ => h
  | y :: ys, x :: xs, zs, W, h, hl => by
    have h1 := h.set (k := zs.length) (by simp) y
    rw [List.set_append_right _ _ (Nat.le_refl _), Nat.sub_self, List.cons_append, List.set_cons_zero] at h1
    have h2 := del_sets rs ys xs (zs ++ [y]) _ (by simpa using h1) (by simpa using hl)
    rw [List.append_assoc] at h2
    simp only [List.length_append, List.length_cons, List.length_nil, Nat.zero_add] at h2
    exact h2
theorem grown_setsA : ∀ (ys : List Value) (o : Nat) (W : World), W.grownBy (W.setCells g o ys) (some g)
  | [], _, W => World.grownBy.refl _ _
  | y :: ys, o, W => by
    have h1 : W.grownBy (W.setCell ⟨g, o, none⟩ y) (some g) := ⟨rfl, rfl, rfl, by simp [World.setCell], fun j _ hj => Below.heap_setCell W _ y j (fun e => hj (by rw [e]))⟩
    exact h1.trans (grown_setsA ys (o + 1) _)
/-- behind the append, and behind the clear -/
theorem del_arr {cur : List Value} {s i n cap : Nat} {zs : List Value} (h : Arr W g e cur) (hc : cur.length = cap * s) (hn : n ≤ cap) (hi : i < n) (hz : zs.length = s) :
    Arr (W.setCells g (i * s) ((cur.take (n * s)).drop ((i + 1) * s))) g e (cur.take (i * s) ++ (cur.take (n * s)).drop ((i + 1) * s) ++ cur.drop ((n - 1) * s)) ∧
    Arr ((W.setCells g (i * s) ((cur.take (n * s)).drop ((i + 1) * s))).setCells g ((n - 1) * s) zs) g e (cur.take (i * s) ++ (cur.take (n * s)).drop ((i + 1) * s) ++ zs ++ cur.drop (n * s)) := by
  obtain ⟨m, rfl⟩ : ∃ m, n = m + 1 := ⟨n - 1, by omega⟩
  have h1 : i * s ≤ m * s := Nat.mul_le_mul_right _ (by omega)
  have h2 : (m + 1) * s ≤ cap * s := Nat.mul_le_mul_right _ hn
  have h3 : (m + 1) * s = m * s + s := Nat.succ_mul m s
  have h4 : (i + 1) * s = i * s + s := Nat.succ_mul i s
  rw [Nat.add_sub_cancel]
  obtain ⟨news, hnews⟩ : ∃ x, x = (cur.take ((m + 1) * s)).drop ((i + 1) * s) := ⟨_, rfl⟩
  have hl : news.length = m * s - i * s := by rw [hnews, List.length_drop, List.length_take]; omega
  rw [← hnews]
  have e1 : cur = cur.take (i * s) ++ ((cur.drop (i * s)).take (m * s - i * s) ++ cur.drop (m * s)) := by
    have : cur.drop (m * s) = (cur.drop (i * s)).drop (m * s - i * s) := by rw [List.drop_drop]; congr 1; omega
    rw [this, List.take_append_drop, List.take_append_drop]
  have t1 : (cur.take (i * s)).length = i * s := by rw [List.length_take]; omega
  have a1 := del_sets (g := g) (e := e) (cur.drop (m * s)) news ((cur.drop (i * s)).take (m * s - i * s)) (cur.take (i * s)) W (e1 ▸ h) (by rw [hl, List.length_take, List.length_drop]; omega)
  rw [t1, ← List.append_assoc] at a1
  refine ⟨a1, ?_⟩
  have e2 : cur.drop (m * s) = (cur.drop (m * s)).take s ++ cur.drop ((m + 1) * s) := by
    have : cur.drop ((m + 1) * s) = (cur.drop (m * s)).drop s := by rw [List.drop_drop]; congr 1
    rw [this, List.take_append_drop]
  rw [e2] at a1
  have a2 := del_sets (g := g) (e := e) (cur.drop ((m + 1) * s)) zs ((cur.drop (m * s)).take s) (cur.take (i * s) ++ news) _ a1 (by rw [hz, List.length_take, List.length_drop]; omega)
  rw [show (cur.take (i * s) ++ news).length = m * s by rw [List.length_append, t1, hl]; omega, ← List.append_assoc] at a2
  exact a2
end
end Go.Proofs.Ytefhbgbhknobjaa
