/- An array in a block of its own. No condition. -/
import Derived.Test.YtefhbgbhknobjaaMem
import Derived.RangeFuncBox
import Derived.OneCell
import Derived.Deep.MidRow
namespace Go.Proofs.Ytefhbgbhknobjaa
open Go.RowKit
set_option linter.unusedVariables false
set_option linter.unusedSimpArgs false
/-- block g is these cells -/
def Arr (W : World) (g : Nat) (e : TypeId) (xs : List Value) : Prop := W.heap[g]? = some (.cells xs.toArray e (0, 0))
variable {W W' : World} {g g' k base : Nat} {e : TypeId} {xs : List Value} {v : Value}
theorem at_store_ {P : Program} {ops : Array Oper} {rest : List Oper} {a : Act} {w : World} {Q : Exit → Act → World → Prop} (ty : TypeId) {d : Option Tmp} {x y : Operand} {t : TypeId} {pos : String} {after : Array Edge} {gd : Option (Tmp × Bool)}
    (h : wpList P ops Q (⟨d, .store ty x y, t, pos, after, gd⟩ :: rest) a w) : wpList P ops Q (⟨d, .store ty x y, t, pos, after, gd⟩ :: rest) a w := h
theorem at_load_ {P : Program} {ops : Array Oper} {rest : List Oper} {a : Act} {w : World} {Q : Exit → Act → World → Prop} (ty : TypeId) {d : Option Tmp} {x : Operand} {t : TypeId} {pos : String} {after : Array Edge} {gd : Option (Tmp × Bool)}
    (h : wpList P ops Q (⟨d, .load ty x, t, pos, after, gd⟩ :: rest) a w) : wpList P ops Q (⟨d, .load ty x, t, pos, after, gd⟩ :: rest) a w := h
theorem at_copy_ {P : Program} {ops : Array Oper} {rest : List Oper} {a : Act} {w : World} {Q : Exit → Act → World → Prop} {d : Option Tmp} {as : Array Operand} {ts : Array TypeId} {t : TypeId} {pos : String} {after : Array Edge} {gd : Option (Tmp × Bool)}
    (h : wpList P ops Q (⟨d, .call { callee := .builtin .copy, args := as, argTypes := ts }, t, pos, after, gd⟩ :: rest) a w) : wpList P ops Q (⟨d, .call { callee := .builtin .copy, args := as, argTypes := ts }, t, pos, after, gd⟩ :: rest) a w := h
theorem Arr.lt (h : Arr W g e xs) : g < W.heap.size := (Array.getElem?_eq_some_iff.1 h).1
theorem Arr.new (W : World) (e : TypeId) (xs : List Value) : Arr (W.alloc (.cells xs.toArray e)) W.heap.size e xs := World.alloc_heap_new W _
theorem Arr.cell (h : Arr W g e xs) (hk : xs[k]? = some v) : W.cell? ⟨g, k, none⟩ = some v := by
  have h' : W.heap[g]? = _ := h
  simp [World.cell?, h', hk]
theorem Arr.frozen (h : Arr W g e xs) (k : Nat) : W.frozen? ⟨g, k, none⟩ = false := by
  have h' : W.heap[g]? = _ := h
  simp [World.frozen?, h']
theorem Arr.below (h : Arr W g e xs) (hb : Below W.heap.size W W') : Arr W' g e xs := (hb.block g h.lt).trans h
theorem Arr.belowAt {B : Nat} (h : Arr W g e xs) (hb : Below B W W') (hg : g < B) : Arr W' g e xs := (hb.block g hg).trans h
theorem Arr.drew (h : Arr W g e xs) : Arr W.drew g e xs := h
theorem Arr.drewN (h : Arr W g e xs) (n : Nat) : Arr (W.drewN n) g e xs := h
theorem Arr.alloc (h : Arr W g e xs) (o : Obj) : Arr (W.alloc o) g e xs := (Below.heap_alloc _ _ _ h.lt).trans h
theorem Arr.other (h : Arr W g e xs) (hne : g ≠ g') (u : Value) : Arr (W.setCell ⟨g', k, none⟩ u) g e xs := (Below.heap_setCell W _ u g hne).trans h
theorem Arr.set (h : Arr W g e xs) (hk : k < xs.length) (u : Value) : Arr (W.setCell ⟨g, k, none⟩ u) g e (xs.set k u) := by
  obtain ⟨hlt, hk'⟩ := Array.getElem?_eq_some_iff.1 h
  show (W.heap.modify g _)[g]? = _
  rw [Array.getElem?_eq_getElem (by rw [Array.size_modify]; exact hlt), Array.getElem_modify_self, hk']
  simp
theorem Arr.set8 {x0 x1 x2 x3 x4 x5 x6 x7 : Value} (h : Arr W g e [x0, x1, x2, x3, x4, x5, x6, x7]) (y0 y1 y2 y3 y4 y5 y6 y7 : Value) :
    Arr ((((((((W.setCell ⟨g, 0, none⟩ y0).setCell ⟨g, 1, none⟩ y1).setCell ⟨g, 2, none⟩ y2).setCell ⟨g, 3, none⟩ y3).setCell ⟨g, 4, none⟩ y4).setCell ⟨g, 5, none⟩ y5).setCell ⟨g, 6, none⟩ y6).setCell ⟨g, 7, none⟩ y7) g e [y0, y1, y2, y3, y4, y5, y6, y7] :=
  ((((((((h.set (k := 0) (by simp) y0).set (k := 1) (by simp) y1).set (k := 2) (by simp) y2).set (k := 3) (by simp) y3).set (k := 4) (by simp) y4).set (k := 5) (by simp) y5).set (k := 6) (by simp) y6).set (k := 7) (by simp) y7)
theorem Arr.other8 (h : Arr W g e xs) (hne : g ≠ g') (y0 y1 y2 y3 y4 y5 y6 y7 : Value) :
    Arr ((((((((W.setCell ⟨g', 0, none⟩ y0).setCell ⟨g', 1, none⟩ y1).setCell ⟨g', 2, none⟩ y2).setCell ⟨g', 3, none⟩ y3).setCell ⟨g', 4, none⟩ y4).setCell ⟨g', 5, none⟩ y5).setCell ⟨g', 6, none⟩ y6).setCell ⟨g', 7, none⟩ y7) g e xs :=
  ((((((((h.other hne _).other hne _).other hne _).other hne _).other hne _).other hne _).other hne _).other hne _)
theorem Below.set8 {B : Nat} {a : World} (h : Below B a W) (hg : B ≤ g) (y0 y1 y2 y3 y4 y5 y6 y7 : Value) :
    Below B a ((((((((W.setCell ⟨g, 0, none⟩ y0).setCell ⟨g, 1, none⟩ y1).setCell ⟨g, 2, none⟩ y2).setCell ⟨g, 3, none⟩ y3).setCell ⟨g, 4, none⟩ y4).setCell ⟨g, 5, none⟩ y5).setCell ⟨g, 6, none⟩ y6).setCell ⟨g, 7, none⟩ y7) :=
  (Below.setCell (Below.setCell (Below.setCell (Below.setCell (Below.setCell (Below.setCell (Below.setCell (Below.setCell h hg _) hg _) hg _) hg _) hg _) hg _) hg _) hg _)
theorem Rd.other {size n b off : Nat} (h : Rd W size (some ⟨b, off, none⟩) n xs) (hne : b ≠ g) (u : Value) : Rd (W.setCell ⟨g, k, none⟩ u) size (some ⟨b, off, none⟩) n xs :=
  ⟨h.1, fun hn => by
    obtain ⟨b', off', e, hb, hc⟩ := h.2 hn
    cases e
    refine ⟨b, off, rfl, by simpa [World.setCell] using hb, fun j v hj => ?_⟩
    rw [← hc j v hj]
    exact World.cell?_of_block (Below.heap_setCell W _ u b hne)⟩
theorem Rd.other8 {size n b off : Nat} (h : Rd W size (some ⟨b, off, none⟩) n xs) (hne : b ≠ g) (y0 y1 y2 y3 y4 y5 y6 y7 : Value) :
    Rd ((((((((W.setCell ⟨g, 0, none⟩ y0).setCell ⟨g, 1, none⟩ y1).setCell ⟨g, 2, none⟩ y2).setCell ⟨g, 3, none⟩ y3).setCell ⟨g, 4, none⟩ y4).setCell ⟨g, 5, none⟩ y5).setCell ⟨g, 6, none⟩ y6).setCell ⟨g, 7, none⟩ y7) size (some ⟨b, off, none⟩) n xs :=
  ((((((((h.other hne _).other hne _).other hne _).other hne _).other hne _).other hne _).other hne _).other hne _)
theorem Arr.range (h : Arr W g e xs) : W.rangeAt g 0 xs := fun j v hj => by rw [Nat.zero_add]; exact h.cell hj
theorem Arr.there (h : Arr W g e xs) : W.there g 0 xs.length := fun j hj => by
  rw [Nat.zero_add]; exact ⟨by rw [h.cell (List.getElem?_eq_getElem hj)]; rfl, h.frozen j⟩
theorem Arr.thereN {n : Nat} (h : Arr W g e xs) (hn : xs.length = n) : W.there g 0 n := hn ▸ h.there
theorem Arr.setsAt : ∀ (ys xs zs : List Value) (W : World), Arr W g e (zs ++ xs) → ys.length = xs.length → Arr (W.setCells g zs.length ys) g e (zs ++ ys)
  | [], [], zs, W, h, _ => h
  | y :: ys, x :: xs, zs, W, h, hl => by
    have h1 := h.set (k := zs.length) (by simp) y
    rw [List.set_append_right _ _ (Nat.le_refl _), Nat.sub_self, List.set_cons_zero] at h1
    have h2 := Arr.setsAt ys xs (zs ++ [y]) _ (by simpa using h1) (by simpa using hl)
    rw [List.append_assoc] at h2
    simp only [List.length_append, List.length_cons, List.length_nil, Nat.zero_add] at h2
    exact h2
theorem Arr.sets {ys : List Value} (h : Arr W g e xs) (hl : ys.length = xs.length) : Arr (W.setCells g 0 ys) g e ys := Arr.setsAt ys xs [] W h hl
theorem Arr.otherSets (hne : g ≠ g') : ∀ (ys : List Value) (o : Nat) (W : World), Arr W g e xs → Arr (W.setCells g' o ys) g e xs
  | [], _, _, h => h
  | y :: ys, o, W, h => Arr.otherSets hne ys (o + 1) _ (h.other hne y)
theorem Below.sets {B : Nat} {a : World} (hg : B ≤ g) : ∀ (ys : List Value) (o : Nat) (W : World), Below B a W → Below B a (W.setCells g o ys)
  | [], _, _, h => h
  | y :: ys, o, W, h => Below.sets hg ys (o + 1) _ (Below.setCell h hg y)
theorem setCells_size : ∀ (ys : List Value) (o : Nat) (W : World), (W.setCells g o ys).heap.size = W.heap.size
  | [], _, _ => rfl
  | y :: ys, o, W => (setCells_size ys (o + 1) _).trans (by simp [World.setCell])
theorem own_ex {w : World} {base : Nat} {e : TypeId} {size : Nat} {v : Value} {n : Nat} {xs : List Value} (h : w.ownsRow base e size v n xs) (h0 : 0 < n) :
    ∃ g cap cs, v = .slice (some ⟨g, 0, none⟩) n cap ∧ base ≤ g ∧ Arr w g e cs ∧ n ≤ cap ∧ cap ≤ maxLen ∧ cs.length = cap * size ∧ cs.take (n * size) = xs := by
  rcases h.2 with ⟨_, hz⟩ | ⟨g, cap, cur, rfl, hb, hg, hn, hm, hs, ht⟩
  · omega
  · exact ⟨g, cap, cur.toList, rfl, hb, by simpa [Arr] using hg, hn, hm, by simpa using hs, ht⟩
theorem Rd.of_arr {w : World} {g n size : Nat} {e : TypeId} {cs xs : List Value} (h : Arr w g e cs) (hx : xs.length = n * size) (ht : cs.take (n * size) = xs) : Rd w size (some ⟨g, 0, none⟩) n xs :=
  ⟨hx, fun _ => ⟨g, 0, rfl, h.lt, fun j u hu => by
    rw [Nat.zero_add]; refine h.cell ?_
    rw [← ht, List.getElem?_take] at hu
    split at hu
    · exact hu
    · cases hu⟩⟩
theorem own_other {w : World} {base n g k : Nat} {e : TypeId} {size : Nat} {v u : Value} {xs : List Value} (h : w.ownsRow base e size v n xs) (hne : v.ownBlock ≠ some g) : (w.setCell ⟨g, k, none⟩ u).ownsRow base e size v n xs := by
  refine ⟨h.1, ?_⟩
  rcases h.2 with h1 | ⟨g', cap, cur, rfl, hb, hg, h2⟩
  · exact .inl h1
  · refine .inr ⟨g', cap, cur, rfl, hb, ?_, h2⟩
    rw [Below.heap_setCell w _ _ g' (by intro e; exact hne (by rw [e]; rfl))]
    exact hg
theorem own_lower {w : World} {base b' : Nat} {e : TypeId} {size : Nat} {v : Value} {n : Nat} {xs : List Value} (h : w.ownsRow base e size v n xs) (hb : b' ≤ base) : w.ownsRow b' e size v n xs := by
  refine ⟨h.1, ?_⟩
  rcases h.2 with h1 | ⟨g, cap, cur, h1, h2, h3⟩
  · exact .inl h1
  · exact .inr ⟨g, cap, cur, h1, Nat.le_trans hb h2, h3⟩
end Go.Proofs.Ytefhbgbhknobjaa
