/- append where there is room: the block stays, and its capacity. No condition. -/
import Derived.Test.YtmjcoebfldmgnaaGreatStW
namespace Go.Proofs.YtmjcoebfldmgnaaGreat
open Go.RowKit
set_option linter.unusedVariables false
set_option linter.unusedSimpArgs false

theorem Arr.setsMid {g : Nat} {e : TypeId} : ∀ (ys xs zs ts : List Value) (W : World), Arr W g e (zs ++ (xs ++ ts)) → ys.length = xs.length → Arr (W.setCells g zs.length ys) g e (zs ++ (ys ++ ts))
  | [], [], zs, ts, W, h, _ => h
  | y :: ys, x :: xs, zs, ts, W, h, hl => by
    have h1 := h.set (k := zs.length) (by simp) y
    rw [List.set_append_right _ _ (Nat.le_refl _), Nat.sub_self, List.cons_append, List.set_cons_zero] at h1
    have h2 := Arr.setsMid ys xs (zs ++ [y]) ts _ (by simpa using h1) (by simpa using hl)
    rw [List.append_assoc] at h2
    simp only [List.length_append, List.length_cons, List.length_nil, Nat.zero_add] at h2
    exact h2
theorem add_off (b off j : Nat) : (⟨b, off, none⟩ : Addr).add j = ⟨b, off + j, none⟩ := by unfold Addr.add; split <;> simp_all
theorem heap_setCells {g k : Nat} (hne : k ≠ g) : ∀ (ys : List Value) (o : Nat) (W : World), (W.setCells g o ys).heap[k]? = W.heap[k]?
  | [], _, _ => rfl
  | y :: ys, o, W => (heap_setCells hne ys (o + 1) _).trans (Below.heap_setCell W _ y k hne)
theorem grown_cells (W : World) (g o : Nat) (ys : List Value) : W.grownBy (W.setCells g o ys) (some g) :=
  have h := Below.sets (B := 0) (g := g) (Nat.zero_le _) ys o W (Below.refl 0 W)
  ⟨h.os, h.tape, h.output, h.size, fun k hk hne => heap_setCells (fun e => hne (by rw [e])) ys o W⟩
section
variable {P : Program} {w : World}
theorem run_apR {t ty e e' : TypeId} {size bytes : Nat} (E : El P t e size bytes) {base g n cap : Nat} {xs us : List Value} {m c : Nat}
    (hown : w.ownsRow base e size (.slice (some ⟨g, 0, none⟩) n cap) n xs) (hl : us.length = m * size) (h1 : ∀ u ∈ us, u.oneCell' = true) (hroom : n + m ≤ cap) :
    ∃ w', (Builtin.append_ #[t, t] ty #[.slice (some ⟨g, 0, none⟩) n cap, .slice (some ⟨w.heap.size, 0, none⟩) m c]).run P (w.alloc (.cells us.toArray e')) = .ok (.slice (some ⟨g, 0, none⟩) (n + m) cap) w' ∧
      w'.ownsRow base e size (.slice (some ⟨g, 0, none⟩) (n + m) cap) (n + m) (xs ++ us) ∧ w.grownBy w' (some g) := by
  obtain ⟨hu, ⟨i, z, hi, hz, hs, hby, hzs⟩, hp, hq⟩ := E
  subst hs
  obtain ⟨hxl, h2⟩ := hown
  rcases h2 with ⟨h, _⟩ | ⟨g', cap', cur, e1, hb, hg, hn, hm, hsz, ht⟩
  · cases h
  · injection e1 with e1 _ e3
    injection e1 with e1
    injection e1 with e1
    subst e1 e3
    have hA0 : Arr w g e cur.toList := by simpa [Arr] using hg
    have hA := hA0.alloc (.cells us.toArray e')
    have hcl : cur.toList.length = cap * i.size := by simpa using hsz
    have hmul : (n + m) * i.size ≤ cap * i.size := Nat.mul_le_mul_right _ hroom
    rw [Nat.add_mul] at hmul
    have hsplit : cur.toList = xs ++ ((cur.toList.drop (n * i.size)).take (m * i.size) ++ cur.toList.drop ((n + m) * i.size)) := by
      have ht' : cur.toList.take (n * i.size) = xs := ht
      rw [← ht', Nat.add_mul, ← List.drop_drop, List.take_append_drop, List.take_append_drop]
    have hlt := hA0.lt
    have hrun := run_append_room_cells (P := P) (w := w.alloc (.cells us.toArray e')) t ty e i hu hi g 0 n cap ⟨w.heap.size, 0, none⟩ m c us hl
      (fun j u hj => by
        show (w.alloc _).cell? ((⟨w.heap.size, 0, none⟩ : Addr).add j) = _
        rw [add_off, Nat.zero_add, World.cell?_alloc_new]; simpa using hj) h1 hroom
      (fun j hj => by
        rw [hA.cell (k := 0 + n * i.size + j) (List.getElem?_eq_getElem (by rw [hcl]; omega))]; rfl)
      (fun j hj => hA.frozen _)
    refine ⟨_, hrun, ⟨by rw [List.length_append, hxl, hl, Nat.add_mul], .inr ⟨g, cap, (xs ++ (us ++ cur.toList.drop ((n + m) * i.size))).toArray, rfl, hb, ?_, hroom, hm, ?_, ?_⟩⟩, ?_⟩
    · rw [hsplit] at hA
      have hA2 := Arr.setsMid us _ xs _ _ hA (by rw [List.length_take, List.length_drop, hcl, hl]; omega)
      rw [Nat.zero_add, ← hxl]
      exact hA2
    · simp only [List.size_toArray, List.length_append, List.length_drop, hcl, hxl, hl, Nat.add_mul]; omega
    · simp only [List.toList_toArray]
      rw [← List.append_assoc, List.take_append_of_le_length (by rw [List.length_append, hxl, hl, Nat.add_mul]; exact Nat.le_refl _), List.take_of_length_le (by rw [List.length_append, hxl, hl, Nat.add_mul]; exact Nat.le_refl _)]
    · have h5 := grown_cells (w.alloc (.cells us.toArray e')) g (0 + n * i.size) us
      exact ⟨h5.os, h5.tape, h5.output, Nat.le_trans (by rw [World.size_alloc]; omega) h5.size, fun k hk hne => (h5.block k (by simp; omega) hne).trans (Below.heap_alloc _ _ _ hk)⟩
theorem wpList_apR {ops : Array Oper} {rest : List Oper} {o : Oper} {a : Act} {Q : Exit → Act → World → Prop} (hgd : o.guard = none) (s x : Operand) {t e e' : TypeId} {size bytes : Nat}
    (ho : o.op = .call { callee := .builtin .append, args := #[s, x], argTypes := #[t, t] }) (E : El P t e size bytes)
    {base g n cap : Nat} {xs : List Value} (hs : a.eval s = .slice (some ⟨g, 0, none⟩) n cap) (hown : w.ownsRow base e size (.slice (some ⟨g, 0, none⟩) n cap) n xs)
    {us : List Value} {m c : Nat} (hx : a.eval x = .slice (some ⟨w.heap.size, 0, none⟩) m c) (hl : us.length = m * size) (h1 : ∀ u ∈ us, u.oneCell' = true) (hroom : n + m ≤ cap)
    (h : ∀ w', w'.ownsRow base e size (.slice (some ⟨g, 0, none⟩) (n + m) cap) (n + m) (xs ++ us) → w.grownBy w' (some g) → wpList P ops Q rest (a.put o.dst (.slice (some ⟨g, 0, none⟩) (n + m) cap)) w') :
    wpList P ops Q (o :: rest) a (w.alloc (.cells us.toArray e')) :=
  wpList_plain hgd fun K hK => by
    obtain ⟨w', hrun, h2, h3⟩ := run_apR (P := P) (ty := o.type) (e' := e') E hown hl h1 hroom (c := c)
    unfold Oper.wp execOp
    simp only [ho, resolve, invoke, builtin, Sem.run_bind, Sem.run_pure, Result.andThen_ok, List.map_toArray, List.map_cons, List.map_nil, hs, hx, hrun]
    exact hK _ _ (h w' h2 h3)
end
theorem Sl.other {w : World} {size n c g k : Nat} {A : Option Addr} {xs : List Value} (h : Sl w size A n c xs) (hne : ∀ a, A = some a → a.block ≠ g) (u : Value) : Sl (w.setCell ⟨g, k, none⟩ u) size A n c xs :=
  h.keep (by simp [World.setCell]) fun b hb hl => by
    obtain ⟨a, ha, rfl⟩ := hl
    exact Below.heap_setCell w _ u _ (hne a ha)
end Go.Proofs.YtmjcoebfldmgnaaGreat
