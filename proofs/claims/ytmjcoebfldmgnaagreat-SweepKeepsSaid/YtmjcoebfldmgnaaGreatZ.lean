/- Bytes of a string, as a row that append writes on. No condition. A Raw thing as a value. No condition. keep.Data. Conditions: the sizes. -/
import Derived.Test.YtmjcoebfldmgnaaGreatDig
import Derived.Lib.AppendStr
import Derived.Test.YtmjcoebfldmgnaaGreatLift
/-! Bytes of a string, as a row that append writes on. No condition -/
namespace Go.Proofs.YtmjcoebfldmgnaaGreat
open Go.RowKit
set_option linter.unusedVariables false
set_option linter.unusedSimpArgs false

section
variable {W : World} {g : Nat} {e : TypeId} {fz : Nat × Nat}
theorem fz_set {xs : List Value} {k : Nat} (h : W.heap[g]? = some (.cells xs.toArray e fz)) (hk : k < xs.length) (u : Value) : (W.setCell ⟨g, k, none⟩ u).heap[g]? = some (.cells (xs.set k u).toArray e fz) := by
  obtain ⟨hlt, hk'⟩ := Array.getElem?_eq_some_iff.1 h
  show (W.heap.modify g _)[g]? = _
  rw [Array.getElem?_eq_getElem (by rw [Array.size_modify]; exact hlt), Array.getElem_modify_self, hk']
  simp
theorem fz_sets (rs : List Value) : ∀ (ys xs zs : List Value) (W : World), W.heap[g]? = some (.cells (zs ++ (xs ++ rs)).toArray e fz) → ys.length = xs.length → (W.setCells g zs.length ys).heap[g]? = some (.cells (zs ++ (ys ++ rs)).toArray e fz)
  | [], [], zs, W, h, _ => h
  | y :: ys, x :: xs, zs, W, h, hl => by
    have h1 := fz_set h (k := zs.length) (by simp) y
    rw [List.set_append_right _ _ (Nat.le_refl _), Nat.sub_self, List.cons_append, List.set_cons_zero] at h1
    have h2 := fz_sets rs ys xs (zs ++ [y]) _ (by simpa using h1) (by simpa using hl)
    rw [List.append_assoc] at h2
    simp only [List.length_append, List.length_cons, List.length_nil, Nat.zero_add] at h2
    exact h2
theorem fz_cell {xs : List Value} {k : Nat} {v : Value} (h : W.heap[g]? = some (.cells xs.toArray e fz)) (hk : xs[k]? = some v) : W.cell? ⟨g, k, none⟩ = some v := by
  simp [World.cell?, h, hk]
theorem fz_not {xs : List Value} {k : Nat} (h : W.heap[g]? = some (.cells xs.toArray e fz)) (hf : fz.2 ≤ fz.1 ∨ k < fz.1) : W.frozen? ⟨g, k, none⟩ = false := by
  obtain ⟨lo, hi⟩ := fz
  simp only [World.frozen?, h, Bool.and_eq_false_iff, decide_eq_false_iff_not]
  simp only at hf
  omega
end

/-- a row of bytes of one's own, which may be a string's bytes -/
def OwnZ (w : World) (base : Nat) (A : Option Addr) (c : Nat) (l : List UInt8) : Prop :=
  ∃ g rest fz, A = some ⟨g, 0, none⟩ ∧ base ≤ g ∧ w.heap[g]? = some (.cells (bys l ++ rest).toArray 5 fz) ∧ l.length + rest.length = c ∧ c ≤ maxLen ∧ (fz.2 ≤ fz.1 ∨ c ≤ fz.1)

section
variable {w w' : World} {base c : Nat} {A : Option Addr} {l : List UInt8}
theorem OwnZ.rd (h : OwnZ w base A c l) : Rd w 1 A l.length (bys l) := by
  obtain ⟨g, rest, fz, rfl, hb, hg, hl, hm, hf⟩ := h
  refine ⟨by rw [bys_len, Nat.mul_one], fun _ => ⟨g, 0, rfl, (Array.getElem?_eq_some_iff.1 hg).1, fun j u hu => ?_⟩⟩
  rw [Nat.zero_add]
  refine fz_cell hg ?_
  rw [List.getElem?_append_left (List.getElem?_eq_some_iff.1 hu).1]; exact hu
theorem OwnZ.cap (h : OwnZ w base A c l) : l.length ≤ c ∧ c ≤ maxLen := by
  obtain ⟨g, rest, fz, rfl, hb, hg, hl, hm, hf⟩ := h
  exact ⟨by omega, hm⟩
theorem OwnZ.below (h : OwnZ w base A c l) (hb : Below w.heap.size w w') : OwnZ w' base A c l := by
  obtain ⟨g, rest, fz, e, h1, hg, h2⟩ := h
  exact ⟨g, rest, fz, e, h1, (hb.block g (Array.getElem?_eq_some_iff.1 hg).1).trans hg, h2⟩
theorem OwnZ.lower {b' : Nat} (h : OwnZ w base A c l) (hb : b' ≤ base) : OwnZ w b' A c l := by
  obtain ⟨g, rest, fz, e, h1, h2⟩ := h
  exact ⟨g, rest, fz, e, Nat.le_trans hb h1, h2⟩
end

/-- []byte(s) -/
theorem conv_Z (s : ByteArray) (w : World) (hs : s.size ≤ maxLen) :
    ∃ w', (convert 9 49 (.string s)).run Tryz.prog w = .ok (.slice (some ⟨w.heap.size, 0, none⟩) s.data.toList.length (grownCap w s.size 0 5)) w' ∧ OwnZ w' w.heap.size (some ⟨w.heap.size, 0, none⟩) (grownCap w s.size 0 5) s.data.toList ∧ Below w.heap.size w w' := by
  have hsz : s.data.toList.length = s.size := by rw [Array.length_toList]; rfl
  have h := run_bytes_of_string (P := Tryz.prog) w 9 49 5 s Tryz.underlying9 Tryz.underlying49 Tryz.underlying5
  have hge := grownCap_ge w s.size 0 5
  have hle := grownCap_le_maxLen w s.size 0 5 hs
  rw [← hsz] at h
  rw [hsz] at h ⊢
  generalize grownCap w s.size 0 5 = c at *
  have hrow : bytesRow s c = (bys s.data.toList ++ List.replicate (c - s.size) (Value.int .u8 0)).toArray := by
    apply Array.toList_inj.1
    simp [bytesRow, bys]
  refine ⟨_, h, ⟨w.heap.size, List.replicate (c - s.size) (Value.int .u8 0), ((bytesRow s c).size, (bytesRow s c).size + 1), rfl, Nat.le_refl _, ?_, ?_, hle, .inr ?_⟩, (Below.refl _ _).drew.alloc (Nat.le_refl _) _⟩
  · rw [← hrow]; exact World.alloc_heap_new w.drew _
  · rw [List.length_replicate, hsz]; omega
  · rw [hrow]; simp only [List.size_toArray, List.length_append, bys_len, List.length_replicate, hsz]; omega

/-- what append has to know of its source -/
structure Src (P : Program) (w : World) (u : TypeId) (x : Value) (m : Nat) (k : List UInt8) : Prop where
  und : (P.underlying u = some .string) ∨ (∃ e, P.underlying u = some (.slice e))
  len : ∀ w', (Builtin.lenOf x).run P w' = .ok m w'
  fst : (Builtin.firstCells 1 m x).run P w = .ok (bys k).toArray w
  fst' : (Builtin.firstCells 1 m x).run P w.drew = .ok (bys k).toArray w.drew
  num : k.length = m
theorem Src.str {P : Program} {w : World} {u : TypeId} (hu : P.underlying u = some .string) (s : ByteArray) : Src P w u (.string s) s.size s.data.toList :=
  ⟨.inl hu, fun w' => by simp [Builtin.lenOf], Lib.run_firstCells_string (P := P) w 1 s, Lib.run_firstCells_string (P := P) w.drew 1 s, by rw [Array.length_toList]; rfl⟩
theorem Src.sl {P : Program} {w : World} {u e : TypeId} (hu : P.underlying u = some (.slice e)) {A : Option Addr} {m : Nat} (c : Nat) {k : List UInt8} (hr : Rd w 1 A m (bys k)) : Src P w u (.slice A m c) m k := by
  have hk : k.length = m := by have := hr.1; rw [bys_len, Nat.mul_one] at this; exact this
  refine ⟨.inr ⟨e, hu⟩, fun w' => by simp [Builtin.lenOf], ?_, ?_, hk⟩
  all_goals
    cases A with
    | none =>
      have h0 : m = 0 := by
        rcases Nat.eq_zero_or_pos m with h | h
        · exact h
        · obtain ⟨_, _, h1, _⟩ := hr.2 h; cases h1
      have : k = [] := List.eq_nil_of_length_eq_zero (by omega)
      subst this
      exact run_firstCells_none _ 1 0 0 c
    | some ad =>
      refine run_firstCells_some (P := P) _ 1 m ad m c (bys k) (by rw [bys_len, hk, Nat.mul_one]) (fun j v hj => ?_)
      have hl := (List.getElem?_eq_some_iff.1 hj).1
      rw [bys_len] at hl
      obtain ⟨b, off, e', hb, hc⟩ := hr.2 (by omega)
      cases e'
      rw [Addr.add_mid]
      exact hc j v hj

theorem grown_sets {g : Nat} : ∀ (ys : List Value) (o : Nat) (W : World), W.grownBy (W.setCells g o ys) (some g)
  | [], _, W => World.grownBy.refl _ _
  | y :: ys, o, W => by
    have h1 : W.grownBy (W.setCell ⟨g, o, none⟩ y) (some g) := ⟨rfl, rfl, rfl, by simp [World.setCell], fun j _ hj => Below.heap_setCell W _ y j (fun e => hj (by rw [e]))⟩
    exact h1.trans (grown_sets ys (o + 1) _)
theorem run_apZ {w : World} {base c : Nat} {A : Option Addr} {l k : List UInt8} {u ty : TypeId} {x : Value} {m : Nat} (h : OwnZ w base A c l) (hs : Src Tryz.prog w u x m k) (hb : l.length + m ≤ 140737488355328) (hbase : base ≤ w.heap.size) :
    ∃ A' c' w', (Builtin.append_ #[49, u] ty #[.slice A l.length c, x]).run Tryz.prog w = .ok (.slice A' (l ++ k).length c') w' ∧ OwnZ w' base A' c' (l ++ k) ∧ Below base w w' ∧ w.grownBy w' (Value.slice A l.length c).ownBlock ∧ (∀ b, A' = some ⟨b, 0, none⟩ → A = some ⟨b, 0, none⟩ ∨ w.heap.size ≤ b) := by
  obtain ⟨ht, ⟨i, z, hi, hz, hsz, hby, hzs⟩, _, _⟩ := elU8
  have hrd := h.rd
  obtain ⟨g, rest, fz, rfl, hbg, hg, hl, hm, hf⟩ := h
  have hkl := hs.num
  have hlen := hs.len
  have hll : (l ++ k).length = l.length + m := by rw [List.length_append, hkl]
  by_cases hroom : l.length + m ≤ c
  · have hst := run_storeCells_cells (P := Tryz.prog) g l.length (bys k) 0 w
      (fun j hj => by
        rw [bys_len] at hj
        have : (bys l ++ rest)[l.length + 0 + j]? = some ((bys l ++ rest)[l.length + 0 + j]'(by rw [List.length_append, bys_len]; omega)) := List.getElem?_eq_getElem _
        rw [fz_cell hg this]; rfl)
      (fun j hj => by
        rw [bys_len] at hj
        exact fz_not hg (by rcases hf with h | h; exact .inl h; exact .inr (by omega))) (bys_one k)
    have hfz := fz_sets (g := g) (e := 5) (fz := fz) (rest.drop m) (bys k) (rest.take m) (bys l) w (by rw [List.take_append_drop]; exact hg) (by rw [bys_len, List.length_take]; omega)
    rw [bys_len] at hfz
    refine ⟨some ⟨g, 0, none⟩, c, w.setCells g l.length (bys k), ?_, ⟨g, rest.drop m, fz, rfl, hbg, by rw [bys_app, List.append_assoc]; exact hfz, by rw [hll, List.length_drop]; omega, hm, hf⟩, Below.sets hbg _ _ _ (Below.refl _ _), grown_sets _ _ _, fun b e => .inl e⟩
    rw [hll]
    simp only [Nat.add_zero] at hst
    have hfc := hs.fst
    rcases hs.und with hu | ⟨e', hu⟩
    · simp [Builtin.append_, run_underlying ht, run_underlying hu, sizeOf, typeInfo, hi, hsz, hlen w, hroom, hfc, Addr.add_lit, hst]
    · simp [Builtin.append_, run_underlying ht, run_underlying hu, sizeOf, typeInfo, hi, hsz, hlen w, hroom, hfc, Addr.add_lit, hst]
  · have hn : ¬ (l.length + m ≤ c) := hroom
    have hge := grownCap_ge w (l.length + m) c 5
    have hcm := grownCap_le_maxLen w (l.length + m) c 5 (by simp only [maxLen]; omega)
    have h63' : ¬ (9223372036854775807 < ((l.length : Int) + (m : Int))) := by omega
    have hnx := nextslicecap_le (need := l.length + m) (old := c) (by omega)
    have h48' : ¬ (281474976710656 < Builtin.nextslicecap (l.length + m) c) := by omega
    have hfo := run_firstCells_some (P := Tryz.prog) w.drew 1 l.length ⟨g, 0, none⟩ l.length c (bys l) (by rw [bys_len, Nat.mul_one]) (fun j v hj => by
      rw [Addr.add_mid, Nat.zero_add]
      refine fz_cell (W := w.drew) hg ?_
      rw [List.getElem?_append_left (List.getElem?_eq_some_iff.1 hj).1]; exact hj)
    have hfn := hs.fst'
    refine ⟨some ⟨w.heap.size, 0, none⟩, grownCap w (l.length + m) c 5, w.drew.alloc (.cells ((bys l).toArray ++ (bys k).toArray ++ Builtin.zeroCells z.cells (grownCap w (l.length + m) c 5 - (l.length + m))) 5), ?_,
      ⟨w.heap.size, (Builtin.zeroCells z.cells (grownCap w (l.length + m) c 5 - (l.length + m))).toList, (0, 0), rfl, hbase, ?_, ?_, hcm, .inl (Nat.le_refl _)⟩, (Below.refl _ _).drew.alloc hbase _, ⟨rfl, rfl, rfl, by simp [World.alloc], fun k hk _ => Below.heap_alloc w.drew _ _ hk⟩, fun b e => .inr (by cases e; exact Nat.le_refl _)⟩
    · rw [hll]
      rcases hs.und with hu | ⟨e', hu⟩
      · simp [Builtin.append_, run_underlying ht, run_underlying hu, sizeOf, typeInfo, zeroValue, hi, hz, hsz, hby, hlen w, hn, h63', h48', Question.forced, hfo, hfn, newRow, grownCap]
        rw [← List.append_toArray, Array.append_assoc]
      · simp [Builtin.append_, run_underlying ht, run_underlying hu, sizeOf, typeInfo, zeroValue, hi, hz, hsz, hby, hlen w, hn, h63', h48', Question.forced, hfo, hfn, newRow, grownCap]
        rw [← List.append_toArray, Array.append_assoc]
    · rw [show ((bys l).toArray ++ (bys k).toArray ++ Builtin.zeroCells z.cells (grownCap w (l.length + m) c 5 - (l.length + m))) = (bys (l ++ k) ++ (Builtin.zeroCells z.cells (grownCap w (l.length + m) c 5 - (l.length + m))).toList).toArray by
        apply Array.toList_inj.1; simp [bys_app]]
      exact World.alloc_heap_new w.drew _
    · have h0 : (Builtin.zeroCells z.cells (grownCap w (l.length + m) c 5 - (l.length + m))).toList.length = grownCap w (l.length + m) c 5 - (l.length + m) := by rw [Array.length_toList, size_zeroCells, hzs, Nat.mul_one]
      rw [h0, hll]; omega
theorem wpList_apZ {w : World} {ops : Array Oper} {rest : List Oper} {o : Oper} {a : Act} {Q : Exit → Act → World → Prop} (hgd : o.guard = none) (sl x : Operand) {u : TypeId}
    (ho : o.op = .call { callee := .builtin .append, args := #[sl, x], argTypes := #[49, u] })
    {base c : Nat} {A : Option Addr} {l k : List UInt8} {m : Nat} {xv : Value} (hs : a.eval sl = .slice A l.length c) (hown : OwnZ w base A c l) (hx : a.eval x = xv) (hsrc : Src Tryz.prog w u xv m k)
    (hb : l.length + m ≤ 140737488355328) (hbase : base ≤ w.heap.size)
    (h : ∀ A' c' w', OwnZ w' base A' c' (l ++ k) → Below base w w' → wpList Tryz.prog ops Q rest (a.put o.dst (.slice A' (l ++ k).length c')) w') :
    wpList Tryz.prog ops Q (o :: rest) a w := by
  refine wpList_plain hgd fun _ hK => ?_
  obtain ⟨A', c', w', hrun, h1, h2, _⟩ := run_apZ (ty := o.type) hown hsrc hb hbase
  unfold Oper.wp execOp
  simp only [ho, resolve, invoke, builtin, Sem.run_bind, Sem.run_pure, Result.andThen_ok, List.map_toArray, List.map_cons, List.map_nil, hs, hx, hrun]
  exact hK _ _ (h _ _ _ h1 h2)
theorem wp_apZ {w : World} {o : Oper} {a : Act} {K : Act → World → Prop} {Q : Exit → Act → World → Prop} (sl x : Operand) {u : TypeId}
    (ho : o.op = .call { callee := .builtin .append, args := #[sl, x], argTypes := #[49, u] })
    {base c : Nat} {A : Option Addr} {l k : List UInt8} {m : Nat} {xv : Value} (hs : a.eval sl = .slice A l.length c) (hown : OwnZ w base A c l) (hx : a.eval x = xv) (hsrc : Src Tryz.prog w u xv m k)
    (hb : l.length + m ≤ 140737488355328) (hbase : base ≤ w.heap.size)
    (h : ∀ A' c' w', OwnZ w' base A' c' (l ++ k) → Below base w w' → w.grownBy w' (Value.slice A l.length c).ownBlock → (∀ b, A' = some ⟨b, 0, none⟩ → A = some ⟨b, 0, none⟩ ∨ w.heap.size ≤ b) → K (a.put o.dst (.slice A' (l ++ k).length c')) w') :
    o.wp Tryz.prog a w K Q := by
  obtain ⟨A', c', w', hrun, h1, h2, h3, h4⟩ := run_apZ (ty := o.type) hown hsrc hb hbase
  unfold Oper.wp execOp
  simp only [ho, resolve, invoke, builtin, Sem.run_bind, Sem.run_pure, Result.andThen_ok, List.map_toArray, List.map_cons, List.map_nil, hs, hx, hrun]
  exact h _ _ _ h1 h2 h3 h4
theorem wpList_apZ2 {w : World} {ops : Array Oper} {rest : List Oper} {o : Oper} {a : Act} {Q : Exit → Act → World → Prop} (hgd : o.guard = none) (sl x : Operand) {u : TypeId}
    (ho : o.op = .call { callee := .builtin .append, args := #[sl, x], argTypes := #[49, u] })
    {base c : Nat} {A : Option Addr} {l k : List UInt8} {m : Nat} {xv : Value} (hs : a.eval sl = .slice A l.length c) (hown : OwnZ w base A c l) (hx : a.eval x = xv) (hsrc : Src Tryz.prog w u xv m k)
    (hb : l.length + m ≤ 140737488355328) (hbase : base ≤ w.heap.size)
    (h : ∀ A' c' w', OwnZ w' base A' c' (l ++ k) → Below base w w' → w.grownBy w' (Value.slice A l.length c).ownBlock → (∀ b, A' = some ⟨b, 0, none⟩ → A = some ⟨b, 0, none⟩ ∨ w.heap.size ≤ b) → wpList Tryz.prog ops Q rest (a.put o.dst (.slice A' (l ++ k).length c')) w') :
    wpList Tryz.prog ops Q (o :: rest) a w :=
  wpList_plain hgd fun _ hK => wp_apZ sl x ho hs hown hx hsrc hb hbase fun A' c' w' h1 h2 h3 h4 => hK _ _ (h A' c' w' h1 h2 h3 h4)
theorem step_apZ {w : World} {ops : Array Oper} {o : Oper} {a : Act} {K : Act → World → Prop} {Q : Exit → Act → World → Prop} {E0 : Prop} (hgd : o.guard = none) (sl x : Operand) {u : TypeId}
    (ho : o.op = .call { callee := .builtin .append, args := #[sl, x], argTypes := #[49, u] })
    {base c : Nat} {A : Option Addr} {l k : List UInt8} {m : Nat} {xv : Value} (hs : a.eval sl = .slice A l.length c) (hown : OwnZ w base A c l) (hx : a.eval x = xv) (hsrc : Src Tryz.prog w u xv m k)
    (hb : l.length + m ≤ 140737488355328) (hbase : base ≤ w.heap.size)
    (h : ∀ A' c' w', OwnZ w' base A' c' (l ++ k) → Below base w w' → w.grownBy w' (Value.slice A l.length c).ownBlock → (∀ b, A' = some ⟨b, 0, none⟩ → A = some ⟨b, 0, none⟩ ∨ w.heap.size ≤ b) → K (a.put o.dst (.slice A' (l ++ k).length c')) w') :
    if Region.wanted o (yielded ops a.tmps) = true then Oper.wp Tryz.prog o a w K Q else E0 := by
  rw [if_pos (by simp [Region.wanted, hgd])]
  exact wp_apZ sl x ho hs hown hx hsrc hb hbase h
/-- a block beside the row of one's own -/
theorem Arr.beside {w w' : World} {g : Nat} {e : TypeId} {xs : List Value} {A : Option Addr} {n c : Nat} (h : Arr w g e xs) (hg : w.grownBy w' (Value.slice A n c).ownBlock) (hne : A ≠ some ⟨g, 0, none⟩) (hA : ∀ a, A = some a → a = ⟨a.block, 0, none⟩) : Arr w' g e xs := by
  refine (hg.block g h.lt ?_).trans h
  cases A with
  | none => simp [Value.ownBlock]
  | some a =>
    intro he
    simp only [Value.ownBlock, Option.some.injEq] at he
    apply hne
    rw [hA a rfl, he]
theorem OwnZ.addr {w : World} {base c : Nat} {A : Option Addr} {l : List UInt8} (h : OwnZ w base A c l) : ∀ a, A = some a → a = ⟨a.block, 0, none⟩ := by
  obtain ⟨g, _, _, rfl, _⟩ := h
  intro a e; cases e; rfl
end Go.Proofs.YtmjcoebfldmgnaaGreat
/-! A Raw thing as a value. No condition -/
namespace Go.Proofs.YtmjcoebfldmgnaaGreat
open Go.RowKit
set_option linter.unusedVariables false

def rval (r : RawP) : Value := .agg #[.int .i64 r.kind, .int .i64 r.a, .int .i64 r.b, .string r.text]
end Go.Proofs.YtmjcoebfldmgnaaGreat
/-! keep.Data. Conditions: the sizes -/
namespace Go.Proofs.YtmjcoebfldmgnaaGreat
open Go.RowKit
set_option linter.unusedVariables false
set_option maxRecDepth 100000

def u8 (a : Int) : UInt8 := UInt8.ofNat (a % 256).toNat
theorem u8_wrap (a : Int) : IntKind.u8.wrap a = ((u8 a).toNat : Int) := by
  rw [IntKind.wrap_u8, u8, UInt8.toNat_ofNat']
  omega
def datL (r : RawP) (most : Nat) : List UInt8 := (r.text.data.toList ++ [u8 r.a, u8 r.b]).take most
theorem datL_len (r : RawP) (most : Nat) : (datL r most).length ≤ most := by rw [datL, List.length_take]; omega

theorem Data_ok (r : RawP) (most : Nat) (M : Int) (hM : (most : Int) = M) (hmo : most ≤ 1000) (ho : RawOk r) (w : World) :
    Calls Tryz.prog 43 #[rval r, .int .i64 M] w fun e w' => ∃ A c, e = .returned (.slice A (datL r most).length c) ∧ OwnZ w' w.heap.size A c (datL r most) ∧ Below w.heap.size w w' := by
  subst hM
  obtain ⟨k, a, b, t⟩ := r
  have ht := ho.t
  have ua := u8_wrap a
  have ub := u8_wrap b
  unfold rval
  simp only [datL]
  generalize u8 a = x at *
  generalize u8 b = y at *
  dsimp only at ht ⊢
  have hsz : t.data.toList.length = t.size := by rw [Array.length_toList]; rfl
  obtain ⟨w1, hw1⟩ : ∃ w1, w1 = w.alloc (.cells #[.int .i64 k, .int .i64 a, .int .i64 b, .string t] 73) := ⟨_, rfl⟩
  have s1 : w1.heap.size = w.heap.size + 1 := by rw [hw1, World.size_alloc]
  have hb1 : Below w.heap.size w w1 := by rw [hw1]; exact (Below.refl _ _).alloc (Nat.le_refl _) _
  have hr : Rd (w1.alloc (.cells #[.int .u8 (x.toNat : Int), .int .u8 (y.toNat : Int)] 5)) 1 (some ⟨w.heap.size + 1, 0, none⟩) 2 (bys [x, y]) := by
    have := Rd.newN (w := w1) (e := 5) (size := 1) (m := 2) (bys [x, y]) rfl
    rw [s1] at this; exact this
  have hb2 : Below w.heap.size w (w1.alloc (.cells #[.int .u8 (x.toNat : Int), .int .u8 (y.toNat : Int)] 5)) := hb1.alloc (by omega) _
  have qs := run_str (P := Tryz.prog) (c := 2) (src := 49) (dst := 9) Tryz.underlying49 Tryz.underlying5 Tryz.underlying9 (n := 2) (l := [x, y]) rfl hr
  obtain ⟨S, hS⟩ : ∃ S : ByteArray, S = t ++ ⟨[x, y].toArray⟩ := ⟨_, rfl⟩
  have qa := fun w' => run_string_add_sum (P := Tryz.prog) (w := w') t ⟨[x, y].toArray⟩ (by show t.size + 2 ≤ _; omega)
  have hSl : S.data.toList = t.data.toList ++ [x, y] := by rw [hS, ByteArray.data_append, Array.toList_append]
  have hSs : S.size = t.size + 2 := by
    have h := congrArg List.length hSl
    rw [Array.length_toList, List.length_append, hsz] at h; exact h
  rw [← hS] at qa
  rw [← hSl]
  obtain ⟨E, hE⟩ : ∃ E : ByteArray, E = S.extract 0 (min ((t.size : Int) + 2) (most : Int)).toNat := ⟨_, rfl⟩
  have hEl : S.data.toList.take most = E.data.toList := by
    have hl := congrArg List.length hSl
    rw [List.length_append, hsz] at hl
    rw [hE, ByteArray.data_extract, Array.toList_extract, List.extract_eq_take_drop, List.drop_zero, Nat.sub_zero]
    rcases Nat.le_total (t.size + 2) most with h | h
    · rw [List.take_of_length_le (by rw [hl]; exact h), List.take_of_length_le (by rw [hl]; simp only [List.length_cons, List.length_nil]; omega)]
    · congr 1; omega
  have hEs : E.size ≤ maxLen := by
    have h := congrArg List.length hEl
    rw [List.length_take] at h
    have h2 : E.data.toList.length = E.size := by rw [Array.length_toList]; rfl
    simp only [maxLen]; omega
  rw [hEl]
  obtain ⟨w3, qz, hz, hb3⟩ := conv_Z E (w1.alloc (.cells #[.int .u8 (x.toNat : Int), .int .u8 (y.toNat : Int)] 5)) hEs
  have hz := hz.lower hb2.size
  have hb23 := hb2.trans (hb3.mono hb2.size)
  generalize grownCap (w1.alloc (.cells #[.int .u8 (x.toNat : Int), .int .u8 (y.toNat : Int)] 5)) E.size 0 5 = c at qz hz
  generalize (w1.alloc (.cells #[.int .u8 (x.toNat : Int), .int .u8 (y.toNat : Int)] 5)).heap.size = g at qz hz
  generalize E.data.toList = L at qz hz ⊢
  rw [hE] at qz
  rw [hw1] at qz qs
  clear hr hS hSl hb1 hw1 s1 hE hEl hEs hb2 hb3
  go_enter Tryz.func43, Tryz.ntmps43
  repeat' ((fail_if_success at_builtin); (fail_if_success at_make); (first | go_values | go_skip | go_guarded | go_step | go_upon | go_back))
  go_ret
  exact ⟨_, _, rfl, hz, hb23⟩
end Go.Proofs.YtmjcoebfldmgnaaGreat
