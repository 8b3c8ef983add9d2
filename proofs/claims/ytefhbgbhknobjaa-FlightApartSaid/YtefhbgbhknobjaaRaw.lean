/- A slice of Raw things that came in, as cells that read. No condition. -/
import Derived.Test.YtefhbgbhknobjaaLift
namespace Go.Proofs.Ytefhbgbhknobjaa
open Go.ChangeShapes Go.WideShapes Go.ChangeAt Go.RowKit
open Go.WideMaps Go.WideElems Go.Deep
set_option linter.unusedVariables false
set_option linter.unusedSimpArgs false
set_option maxRecDepth 100000

/-- a Raw thing -/
structure RawP where
  kind : Int
  a : Int
  b : Int
  text : ByteArray
structure RawOk (r : RawP) : Prop where
  k0 : -9223372036854775808 ≤ r.kind
  k1 : r.kind ≤ 9223372036854775807
  a0 : -9223372036854775808 ≤ r.a
  a1 : r.a ≤ 9223372036854775807
  b0 : -9223372036854775808 ≤ r.b
  b1 : r.b ≤ 9223372036854775807
  t : r.text.size ≤ 140737488351232
def rcell (r : RawP) : List Value := [.int .i64 r.kind, .int .i64 r.a, .int .i64 r.b, .string r.text]
def rcs (l : List RawP) : List Value := l.flatMap rcell
theorem rcs_len (l : List RawP) : (rcs l).length = l.length * 4 := by
  induction l with
  | nil => rfl
  | cons x l ih => simp only [rcs, List.flatMap_cons, List.length_append, List.length_cons] at *; rw [ih]; simp [rcell]; omega
theorem rcs_at : ∀ (l : List RawP) (k j : Nat) (h : k < l.length) (hj : j < 4), (rcs l)[k * 4 + j]? = (rcell l[k])[j]?
  | x :: l, 0, j, h, hj => by
    show (rcell x ++ rcs l)[0 * 4 + j]? = (rcell x)[j]?
    rw [Nat.zero_mul, Nat.zero_add, List.getElem?_append_left (by simpa [rcell] using hj)]
  | x :: l, k + 1, j, h, hj => by
    show (rcell x ++ rcs l)[(k + 1) * 4 + j]? = _
    rw [List.getElem?_append_right (by simp [rcell]; omega), show (k + 1) * 4 + j - (rcell x).length = k * 4 + j by simp [rcell]; omega, rcs_at l k j (by simpa using h) hj]
    rfl
theorem rcs_one (l : List RawP) : ∀ u ∈ rcs l, u.oneCell' = true := by
  intro u hu
  simp only [rcs, List.mem_flatMap] at hu
  obtain ⟨r, _, hu⟩ := hu
  simp only [rcell, List.mem_cons, List.not_mem_nil, or_false] at hu
  rcases hu with rfl | rfl | rfl | rfl <;> rfl

theorem exists_list {α : Type} (P : Nat → α → Prop) : ∀ n, (∀ i, i < n → ∃ r, P i r) → ∃ l : List α, l.length = n ∧ ∀ i (h : i < l.length), P i l[i]
  | 0, _ => ⟨[], rfl, fun i h => absurd h (by simp)⟩
  | n + 1, h => by
    obtain ⟨l, hl, hp⟩ := exists_list P n (fun i hi => h i (by omega))
    obtain ⟨r, hr⟩ := h n (by omega)
    refine ⟨l ++ [r], by simp [hl], fun i hi => ?_⟩
    by_cases hin : i < l.length
    · rw [List.getElem_append_left hin]; exact hp i hin
    · have : i = n := by simp at hi; omega
      subst this
      rw [List.getElem_append_right (by omega)]
      simpa [hl] using hr

section
variable {H : Type} {enc : TypeId × Value → H}
theorem weightsAll_mem {P : Program} {e : TypeId} {d : DataW H} {x : Nat} : ∀ {l : List (DataW H)}, d ∈ l → x ∈ d.weights P e → x ∈ DataW.weightsAll P e l
  | y :: l, h, hx => by
    simp only [DataW.weightsAll, List.mem_append]
    cases List.mem_cons.1 h with
    | inl h => exact .inl (h ▸ hx)
    | inr h => exact .inr (weightsAll_mem h hx)

theorem raw_one {w : World} {n : Nat} {a : Addr} {cs : List Value} {x : DataW H × List MemPlace} (hc : w.cells? 0 a 4 = some cs) (h : DataW.trod enc Try.prog w 0 (fun _ => true) true n 53 cs = some x) :
    ∃ r : RawP, (∀ j, j < 4 → w.cell? (a.add j) = (rcell r)[j]?) ∧ r.text.size ∈ x.1.weights Try.prog 53 ∧
      ((Lit.int .i64 r.kind).wf = true ∧ (Lit.int .i64 r.a).wf = true ∧ (Lit.int .i64 r.b).wf = true) := by
  obtain ⟨_, hlen, hcell⟩ := World.cells?_some hc
  obtain ⟨xs, m, _, hx, _, hxl, hf⟩ := DataW.trod_struct Try.underlying53 h
  match cs, hlen with
  | [c0, c1, c2, c3], _ =>
    match xs, hxl with
    | [y0, y1, y2, y3], _ =>
      have hci : Try.prog.cellsOf 3 = 1 := by kernel_rfl
      have hcs : Try.prog.cellsOf 9 = 1 := by kernel_rfl
      have h0 : DataW.trod enc Try.prog w 0 (fun _ => true) true m 3 (([c0, c1, c2, c3].drop 0).take (Try.prog.cellsOf 3)) = some y0 := hf 0 _ rfl
      have h1 : DataW.trod enc Try.prog w 0 (fun _ => true) true m 3 (([c0, c1, c2, c3].drop 1).take (Try.prog.cellsOf 3)) = some y1 := hf 1 _ rfl
      have h2 : DataW.trod enc Try.prog w 0 (fun _ => true) true m 3 (([c0, c1, c2, c3].drop 2).take (Try.prog.cellsOf 3)) = some y2 := hf 2 _ rfl
      have h3 : DataW.trod enc Try.prog w 0 (fun _ => true) true m 9 (([c0, c1, c2, c3].drop 3).take (Try.prog.cellsOf 9)) = some y3 := hf 3 _ rfl
      rw [hci] at h0 h1 h2
      rw [hcs] at h3
      obtain ⟨n0, e0, f0, g0⟩ := DataW.trod_int (k := .i64) Try.underlying3 h0
      obtain ⟨n1, e1, f1, g1⟩ := DataW.trod_int (k := .i64) Try.underlying3 h1
      obtain ⟨n2, e2, f2, g2⟩ := DataW.trod_int (k := .i64) Try.underlying3 h2
      obtain ⟨s3, e3, f3, g3⟩ := DataW.trod_string Try.underlying9 h3
      have e0' : c0 = .int .i64 n0 := by simpa using e0
      have e1' : c1 = .int .i64 n1 := by simpa using e1
      have e2' : c2 = .int .i64 n2 := by simpa using e2
      have e3' : c3 = .string s3 := by simpa using e3
      subst e0' e1' e2' e3'
      refine ⟨⟨n0, n1, n2, s3⟩, fun j hj => hcell j hj, ?_, g0, g1, g2⟩
      rw [hx, f0, f1, f2, f3]
      show s3.size ∈ DataW.weights Try.prog 53 (.agg [_, _, _, _])
      rw [DataW.weights, Try.underlying53]
      simp [DataW.weightsEach, DataW.weights]

variable {w : World} {ts : List TypeId} {ds : List (DataW H)} {ps : List MemPlace} {r : Reach} {b0 : Nat}
/-- a slice of Raw things -/
theorem open_raws {v : Value} {d : DataW H} {j : Nat} (hval : Value.okWide Try.prog w r b0 22 v) (hd : DataW.Trod enc Try.prog w 0 (fun _ => true) true 22 v d ps)
    (hsz : (DataW.weightsEach Try.prog ts ds).all (· ≤ reachBytes) = true) (hj : ts[j]? = some 22) (hdj : ds[j]? = some d) :
    ∃ A n c, ∃ l : List RawP, v = .slice A n c ∧ l.length = n ∧ n ≤ c ∧ c * Try.prog.bytesOf 53 ≤ 140737488351232 ∧ c ≤ maxLen ∧ (∀ z ∈ l, RawOk z) ∧ n ≤ Rows.uptoBulk d ∧ Rd w 4 A n (rcs l) := by
  have ht := Try.underlying22
  have hC : Try.prog.cellsOf 53 = 4 := by kernel_rfl
  obtain ⟨a0, len, cap, rfl⟩ := okWide_slice ht hval
  obtain ⟨fuel, hf⟩ := hd
  rcases open_slice ht hf with ⟨hcs, hx⟩ | ⟨a, len', cap', m, n, D, Pl, hcs, _, hl, hm, hmm, hx, hi⟩
  · have : Value.slice a0 len cap = .slice none 0 0 := by simpa [Value.cells] using hcs
    injection this with e1 e2 e3
    subst e1 e2 e3
    exact ⟨none, 0, 0, [], rfl, rfl, Nat.le_refl _, by omega, by simp [maxLen], by simp, Nat.zero_le _, Rd.nil_⟩
  · have : Value.slice a0 len cap = .slice (some a) len' cap' := by simpa [Value.cells] using hcs
    injection this with e1 e2 e3
    subst e1 e2 e3
    simp only [if_true] at hmm
    subst hmm
    have hd : d = .slice ((List.range len).map D) ((List.range (m - len)).map fun j => D (len + j)) := by
      have := congrArg Prod.fst hx; simpa using this
    subst hd
    have hs := sized_slice hsz hj hdj ht
    simp only [List.length_map, List.length_range] at hs
    rw [show len + (m - len) = m by omega] at hs
    have hone : ∀ i, i < len → ∃ z : RawP, RawOk z ∧ ∀ j, j < 4 → w.cell? (a.add (i * 4 + j)) = (rcell z)[j]? := fun i hin => by
      obtain ⟨cs', hc, ht'⟩ := hi i (by omega)
      rw [hC] at hc
      obtain ⟨z, hz, hw, hk, ha, hb⟩ := raw_one hc ht'
      have hmem : z.text.size ∈ DataW.weightsEach Try.prog ts ds := by
        refine DataW.weights_mem_each hj hdj _ ?_
        rw [DataW.weights, ht]
        simp only [List.mem_cons, List.mem_append]
        exact .inr (.inl (weightsAll_mem (List.mem_map.2 ⟨i, List.mem_range.2 hin, rfl⟩) hw))
      have hle := List.all_eq_true.1 hsz _ hmem
      have hk' := wf_i64 hk
      have ha' := wf_i64 ha
      have hb' := wf_i64 hb
      refine ⟨z, ⟨hk'.1, hk'.2, ha'.1, ha'.2, hb'.1, hb'.2, by simpa [reachBytes] using of_decide_eq_true hle⟩, fun j hj => ?_⟩
      rw [← hz j hj, addAdd]
    obtain ⟨l, hll, hlp⟩ := exists_list _ len hone
    refine ⟨some a, len, m, l, rfl, hll, hl, by simpa [reachBytes] using hs, hm, fun z hz => ?_, ?_, ⟨by rw [rcs_len, hll], fun hn => ?_⟩⟩
    · obtain ⟨i, hi, rfl⟩ := List.mem_iff_getElem.1 hz
      exact (hlp i hi).1
    · have h1 := bulk_len (H := H) ((List.range len).map D)
      simp only [List.length_map, List.length_range] at h1
      simp only [Rows.uptoBulk]; omega
    · have h0 := (hlp 0 (by omega)).2 0 (by omega)
      have hsp : a.spot = none := spot_none (w := w) (v := .int .i64 (l[0]'(by omega)).kind) (by have := h0; simpa [Addr.add, rcell] using this)
      obtain ⟨b, off, spot⟩ := a
      simp only at hsp
      subst hsp
      have hadd : ∀ i, (⟨b, off, none⟩ : Addr).add i = ⟨b, off + i, none⟩ := fun i => by unfold Addr.add; split <;> simp_all
      refine ⟨b, off, rfl, World.block_lt_of_cell? w ((⟨b, off, none⟩ : Addr).add (0 * 4 + 0)) (u := .int .i64 (l[0]'(by omega)).kind) (by rw [h0]; rfl), fun i u hu => ?_⟩
      have hil := (List.getElem?_eq_some_iff.1 hu).1
      rw [rcs_len] at hil
      have hk : i / 4 < l.length := by omega
      have h2 := (hlp (i / 4) hk).2 (i % 4) (by omega)
      rw [← rcs_at l (i / 4) (i % 4) hk (by omega), show i / 4 * 4 + i % 4 = i by omega, hu, hadd] at h2
      exact h2
end
end Go.Proofs.Ytefhbgbhknobjaa
