/- Orders, plain: what order.of, Check, Encode and Decode answer; the one undoes the other; no beginning and no extension. No condition. And order.of, order.Check walked. Conditions: the sizes. -/
import Derived.Test.YtdpedkgdobfemaaDec
import Derived.Test.YtdpedkgdobfemaaZ
import Derived.Laws.ResultCell
namespace Go.Proofs.Ytdpedkgdobfemaa
open Go.RowKit
set_option linter.unusedVariables false
set_option linter.unusedSimpArgs false
set_option maxRecDepth 100000

structure OrdP where
  kind : Nat
  n : Nat
  dig : List UInt8
  data : List UInt8
  parts : List PartP
structure FldP where
  n : Bool
  dig : Bool
  data : Bool
  parts : Bool
/-- order.of -/
def fOf (k : Nat) : FldP × Bool :=
  if k = 1 then (⟨false, false, true, false⟩, true)
  else if k = 2 ∨ k = 3 ∨ k = 4 ∨ k = 6 ∨ k = 7 ∨ k = 8 ∨ k = 14 then (⟨false, true, false, false⟩, true)
  else if k = 5 ∨ k = 13 then (⟨false, true, false, true⟩, true)
  else if k = 9 ∨ k = 11 then (⟨true, false, false, false⟩, true)
  else if k = 10 then (⟨false, false, false, false⟩, true)
  else if k = 12 then (⟨true, true, false, false⟩, true)
  else (⟨false, false, false, false⟩, false)
theorem fOf_big {k : Nat} (h : 14 < k) : fOf k = (⟨false, false, false, false⟩, false) := by
  unfold fOf
  rw [if_neg (by omega), if_neg (by omega), if_neg (by omega), if_neg (by omega), if_neg (by omega), if_neg (by omega)]
theorem fOf_le {k : Nat} (h : (fOf k).2 = true) : 1 ≤ k ∧ k ≤ 14 := by
  rcases Nat.lt_or_ge 14 k with h1 | h1
  · rw [fOf_big h1] at h; cases h
  · rcases Nat.eq_zero_or_pos k with rfl | h0
    · exact absurd h (by decide)
    · exact ⟨h0, h1⟩
/-- no order has data and parts -/
theorem fOf_one (k : Nat) : (fOf k).1.data = true → (fOf k).1.n = false ∧ (fOf k).1.dig = false ∧ (fOf k).1.parts = false := by
  unfold fOf
  repeat' split
  all_goals simp
/-- order.Check -/
def ordC (o : OrdP) : Nat :=
  if (fOf o.kind).2 = false then 2
  else if ((fOf o.kind).1.n = false ∧ o.n ≠ 0) ∨ ((fOf o.kind).1.dig = false ∧ o.dig ≠ []) ∨ ((fOf o.kind).1.data = false ∧ o.data ≠ []) ∨ ((fOf o.kind).1.parts = false ∧ o.parts ≠ []) then 3
  else if 4000 < o.n then 4
  else if (fOf o.kind).1.dig = true ∧ hexC o.dig ≠ 0 then hexC o.dig
  else if 300 < o.data.length then 1
  else chk o.parts
/-- an order that may be: what it has -/
structure GoodO (o : OrdP) : Prop where
  kind : (fOf o.kind).2 = true
  n0 : (fOf o.kind).1.n = false → o.n = 0
  d0 : (fOf o.kind).1.dig = false → o.dig = []
  t0 : (fOf o.kind).1.data = false → o.data = []
  p0 : (fOf o.kind).1.parts = false → o.parts = []
  n1 : o.n ≤ 4000
  d1 : (fOf o.kind).1.dig = true → hexC o.dig = 0
  t1 : o.data.length ≤ 300
  p1 : chk o.parts = 0
theorem good_ord (o : OrdP) : ordC o = 0 ↔ GoodO o := by
  constructor
  · intro h
    unfold ordC at h
    split at h
    · cases h
    · rename_i h1
      split at h
      · cases h
      · rename_i h2
        split at h
        · cases h
        · rename_i h3
          split at h
          · rename_i h4; exact absurd h h4.2
          · rename_i h4
            split at h
            · cases h
            · rename_i h5
              have q1 : ∀ {p : Prop} [Decidable p], ¬ (¬ p) → p := fun h => Decidable.not_not.1 h
              refine ⟨by simpa using h1, fun e => q1 fun g => h2 (.inl ⟨e, g⟩), fun e => q1 fun g => h2 (.inr (.inl ⟨e, g⟩)), fun e => q1 fun g => h2 (.inr (.inr (.inl ⟨e, g⟩))), fun e => Classical.not_not.1 fun g => h2 (.inr (.inr (.inr ⟨e, g⟩))), by omega, fun e => q1 fun g => h4 ⟨e, g⟩, by omega, h⟩
  · intro h
    unfold ordC
    rw [if_neg (by rw [h.kind]; decide), if_neg ?_, if_neg (by have := h.n1; omega), if_neg (fun g => g.2 (h.d1 g.1)), if_neg (by have := h.t1; omega), h.p1]
    rintro (g | g | g | g)
    · exact g.2 (h.n0 g.1)
    · exact g.2 (h.d0 g.1)
    · exact g.2 (h.t0 g.1)
    · exact g.2 (h.p0 g.1)
/-- order.Encode -/
def encF (f : FldP) (o : OrdP) : List UInt8 :=
  (if f.n then num o.n else []) ++ ((if f.dig then (hexB o.dig).1 else []) ++ ((if f.data then txt o.data else []) ++ (if f.parts then enc o.parts else [])))
def encO (o : OrdP) : List UInt8 := num o.kind ++ encF (fOf o.kind).1 o
/-- order.Decode, step by step: nothing, and what is wrong -/
def noO (e : Nat) : OrdP × Nat := (⟨0, 0, [], [], []⟩, e)
def decO5 (o : OrdP) (l : List UInt8) : OrdP × Nat := if 0 < l.length then noO 3 else if ordC o ≠ 0 then noO (ordC o) else (o, 0)
def decO4 (f : FldP) (o : OrdP) (l : List UInt8) : OrdP × Nat :=
  if f.parts then (if (decL l).2 ≠ 0 then noO (decL l).2 else decO5 { o with parts := (decL l).1 } []) else decO5 o l
def decO3 (f : FldP) (o : OrdP) (l : List UInt8) : OrdP × Nat :=
  if f.data then (if (rdTxt l).2.2 ≠ 0 then noO (rdTxt l).2.2 else decO4 f { o with data := (rdTxt l).1 } (rdTxt l).2.1) else decO4 f o l
def decO2 (f : FldP) (o : OrdP) (l : List UInt8) : OrdP × Nat :=
  if f.dig then (if l.length < 32 then noO 8 else decO3 f { o with dig := hexs (l.take 32) } (l.drop 32)) else decO3 f o l
def decO1 (f : FldP) (o : OrdP) (l : List UInt8) : OrdP × Nat :=
  if f.n then (if (rdNum l).2.2 ≠ 0 then noO (rdNum l).2.2 else decO2 f { o with n := (rdNum l).1 } (rdNum l).2.1) else decO2 f o l
def decO (l : List UInt8) : OrdP × Nat :=
  if (rdNum l).2.2 ≠ 0 then noO (rdNum l).2.2
  else if (fOf (rdNum l).1).2 = false then noO 2
  else decO1 (fOf (rdNum l).1).1 ⟨(rdNum l).1, 0, [], [], []⟩ (rdNum l).2.1

theorem dig_le {d : List UInt8} (h : hexC d = 0) : ((hexB d).1).length = 32 ∧ hexs (hexB d).1 = d := ⟨(hexC_zero h).2, hexB_zero (hexC_zero h).1⟩
theorem decO5_ok {o : OrdP} (h : GoodO o) : decO5 o [] = (o, 0) := by
  rw [decO5, if_neg (by simp), if_neg (by rw [(good_ord o).2 h]; simp)]
theorem decO_enc (o : OrdP) (h : GoodO o) : decO (encO o) = (o, 0) := by
  have hk := fOf_le h.kind
  have e1 : rdNum (encO o) = (o.kind, encF (fOf o.kind).1 o, 0) := rdNum_num _ _ (by omega)
  rw [decO, e1]
  dsimp only
  rw [if_neg (by simp), if_neg (by rw [h.kind]; decide)]
  generalize hf : (fOf o.kind).1 = f
  have n0 := h.n0; have d0 := h.d0; have t0 := h.t0; have p0 := h.p0; have d1 := h.d1; have n1 := h.n1; have t1 := h.t1; have p1 := h.p1
  rw [hf] at n0 d0 t0 p0 d1
  have h5 := decO5_ok h
  clear h e1 hk hf
  obtain ⟨k, n, d, t, p⟩ := o
  obtain ⟨fn, fd, ft, fp⟩ := f
  dsimp only at *
  have s4 : ∀ l, l = (if fp then enc p else []) → decO4 ⟨fn, fd, ft, fp⟩ ⟨k, n, d, t, []⟩ l = (⟨k, n, d, t, p⟩, 0) := by
    rintro l rfl
    cases fp with
    | false => obtain rfl := p0 rfl; exact h5
    | true => rw [decO4, if_pos rfl, if_pos rfl, decL_enc p p1, if_neg (by simp)]; exact h5
  have s3 : ∀ l, l = (if ft then txt t else []) ++ (if fp then enc p else []) → decO3 ⟨fn, fd, ft, fp⟩ ⟨k, n, d, [], []⟩ l = (⟨k, n, d, t, p⟩, 0) := by
    rintro l rfl
    cases ft with
    | false => obtain rfl := t0 rfl; exact s4 _ rfl
    | true => rw [decO3, if_pos rfl, if_pos rfl, rdTxt_txt _ _ (by omega), if_neg (by simp)]; exact s4 _ rfl
  have s2 : ∀ l, l = (if fd then (hexB d).1 else []) ++ ((if ft then txt t else []) ++ (if fp then enc p else [])) → decO2 ⟨fn, fd, ft, fp⟩ ⟨k, n, [], [], []⟩ l = (⟨k, n, d, t, p⟩, 0) := by
    rintro l rfl
    cases fd with
    | false => obtain rfl := d0 rfl; exact s3 _ rfl
    | true =>
      have hd := dig_le (d1 rfl)
      rw [decO2, if_pos rfl, if_pos rfl, if_neg (by rw [List.length_append]; omega), List.take_append_of_le_length (by omega), List.take_of_length_le (by omega), List.drop_append_of_le_length (by omega), List.drop_of_length_le (by omega), hd.2]
      exact s3 _ rfl
  cases fn with
  | false => obtain rfl := n0 rfl; exact s2 _ rfl
  | true =>
    rw [decO1, if_pos rfl]
    have e : rdNum (encF ⟨true, fd, ft, fp⟩ ⟨k, n, d, t, p⟩) = (n, _, 0) := rdNum_num n _ (by omega)
    rw [e, if_neg (by simp)]
    exact s2 _ rfl
theorem noO_ne {e : Nat} {o : OrdP} (he : e ≠ 0) (h : noO e = (o, 0)) : False := by cases h; exact he rfl
theorem decO5_inv {o p : OrdP} {l : List UInt8} (h : decO5 o l = (p, 0)) : o = p ∧ GoodO p ∧ l = [] := by
  unfold decO5 at h
  split at h
  · exact (noO_ne (by decide) h).elim
  · split at h
    · rename_i h2; exact (noO_ne h2 h).elim
    · rename_i h1 h2
      cases h
      exact ⟨rfl, (good_ord o).1 (Classical.not_not.1 h2), List.eq_nil_of_length_eq_zero (by omega)⟩
theorem decO4_inv {f : FldP} {k n : Nat} {d t : List UInt8} {p : OrdP} {l : List UInt8} (h : decO4 f ⟨k, n, d, t, []⟩ l = (p, 0)) :
    p.kind = k ∧ p.n = n ∧ p.dig = d ∧ p.data = t ∧ GoodO p ∧ l = (if f.parts then enc p.parts else []) := by
  unfold decO4 at h
  split at h
  · rename_i hf
    split at h
    · rename_i h2; exact (noO_ne h2 h).elim
    · rename_i h2
      obtain ⟨rfl, hg, _⟩ := decO5_inv h
      have := decL_inv (b := l) (x := (decL l).1) (by rw [← Classical.not_not.1 h2])
      exact ⟨rfl, rfl, rfl, rfl, hg, by rw [if_pos hf]; exact this.1.symm⟩
  · rename_i hf
    obtain ⟨rfl, hg, h3⟩ := decO5_inv h
    exact ⟨rfl, rfl, rfl, rfl, hg, by rw [if_neg hf]; exact h3⟩
theorem decO3_inv {f : FldP} {k n : Nat} {d : List UInt8} {p : OrdP} {l : List UInt8} (h : decO3 f ⟨k, n, d, [], []⟩ l = (p, 0)) :
    p.kind = k ∧ p.n = n ∧ p.dig = d ∧ GoodO p ∧ l = (if f.data then txt p.data else []) ++ (if f.parts then enc p.parts else []) := by
  unfold decO3 at h
  split at h
  · rename_i hf
    split at h
    · rename_i h2; exact (noO_ne h2 h).elim
    · rename_i h2
      obtain ⟨h1, h3, h4, h5, hg, h6⟩ := decO4_inv h
      have := rdTxt_inv (b := l) (t := (rdTxt l).1) (rest := (rdTxt l).2.1) (by rw [← Classical.not_not.1 h2])
      refine ⟨h1, h3, h4, hg, ?_⟩
      rw [if_pos hf, h5, ← h6]; exact this.2
  · rename_i hf
    obtain ⟨h1, h3, h4, h5, hg, h6⟩ := decO4_inv h
    exact ⟨h1, h3, h4, hg, by rw [if_neg hf]; exact h6⟩
theorem decO2_inv {f : FldP} {k n : Nat} {p : OrdP} {l : List UInt8} (h : decO2 f ⟨k, n, [], [], []⟩ l = (p, 0)) :
    p.kind = k ∧ p.n = n ∧ GoodO p ∧ l = (if f.dig then (hexB p.dig).1 else []) ++ ((if f.data then txt p.data else []) ++ (if f.parts then enc p.parts else [])) := by
  unfold decO2 at h
  split at h
  · rename_i hf
    split at h
    · exact (noO_ne (by decide) h).elim
    · rename_i h2
      obtain ⟨h1, h3, h4, hg, h6⟩ := decO3_inv h
      refine ⟨h1, h3, hg, ?_⟩
      have e : (hexB p.dig).1 = l.take 32 := by rw [h4, hexB_of _ (by rw [List.length_take]; omega)]
      rw [if_pos hf, e, ← h6, List.take_append_drop]
  · rename_i hf
    obtain ⟨h1, h3, h4, hg, h6⟩ := decO3_inv h
    exact ⟨h1, h3, hg, by rw [if_neg hf]; exact h6⟩
theorem decO1_inv {f : FldP} {k : Nat} {p : OrdP} {l : List UInt8} (h : decO1 f ⟨k, 0, [], [], []⟩ l = (p, 0)) : p.kind = k ∧ GoodO p ∧ l = encF f p := by
  unfold decO1 at h
  split at h
  · rename_i hf
    split at h
    · rename_i h2; exact (noO_ne h2 h).elim
    · rename_i h2
      obtain ⟨h1, h3, hg, h6⟩ := decO2_inv h
      have := rdNum_inv (b := l) (m := (rdNum l).1) (rest := (rdNum l).2.1) (by rw [← Classical.not_not.1 h2])
      refine ⟨h1, hg, ?_⟩
      rw [encF, if_pos hf, h3, ← h6]; exact this.2
  · rename_i hf
    obtain ⟨h1, h3, hg, h6⟩ := decO2_inv h
    refine ⟨h1, hg, ?_⟩
    rw [encF, if_neg hf]; exact h6
theorem decO_inv {b : List UInt8} {o : OrdP} (h : decO b = (o, 0)) : encO o = b ∧ GoodO o := by
  unfold decO at h
  split at h
  · rename_i h2; exact (noO_ne h2 h).elim
  · rename_i h2
    split at h
    · exact (noO_ne (by decide) h).elim
    · obtain ⟨h1, hg, h3⟩ := decO1_inv h
      have := rdNum_inv (b := b) (m := (rdNum b).1) (rest := (rdNum b).2.1) (by rw [← Classical.not_not.1 h2])
      refine ⟨?_, hg⟩
      rw [encO, h1, ← h3]; exact this.2.symm
theorem decO_more (o : OrdP) (more : List UInt8) (h : GoodO o) (h0 : 0 < more.length) (hm : more.length ≤ 1000) : decO (encO o ++ more) = noO 3 := by
  have hk := fOf_le h.kind
  have e1 : rdNum (encO o ++ more) = (o.kind, encF (fOf o.kind).1 o ++ more, 0) := by rw [encO, List.append_assoc]; exact rdNum_num _ _ (by omega)
  rw [decO, e1]
  dsimp only
  rw [if_neg (by simp), if_neg (by rw [h.kind]; decide)]
  generalize hf : (fOf o.kind).1 = f
  have n0 := h.n0; have d0 := h.d0; have t0 := h.t0; have p0 := h.p0; have d1 := h.d1; have n1 := h.n1; have t1 := h.t1; have p1 := h.p1
  rw [hf] at n0 d0 t0 p0 d1
  clear h e1 hk hf
  obtain ⟨k, n, d, t, p⟩ := o
  obtain ⟨fn, fd, ft, fp⟩ := f
  dsimp only at *
  have s4 : ∀ l, l = (if fp then enc p else []) ++ more → decO4 ⟨fn, fd, ft, fp⟩ ⟨k, n, d, t, []⟩ l = noO 3 := by
    rintro l rfl
    cases fp with
    | false => rw [decO4, if_neg (by simp), decO5]; simp only [Bool.false_eq_true, if_false, List.nil_append]; rw [if_pos h0]
    | true => rw [decO4, if_pos rfl, if_pos rfl, decL_more p more p1 hm, if_pos h0, if_pos (by simp)]
  have s3 : ∀ l, l = (if ft then txt t else []) ++ ((if fp then enc p else []) ++ more) → decO3 ⟨fn, fd, ft, fp⟩ ⟨k, n, d, [], []⟩ l = noO 3 := by
    rintro l rfl
    cases ft with
    | false => obtain rfl := t0 rfl; exact s4 _ rfl
    | true => rw [decO3, if_pos rfl, if_pos rfl, rdTxt_txt _ _ (by omega), if_neg (by simp)]; exact s4 _ rfl
  have s2 : ∀ l, l = (if fd then (hexB d).1 else []) ++ ((if ft then txt t else []) ++ ((if fp then enc p else []) ++ more)) → decO2 ⟨fn, fd, ft, fp⟩ ⟨k, n, [], [], []⟩ l = noO 3 := by
    rintro l rfl
    cases fd with
    | false => obtain rfl := d0 rfl; exact s3 _ rfl
    | true =>
      have hd := dig_le (d1 rfl)
      rw [decO2, if_pos rfl, if_pos rfl, if_neg (by rw [List.length_append]; omega), List.take_append_of_le_length (by omega), List.take_of_length_le (by omega), List.drop_append_of_le_length (by omega), List.drop_of_length_le (by omega), hd.2]
      exact s3 _ rfl
  have hE : encF ⟨fn, fd, ft, fp⟩ ⟨k, n, d, t, p⟩ ++ more = (if fn then num n else []) ++ ((if fd then (hexB d).1 else []) ++ ((if ft then txt t else []) ++ ((if fp then enc p else []) ++ more))) := by
    simp only [encF, List.append_assoc]
  rw [hE]
  cases fn with
  | false => obtain rfl := n0 rfl; exact s2 _ rfl
  | true =>
    rw [decO1, if_pos rfl]
    have e : ∀ r, rdNum (num n ++ r) = (n, r, 0) := fun r => rdNum_num n _ (by omega)
    rw [if_pos rfl, e, if_neg (by simp)]
    exact s2 _ rfl
theorem num_le3 (n : Nat) (h : n ≤ 4000) : 1 ≤ (num n).length ∧ (num n).length ≤ 2 := num_len n 1 (by omega)
theorem encO_le (o : OrdP) (h : GoodO o) : 1 ≤ (encO o).length ∧ (encO o).length ≤ 800 := by
  have hk := fOf_le h.kind
  have a := num_le3 o.kind (by omega)
  have b := num_le3 o.n h.n1
  have c := txt_len o.data (by have := h.t1; omega)
  have d := enc_le o.parts h.p1
  have e := h.d1
  have t1 := h.t1
  rw [encO, encF]
  generalize (fOf o.kind).1 = f at *
  have hd : (if f.dig then (hexB o.dig).1 else []).length ≤ 32 := by
    split
    · rename_i hh; rw [(dig_le (e hh)).1]; omega
    · simp
  have hn : (if f.n then num o.n else []).length ≤ 2 := by split; omega; exact Nat.zero_le _
  have ht : (if f.data then txt o.data else []).length ≤ 302 := by split; omega; exact Nat.zero_le _
  have hp : (if f.parts then enc o.parts else []).length ≤ 388 := by split; omega; exact Nat.zero_le _
  simp only [List.length_append]
  omega
theorem decO_torn (o : OrdP) (j : Nat) (h : GoodO o) (hj : j < (encO o).length) : (decO ((encO o).take j)).2 ≠ 0 := by
  intro h2
  have hp := decO_inv (b := (encO o).take j) (o := (decO ((encO o).take j)).1) (by rw [← h2])
  have hl := encO_le o h
  have hm := decO_more _ ((encO o).drop j) hp.2 (by rw [List.length_drop]; omega) (by rw [List.length_drop]; omega)
  rw [hp.1, List.take_append_drop, decO_enc o h] at hm
  cases hm
end Go.Proofs.Ytdpedkgdobfemaa
