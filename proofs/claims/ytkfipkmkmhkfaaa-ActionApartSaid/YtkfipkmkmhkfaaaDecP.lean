/- Decode and Encode, plain: the one undoes the other; no beginning and no extension. No condition. -/
import Derived.Test.YtkfipkmkmhkfaaaDec
namespace Go.Proofs.Ytkfipkmkmhkfaaa
open Go.RowKit
set_option linter.unusedVariables false
set_option linter.unusedSimpArgs false

theorem hexB_of (l : List UInt8) (h : l.length ≤ 2000) : hexB (hexs l) = (l, 0) := by
  have := hexs_len l
  rw [hexB, if_neg (by omega), if_neg (by omega), unhx_hexes]
theorem hexB_zero {d : List UInt8} (h : (hexB d).2 = 0) : hexs (hexB d).1 = d := by
  unfold hexB at h ⊢
  by_cases h1 : 4000 < d.length
  · rw [if_pos h1] at h; cases h
  · rw [if_neg h1] at h ⊢
    by_cases h2 : d.length % 2 = 1
    · rw [if_pos h2] at h; cases h
    · rw [if_neg h2] at h ⊢
      cases hu : unhx d with
      | none => rw [hu] at h; cases h
      | some r => exact hexs_unhx d r hu
def Fine (p : PartP) : Prop := nameC p.name = 0 ∧ hexC p.dig = 0 ∧ p.size ≤ 300
theorem stepD_enc (p : PartP) (more : List UInt8) (h : Fine p) : stepD (encP p ++ more) = (p, more, 0) := by
  have h1 := nameC_zero h.1
  have h2 := hexC_zero h.2.1
  have h3 := hexB_zero h2.1
  have e1 : txtR (encP p ++ more) 0 = (p.name, (hexB p.dig).1 ++ (num p.size ++ more), 0) := by
    rw [txtR, if_neg (by decide), encP, List.append_assoc, List.append_assoc, rdTxt_txt _ _ (by omega)]
  have e2 : takR 32 ((hexB p.dig).1 ++ (num p.size ++ more)) 0 = ((hexB p.dig).1, num p.size ++ more, 0) := by
    rw [takR, if_neg (by decide), if_neg (by rw [List.length_append, h2.2]; omega), ← h2.2, List.take_left, List.drop_left]
  have e3 : numR (num p.size ++ more) 0 = (p.size, more, 0) := by
    rw [numR, if_neg (by decide), rdNum_num _ _ (by have := h.2.2; omega)]
  unfold stepD
  rw [e1]; dsimp only
  rw [e2]; dsimp only
  rw [e3, h3]
theorem decGo_enc : ∀ (x : List PartP) (out : List PartP) (more : List UInt8), (∀ p ∈ x, Fine p) → decGo x.length out (x.flatMap encP ++ more) = (0, out ++ x, more)
  | [], out, more, _ => by simp [decGo]
  | p :: x, out, more, h => by
    rw [List.length_cons, decGo, List.flatMap_cons, List.append_assoc, stepD_enc p _ (h p (by simp))]
    dsimp only
    rw [if_neg (by decide), decGo_enc x _ _ (fun q hq => h q (by simp [hq])), List.append_assoc]; rfl
theorem chk_fine {x : List PartP} (h : chk x = 0) : ∀ p ∈ x, Fine p := (chk_zero h).2
theorem enc_num (x : List PartP) : enc x = [65, 77, 49] ++ (num x.length ++ x.flatMap encP) := by rw [enc, List.append_assoc]
theorem pre_enc (l : List UInt8) : [65, 77, 49].isPrefixOf ([65, 77, 49] ++ l) = true := by simp [List.isPrefixOf]
theorem enc_le (x : List PartP) (h : chk x = 0) : (enc x).length ≤ 388 ∧ 4 ≤ (enc x).length := by
  have h0 := chk_zero h
  have h1 := flat_len x h0.2
  rw [enc_length x h0.1]; omega
/-- what is behind a manifest -/
theorem decL_more (x : List PartP) (more : List UInt8) (h : chk x = 0) (hm : more.length ≤ 1000) : decL (enc x ++ more) = if 0 < more.length then ([], 3) else (x, 0) := by
  have h0 := chk_zero h
  have hle := enc_le x h
  have hd : (enc x ++ more).drop 3 = num x.length ++ (x.flatMap encP ++ more) := by rw [enc_num, List.append_assoc, List.append_assoc]; rfl
  have hp : [65, 77, 49].isPrefixOf (enc x ++ more) = true := by rw [enc_num, List.append_assoc]; exact pre_enc _
  rw [decL, if_neg (by rw [List.length_append]; omega), hp, if_neg (by decide), hd, rdNum_num _ _ (by omega)]
  dsimp only
  rw [if_neg (by decide), if_neg (by omega), decGo_enc x [] more (chk_fine h)]
  dsimp only
  rw [if_neg (by decide), List.nil_append, h]
  split
  · rfl
  · simp
theorem decL_enc (x : List PartP) (h : chk x = 0) : decL (enc x) = (x, 0) := by
  have := decL_more x [] h (by simp)
  rwa [List.append_nil] at this
theorem stepD_inv {l l' : List UInt8} {p : PartP} (h : stepD l = (p, l', 0)) : l = encP p ++ l' := by
  obtain ⟨t, l1, e1, h1⟩ : ∃ t l1 e1, txtR l 0 = (t, l1, e1) := ⟨_, _, _, rfl⟩
  obtain ⟨d, l2, e2, h2⟩ : ∃ d l2 e2, takR 32 l1 e1 = (d, l2, e2) := ⟨_, _, _, rfl⟩
  obtain ⟨z, l3, e3, h3⟩ : ∃ z l3 e3, numR l2 e2 = (z, l3, e3) := ⟨_, _, _, rfl⟩
  unfold stepD at h
  rw [h1] at h; dsimp only at h
  rw [h2] at h; dsimp only at h
  rw [h3] at h; dsimp only at h
  simp only [Prod.mk.injEq] at h
  obtain ⟨rfl, rfl, rfl⟩ := h
  have he2 : e2 = 0 := by
    by_cases h0 : e2 = 0
    · exact h0
    · rw [numR, if_pos h0] at h3; simp only [Prod.mk.injEq] at h3; exact h3.2.2
  subst he2
  have he1 : e1 = 0 := by
    by_cases h0 : e1 = 0
    · exact h0
    · rw [takR, if_pos h0] at h2; simp only [Prod.mk.injEq] at h2; exact h2.2.2
  subst he1
  rw [numR, if_neg (by decide)] at h3
  rw [takR, if_neg (by decide)] at h2
  rw [txtR, if_neg (by decide)] at h1
  have i1 := rdTxt_inv h1
  have i3 := rdNum_inv h3
  by_cases hlt : l1.length < 32
  · rw [if_pos hlt] at h2; simp at h2
  · rw [if_neg hlt] at h2
    simp only [Prod.mk.injEq, and_true] at h2
    have hdl : d.length = 32 := by rw [← h2.1, List.length_take]; omega
    show l = txt t ++ (hexB (hexs d)).1 ++ num z ++ l3
    rw [hexB_of d (by omega), i1.2, List.append_assoc, List.append_assoc, ← i3.2, ← h2.1, ← h2.2, List.take_append_drop]
theorem decGo_inv : ∀ (n : Nat) (out x : List PartP) (l l' : List UInt8), decGo n out l = (0, x, l') → ∃ y, x = out ++ y ∧ y.length = n ∧ l = y.flatMap encP ++ l'
  | 0, out, x, l, l', h => by
    simp only [decGo, Prod.mk.injEq, true_and] at h
    exact ⟨[], by rw [List.append_nil]; exact h.1.symm, rfl, by rw [h.2]; rfl⟩
  | n + 1, out, x, l, l', h => by
    rw [decGo] at h
    by_cases h0 : (stepD l).2.2 = 0
    · rw [if_neg (by simpa using h0)] at h
      obtain ⟨y, h1, h2, h3⟩ := decGo_inv n _ x _ l' h
      refine ⟨(stepD l).1 :: y, by rw [h1, List.append_assoc]; rfl, by rw [List.length_cons, h2], ?_⟩
      rw [List.flatMap_cons, List.append_assoc, ← h3]
      exact stepD_inv (by rw [← h0])
    · rw [if_pos h0] at h
      simp only [Prod.mk.injEq] at h
      exact absurd h.1 h0
theorem decL_inv {b : List UInt8} {x : List PartP} (h : decL b = (x, 0)) : enc x = b ∧ chk x = 0 := by
  unfold decL at h
  by_cases h1 : 2000 < b.length
  · rw [if_pos h1] at h; simp at h
  rw [if_neg h1] at h
  by_cases h2 : [65, 77, 49].isPrefixOf b = false
  · rw [if_pos h2] at h; simp at h
  rw [if_neg h2] at h
  obtain ⟨m, r, er, hrd⟩ : ∃ m r er, rdNum (b.drop 3) = (m, r, er) := ⟨_, _, _, rfl⟩
  rw [hrd] at h
  dsimp only at h
  by_cases h3 : er ≠ 0
  · rw [if_pos h3] at h; simp only [Prod.mk.injEq] at h; exact absurd h.2 h3
  rw [if_neg h3] at h
  have h3 : er = 0 := by simpa using h3
  subst h3
  by_cases h4 : 8 < m
  · rw [if_pos h4] at h; simp at h
  rw [if_neg h4] at h
  obtain ⟨e, y, l', hg⟩ : ∃ e y l', decGo m [] r = (e, y, l') := ⟨_, _, _, rfl⟩
  rw [hg] at h
  dsimp only at h
  by_cases h5 : e ≠ 0
  · rw [if_pos h5] at h; simp only [Prod.mk.injEq] at h; exact absurd h.2 h5
  rw [if_neg h5] at h
  have h5 : e = 0 := by simpa using h5
  subst h5
  by_cases h6 : 0 < l'.length
  · rw [if_pos h6] at h; simp at h
  rw [if_neg h6] at h
  by_cases h7 : chk y ≠ 0
  · rw [if_pos h7] at h; simp only [Prod.mk.injEq] at h; exact absurd h.2 h7
  rw [if_neg h7] at h
  simp only [Prod.mk.injEq, and_true] at h
  subst h
  have h7 : chk y = 0 := by simpa using h7
  have h6 : l' = [] := List.eq_nil_of_length_eq_zero (by omega)
  obtain ⟨y', e1, e2, e3⟩ := decGo_inv m [] y r l' hg
  rw [List.nil_append] at e1
  subst e1
  have hr := (rdNum_inv hrd).2
  refine ⟨?_, h7⟩
  rw [enc_num, e2, show y.flatMap encP = r by rw [e3, h6, List.append_nil], ← hr]
  have hp : [65, 77, 49].isPrefixOf b = true := by simpa using h2
  obtain ⟨s, hs⟩ := List.isPrefixOf_iff_prefix.1 hp
  rw [← hs]; rfl
/-- no beginning of a manifest is one -/
theorem decL_torn (x : List PartP) (k : Nat) (h : chk x = 0) (hk : k < (enc x).length) : (decL ((enc x).take k)).2 ≠ 0 := by
  intro h0
  obtain ⟨y, hy⟩ : ∃ y, decL ((enc x).take k) = (y, 0) := ⟨_, Prod.ext rfl h0⟩
  obtain ⟨h1, h2⟩ := decL_inv hy
  have hle := enc_le x h
  have h3 : enc x = enc y ++ (enc x).drop k := by rw [h1, List.take_append_drop]
  have h4 := decL_more y ((enc x).drop k) h2 (by rw [List.length_drop]; omega)
  rw [← h3, decL_enc x h, if_pos (by rw [List.length_drop]; omega)] at h4
  simp at h4
end Go.Proofs.Ytkfipkmkmhkfaaa
