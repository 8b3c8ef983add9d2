/- Actions read and written, plain. No condition. -/
import Derived.Test.YtkfipkmkmhkfaaaAEnc
namespace Go.Proofs.Ytkfipkmkmhkfaaa
open Go.RowKit
set_option linter.unusedVariables false
set_option linter.unusedSimpArgs false

theorem actC_zero {c : List UInt8} {x : List PartP} (h : actC c x = 0) : cmdC c = 0 ∧ chk x = 0 ∧ 1 ≤ c.length ∧ c.length ≤ 60 := by
  have hc : cmdC c = 0 := by
    by_cases h0 : cmdC c = 0
    · exact h0
    · rw [actC, if_pos h0] at h; exact absurd h h0
  rw [actC, hc, if_neg (by decide)] at h
  refine ⟨hc, h, ?_⟩
  rw [cmdC] at hc
  split at hc
  · cases hc
  · omega
/-- what action.Decode answers -/
def decA (b : List UInt8) : List UInt8 × List PartP × Nat :=
  if 2000 < b.length then ([], [], 1) else if [65, 65, 49].isPrefixOf b = false then ([], [], 3) else
  if (rdTxt (b.drop 3)).2.2 ≠ 0 then ([], [], (rdTxt (b.drop 3)).2.2) else
  if (decL (rdTxt (b.drop 3)).2.1).2 ≠ 0 then ([], [], (decL (rdTxt (b.drop 3)).2.1).2) else
  if actC (rdTxt (b.drop 3)).1 (decL (rdTxt (b.drop 3)).2.1).1 ≠ 0 then ([], [], actC (rdTxt (b.drop 3)).1 (decL (rdTxt (b.drop 3)).2.1).1) else
  ((rdTxt (b.drop 3)).1, (decL (rdTxt (b.drop 3)).2.1).1, 0)
theorem encA_le (c : List UInt8) (x : List PartP) (h : actC c x = 0) : (encA c x).length ≤ 500 ∧ 4 ≤ (encA c x).length := by
  have h1 := actC_zero h
  have h2 := enc_le x h1.2.1
  have h3 := txt_len c (by omega)
  simp only [encA, List.length_append, List.length_cons, List.length_nil]
  omega
theorem pre_AA (l : List UInt8) : [65, 65, 49].isPrefixOf ([65, 65, 49] ++ l) = true := by simp [List.isPrefixOf]
theorem decA_enc (c : List UInt8) (x : List PartP) (h : actC c x = 0) : decA (encA c x) = (c, x, 0) := by
  have h1 := actC_zero h
  have h2 := encA_le c x h
  have hd : (encA c x).drop 3 = txt c ++ enc x := rfl
  have hp : [65, 65, 49].isPrefixOf (encA c x) = true := pre_AA _
  rw [decA, if_neg (by omega), hp, if_neg (by decide), hd, rdTxt_txt c (enc x) (by omega)]
  dsimp only
  rw [if_neg (by decide), decL_enc x h1.2.1]
  dsimp only
  rw [if_neg (by decide), h, if_neg (by decide)]
theorem decA_inv {b c : List UInt8} {x : List PartP} (h : decA b = (c, x, 0)) : encA c x = b ∧ actC c x = 0 := by
  unfold decA at h
  by_cases h1 : 2000 < b.length
  · rw [if_pos h1] at h; simp at h
  rw [if_neg h1] at h
  by_cases h2 : [65, 65, 49].isPrefixOf b = false
  · rw [if_pos h2] at h; simp at h
  rw [if_neg h2] at h
  obtain ⟨t, r, er, hrd⟩ : ∃ t r er, rdTxt (b.drop 3) = (t, r, er) := ⟨_, _, _, rfl⟩
  rw [hrd] at h
  dsimp only at h
  by_cases h3 : er ≠ 0
  · rw [if_pos h3] at h; simp only [Prod.mk.injEq] at h; exact absurd h.2.2 h3
  rw [if_neg h3] at h
  have h3 : er = 0 := by simpa using h3
  subst h3
  obtain ⟨y, e2, hd⟩ : ∃ y e2, decL r = (y, e2) := ⟨_, _, rfl⟩
  rw [hd] at h
  dsimp only at h
  by_cases h4 : e2 ≠ 0
  · rw [if_pos h4] at h; simp only [Prod.mk.injEq] at h; exact absurd h.2.2 h4
  rw [if_neg h4] at h
  have h4 : e2 = 0 := by simpa using h4
  subst h4
  by_cases h5 : actC t y ≠ 0
  · rw [if_pos h5] at h; simp only [Prod.mk.injEq] at h; exact absurd h.2.2 h5
  rw [if_neg h5] at h
  simp only [Prod.mk.injEq, and_true] at h
  obtain ⟨rfl, rfl⟩ := h
  have h5 : actC t y = 0 := by simpa using h5
  refine ⟨?_, h5⟩
  have i1 := (rdTxt_inv hrd).2
  have i2 := (decL_inv hd).1
  rw [encA, i2, ← i1]
  have hp : [65, 65, 49].isPrefixOf b = true := by simpa using h2
  obtain ⟨s, hs⟩ := List.isPrefixOf_iff_prefix.1 hp
  rw [← hs]; rfl
theorem decA_err (b : List UInt8) (h : (decA b).2.2 ≠ 0) : (decA b).1 = [] ∧ (decA b).2.1 = [] := by
  unfold decA at h ⊢
  by_cases h1 : 2000 < b.length
  · rw [if_pos h1]; exact ⟨rfl, rfl⟩
  rw [if_neg h1] at h ⊢
  by_cases h2 : [65, 65, 49].isPrefixOf b = false
  · rw [if_pos h2]; exact ⟨rfl, rfl⟩
  rw [if_neg h2] at h ⊢
  by_cases h3 : (rdTxt (b.drop 3)).2.2 ≠ 0
  · rw [if_pos h3]; exact ⟨rfl, rfl⟩
  rw [if_neg h3] at h ⊢
  by_cases h4 : (decL (rdTxt (b.drop 3)).2.1).2 ≠ 0
  · rw [if_pos h4]; exact ⟨rfl, rfl⟩
  rw [if_neg h4] at h ⊢
  by_cases h5 : actC (rdTxt (b.drop 3)).1 (decL (rdTxt (b.drop 3)).2.1).1 ≠ 0
  · rw [if_pos h5]; exact ⟨rfl, rfl⟩
  rw [if_neg h5] at h
  exact absurd rfl h
theorem encA_inj {c d : List UInt8} {x y : List PartP} (h1 : actC c x = 0) (h2 : actC d y = 0) (h : encA c x = encA d y) : c = d ∧ x = y := by
  have e1 := decA_enc c x h1
  rw [h, decA_enc d y h2] at e1
  simp only [Prod.mk.injEq, and_true] at e1
  exact ⟨e1.1.symm, e1.2.symm⟩
end Go.Proofs.Ytkfipkmkmhkfaaa
