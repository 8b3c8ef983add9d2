/- Texts, read: plain. No condition. -/
import Derived.Test.YtkfipkmkmhkfaaaText
namespace Go.Proofs.Ytkfipkmkmhkfaaa
open Go.RowKit
set_option linter.unusedVariables false
set_option linter.unusedSimpArgs false

theorem rdTxt_txt (t more : List UInt8) (h : t.length ≤ 2000) : rdTxt (txt t ++ more) = (t, more, 0) := by
  have h1 := rdNum_num t.length (t ++ more) (by omega)
  rw [rdTxt, txt, List.append_assoc, h1]
  simp only [ne_eq, not_true_eq_false, if_false]
  rw [if_neg (by omega), if_neg (by rw [List.length_append]; omega)]
  simp
theorem rdTxt_short (t : List UInt8) (j : Nat) (h : t.length ≤ 2000) (hj : j < (txt t).length) : rdTxt ((txt t).take j) = ([], [], 8) := by
  by_cases hn : j < (num t.length).length
  · have h1 := rdNum_short t.length j (by omega) hn
    rw [rdTxt, txt, List.take_append_of_le_length (by omega), h1]
    simp
  · have h1 := rdNum_num t.length (t.take (j - (num t.length).length)) (by omega)
    have h2 : (txt t).take j = num t.length ++ t.take (j - (num t.length).length) := by
      rw [txt, List.take_append, List.take_of_length_le (by omega)]
    simp only [txt, List.length_append] at hj
    rw [rdTxt, h2, h1]
    simp only [ne_eq, not_true_eq_false, if_false]
    rw [if_neg (by omega), if_pos (by rw [List.length_take]; omega)]

theorem rdTxt_inv {b t rest : List UInt8} (h : rdTxt b = (t, rest, 0)) : t.length ≤ 2000 ∧ b = txt t ++ rest := by
  obtain ⟨n, r, e, hn⟩ : ∃ n r e, rdNum b = (n, r, e) := ⟨_, _, _, rfl⟩
  rw [rdTxt, hn] at h
  dsimp only at h
  by_cases he : e ≠ 0
  · rw [if_pos he] at h
    simp only [Prod.mk.injEq] at h
    exact absurd h.2.2 he
  · rw [if_neg he] at h
    have he : e = 0 := by simpa using he
    by_cases h1 : 2000 < n
    · rw [if_pos h1] at h; simp at h
    · rw [if_neg h1] at h
      by_cases h2 : r.length < n
      · rw [if_pos h2] at h; simp at h
      · rw [if_neg h2] at h
        simp only [Prod.mk.injEq, and_true] at h
        obtain ⟨h3, h4⟩ := h
        subst he
        have hb := (rdNum_inv hn).2
        have hl : t.length = n := by rw [← h3, List.length_take]; omega
        refine ⟨by omega, ?_⟩
        rw [txt, hl, List.append_assoc, hb, ← h3, ← h4, List.take_append_drop]
end Go.Proofs.Ytkfipkmkmhkfaaa
