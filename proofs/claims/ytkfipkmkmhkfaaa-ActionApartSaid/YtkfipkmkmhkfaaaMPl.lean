/- Plain laws of listed parts and manifests. No condition. -/
import Derived.Test.YtkfipkmkmhkfaaaEnc
namespace Go.Proofs.Ytkfipkmkmhkfaaa
open Go.RowKit
set_option linter.unusedVariables false
set_option linter.unusedSimpArgs false

theorem name_i : ∀ i, i < 8 → nameC [110, UInt8.ofNat (97 + i)] = 0 := by
  have key : ∀ i : Fin 8, nameC [110, UInt8.ofNat (97 + i.val)] = 0 := by decide +kernel
  exact fun i h => key ⟨i, h⟩
theorem le_ij : ∀ i j, i < 8 → j < i → leS [110, UInt8.ofNat (97 + i)] [110, UInt8.ofNat (97 + j)] = false := by
  have key : ∀ i j : Fin 8, j.val < i.val → leS [110, UInt8.ofNat (97 + i.val)] [110, UInt8.ofNat (97 + j.val)] = false := by decide +kernel
  exact fun i j h h' => key ⟨i, h⟩ ⟨j, by omega⟩ h'
theorem chkGo_step {q : Option (List UInt8)} {p : PartP} {r : List PartP} (h1 : nameC p.name = 0) (h2 : ∀ n, q = some n → leS p.name n = false) (h3 : hexC p.dig = 0) (h4 : p.size ≤ 300) : chkGo q (p :: r) = chkGo (some p.name) r := by
  rw [chkGo_cons, if_neg (fun e => e h1)]
  cases q with
  | none => simp only []; rw [if_neg (by decide), if_neg (fun e => e h3), if_neg (by omega)]
  | some n => simp only [h2 n rfl]; rw [if_neg (by decide), if_neg (fun e => e h3), if_neg (by omega)]
theorem chk_lstGo : ∀ (l : List RawP) (i : Nat) (q : Option (List UInt8)), (q = none ∨ ∃ j, j < i ∧ q = some [110, UInt8.ofNat (97 + j)]) → chkGo q (lstGo i l) = 0
  | [], i, q, _ => rfl
  | r :: l, i, q, hq => by
    simp only [lstGo]
    by_cases hi : i < 8
    · rw [if_pos hi, chkGo_step (p := partOf i r) (name_i i hi) (fun n hn => ?_) (hexC_sha _) (by have := pk_lt r.a (m := 301) (by omega); simp only [partOf]; omega)]
      · exact chk_lstGo l (i + 1) _ (.inr ⟨i, by omega, rfl⟩)
      · rcases hq with h | ⟨j, hj, h⟩
        · rw [h] at hn; cases hn
        · rw [h] at hn; cases hn; exact le_ij i j hi hj
    · rw [if_neg hi]; rfl
theorem chk_lst (l : List RawP) : chk (lst l) = 0 := by
  have := lst_le l
  rw [chk, if_neg (by omega)]
  exact chk_lstGo l 0 none (.inl rfl)

/-- what a list of parts that may be says of its first one -/
theorem chkGo_inv {q : Option (List UInt8)} {p : PartP} {r : List PartP} (h : chkGo q (p :: r) = 0) : nameC p.name = 0 ∧ (∀ n, q = some n → leS p.name n = false) ∧ hexC p.dig = 0 ∧ p.size ≤ 300 ∧ chkGo (some p.name) r = 0 := by
  have h0 := chkGo_zero _ _ h p (by simp)
  rw [chkGo_cons, if_neg (fun e => e h0.1)] at h
  cases q with
  | none =>
    simp only [] at h
    rw [if_neg (by decide), if_neg (fun e => e h0.2.1), if_neg (by omega)] at h
    exact ⟨h0.1, (fun n hn => by cases hn), h0.2.1, h0.2.2, h⟩
  | some m =>
    simp only [] at h
    cases hb : leS p.name m with
    | true => rw [if_pos hb] at h; cases h
    | false =>
      rw [if_neg (by rw [hb]; decide), if_neg (fun e => e h0.2.1), if_neg (by omega)] at h
      exact ⟨h0.1, (fun n hn => by cases hn; exact hb), h0.2.1, h0.2.2, h⟩
theorem chkGo_take : ∀ (l : List PartP) (q : Option (List UInt8)) (k : Nat), chkGo q l = 0 → chkGo q (l.take k) = 0
  | _, _, 0, _ => rfl
  | [], _, _ + 1, _ => rfl
  | p :: l, q, k + 1, h => by
    obtain ⟨h1, h2, h3, h4, h5⟩ := chkGo_inv h
    rw [List.take_succ_cons, chkGo_step h1 h2 h3 h4]
    exact chkGo_take l _ k h5
theorem chkGo_none {l : List PartP} {q : Option (List UInt8)} (h : chkGo q l = 0) : chkGo none l = 0 := by
  cases l with
  | nil => rfl
  | cons p l =>
    obtain ⟨h1, h2, h3, h4, h5⟩ := chkGo_inv h
    rw [chkGo_step h1 (fun n hn => by cases hn) h3 h4]; exact h5
theorem chkGo_drop : ∀ (l : List PartP) (q : Option (List UInt8)) (k : Nat), chkGo q l = 0 → chkGo none (l.drop k) = 0
  | l, _, 0, h => chkGo_none h
  | [], _, _ + 1, _ => rfl
  | p :: l, q, k + 1, h => by
    obtain ⟨h1, h2, h3, h4, h5⟩ := chkGo_inv h
    exact chkGo_drop l _ k h5
theorem chk_take {l : List PartP} (h : chk l = 0) (k : Nat) : chk (l.take k) = 0 := by
  have h1 := (chk_zero h).1
  rw [chk, if_neg (by omega)] at h
  rw [chk, if_neg (by rw [List.length_take]; omega)]
  exact chkGo_take l none k h
theorem chk_drop {l : List PartP} (h : chk l = 0) (k : Nat) : chk (l.drop k) = 0 := by
  have h1 := (chk_zero h).1
  rw [chk, if_neg (by omega)] at h
  rw [chk, if_neg (by rw [List.length_drop]; omega)]
  exact chkGo_drop l none k h
theorem enc_small (l : List PartP) (h : l.length ≤ 8) : enc l = [65, 77, 49, UInt8.ofNat l.length] ++ l.flatMap encP := by
  rw [enc, num_small (by omega)]; simp
theorem enc_drop4 (l : List PartP) (h : l.length ≤ 8) : (enc l).drop 4 = l.flatMap encP := by rw [enc_small l h]; rfl
theorem enc_length (l : List PartP) (h : l.length ≤ 8) : (enc l).length = 4 + (l.flatMap encP).length := by rw [enc_small l h]; simp; omega
theorem flat_split (l : List PartP) (k : Nat) : l.flatMap encP = (l.take k).flatMap encP ++ (l.drop k).flatMap encP := by
  rw [← List.flatMap_append, List.take_append_drop]
end Go.Proofs.Ytkfipkmkmhkfaaa
