/- manifest.Encode. Conditions: the strings' sizes. Plain laws of listed parts and manifests. No condition. -/
import Derived.Test.YtmjcoebfldmgnaaGreatMem
import Derived.Test.YtmjcoebfldmgnaaGreatMChk
import Derived.Test.YtmjcoebfldmgnaaGreatText
import Derived.ArgAppend
import Derived.Lib.SlBytesConst
/-! manifest.Encode. Conditions: the strings' sizes -/
namespace Go.Proofs.YtmjcoebfldmgnaaGreat
open Go.RowKit
set_option linter.unusedVariables false
set_option linter.unusedSimpArgs false
set_option maxRecDepth 20000

def encP (p : PartP) : List UInt8 := txt p.name ++ (hexB p.dig).1 ++ num p.size
/-- a manifest's bytes -/
def enc (l : List PartP) : List UInt8 := [65, 77, 49] ++ num l.length ++ l.flatMap encP

/-- a slice that reads as these bytes: of one's own, or full -/
def BoxV (W : World) (base : Nat) (v : Value) (X : List UInt8) : Prop :=
  W.ownsRow base 5 1 v X.length (bys X) ∨ (∃ g, v = .slice (some ⟨g, 0, none⟩) X.length X.length ∧ Rd W 1 (some ⟨g, 0, none⟩) X.length (bys X))
theorem elU8i : ∃ (i : TypeInfo) (z : Value), Tryz.prog.info? 5 = some i ∧ i.zero = some z ∧ i.size = 1 ∧ i.bytes = 1 ∧ z.cells.size = 1 := elU8.ex

theorem BoxV.below {W W' : World} {base : Nat} {v : Value} {X : List UInt8} (h : BoxV W base v X) (hb : Below W.heap.size W W') : BoxV W' base v X :=
  h.imp (fun h => own_below h hb) (fun ⟨g, e, h⟩ => ⟨g, e, h.below hb⟩)
theorem BoxV.lt {W : World} {base : Nat} {v : Value} {X : List UInt8} (h : BoxV W base v X) (h0 : 0 < X.length) : ∀ k, v.ownBlock = some k → k < W.heap.size := fun k hk => by
  rcases h with h | ⟨g, rfl, hr⟩
  · exact (h.lt k hk).2
  · obtain ⟨b, off, e, hb, _⟩ := hr.2 h0
    injection hk with hk; injection e with e; injection e with e1
    simp only at hk
    omega
theorem unhx_len : ∀ (l r : List UInt8), unhx l = some r → l.length = 2 * r.length := fun l r h => by
  have := hexs_unhx l r h
  rw [← this, hexs_len]
theorem hexC_zero {d : List UInt8} (h : hexC d = 0) : (hexB d).2 = 0 ∧ (hexB d).1.length = 32 := by
  unfold hexC at h
  by_cases h64 : d.length = 64
  · rw [if_neg (by omega)] at h
    refine ⟨h, ?_⟩
    unfold hexB at h ⊢
    rw [if_neg (by omega), if_neg (by omega)] at h ⊢
    cases hu : unhx d with
    | none => rw [hu] at h; cases h
    | some r => have := unhx_len d r hu; simp only []; omega
  · rw [if_pos h64] at h; cases h
theorem nameC_zero {s : List UInt8} (h : nameC s = 0) : 1 ≤ s.length ∧ s.length ≤ 12 := by
  unfold nameC at h
  by_cases hb : s.length < 1 ∨ 12 < s.length
  · rw [if_pos hb] at h; cases h
  · omega
theorem chkGo_zero : ∀ (l : List PartP) (q : Option (List UInt8)), chkGo q l = 0 → ∀ p ∈ l, nameC p.name = 0 ∧ hexC p.dig = 0 ∧ p.size ≤ 300
  | [], _, _, p, hp => by cases hp
  | x :: l, q, h, p, hp => by
    rw [chkGo_cons] at h
    by_cases h1 : nameC x.name = 0
    · rw [if_neg (fun e => e h1)] at h
      have key : ∀ bb : Bool, (if bb = true then 6 else if hexC x.dig ≠ 0 then hexC x.dig else if 300 < x.size then 4 else chkGo (some x.name) l) = 0 → nameC p.name = 0 ∧ hexC p.dig = 0 ∧ p.size ≤ 300 := fun bb h => by
        cases bb with
        | true => rw [if_pos rfl] at h; exact absurd h (by decide)
        | false =>
          rw [if_neg (by decide)] at h
          by_cases h2 : hexC x.dig = 0
          · rw [if_neg (fun e => e h2)] at h
            by_cases h3 : 300 < x.size
            · rw [if_pos h3] at h; exact absurd h (by decide)
            · rw [if_neg h3] at h
              rcases List.mem_cons.1 hp with rfl | hp
              · exact ⟨h1, h2, by omega⟩
              · exact chkGo_zero l _ h p hp
          · rw [if_pos h2] at h; exact absurd h h2
      exact key _ h
    · rw [if_pos h1] at h; exact absurd h h1
theorem chk_zero {l : List PartP} (h : chk l = 0) : l.length ≤ 8 ∧ ∀ p ∈ l, nameC p.name = 0 ∧ hexC p.dig = 0 ∧ p.size ≤ 300 := by
  unfold chk at h
  by_cases hb : 8 < l.length
  · rw [if_pos hb] at h; cases h
  · rw [if_neg hb] at h; exact ⟨by omega, chkGo_zero l none h⟩
theorem encP_len {p : PartP} (h : nameC p.name = 0 ∧ hexC p.dig = 0 ∧ p.size ≤ 300) : 1 ≤ (txt p.name).length ∧ (txt p.name).length ≤ 14 ∧ 1 ≤ (num p.size).length ∧ (num p.size).length ≤ 2 ∧ (encP p).length ≤ 48 := by
  have h1 := nameC_zero h.1
  have h2 := txt_len p.name (by omega)
  have h3 := hexC_zero h.2.1
  have h4 := num_len p.size 1 (by omega)
  simp only [encP, List.length_append]
  omega
theorem flat_len (l : List PartP) (h : ∀ p ∈ l, nameC p.name = 0 ∧ hexC p.dig = 0 ∧ p.size ≤ 300) : (l.flatMap encP).length ≤ 48 * l.length := by
  induction l with
  | nil => simp
  | cons x l ih =>
    have h1 := (encP_len (h x (by simp))).2.2.2.2
    have h2 := ih (fun p hp => h p (by simp [hp]))
    simp only [List.flatMap_cons, List.length_append, List.length_cons]; omega
theorem hBytes_of {d : List UInt8} {t : ByteArray} (htd : t.data.toList = d) (h : hexC d = 0) (w : World) (hs : t.size ≤ 140737488351232) :
    Calls Tryz.prog 142 #[.string t] w fun e w' => ∃ A c, e = .returned (.tuple #[.slice A (hexB d).1.length c, .int .i64 0]) ∧ OwnB 5 w.heap.size w' A c (hexB d).1 ∧ Below w.heap.size w w' :=
  hBytes_at 0 rfl (by rw [htd]; exact Prod.ext rfl (hexC_zero h).1) w hs

end Go.Proofs.YtmjcoebfldmgnaaGreat
/-! Plain laws of listed parts and manifests. No condition -/
namespace Go.Proofs.YtmjcoebfldmgnaaGreat
open Go.RowKit
set_option linter.unusedVariables false

theorem name_i : ∀ i, i < 8 → nameC [110, UInt8.ofNat (97 + i)] = 0 := by
  have key : ∀ i : Fin 8, nameC [110, UInt8.ofNat (97 + i.val)] = 0 := by decide +kernel
  exact fun i h => key ⟨i, h⟩
theorem le_ij : ∀ i j, i < 8 → j < i → leS [110, UInt8.ofNat (97 + i)] [110, UInt8.ofNat (97 + j)] = false := by
  have key : ∀ i j : Fin 8, j.val < i.val → leS [110, UInt8.ofNat (97 + i.val)] [110, UInt8.ofNat (97 + j.val)] = false := by decide +kernel
  exact fun i j h h' => key ⟨i, h⟩ ⟨j, by omega⟩ h'
theorem chkGo_step {q : Option (List UInt8)} {p : PartP} {r : List PartP} (h1 : nameC p.name = 0) (h2 : ∀ n, q = some n → leS p.name n = false) (h3 : hexC p.dig = 0) (h4 : p.size ≤ 300) : chkGo q (p :: r) = chkGo (some p.name) r := by
  rw [chkGo_cons, if_neg (fun e => e h1)]
  cases q with
  | none => simp only []; rw [if_neg (by decide), if_neg (fun e => e h3), if_neg (by omega)]
  | some n => simp only [h2 n rfl]; rw [if_neg (by decide), if_neg (fun e => e h3), if_neg (by omega)]
theorem chk_lstGo : ∀ (l : List RawP) (i : Nat) (q : Option (List UInt8)), (q = none ∨ ∃ j, j < i ∧ q = some [110, UInt8.ofNat (97 + j)]) → chkGo q (lstGo i l) = 0
  | [], i, q, _ => rfl
  | r :: l, i, q, hq => by
    simp only [lstGo]
    by_cases hi : i < 8
    · rw [if_pos hi, chkGo_step (p := partOf i r) (name_i i hi) (fun n hn => ?_) (hexC_sha _) (by have := pk_lt r.a (m := 301) (by omega); simp only [partOf]; omega)]
      · exact chk_lstGo l (i + 1) _ (.inr ⟨i, by omega, rfl⟩)
      · rcases hq with h | ⟨j, hj, h⟩
        · rw [h] at hn; cases hn
        · rw [h] at hn; cases hn; exact le_ij i j hi hj
    · rw [if_neg hi]; rfl
theorem chk_lst (l : List RawP) : chk (lst l) = 0 := by
  have := lst_le l
  rw [chk, if_neg (by omega)]
  exact chk_lstGo l 0 none (.inl rfl)

/-- what a list of parts that may be says of its first one -/
theorem chkGo_inv {q : Option (List UInt8)} {p : PartP} {r : List PartP} (h : chkGo q (p :: r) = 0) : nameC p.name = 0 ∧ (∀ n, q = some n → leS p.name n = false) ∧ hexC p.dig = 0 ∧ p.size ≤ 300 ∧ chkGo (some p.name) r = 0 := by
  have h0 := chkGo_zero _ _ h p (by simp)
  rw [chkGo_cons, if_neg (fun e => e h0.1)] at h
  cases q with
  | none =>
    simp only [] at h
    rw [if_neg (by decide), if_neg (fun e => e h0.2.1), if_neg (by omega)] at h
    exact ⟨h0.1, (fun n hn => by cases hn), h0.2.1, h0.2.2, h⟩
  | some m =>
    simp only [] at h
    cases hb : leS p.name m with
    | true => rw [if_pos hb] at h; cases h
    | false =>
      rw [if_neg (by rw [hb]; decide), if_neg (fun e => e h0.2.1), if_neg (by omega)] at h
      exact ⟨h0.1, (fun n hn => by cases hn; exact hb), h0.2.1, h0.2.2, h⟩
theorem chkGo_take : ∀ (l : List PartP) (q : Option (List UInt8)) (k : Nat), chkGo q l = 0 → chkGo q (l.take k) = 0
  | _, _, 0, _ => rfl
  | [], _, _ + 1, _ => rfl
  | p :: l, q, k + 1, h => by
    obtain ⟨h1, h2, h3, h4, h5⟩ := chkGo_inv h
    rw [List.take_succ_cons, chkGo_step h1 h2 h3 h4]
    exact chkGo_take l _ k h5
theorem chkGo_none {l : List PartP} {q : Option (List UInt8)} (h : chkGo q l = 0) : chkGo none l = 0 := by
  cases l with
  | nil => rfl
  | cons p l =>
    obtain ⟨h1, h2, h3, h4, h5⟩ := chkGo_inv h
    rw [chkGo_step h1 (fun n hn => by cases hn) h3 h4]; exact h5
theorem chkGo_drop : ∀ (l : List PartP) (q : Option (List UInt8)) (k : Nat), chkGo q l = 0 → chkGo none (l.drop k) = 0
  | l, _, 0, h => chkGo_none h
  | [], _, _ + 1, _ => rfl
  | p :: l, q, k + 1, h => by
    obtain ⟨h1, h2, h3, h4, h5⟩ := chkGo_inv h
    exact chkGo_drop l _ k h5
theorem chk_take {l : List PartP} (h : chk l = 0) (k : Nat) : chk (l.take k) = 0 := by
  have h1 := (chk_zero h).1
  rw [chk, if_neg (by omega)] at h
  rw [chk, if_neg (by rw [List.length_take]; omega)]
  exact chkGo_take l none k h
theorem chk_drop {l : List PartP} (h : chk l = 0) (k : Nat) : chk (l.drop k) = 0 := by
  have h1 := (chk_zero h).1
  rw [chk, if_neg (by omega)] at h
  rw [chk, if_neg (by rw [List.length_drop]; omega)]
  exact chkGo_drop l none k h
theorem enc_small (l : List PartP) (h : l.length ≤ 8) : enc l = [65, 77, 49, UInt8.ofNat l.length] ++ l.flatMap encP := by
  rw [enc, num_small (by omega)]; simp
theorem enc_drop4 (l : List PartP) (h : l.length ≤ 8) : (enc l).drop 4 = l.flatMap encP := by rw [enc_small l h]; rfl
theorem enc_length (l : List PartP) (h : l.length ≤ 8) : (enc l).length = 4 + (l.flatMap encP).length := by rw [enc_small l h]; simp; omega
theorem flat_split (l : List PartP) (k : Nat) : l.flatMap encP = (l.take k).flatMap encP ++ (l.drop k).flatMap encP := by
  rw [← List.flatMap_append, List.take_append_drop]
end Go.Proofs.YtmjcoebfldmgnaaGreat
