/- What eviction leaves and takes, in plain words. No condition. -/
import Derived.Test.YtmjcoebfldmgnaaGreatClP
namespace Go.Proofs.YtmjcoebfldmgnaaGreat
open Go.RowKit
set_option linter.unusedVariables false
set_option linter.unusedSimpArgs false

theorem evGo_step {more n : Nat} {s t : StoP} {g g' : List (List UInt8)} (h : evGo more (n + 1) s g = some (t, g')) :
    (usd s.blobs + more ≤ s.room ∧ t = s ∧ g' = g) ∨ (¬ usd s.blobs + more ≤ s.room ∧ ∃ i, ∃ hi : i < s.ents.length, oldK s.ents s.ents.length = some i ∧ evGo more n (cln { s with ents := s.ents.eraseIdx i }) (g ++ [s.ents[i].key]) = some (t, g')) := by
  unfold evGo at h
  by_cases hf : usd s.blobs + more ≤ s.room
  · rw [if_pos hf] at h
    cases h
    exact .inl ⟨hf, rfl, rfl⟩
  · rw [if_neg hf] at h
    cases ho : oldK s.ents s.ents.length with
    | none => rw [ho] at h; cases h
    | some i =>
      have hi := (oldK_lt s.ents _ i ho).2
      rw [ho] at h
      simp only [List.getElem?_eq_getElem hi] at h
      exact .inr ⟨hf, i, hi, rfl, h⟩
theorem erase_sub {α : Type} (l : List α) (i : Nat) : ∀ x ∈ l.eraseIdx i, x ∈ l := fun x hx => List.mem_of_mem_eraseIdx hx
theorem evGo_good {more : Nat} : ∀ (n : Nat) (s t : StoP) (g g' : List (List UInt8)), GoodS s → evGo more n s g = some (t, g') → GoodS t ∧ usd t.blobs + more ≤ t.room ∧ t.ents.length + g'.length = s.ents.length + g.length ∧ t.room = s.room ∧ t.clock = s.clock
  | 0, s, t, g, g', hg, h => by unfold evGo at h; cases h
  | n + 1, s, t, g, g', hg, h => by
    rcases evGo_step h with ⟨h1, rfl, rfl⟩ | ⟨h1, i, hi, ho, h2⟩
    · exact ⟨hg, h1, rfl, rfl, rfl⟩
    · have h3 := evGo_good n _ t _ g' (cln_good (drop_good hg (List.eraseIdx_sublist _ _))) h2
      refine ⟨h3.1, h3.2.1, ?_, h3.2.2.2⟩
      have h4 := h3.2.2.1
      rw [cln_ents] at h4
      simp only [List.length_eraseIdx_of_lt hi, List.length_append, List.length_cons, List.length_nil] at h4
      omega
theorem evRun_good {more : Nat} {s t : StoP} {g : List (List UInt8)} (hg : GoodS s) (h : evRun more s = some (t, g)) : GoodS t ∧ usd t.blobs + more ≤ t.room ∧ t.ents.length + g.length = s.ents.length ∧ t.room = s.room ∧ t.clock = s.clock := by
  unfold evRun at h
  by_cases hf : usd s.blobs + more ≤ s.room
  · rw [if_pos hf] at h; cases h; exact ⟨hg, hf, rfl, rfl, rfl⟩
  · rw [if_neg hf] at h
    have := evGo_good _ _ t [] g (cln_good hg) h
    simpa [cln_ents, cln_room, cln_clock] using this
/-- again there is nothing to do -/
theorem evRun_again {more : Nat} {s t : StoP} {g : List (List UInt8)} (hg : GoodS s) (h : evRun more s = some (t, g)) : evRun more t = some (t, []) := by
  unfold evRun; rw [if_pos (evRun_good hg h).2.1]
/-! more room -/
theorem evGo_pre {more : Nat} : ∀ (n : Nat) (s t : StoP) (g g' : List (List UInt8)), evGo more n s g = some (t, g') → g <+: g'
  | 0, s, t, g, g', h => by unfold evGo at h; cases h
  | n + 1, s, t, g, g', h => by
    rcases evGo_step h with ⟨h1, rfl, rfl⟩ | ⟨h1, i, hi, ho, h2⟩
    · exact List.prefix_refl _
    · exact (List.prefix_append _ _).trans (evGo_pre n _ t _ g' h2)
theorem evGo_more {a b : Nat} (hab : a ≤ b) : ∀ (n : Nat) (s u : StoP) (g y : List (List UInt8)), evGo b n s g = some (u, y) → ∃ t x, evGo a n s g = some (t, x) ∧ x <+: y
  | 0, s, u, g, y, h => by unfold evGo at h; cases h
  | n + 1, s, u, g, y, h => by
    by_cases hf : usd s.blobs + a ≤ s.room
    · exact ⟨s, g, by unfold evGo; rw [if_pos hf], evGo_pre _ _ _ _ _ h⟩
    · rcases evGo_step h with ⟨h1, _, _⟩ | ⟨h1, i, hi, ho, h2⟩
      · omega
      · obtain ⟨t, x, e, hx⟩ := evGo_more hab n _ u _ y h2
        refine ⟨t, x, ?_, hx⟩
        unfold evGo
        rw [if_neg hf, ho]
        simp only [List.getElem?_eq_getElem hi]
        exact e
theorem evRun_more {a b : Nat} (hab : a ≤ b) {s u : StoP} {y : List (List UInt8)} (h : evRun b s = some (u, y)) : ∃ t x, evRun a s = some (t, x) ∧ x <+: y := by
  unfold evRun at h ⊢
  by_cases hf : usd s.blobs + a ≤ s.room
  · rw [if_pos hf]; exact ⟨s, [], rfl, List.nil_prefix⟩
  · rw [if_neg hf]
    rw [if_neg (by omega)] at h
    exact evGo_more hab _ _ u _ y h
/-! what is held -/
/-- what the held ones come from -/
def pinR (s : StoP) : List (List UInt8) := rtsE (s.ents.filter (fun x => decide (0 < x.pins))) ++ rtsB s.blobs
theorem rtsE_mono {es es' : List EntP} (h : ∀ x ∈ es, x ∈ es') : ∀ d ∈ rtsE es, d ∈ rtsE es' := fun d hd => by
  obtain ⟨x, hx, h2⟩ := List.mem_flatMap.1 hd
  exact List.mem_flatMap.2 ⟨x, h x hx, h2⟩
theorem pinR_rts (s : StoP) : ∀ d ∈ pinR s, d ∈ rts s := fun d hd => by
  rcases List.mem_append.1 hd with h | h
  · exact List.mem_append_left _ (rtsE_mono (fun x hx => (List.mem_filter.1 hx).1) d h)
  · exact List.mem_append_right _ h
theorem filter_erase {α : Type} {p : α → Bool} : ∀ (l : List α) (i : Nat) (hi : i < l.length), p l[i] = false → (l.eraseIdx i).filter p = l.filter p
  | x :: l, 0, _, h => by
    rw [List.eraseIdx_cons_zero, List.filter_cons_of_neg]
    simp only [List.getElem_cons_zero] at h
    simp [h]
  | x :: l, i + 1, hi, h => by
    have ih := filter_erase l i (by simpa using hi) (by simpa using h)
    rw [List.eraseIdx_cons_succ]
    cases hx : p x with
    | true => rw [List.filter_cons_of_pos hx, List.filter_cons_of_pos hx, ih]
    | false => rw [List.filter_cons_of_neg (by simp [hx]), List.filter_cons_of_neg (by simp [hx]), ih]
/-- one entry less that nobody holds -/
theorem pinR_erase {s : StoP} {i : Nat} (hi : i < s.ents.length) (hp : s.ents[i].pins = 0) : pinR (cln { s with ents := s.ents.eraseIdx i }) = pinR s := by
  unfold pinR
  rw [cln_rtsB, cln_ents]
  show rtsE ((s.ents.eraseIdx i).filter _) ++ rtsB s.blobs = _
  rw [filter_erase s.ents i hi (by simp [hp])]
theorem held_step {s : StoP} {R : List (List UInt8)} (hr : RisesBy (·.dig) s.blobs) (hR : ∀ d ∈ R, d ∈ rts s) {x : List UInt8} (h : Rch s.blobs R x) : Rch (cln s).blobs R x :=
  h.keepb hr (cln_rises hr) cln_sub (fun _ h => h) (fun _ h => cln_inB (h.dmono hR))
theorem evGo_held {more : Nat} {R : List (List UInt8)} {x : List UInt8} : ∀ (n : Nat) (s t : StoP) (g g' : List (List UInt8)), GoodS s → (∀ d ∈ R, d ∈ pinR s) → Rch s.blobs R x → evGo more n s g = some (t, g') → Rch t.blobs R x
  | 0, s, t, g, g', hg, hR, hx, h => by unfold evGo at h; cases h
  | n + 1, s, t, g, g', hg, hR, hx, h => by
    rcases evGo_step h with ⟨h1, rfl, rfl⟩ | ⟨h1, i, hi, ho, h2⟩
    · exact hx
    · have hp := oldK_pin s.ents _ i hi ho
      have hg2 := drop_good hg (List.eraseIdx_sublist s.ents i)
      have e := pinR_erase hi hp
      refine evGo_held n _ t _ g' (cln_good hg2) (fun d hd => by rw [e]; exact hR d hd) (held_step hg2.b.ris (fun d hd => ?_) hx) h2
      have h3 := pinR_rts (cln { s with ents := s.ents.eraseIdx i }) d (by rw [e]; exact hR d hd)
      rw [cln_rts] at h3
      exact h3
theorem evRun_held {more : Nat} {s t : StoP} {g : List (List UInt8)} {x : List UInt8} (hg : GoodS s) (h : evRun more s = some (t, g)) (hx : Rch s.blobs (pinR s) x) : InB t.blobs x := by
  unfold evRun at h
  by_cases hf : usd s.blobs + more ≤ s.room
  · rw [if_pos hf] at h; cases h; exact hx.inB
  · rw [if_neg hf] at h
    refine (evGo_held _ _ t _ g (cln_good hg) (fun d hd => ?_) (held_step hg.b.ris (pinR_rts s) hx) h).inB
    unfold pinR at hd ⊢
    rw [cln_rtsB]; exact hd
/-- whose keys are gone were not held -/
theorem evGo_gone {more : Nat} : ∀ (n : Nat) (s t : StoP) (g g' : List (List UInt8)), evGo more n s g = some (t, g') → ∀ k ∈ g', k ∈ g ∨ ∃ x ∈ s.ents, x.key = k ∧ x.pins = 0
  | 0, s, t, g, g', h => by unfold evGo at h; cases h
  | n + 1, s, t, g, g', h => fun k hk => by
    rcases evGo_step h with ⟨h1, rfl, rfl⟩ | ⟨h1, i, hi, ho, h2⟩
    · exact .inl hk
    · rcases evGo_gone n _ t _ g' h2 k hk with h3 | ⟨x, hx, h3⟩
      · rcases List.mem_append.1 h3 with h4 | h4
        · exact .inl h4
        · exact .inr ⟨s.ents[i], List.getElem_mem hi, (List.mem_singleton.1 h4).symm, oldK_pin s.ents _ i hi ho⟩
      · exact .inr ⟨x, erase_sub _ _ x hx, h3⟩
theorem evRun_gone {more : Nat} {s t : StoP} {g : List (List UInt8)} (hg : GoodS s) (h : evRun more s = some (t, g)) {y : EntP} (hy : y ∈ s.ents) (hp : 0 < y.pins) : y.key ∉ g := fun hk => by
  unfold evRun at h
  by_cases hf : usd s.blobs + more ≤ s.room
  · rw [if_pos hf] at h; cases h; cases hk
  · rw [if_neg hf] at h
    rcases evGo_gone _ _ t _ g h _ hk with h1 | ⟨x, hx, e, h0⟩
    · cases h1
    · have := hg.e.ris.inj hx hy e
      subst this; omega
end Go.Proofs.YtmjcoebfldmgnaaGreat
