/- Flights, one of them struck: plain laws. No condition. -/
import Derived.Test.YtefhbgbhknobjaaJnP
namespace Go.Proofs.Ytefhbgbhknobjaa
set_option linter.unusedVariables false
set_option linter.unusedSimpArgs false

theorem fnd_none_iff : ∀ (fs : List FlP) (i : Nat) (k : List UInt8), fnd i fs k = none ↔ ∀ p ∈ fs, p.key ≠ k
  | [], i, k => by simp [fnd]
  | f :: fs, i, k => by
    rw [fnd]
    by_cases h : f.key = k
    · rw [if_pos h]
      constructor
      · intro e; cases e
      · intro e; exact absurd h (e f (by simp))
    · rw [if_neg h, fnd_none_iff fs (i + 1) k]
      constructor
      · intro e p hp
        rcases List.mem_cons.1 hp with rfl | hp
        · exact h
        · exact e p hp
      · intro e p hp; exact e p (by simp [hp])
theorem GoodF.nodup {fs : List FlP} (h : GoodF fs) : (fs.map (·.key)).Nodup := by
  rw [List.Nodup, List.pairwise_map, List.pairwise_iff_getElem]
  intro i j hi hj hij
  have h1 := (fnd_none_iff _ _ _).1 (h.one j hj) fs[i] (by
    rw [List.mem_take_iff_getElem]; exact ⟨i, by omega, rfl⟩)
  exact h1
theorem GoodF.of {fs : List FlP} (h6 : fs.length ≤ 6) (h : ∀ p ∈ fs, (hexC p.key = 0 ∧ p.key.length ≤ 1000) ∧ p.wait.length ≤ 5 ∧ CrewOk (p.lead :: p.wait)) (hn : (fs.map (·.key)).Nodup) : GoodF fs := by
  refine ⟨h6, fun j hj => (h _ (List.getElem_mem hj)).1, fun j hj => ?_, fun j hj => (h _ (List.getElem_mem hj)).2.1, fun j hj => (h _ (List.getElem_mem hj)).2.2⟩
  rw [fnd_none_iff]
  intro p hp
  rw [List.mem_take_iff_getElem] at hp
  obtain ⟨i, hi, rfl⟩ := hp
  rw [List.Nodup, List.pairwise_map, List.pairwise_iff_getElem] at hn
  exact hn i j (by omega) hj (by omega)
theorem GoodF.all {fs : List FlP} (h : GoodF fs) : ∀ p ∈ fs, (hexC p.key = 0 ∧ p.key.length ≤ 1000) ∧ p.wait.length ≤ 5 ∧ CrewOk (p.lead :: p.wait) := fun p hp => by
  obtain ⟨j, hj, rfl⟩ := List.mem_iff_getElem.1 hp
  exact ⟨h.key j hj, h.few j hj, h.crew j hj⟩
theorem GoodF.erase {fs : List FlP} (h : GoodF fs) (i : Nat) : GoodF (fs.eraseIdx i) := by
  refine GoodF.of ?_ (fun p hp => h.all p (List.mem_of_mem_eraseIdx hp)) ?_
  · have := List.length_eraseIdx_le fs i
    have := h.len
    omega
  · exact h.nodup.sublist ((List.eraseIdx_sublist fs i).map _)
/-- who is in a key's flight, where no key stands twice -/
theorem grp_mem {fs : List FlP} (hn : (fs.map (·.key)).Nodup) {p : FlP} (hp : p ∈ fs) : grp fs p.key = p.lead :: p.wait := by
  cases e : fnd 0 fs p.key with
  | none => exact absurd rfl ((fnd_none_iff _ _ _).1 e p hp)
  | some i =>
    obtain ⟨hi, hk⟩ := fnd_key0 e
    rw [grp_some e hi]
    obtain ⟨j, hj, rfl⟩ := List.mem_iff_getElem.1 hp
    have hij : i = j := by
      rw [List.Nodup, List.pairwise_map, List.pairwise_iff_getElem] at hn
      rcases Nat.lt_trichotomy i j with h | h | h
      · exact absurd hk (hn i j hi hj h)
      · exact h
      · exact absurd hk.symm (hn j i hj hi h)
    subst hij; rfl
theorem mem_erase {fs : List FlP} {i : Nat} (hi : i < fs.length) {p : FlP} (hp : p ∈ fs) (hk : p.key ≠ fs[i].key) : p ∈ fs.eraseIdx i := by
  rw [List.eraseIdx_eq_take_drop_succ]
  obtain ⟨j, hj, rfl⟩ := List.mem_iff_getElem.1 hp
  rcases Nat.lt_trichotomy j i with h | h | h
  · exact List.mem_append_left _ (by rw [List.mem_take_iff_getElem]; exact ⟨j, by omega, rfl⟩)
  · subst h; exact absurd rfl hk
  · refine List.mem_append_right _ (List.mem_drop_iff_getElem.2 ⟨j - (i + 1), by omega, ?_⟩)
    congr 1; omega
theorem fnd_erase_same {fs : List FlP} (hn : (fs.map (·.key)).Nodup) {i : Nat} (hi : i < fs.length) : fnd 0 (fs.eraseIdx i) fs[i].key = none := by
  rw [fnd_none_iff]
  intro p hp e
  rw [List.eraseIdx_eq_take_drop_succ] at hp
  rw [List.Nodup, List.pairwise_map, List.pairwise_iff_getElem] at hn
  rcases List.mem_append.1 hp with h | h
  · rw [List.mem_take_iff_getElem] at h
    obtain ⟨j, hj, rfl⟩ := h
    exact hn j i (by omega) hi (by omega) e
  · rw [List.mem_drop_iff_getElem] at h
    obtain ⟨j, hj, rfl⟩ := h
    exact hn i (i + 1 + j) hi (by omega) (by omega) e.symm
theorem fnd_erase_other {fs : List FlP} {i : Nat} (hi : i < fs.length) {k : List UInt8} (hk : k ≠ fs[i].key) : (fnd 0 (fs.eraseIdx i) k).isSome = (fnd 0 fs k).isSome := by
  have h : fnd 0 (fs.eraseIdx i) k = none ↔ fnd 0 fs k = none := by
    rw [fnd_none_iff, fnd_none_iff]
    constructor
    · intro h p hp e
      exact h p (mem_erase hi hp (by rw [e]; exact hk)) e
    · intro h p hp
      exact h p (List.mem_of_mem_eraseIdx hp)
  cases e1 : fnd 0 (fs.eraseIdx i) k with
  | none => rw [h.1 e1]
  | some a =>
    cases e2 : fnd 0 fs k with
    | none => rw [h.2 e2] at e1; cases e1
    | some b => rfl
theorem grp_erase {fs : List FlP} (hn : (fs.map (·.key)).Nodup) {i : Nat} {k : List UInt8} (h : (fnd 0 (fs.eraseIdx i) k).isSome = true) : grp (fs.eraseIdx i) k = grp fs k := by
  have hn2 : ((fs.eraseIdx i).map (·.key)).Nodup := hn.sublist ((List.eraseIdx_sublist fs i).map _)
  cases e : fnd 0 (fs.eraseIdx i) k with
  | none => rw [e] at h; cases h
  | some j =>
    obtain ⟨hj, rfl⟩ := fnd_key0 e
    have hm := List.getElem_mem hj
    rw [grp_mem hn2 hm, grp_mem hn (List.mem_of_mem_eraseIdx hm)]
end Go.Proofs.Ytefhbgbhknobjaa
