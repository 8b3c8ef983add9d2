/- Flights that may be stay so when somebody joins. No condition. -/
import Derived.Test.YtefhbgbhknobjaaFChk
namespace Go.Proofs.Ytefhbgbhknobjaa
set_option linter.unusedVariables false
set_option linter.unusedSimpArgs false

theorem fnd_keys : ∀ (fs gs : List FlP) (i : Nat) (k : List UInt8), fs.map (·.key) = gs.map (·.key) → fnd i fs k = fnd i gs k
  | [], [], i, k, _ => rfl
  | f :: fs, g :: gs, i, k, h => by
    simp only [List.map_cons, List.cons.injEq] at h
    rw [fnd, fnd, h.1, fnd_keys fs gs (i + 1) k h.2]
theorem CrewOk.snoc {l : List Int} {n : Int} (h : CrewOk l) (h1 : 1 ≤ n) (h2 : n ≤ 1000) (hn : l.contains n = false) : CrewOk (l ++ [n]) := fun j hj => by
  rw [List.length_append] at hj
  simp only [List.length_cons, List.length_nil] at hj
  by_cases hl : j < l.length
  · rw [List.getElem_append_left hl, List.take_append_of_le_length (by omega)]
    exact h j hl
  · have he : j = l.length := by omega
    subst he
    rw [List.getElem_append_right (Nat.le_refl _), List.take_left]
    simp only [Nat.sub_self, List.getElem_cons_zero]
    exact ⟨⟨h1, h2⟩, hn⟩
theorem CrewOk.one {n : Int} (h1 : 1 ≤ n) (h2 : n ≤ 1000) : CrewOk [n] := fun j hj => by
  have h0 : j = 0 := by simpa using hj
  subst h0
  exact ⟨⟨h1, h2⟩, rfl⟩
theorem GoodF.nil_ : GoodF [] := ⟨by simp, (fun j h => by cases h), (fun j h => by cases h), (fun j h => by cases h), (fun j h => by cases h)⟩
theorem GoodF.snoc {fs : List FlP} {k : List UInt8} {n : Int} (h : GoodF fs) (h6 : fs.length < 6) (hk : hexC k = 0) (hkl : k.length ≤ 1000) (hf : fnd 0 fs k = none) (h1 : 1 ≤ n) (h2 : n ≤ 1000) : GoodF (fs ++ [⟨k, n, []⟩]) := by
  have split : ∀ j, j < (fs ++ [(⟨k, n, []⟩ : FlP)]).length → j < fs.length ∨ j = fs.length := fun j hj => by
    rw [List.length_append] at hj; simp only [List.length_cons, List.length_nil] at hj; omega
  refine ⟨by rw [List.length_append]; simp only [List.length_cons, List.length_nil]; omega, fun j hj => ?_, fun j hj => ?_, fun j hj => ?_, fun j hj => ?_⟩
  · rcases split j hj with hl | rfl
    · rw [List.getElem_append_left hl]; exact h.key j hl
    · rw [List.getElem_append_right (Nat.le_refl _)]; simp only [Nat.sub_self, List.getElem_cons_zero]; exact ⟨hk, hkl⟩
  · rcases split j hj with hl | rfl
    · rw [List.getElem_append_left hl, List.take_append_of_le_length (by omega)]; exact h.one j hl
    · rw [List.getElem_append_right (Nat.le_refl _), List.take_left]; simp only [Nat.sub_self, List.getElem_cons_zero]; exact hf
  · rcases split j hj with hl | rfl
    · rw [List.getElem_append_left hl]; exact h.few j hl
    · rw [List.getElem_append_right (Nat.le_refl _)]; simp only [Nat.sub_self, List.getElem_cons_zero]; exact Nat.zero_le _
  · rcases split j hj with hl | rfl
    · rw [List.getElem_append_left hl]; exact h.crew j hl
    · rw [List.getElem_append_right (Nat.le_refl _)]; simp only [Nat.sub_self, List.getElem_cons_zero]; exact CrewOk.one h1 h2
theorem GoodF.set {fs : List FlP} {i : Nat} {n : Int} (h : GoodF fs) (hi : i < fs.length) (h1 : 1 ≤ n) (h2 : n ≤ 1000) (hin : (fs[i].lead :: fs[i].wait).contains n = false) (h5 : fs[i].wait.length < 5) :
    GoodF (fs.set i ⟨fs[i].key, fs[i].lead, fs[i].wait ++ [n]⟩) := by
  have hkeys : ∀ m, ((fs.set i ⟨fs[i].key, fs[i].lead, fs[i].wait ++ [n]⟩).take m).map (·.key) = (fs.take m).map (·.key) := fun m => by
    rw [List.map_take, List.map_take, List.map_set]
    congr 1
    apply List.ext_getElem
    · simp
    · intro j h1 h2
      rw [List.getElem_set]
      split
      · rename_i e; subst e; simp
      · rfl
  refine ⟨by rw [List.length_set]; exact h.len, fun j hj => ?_, fun j hj => ?_, fun j hj => ?_, fun j hj => ?_⟩
  all_goals
    rw [List.length_set] at hj
    by_cases e : i = j
    · subst e
      first
        | (rw [List.getElem_set_self]; exact h.key i hi)
        | (rw [List.getElem_set_self, fnd_keys _ _ _ _ (hkeys i)]; exact h.one i hi)
        | (rw [List.getElem_set_self, List.length_append]; simp only [List.length_cons, List.length_nil]; omega)
        | (rw [List.getElem_set_self]; exact (h.crew i hi).snoc h1 h2 hin)
    · first
        | (rw [List.getElem_set_ne e]; exact h.key j hj)
        | (rw [List.getElem_set_ne e, fnd_keys _ _ _ _ (hkeys j)]; exact h.one j hj)
        | (rw [List.getElem_set_ne e]; exact h.few j hj)
        | (rw [List.getElem_set_ne e]; exact h.crew j hj)
end Go.Proofs.Ytefhbgbhknobjaa
