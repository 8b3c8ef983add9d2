/- Copies of Raw things and of parts; plain laws of ManifestRises. Conditions: the sizes. -/
import Derived.Test.YtmjcoebfldmgnaaGreatEnc
import Derived.Test.YtmjcoebfldmgnaaGreatMem
namespace Go.Proofs.YtmjcoebfldmgnaaGreat
open Go.RowKit
set_option linter.unusedVariables false
set_option linter.unusedSimpArgs false
set_option maxRecDepth 20000

theorem ClonePart_ok (A : Option Addr) (n c : Nat) (xs : List Value) (w : World) (hb : n * 40 ≤ 140737488355328) (hr : Rd w 3 A n xs) (h1 : ∀ u ∈ xs, u.oneCell' = true) :
    Calls Tryz.prog 111 #[.slice A n c] w fun e w' => ∃ v, e = .returned v ∧ w'.ownsRow w.heap.size 48 3 v n xs ∧ Below w.heap.size w w' := by
  have heq := fun W => Lib.run_eql_slice_nil (P := Tryz.prog) W 43 48 A n c 0 0 Tryz.underlying43
  cases A with
  | none =>
    obtain rfl : n = 0 := by
      rcases Nat.eq_zero_or_pos n with h | h
      · exact h
      · obtain ⟨_, _, h1, _⟩ := hr.2 h; cases h1
    obtain rfl : xs = [] := List.eq_nil_of_length_eq_zero (by simpa using hr.1)
    go_enter Tryz.func111, Tryz.ntmps111
    repeat' ((fail_if_success at_builtin); (fail_if_success at_make); (first | go_values | go_skip | go_guarded | go_step | go_upon | go_back))
    go_ret
    exact ⟨_, rfl, World.ownsRow_nil _ _ _ _, Below.refl _ _⟩
  | some ad =>
    go_enter Tryz.func111, Tryz.ntmps111
    repeat' ((fail_if_success at_builtin); (fail_if_success at_make); (first | go_values | go_skip | go_guarded | go_step | go_upon | go_back))
    refine wpList_ap rfl (.tmp 5) (.tmp 6) rfl elPart (by rfl) (World.ownsRow_made (size := 3) w #[] 0 (Nat.le_refl _) (by simp [maxLen]) rfl) (by rfl) (hr.alloc _) h1 (by omega) (by simp) ?_
    intro v1 w1 hown1 hg1 _
    have hb1 := below_own ((Below.refl _ _).alloc (Nat.le_refl _) _) (World.ownsRow_made (size := 3) w #[] 0 (Nat.le_refl _) (by simp [maxLen]) rfl) (Nat.le_refl _) hg1
    repeat' ((fail_if_success at_builtin); (fail_if_success at_make); (first | go_values | go_skip | go_guarded | go_step | go_upon | go_back))
    go_ret
    exact ⟨_, rfl, by simpa using hown1, hb1⟩

/-! plain -/
def nm (i : Nat) : List UInt8 := [110, UInt8.ofNat (97 + i)]
def ordGo : Option (List UInt8) → List (List UInt8) → Nat
  | _, [] => 0
  | none, n :: r => ordGo (some n) r
  | some q, n :: r => if leS n q then 6 else ordGo (some n) r
def FineP (p : PartP) : Prop := nameC p.name = 0 ∧ hexC p.dig = 0 ∧ p.size ≤ 300
theorem chk_ord : ∀ (l : List PartP) (q : Option (List UInt8)), (∀ p ∈ l, FineP p) → chkGo q l = ordGo q (l.map (·.name))
  | [], q, _ => by cases q <;> rfl
  | p :: l, q, h => by
    obtain ⟨h1, h2, h3⟩ := h p (by simp)
    have ih := chk_ord l (some p.name) (fun x hx => h x (by simp [hx]))
    rw [chkGo_cons, if_neg (fun e => e h1)]
    cases q with
    | none => simp only [List.map_cons, ordGo]; rw [if_neg (by decide), if_neg (fun e => e h2), if_neg (by omega), ih]
    | some q =>
      simp only [List.map_cons, ordGo]
      by_cases hb : leS p.name q = true
      · rw [if_pos hb, if_pos hb]
      · rw [if_neg hb, if_neg hb, if_neg (fun e => e h2), if_neg (by omega), ih]
theorem lstGo_names : ∀ (l : List RawP) (i : Nat), (lstGo i l).map (·.name) = (List.range' i (lstGo i l).length).map nm
  | [], i => rfl
  | r :: l, i => by
    simp only [lstGo]
    split
    · simp only [List.map_cons, List.length_cons, List.range'_succ]; rw [lstGo_names l (i + 1)]; rfl
    · rfl
theorem lst_names (l : List RawP) : (lst l).map (·.name) = (List.range (lst l).length).map nm := by
  rw [List.range_eq_range']; exact lstGo_names l 0
theorem ord_set : ∀ L a b, L ≤ 8 → a < L → b < L → a ≠ b → ordGo none (((List.range L).map nm).set a (nm b)) = 6 := by
  have key : ∀ L : Fin 9, ∀ a b : Fin 8, a.val < L.val → b.val < L.val → a ≠ b → ordGo none (((List.range L.val).map nm).set a.val (nm b.val)) = 6 := by decide +kernel
  exact fun L a b h1 h2 h3 h4 => key ⟨L, by omega⟩ ⟨a, by omega⟩ ⟨b, by omega⟩ h2 h3 (by simpa using h4)
/-- a name that stands twice -/
theorem chk_set (l : List RawP) (a b : Nat) (ha : a < (lst l).length) (hb : b < (lst l).length) (hab : a ≠ b) :
    chk ((lst l).set a { (lst l)[a] with name := (lst l)[b].name }) = 6 := by
  have h8 := lst_le l
  have hz := (chk_zero (chk_lst l)).2
  have hnb : (lst l)[b].name = nm b := by
    have h := congrArg (fun x => x[b]?) (lst_names l)
    simp [hb] at h
    exact h
  rw [chk, if_neg (by rw [List.length_set]; omega), chk_ord _ _ (fun p hp => ?_)]
  · rw [List.map_set, lst_names, hnb]
    exact ord_set _ a b h8 ha hb hab
  · rcases List.mem_or_eq_of_mem_set hp with h | h
    · exact hz p h
    · subst h
      have h1 := hz _ (List.getElem_mem ha)
      have h2 := hz _ (List.getElem_mem hb)
      exact ⟨h2.1, h1.2.1, h1.2.2⟩
theorem chk_twice (l : List RawP) (h : 0 < (lst l).length) : chk [(lst l)[0], (lst l)[0]] = 6 := by
  have hz := (chk_zero (chk_lst l)).2 _ (List.getElem_mem h)
  have hn : (lst l)[0].name = nm 0 := by
    have h' := congrArg (fun x => x[0]?) (lst_names l)
    simp [h] at h'
    exact h'
  rw [chk, if_neg (by simp), chk_ord _ _ (fun p hp => by simp at hp; subst hp; exact hz)]
  simp only [List.map_cons, List.map_nil, hn]
  decide +kernel
theorem pcs_set (l : List PartP) (a : Nat) (s : List UInt8) (h : a < l.length) : (pcs l).set (a * 3) (.string ⟨s.toArray⟩) = pcs (l.set a { l[a] with name := s }) := by
  induction l generalizing a with
  | nil => simp at h
  | cons x l ih =>
    cases a with
    | zero => rfl
    | succ a =>
      have := ih a (by simpa using h)
      show (pcell x ++ pcs l).set ((a + 1) * 3) _ = pcell x ++ pcs (l.set a _)
      rw [List.set_append_right _ _ (by simp [pcell]; omega), show (a + 1) * 3 - (pcell x).length = a * 3 by simp [pcell]; omega, this]
      rfl
end Go.Proofs.YtmjcoebfldmgnaaGreat
