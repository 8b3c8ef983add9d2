/- Slices of strings: sorted, each once; Contains, Equal, IsSorted. Conditions: the sizes. -/
import Derived.Test.YtdpedkgdobfemaaPart
import Derived.Test.YtdpedkgdobfemaaShelf
import Derived.Test.YtdpedkgdobfemaaList
import Derived.Sort.KeysCollected
namespace Go.Proofs.Ytdpedkgdobfemaa
open Go.RowKit
set_option linter.unusedVariables false
set_option linter.unusedSimpArgs false
set_option maxRecDepth 100000

/-- strings as cells -/
def strs (L : List (List UInt8)) : List Value := L.map fun s => .string ⟨s.toArray⟩
theorem strs_at (L : List (List UInt8)) (k : Nat) (h : k < L.length) : (strs L)[k]? = some (.string ⟨L[k].toArray⟩) := by
  rw [strs, List.getElem?_map, List.getElem?_eq_getElem h]; rfl
/-- sorted, each once -/
structure StrL (L : List (List UInt8)) (p : List UInt8 → Prop) : Prop where
  nd : L.Nodup
  le : L.Pairwise (fun x y => leB x y = true)
  mem : ∀ x, x ∈ L ↔ p x
theorem StrL.uniq {L L' : List (List UInt8)} {p : List UInt8 → Prop} (h : StrL L p) (h' : StrL L' p) : L = L' := by
  have hp : L.Perm L' := (List.perm_ext_iff_of_nodup h.nd h'.nd).2 fun x => by rw [h.mem, h'.mem]
  refine List.Perm.eq_of_pairwise (le := fun a b => leB a b = true) (fun a b _ _ h1 h2 => ?_) h.le h'.le hp
  simp only [leB, decide_eq_true_eq] at h1 h2
  exact List.le_antisymm h1 h2
def nub : List (List UInt8) → List (List UInt8)
  | [] => []
  | x :: l => if x ∈ l then nub l else x :: nub l
theorem mem_nub (x : List UInt8) : ∀ l, x ∈ nub l ↔ x ∈ l
  | [] => Iff.rfl
  | y :: l => by
    rw [nub]
    split
    · rename_i h
      rw [mem_nub x l, List.mem_cons]
      exact ⟨.inr, fun h2 => h2.elim (fun e => e ▸ h) id⟩
    · rw [List.mem_cons, mem_nub x l, List.mem_cons]
theorem nub_nd : ∀ l, (nub l).Nodup
  | [] => List.nodup_nil
  | y :: l => by
    rw [nub]
    split
    · exact nub_nd l
    · rename_i h
      exact List.nodup_cons.2 ⟨fun h2 => h ((mem_nub y l).1 h2), nub_nd l⟩
theorem leB_bl (x y : List UInt8) : leB x y = !Op.bytesLess y x := by
  rw [bl_eq]
  show decide (x ≤ y) = _
  by_cases h : y < x
  · rw [decide_eq_true h, decide_eq_false (by rw [List.not_le]; exact h)]; rfl
  · rw [decide_eq_false h, decide_eq_true (List.not_lt.1 h)]; rfl
theorem Has_str (A : Option Addr) (c : Nat) (L : List (List UInt8)) (d : List UInt8) (w : World) (hl : L.length ≤ 1000000000) (hr : Rd w 1 A L.length (strs L)) :
    Calls Try.prog 18 #[.slice A L.length c, .string ⟨d.toArray⟩] w fun e w' => e = .returned (.bool (decide (d ∈ L))) ∧ w' = w := by
  rcases Nat.eq_zero_or_pos L.length with h0 | h0
  · obtain rfl : L = [] := List.eq_nil_of_length_eq_zero h0
    exact (Try.slices_Contains_string_empty A c ⟨d.toArray⟩ w).mono fun e w' ⟨h1, h2⟩ => ⟨by rw [h1]; simp, h2⟩
  · obtain ⟨b, off, rfl, _, hc⟩ := hr.2 h0
    have hz : (L.map fun s => (⟨s.toArray⟩ : ByteArray)).length = L.length := List.length_map _
    refine (Try.slices_Contains_string b off L.length c (L.map fun s => ⟨s.toArray⟩) ⟨d.toArray⟩ w (by rw [hz]; exact Nat.le_refl _) (by omega) (fun j hj => ?_)).mono ?_
    · have hj' : j < L.length := by omega
      rw [hc j _ (strs_at L j hj')]
      simp [List.getD, List.getElem?_map, List.getElem?_eq_getElem hj']
    · rintro e w' ⟨rfl, rfl⟩
      refine ⟨?_, rfl⟩
      congr 2
      rw [← hz, List.take_length]
      by_cases hm : d ∈ L
      · rw [decide_eq_true hm, Lib.containsS_iff]; exact List.mem_map.2 ⟨d, hm, rfl⟩
      · rw [decide_eq_false hm, ← Bool.not_eq_true, Lib.containsS_iff]
        intro h
        obtain ⟨x, hx, e⟩ := List.mem_map.1 h
        exact hm (by rw [← str_inj.1 e]; exact hx)
theorem Eq_str (A B : Option Addr) (c d : Nat) (L M : List (List UInt8)) (w : World) (hl : L.length ≤ 1000000000) (hm : M.length ≤ 1000000000) (hr : Rd w 1 A L.length (strs L)) (hr2 : Rd w 1 B M.length (strs M)) :
    Calls Try.prog 15 #[.slice A L.length c, .slice B M.length d] w fun e w' => e = .returned (.bool (decide (L = M))) ∧ Below w.heap.size w w' := by
  by_cases hlm : L.length = M.length
  rotate_left
  · refine (Try.slices_Equal_string_lens A B L.length c M.length d w hlm).mono ?_
    rintro e w' ⟨rfl, rfl⟩
    exact ⟨by rw [decide_eq_false (fun h => hlm (by rw [h]))], Below.refl _ _⟩
  rcases Nat.eq_zero_or_pos L.length with h0 | h0
  · obtain rfl : L = [] := List.eq_nil_of_length_eq_zero h0
    obtain rfl : M = [] := List.eq_nil_of_length_eq_zero (by rw [← hlm]; rfl)
    refine (Try.slices_Equal_string_empty A B c 0 d w (by omega)).mono ?_
    rintro e w' ⟨rfl, rfl⟩
    exact ⟨rfl, Below.refl _ _⟩
  · obtain ⟨b, off, rfl, _, hc⟩ := hr.2 h0
    obtain ⟨b2, off2, rfl, _, hc2⟩ := hr2.2 (by omega)
    have hz : (L.map fun s => (⟨s.toArray⟩ : ByteArray)).length = L.length := List.length_map _
    have hz2 : (M.map fun s => (⟨s.toArray⟩ : ByteArray)).length = M.length := List.length_map _
    refine (Try.slices_Equal_string b off L.length c b2 off2 M.length d (L.map fun s => ⟨s.toArray⟩) (M.map fun s => ⟨s.toArray⟩) w (by omega) (by omega) (by omega) (by omega) (fun j hj => ?_) (fun j hj => ?_)).mono ?_
    · have hj' : j < L.length := by omega
      rw [hc j _ (strs_at L j hj')]
      simp [List.getD, List.getElem?_map, List.getElem?_eq_getElem hj']
    · have hj' : j < M.length := by omega
      rw [hc2 j _ (strs_at M j hj')]
      simp [List.getD, List.getElem?_map, List.getElem?_eq_getElem hj']
    · rintro e w' ⟨rfl, q, rfl⟩
      refine ⟨?_, bdrewN (Below.refl _ _) q⟩
      congr 2
      rw [List.take_of_length_le (by omega), List.take_of_length_le (by omega)]
      by_cases h : L = M
      · subst h; simp
      · rw [decide_eq_false h, decide_eq_false]
        intro h2
        refine h ?_
        have h3 := congrArg (fun l : List ByteArray => l.map fun s => s.data.toList) h2
        simpa [List.map_map, Function.comp_def] using h3
theorem Nan_ok (s : ByteArray) (w : World) : Calls Try.prog 58 #[.string s] w fun e w' => e = .returned (.bool false) ∧ w = w' := by
  go_enter Try.func58, Try.ntmps58
  repeat' ((fail_if_success at_builtin); (fail_if_success at_make); (first | go_values | go_skip | go_guarded | go_step | go_upon | go_back))
  go_ret
  exact ⟨by simp, rfl⟩
theorem Less_ok (s t : ByteArray) (w : World) : Calls Try.prog 40 #[.string s, .string t] w fun e w' => e = .returned (.bool (Op.bytesLess s.toList t.toList)) ∧ w = w' := by
  go_enter Try.func40, Try.ntmps40
  repeat' ((fail_if_success at_builtin); (fail_if_success at_make); (first | go_values | go_skip | go_guarded | go_step | go_upon | go_back))
  refine ((Nan_ok s _)).mono ?_; rintro e_ _ ⟨rfl, rfl⟩; dsimp only
  repeat' ((fail_if_success at_builtin); (fail_if_success at_make); (first | go_values | go_skip | go_guarded | go_step | go_upon | go_back))
  go_ret
  exact ⟨rfl, rfl⟩
set_option maxHeartbeats 4000000 in
theorem Sorted_str (A : Option Addr) (c : Nat) (L : List (List UInt8)) (w : World) (hl : L.length ≤ 1000000000) (hr : Rd w 1 A L.length (strs L)) (hp : L.Pairwise (fun x y => leB x y = true)) :
    Calls Try.prog 16 #[.slice A L.length c] w fun e w' => e = .returned (.bool true) ∧ Below w.heap.size w w' := by
  rcases Nat.eq_zero_or_pos L.length with h0 | h0
  · rw [h0]
    clear hr hp
    have hw0 : IntKind.i64.wrap ((0 : Int) - 1) = -1 := by decide
    have hw1 : IntKind.i64.wrap (-1) = -1 := by decide
    go_enter Try.func16, Try.ntmps16
    repeat' ((fail_if_success at_builtin); (fail_if_success at_make); (first | go_values | go_skip | go_guarded | go_step | go_upon | go_back))
    go_loopg [3] 0 (fun gn i wr => i = .int .i64 (-1) ∧ gn = 0 ∧ Below w.heap.size w wr)
    case atStart => exact ⟨rfl, rfl, Below.refl _ _⟩
    case round =>
      obtain ⟨rfl, _, hbel⟩ := hrel
      repeat' ((fail_if_success at_builtin); (fail_if_success at_make); (first | go_values | go_skip | go_guarded | go_step | go_upon | go_back))
      go_ret
      exact ⟨rfl, hbel⟩
  · obtain ⟨q, hq⟩ : ∃ q, L.length = q + 1 := ⟨L.length - 1, by omega⟩
    have hw0 : IntKind.i64.wrap ((L.length : Int) - 1) = (q : Int) := by rw [IntWalk.i64_in _ (by omega)]; omega
    have HQ := Lib.hid hq
    have hq9 : q ≤ 1000000000 := by omega
    clear hq h0
    go_enter Try.func16, Try.ntmps16
    repeat' ((fail_if_success at_builtin); (fail_if_success at_make); (first | go_values | go_skip | go_guarded | go_step | go_upon | go_back))
    clear hw0
    go_loopg [3] q (fun gn i wr => ∃ p : Nat, gn = p ∧ i = .int .i64 p ∧ p ≤ q ∧ Below w.heap.size w wr)
    case atStart => exact ⟨q, rfl, rfl, Nat.le_refl _, Below.refl _ _⟩
    case round =>
      obtain ⟨p, hgp, rfl, hpq, hbel⟩ := hrel
      have HGP := Lib.hid hgp
      clear hgp
      by_cases h0 : p = 0
      · have hc0 : decide ((0 : Int) < (p : Int)) = false := decide_eq_false (by omega)
        have hc1 : decide (0 < p) = false := decide_eq_false (by omega)
        repeat' ((fail_if_success at_builtin); (fail_if_success at_make); (first | go_values | go_skip | go_guarded | go_step | go_upon | go_back))
        go_ret
        exact ⟨rfl, hbel⟩
      obtain ⟨r, hr1⟩ : ∃ r, p = r + 1 := ⟨p - 1, by omega⟩
      have hc0 : decide ((0 : Int) < (p : Int)) = true := decide_eq_true (by omega)
      have hc1 : decide (0 < p) = true := decide_eq_true (by omega)
      have hw1 : IntKind.i64.wrap ((p : Int) - 1) = (r : Int) := by rw [IntWalk.i64_in _ (by omega)]; omega
      have hpl : p < L.length := by have := HQ.out; omega
      have hrl : r < L.length := by omega
      have p0 : (0 : Int) ≤ (p : Int) := by omega
      have p1 : (p : Int) < (L.length : Int) := by omega
      have r0 : (0 : Int) ≤ (r : Int) := by omega
      have r1 : (r : Int) < (L.length : Int) := by omega
      obtain ⟨b, off, hA, hbb, hcell⟩ := (hr.below hbel).2 (by omega)
      subst hA
      have e0 := hcell p _ (strs_at L p hpl)
      have e1 := hcell r _ (strs_at L r hrl)
      have hle : Op.bytesLess L[p] L[r] = false := by
        have h1 := List.pairwise_iff_getElem.1 hp r p hrl hpl (by omega)
        rw [leB_bl] at h1
        simpa using h1
      have HRP := Lib.hid hr1
      have HSB := Lib.hid (show ∀ w', Below wr.heap.size wr w' → (w'.cell? ⟨b, off + p, none⟩ = some (.string ⟨L[p].toArray⟩) ∧ w'.cell? ⟨b, off + r, none⟩ = some (.string ⟨L[r].toArray⟩)) from
        fun w' h => ⟨((bcell h).1 b _ hbb).trans e0, ((bcell h).1 b _ hbb).trans e1⟩)
      have HB := Lib.hid hbel
      generalize hs1 : (⟨L[p].toArray⟩ : ByteArray) = s at *
      generalize hs2 : (⟨L[r].toArray⟩ : ByteArray) = t at *
      have hlt : Op.bytesLess s.toList t.toList = false := by rw [← hs1, ← hs2, ByteArray.toList_eq, ByteArray.toList_eq]; exact hle
      have HLT := Lib.hid hlt
      clear hcell hle hr1 hs1 hs2 hlt e0 e1 hbel hbb h0
      repeat' ((fail_if_success at_builtin); (fail_if_success at_make); (first | go_values | go_skip | go_guarded | go_step | go_upon | go_back))
      --HELD
      refine wp_region_held_drew (S := (fun w' => w'.cell? ⟨b, off + p, none⟩ = some (.string s) ∧ w'.cell? ⟨b, off + r, none⟩ = some (.string t))) (by kernel_rfl) ?_ (fun hHeld => ?_)
      · exact HSB.out _ (Below.refl _ wr).drew
      have hB := (Below.refl wr.heap.size wr).drew
      generalize wr.drew = wn0 at *
      refine wpAnyH_take (i := 0) (oi := _) (v := ?_) rfl (by kernel_rfl) (by kernel_rfl) (by kernel_rfl) (fun _ _ _ h => h) (Or.inl ⟨by rfl, ?_⟩) (by assumption) ?_
      rotate_left
      · (intro w hSw; (try dsimp only at hSw); go_simp; try (with_reducible rfl))
      try simp only [List.getElem_toArray, List.getElem_cons_zero, List.getElem_cons_succ, Act.put, List.setIfInBounds_toArray, List.set_cons_zero, List.set_cons_succ]
      refine wpAnyH_take (i := 1) (oi := _) (v := ?_) rfl (by kernel_rfl) (by kernel_rfl) (by kernel_rfl) (fun _ _ _ h => h) (Or.inl ⟨by rfl, ?_⟩) (by assumption) ?_
      rotate_left
      · (intro w hSw; (try dsimp only at hSw); go_simp; try (with_reducible rfl))
      try simp only [List.getElem_toArray, List.getElem_cons_zero, List.getElem_cons_succ, Act.put, List.setIfInBounds_toArray, List.set_cons_zero, List.set_cons_succ]
      refine wpAnyH_take (i := 2) (oi := _) (v := ?_) rfl (by kernel_rfl) (by kernel_rfl) (by kernel_rfl) (fun _ _ _ h => h) (Or.inl ⟨by rfl, ?_⟩) (by assumption) ?_
      rotate_left
      · (intro w hSw; (try dsimp only at hSw); go_simp; try (with_reducible rfl))
      try simp only [List.getElem_toArray, List.getElem_cons_zero, List.getElem_cons_succ, Act.put, List.setIfInBounds_toArray, List.set_cons_zero, List.set_cons_succ]
      refine wpAnyH_take (i := 3) (oi := _) (v := ?_) rfl (by kernel_rfl) (by kernel_rfl) (by kernel_rfl) (fun _ _ _ h => h) (Or.inl ⟨by rfl, ?_⟩) (by assumption) ?_
      rotate_left
      · (intro w hSw; (try dsimp only at hSw); go_simp; try (with_reducible rfl))
      try simp only [List.getElem_toArray, List.getElem_cons_zero, List.getElem_cons_succ, Act.put, List.setIfInBounds_toArray, List.set_cons_zero, List.set_cons_succ]
      refine wpAnyH_take (i := 4) (oi := _) (v := ?_) rfl (by kernel_rfl) (by kernel_rfl) (by kernel_rfl) (fun _ _ _ h => h) (Or.inl ⟨by rfl, ?_⟩) (by assumption) ?_
      rotate_left
      · (intro w hSw; (try dsimp only at hSw); go_simp; try (with_reducible rfl))
      try simp only [List.getElem_toArray, List.getElem_cons_zero, List.getElem_cons_succ, Act.put, List.setIfInBounds_toArray, List.set_cons_zero, List.set_cons_succ]
      refine wpAnyH_take (i := 5) (oi := _) (v := ?_) rfl (by kernel_rfl) (by kernel_rfl) (by kernel_rfl) (fun _ _ _ h => h) (Or.inl ⟨by rfl, ?_⟩) (by assumption) ?_
      rotate_left
      · (intro w hSw; (try dsimp only at hSw); go_simp; try (with_reducible rfl))
      try simp only [List.getElem_toArray, List.getElem_cons_zero, List.getElem_cons_succ, Act.put, List.setIfInBounds_toArray, List.set_cons_zero, List.set_cons_succ]
      refine wpAnyH_take (i := 6) (oi := _) (v := ?_) rfl (by kernel_rfl) (by kernel_rfl) (by kernel_rfl) (fun _ _ _ h => h) (Or.inl ⟨by rfl, ?_⟩) (by assumption) ?_
      rotate_left
      · (intro w hSw; (try dsimp only at hSw); go_simp; try (with_reducible rfl))
      try simp only [List.getElem_toArray, List.getElem_cons_zero, List.getElem_cons_succ, Act.put, List.setIfInBounds_toArray, List.set_cons_zero, List.set_cons_succ]
      refine wpAnyH_take (i := 7) (oi := _) (v := ?_) rfl (by kernel_rfl) (by kernel_rfl) (by kernel_rfl) (fun _ _ _ h => h) (Or.inl ⟨by rfl, ?_⟩) (by assumption) ?_
      rotate_left
      · (intro w hSw; (try dsimp only at hSw); go_simp; try (with_reducible rfl))
      try simp only [List.getElem_toArray, List.getElem_cons_zero, List.getElem_cons_succ, Act.put, List.setIfInBounds_toArray, List.set_cons_zero, List.set_cons_succ]
      refine wpAnyH_take (i := 8) (oi := _) (v := ?_) rfl (by kernel_rfl) (by kernel_rfl) (by kernel_rfl) (fun _ _ _ h => h) (Or.inl ⟨by rfl, ?_⟩) (by assumption) ?_
      rotate_left
      · (intro w hSw; (try dsimp only at hSw); go_simp; try (with_reducible rfl))
      try simp only [List.getElem_toArray, List.getElem_cons_zero, List.getElem_cons_succ, Act.put, List.setIfInBounds_toArray, List.set_cons_zero, List.set_cons_succ]
      refine wpAnyH_ready (rs := [9]) (by kernel_rfl) (by simp) ?_
      refine AllReadyH.cons (o := _) rfl (fun K hK => ?_) ?_
      ·
        go_simp
        refine (Less_ok s t wn0).mono ?_
        rintro e5 w5 ⟨rfl, rfl⟩
        dsimp only
        refine outG hK ?_ (Below wn0.heap.size wn0) (fun W => True) ?_ ?_ (fun wn1 hHeld hst hnew => ?_)
        · (exact hHeld)
        · (exact Below.refl _ _)
        · (trivial)
        have hB := hB.trans (hst.mono hB.size)
        clear hst
        clear hK K
        try simp only [List.getElem_toArray, List.getElem_cons_zero, List.getElem_cons_succ, Act.put, List.setIfInBounds_toArray, List.set_cons_zero, List.set_cons_succ]
        refine wpAnyH_done (by kernel_rfl) ?_ _
        try dsimp only [Exit.then]
        clear hHeld
        rw [HLT.out]
        have hBz := HB.out.trans (hB.mono HB.out.size)
        clear hB
        repeat' ((fail_if_success at_builtin); (fail_if_success at_make); (first | go_values | go_skip | go_guarded | go_step | go_upon | go_back))
        go_roundg r
        case measure => have := HGP.out; have := HRP.out; omega
        case rel => exact ⟨r, rfl, rfl, by have := HRP.out; omega, hBz⟩
      exact AllReadyH.nil
      --HELDEND
end Go.Proofs.Ytdpedkgdobfemaa
