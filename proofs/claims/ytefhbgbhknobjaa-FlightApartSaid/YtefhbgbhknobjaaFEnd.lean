/- flight.End. Conditions: the sizes. -/
import Derived.Test.YtefhbgbhknobjaaDelF
namespace Go.Proofs.Ytefhbgbhknobjaa
open Go.RowKit
set_option linter.unusedVariables false
set_option linter.unusedSimpArgs false
set_option maxRecDepth 100000

theorem cellsF_len : ∀ (fs : List FlP) (As : List (Option Addr × Nat)), As.length = fs.length → (cellsF fs As).length = fs.length * 3
  | [], _, _ => by simp [cellsF]
  | f :: fs, a :: As, h => by
    have ih := cellsF_len fs As (by simpa using h)
    simp only [cellsF] at ih ⊢
    rw [List.zip_cons_cons, List.flatMap_cons, List.length_append, ih]
    simp [fcell]; omega
theorem cellsF_erase : ∀ (fs : List FlP) (As : List (Option Addr × Nat)) (i : Nat), As.length = fs.length → i < fs.length →
    (cellsF fs As).take (i * 3) ++ (cellsF fs As).drop ((i + 1) * 3) = cellsF (fs.eraseIdx i) (As.eraseIdx i)
  | f :: fs, a :: As, 0, h, _ => by simp [cellsF, fcell]
  | f :: fs, a :: As, i + 1, h, hi => by
    have ih := cellsF_erase fs As i (by simpa using h) (by simpa using hi)
    simp only [cellsF, List.eraseIdx_cons_succ, List.zip_cons_cons, List.flatMap_cons] at ih ⊢
    generalize (fs.zip As).flatMap (fun x => fcell x.1 x.2.1 x.2.2) = X at *
    have e1 : (fcell f a.1 a.2 ++ X).take ((i + 1) * 3) = fcell f a.1 a.2 ++ X.take (i * 3) := by
      rw [show (i + 1) * 3 = (fcell f a.1 a.2).length + i * 3 by simp [fcell]; omega, List.take_length_add_append]
    have e2 : (fcell f a.1 a.2 ++ X).drop ((i + 1 + 1) * 3) = X.drop ((i + 1) * 3) := by
      rw [show (i + 1 + 1) * 3 = (fcell f a.1 a.2).length + (i + 1) * 3 by simp [fcell]; omega, List.drop_length_add_append]
    rw [e1, e2, List.append_assoc, ih]
theorem getElem?_eraseIdx_mono {α : Type} {l : List α} {i k : Nat} {x : α} (h : (l.eraseIdx i)[k]? = some x) : ∃ k', l[k']? = some x ∧ (k' = if k < i then k else k + 1) := by
  rw [List.getElem?_eraseIdx] at h
  split at h
  · rename_i hk; exact ⟨k, h, by rw [if_pos hk]⟩
  · rename_i hk; exact ⟨k + 1, h, by rw [if_neg hk]⟩
theorem FlsO.del {w : World} {base g cap i : Nat} {fs : List FlP} (h : FlsO w base (.slice (some ⟨g, 0, none⟩) fs.length cap) fs) (hi : i < fs.length) :
    ∃ xs, w.ownsRow base 31 3 (.slice (some ⟨g, 0, none⟩) fs.length cap) fs.length xs ∧ (∀ u ∈ xs, u.oneCell' = true) ∧
      ∀ w', w'.ownsRow base 31 3 (.slice (some ⟨g, 0, none⟩) (fs.length - 1) cap) (fs.length - 1) (xs.take (i * 3) ++ xs.drop ((i + 1) * 3)) → w.grownBy w' (some g) →
        FlsO w' base (.slice (some ⟨g, 0, none⟩) (fs.length - 1) cap) (fs.eraseIdx i) := by
  obtain ⟨As, h1, h2, h3, h4⟩ := h
  refine ⟨_, h2, cellsF_one fs As, fun w' ho hg => ?_⟩
  rw [cellsF_erase fs As i h1 hi] at ho
  have hl : (fs.eraseIdx i).length = fs.length - 1 := List.length_eraseIdx_of_lt hi
  refine ⟨As.eraseIdx i, by rw [List.length_eraseIdx_of_lt (by omega), hl, h1], by rw [hl]; exact ho, fun k p a hp ha => ?_, fun k j a b hkj ha hb => ?_⟩
  · obtain ⟨k1, hp1, e1⟩ := getElem?_eraseIdx_mono hp
    obtain ⟨k2, ha1, e2⟩ := getElem?_eraseIdx_mono ha
    rw [← e1] at e2
    subst e2
    obtain ⟨j1, j2⟩ := h3 k2 p a hp1 ha1
    refine ⟨j1.kept hg ?_, j2⟩
    rw [blk_own]
    cases hb : blk a with
    | none => exact .inl rfl
    | some x => exact .inr (fun e => j2 x hb e.symm)
  · obtain ⟨k1, ha1, e1⟩ := getElem?_eraseIdx_mono ha
    obtain ⟨k2, hb1, e2⟩ := getElem?_eraseIdx_mono hb
    refine h4 k1 k2 a b ?_ ha1 hb1
    split at e1 <;> split at e2 <;> omega
theorem FlsO.blk_ex {w : World} {base : Nat} {v : Value} {fs : List FlP} (h : FlsO w base v fs) (h0 : 0 < fs.length) : ∃ g c, v = .slice (some ⟨g, 0, none⟩) fs.length c ∧ base ≤ g := by
  obtain ⟨As, h1, h2, h3, h4⟩ := h
  obtain ⟨g, cap, cs, rfl, hb, _⟩ := own_ex h2 h0
  exact ⟨g, cap, rfl, hb⟩

set_option maxHeartbeats 4000000 in
/-- no such flight -/
theorem End_none (A : Option Addr) (c : Nat) (fs : List FlP) (k : ByteArray) (w : World) (hG : GoodF fs) (hf : Fls w A fs) (hc : fs.length ≤ c) (hm : c ≤ maxLen) (hfn : fnd 0 fs k.data.toList = none) :
    Calls Try.prog 9 #[.slice A fs.length c, .string k] w fun e w' => e = .returned (.tuple #[.slice none 0 0, .slice none 0 0, .int .i64 5]) ∧ Below w.heap.size w w' := by
  have h66 : fs.length ≤ 6 := hG.len
  have HCK := Lib.hid (fun w' hf' => FCheck_ok A c fs w' hG hf' hc hm)
  have HFI := Lib.hid (fun w' hf' => Find_ok A c fs k w' (by omega) hf')
  have HCP := Lib.hid (fun w' hf' => FCopy_ok A c fs w' (by omega) (fun p hp => by
    obtain ⟨j, hj, rfl⟩ := List.mem_iff_getElem.1 hp
    have := hG.few j hj; omega) hf' hc)
  have HF := Lib.hid hfn
  have hfew := fun (i : Nat) (h : i < fs.length) => hG.few i h
  have HFE := Lib.hid hfew
  clear hG hfn hfew
  go_enter Try.func9, Try.ntmps9
  repeat' ((fail_if_success at_builtin); (fail_if_success at_make); (first | go_values | go_skip | go_guarded | go_step | go_upon | go_back))
  refine ((HCK.out w hf)).mono ?_; rintro e_ w1 ⟨rfl, hb1⟩; dsimp only
  have hf1 := hf.below hb1
  have hfi := HFI.out w1 hf1
  rw [HF.out] at hfi
  dsimp only at hfi
  have HFF := Lib.hid hfi
  clear hfi hf
  repeat' ((fail_if_success at_builtin); (fail_if_success at_make); (first | go_values | go_skip | go_guarded | go_step | go_upon | go_back))
  refine ((HFF.out)).mono ?_; rintro e_ w4 ⟨rfl, hb4⟩; dsimp only
  have hb14 := hb1.trans (hb4.mono hb1.size)
  repeat' ((fail_if_success at_builtin); (fail_if_success at_make); (first | go_values | go_skip | go_guarded | go_step | go_upon | go_back))
  go_ret3
  exact ⟨rfl, hb14⟩

set_option maxHeartbeats 8000000 in
/-- one ends -/
theorem End_ok (A : Option Addr) (c : Nat) (fs : List FlP) (k : ByteArray) (i : Nat) (w : World) (hG : GoodF fs) (hf : Fls w A fs) (hc : fs.length ≤ c) (hm : c ≤ maxLen) (hfn : fnd 0 fs k.data.toList = some i) (hi : i < fs.length) :
    Calls Try.prog 9 #[.slice A fs.length c, .string k] w fun e w' => ∃ v u, e = .returned (.tuple #[v, u, .int .i64 0]) ∧ FlsO w' w.heap.size v (fs.eraseIdx i) ∧
      w'.ownsRow w.heap.size 3 1 u (fs[i].wait.length + 1) (ins (fs[i].lead :: fs[i].wait)) ∧ Below w.heap.size w w' := by
  have h66 : fs.length ≤ 6 := hG.len
  have HCK := Lib.hid (fun w' hf' => FCheck_ok A c fs w' hG hf' hc hm)
  have HFI := Lib.hid (fun w' hf' => Find_ok A c fs k w' (by omega) hf')
  have HCP := Lib.hid (fun w' hf' => FCopy_ok A c fs w' (by omega) (fun p hp => by
    obtain ⟨j, hj, rfl⟩ := List.mem_iff_getElem.1 hp
    have := hG.few j hj; omega) hf' hc)
  have HF := Lib.hid hfn
  have hfew := fun (i : Nat) (h : i < fs.length) => hG.few i h
  have HFE := Lib.hid hfew
  clear hG hfn hfew
  go_enter Try.func9, Try.ntmps9
  repeat' ((fail_if_success at_builtin); (fail_if_success at_make); (first | go_values | go_skip | go_guarded | go_step | go_upon | go_back))
  refine ((HCK.out w hf)).mono ?_; rintro e_ w1 ⟨rfl, hb1⟩; dsimp only
  have hf1 := hf.below hb1
  have hfi := HFI.out w1 hf1
  rw [HF.out] at hfi
  dsimp only at hfi
  have HFF := Lib.hid hfi
  clear hfi hf
  repeat' ((fail_if_success at_builtin); (fail_if_success at_make); (first | go_values | go_skip | go_guarded | go_step | go_upon | go_back))
  refine ((HFF.out)).mono ?_; rintro e_ w4 ⟨rfl, hb4⟩; dsimp only
  have hb14 := hb1.trans (hb4.mono hb1.size)
  have hf4 := hf1.below hb4
  have hwl := HFE.out i hi
  obtain ⟨b, off, B, cb, rfl, hbb, c0, c1, c2, hrw, hwc, hcbm⟩ := hf4.at_ i hi
  obtain ⟨s, hs⟩ : ∃ s : ByteArray, s = ⟨fs[i].key.toArray⟩ := ⟨_, rfl⟩
  rw [← hs] at c0
  obtain ⟨ld, hld⟩ : ∃ x, x = fs[i].lead := ⟨_, rfl⟩
  obtain ⟨wt, hwt⟩ : ∃ x, x = fs[i].wait := ⟨_, rfl⟩
  rw [← hld] at c1
  rw [← hwt] at c2 hrw hwc hwl
  have HRW := Lib.hid hrw
  have HFL := Lib.hid hf4
  have hLD := hld.symm
  have hWT := hwt.symm
  have HLD := Lib.hid hLD
  have HWT := Lib.hid hWT
  have hi0 : (0 : Int) ≤ (i : Int) := by omega
  have hi1 : (i : Int) < (fs.length : Int) := by omega
  have hwi : IntKind.i64.wrap ((i : Int) + 1) = (i : Int) + 1 := IntWalk.i64_in _ (by omega)
  have HS := Lib.hid (show ∀ W : World, Below w4.heap.size w4 W → W.cell? ⟨b, off + i * 3, none⟩ = some (.string s) ∧ W.cell? ⟨b, off + i * 3 + 1, none⟩ = some (.int .i64 ld) ∧ W.cell? ⟨b, off + i * 3 + 2, none⟩ = some (.slice B wt.length cb) from
    fun W hW => ⟨(hW.cell (p := ⟨b, off + i * 3, none⟩) hbb).trans c0, (hW.cell (p := ⟨b, off + i * 3 + 1, none⟩) hbb).trans c1, (hW.cell (p := ⟨b, off + i * 3 + 2, none⟩) hbb).trans c2⟩)
  clear hs hld hwt hLD hWT c0 c1 c2 hrw hf1 hf4
  repeat' ((fail_if_success at_builtin); (fail_if_success at_make); (first | go_values | go_skip | go_guarded | go_step | go_upon | go_back))
  --HELD
  refine wp_region_held_drew (S := (fun w' => w'.cell? ⟨b, off + i * 3, none⟩ = some (.string s) ∧ w'.cell? ⟨b, off + i * 3 + 1, none⟩ = some (.int .i64 ld) ∧ w'.cell? ⟨b, off + i * 3 + 2, none⟩ = some (.slice B wt.length cb))) (by kernel_rfl) ?_ (fun hHeld => ?_)
  · exact HS.out _ (Below.refl _ w4).drew
  have hB := (Below.refl w4.heap.size w4).drew
  generalize w4.drew = wn0 at *
  refine wpAnyH_take (i := 0) (oi := _) (v := ?_) rfl (by kernel_rfl) (by kernel_rfl) (by kernel_rfl) (fun _ _ _ h => h) (Or.inl ⟨by rfl, ?_⟩) (by assumption) ?_
  rotate_left
  · (intro w hSw; (try dsimp only at hSw); go_simp; try (with_reducible rfl))
  try simp only [List.getElem_toArray, List.getElem_cons_zero, List.getElem_cons_succ, Act.put, List.setIfInBounds_toArray, List.set_cons_zero, List.set_cons_succ]
  refine wpAnyH_take (i := 2) (oi := _) (v := ?_) rfl (by kernel_rfl) (by kernel_rfl) (by kernel_rfl) (fun _ _ _ h => h) (Or.inl ⟨by rfl, ?_⟩) (by assumption) ?_
  rotate_left
  · (intro w hSw; (try dsimp only at hSw); go_simp; try (with_reducible rfl))
  try simp only [List.getElem_toArray, List.getElem_cons_zero, List.getElem_cons_succ, Act.put, List.setIfInBounds_toArray, List.set_cons_zero, List.set_cons_succ]
  refine wpAnyH_take (i := 3) (oi := _) (v := ?_) rfl (by kernel_rfl) (by kernel_rfl) (by kernel_rfl) (fun _ _ _ h => h) (Or.inl ⟨by rfl, ?_⟩) (by assumption) ?_
  rotate_left
  · (intro w hSw; (try dsimp only at hSw); go_simp; try (with_reducible rfl))
  try simp only [List.getElem_toArray, List.getElem_cons_zero, List.getElem_cons_succ, Act.put, List.setIfInBounds_toArray, List.set_cons_zero, List.set_cons_succ]
  refine wpAnyH_take (i := 4) (oi := _) (v := ?_) rfl (by kernel_rfl) (by kernel_rfl) (by kernel_rfl) (fun _ _ _ h => h) (Or.inl ⟨by rfl, ?_⟩) (by assumption) ?_
  rotate_left
  · (intro w hSw; (try dsimp only at hSw); go_simp; try (with_reducible rfl))
  try simp only [List.getElem_toArray, List.getElem_cons_zero, List.getElem_cons_succ, Act.put, List.setIfInBounds_toArray, List.set_cons_zero, List.set_cons_succ]
  refine wpAnyH_take (i := 6) (oi := _) (v := ?_) rfl (by kernel_rfl) (by kernel_rfl) (by kernel_rfl) (fun _ _ _ h => h) (Or.inl ⟨by rfl, ?_⟩) (by assumption) ?_
  rotate_left
  · (intro w hSw; (try dsimp only at hSw); go_simp; try (with_reducible rfl))
  try simp only [List.getElem_toArray, List.getElem_cons_zero, List.getElem_cons_succ, Act.put, List.setIfInBounds_toArray, List.set_cons_zero, List.set_cons_succ]
  refine wpAnyH_take (i := 7) (oi := _) (v := ?_) rfl (by kernel_rfl) (by kernel_rfl) (by kernel_rfl) (fun _ _ _ h => h) (Or.inl ⟨by rfl, ?_⟩) (by assumption) ?_
  rotate_left
  · (intro w hSw; (try dsimp only at hSw); go_simp; try (with_reducible rfl))
  try simp only [List.getElem_toArray, List.getElem_cons_zero, List.getElem_cons_succ, Act.put, List.setIfInBounds_toArray, List.set_cons_zero, List.set_cons_succ]
  refine wpAnyH_take (i := 8) (oi := _) (v := ?_) rfl (by kernel_rfl) (by kernel_rfl) (by kernel_rfl) (fun _ _ _ h => h) (Or.inl ⟨by rfl, ?_⟩) (by assumption) ?_
  rotate_left
  · (intro w hSw; (try dsimp only at hSw); go_simp; try (with_reducible rfl))
  try simp only [List.getElem_toArray, List.getElem_cons_zero, List.getElem_cons_succ, Act.put, List.setIfInBounds_toArray, List.set_cons_zero, List.set_cons_succ]
  refine wpAnyH_take (i := 9) (oi := _) (v := ?_) rfl (by kernel_rfl) (by kernel_rfl) (by kernel_rfl) (fun _ _ _ h => h) (Or.inl ⟨by rfl, ?_⟩) (by assumption) ?_
  rotate_left
  · (intro w hSw; (try dsimp only at hSw); go_simp; try (with_reducible rfl))
  try simp only [List.getElem_toArray, List.getElem_cons_zero, List.getElem_cons_succ, Act.put, List.setIfInBounds_toArray, List.set_cons_zero, List.set_cons_succ]
  refine wpAnyH_ready (rs := [1]) (by kernel_rfl) (by simp) ?_
  refine AllReadyH.cons (o := _) rfl (fun K hK => ?_) ?_
  ·
    have hcp := HCP.out wn0 (HFL.out.below hB)
    go_simp
    refine (hcp).mono ?_
    rintro e5 w5 ⟨v5, rfl, ho5, hb5⟩
    dsimp only
    obtain ⟨gf, cf, rfl, hgf⟩ := ho5.blk_ex (by omega)
    refine outG hK ?_ (Below w4.heap.size w4) (fun W => FlsO W w4.heap.size (.slice (some ⟨gf, 0, none⟩) fs.length cf) fs ∧ w4.heap.size ≤ gf) ?_ ?_ (fun wn1 hHeld hst hnew => ?_)
    · exact HS.out _ (hB.trans (hb5.mono hB.size))
    · exact hB.trans (hb5.mono hB.size)
    · exact ⟨ho5.lower hB.size, Nat.le_trans hB.size hgf⟩
    clear hB
    have hB := hst
    obtain ⟨hnew, hgw⟩ := hnew
    clear hst
    clear hK K
    try simp only [List.getElem_toArray, List.getElem_cons_zero, List.getElem_cons_succ, Act.put, List.setIfInBounds_toArray, List.set_cons_zero, List.set_cons_succ]
    refine wpAnyH_ready (rs := [5]) (by kernel_rfl) (by simp) ?_
    refine AllReadyH.cons (o := _) rfl (fun K hK => ?_) ?_
    ·
      obtain ⟨xs, x1, x2, x3⟩ := hnew.del (i := i) hi
      go_simp
      refine (DelF_ok _ i fs.length _ _ xs wn1 x1 hi x2).mono ?_
      rintro e5 w5 ⟨rfl, y1, y2⟩
      dsimp only
      refine outG hK ?_ (Below w4.heap.size w4) (fun W => FlsO W w4.heap.size (.slice (some ⟨gf, 0, none⟩) (fs.length - 1) cf) (fs.eraseIdx i)) ?_ ?_ (fun wn2 hHeld hst hnew => ?_)
      · exact HS.out _ (hB.grown y2 hB.size (fun g h => by cases h; exact hgw))
      · exact hB.grown y2 hB.size (fun g h => by cases h; exact hgw)
      · exact x3 _ y1 y2
      clear hB
      have hB := hst
      clear hst
      clear hK K
      try simp only [List.getElem_toArray, List.getElem_cons_zero, List.getElem_cons_succ, Act.put, List.setIfInBounds_toArray, List.set_cons_zero, List.set_cons_succ]
      refine wpAnyH_ready (rs := [10]) (by kernel_rfl) (by simp) ?_
      refine AllReadyH.cons (o := _) rfl (fun K hK => ?_) ?_
      ·
        have hcr := crew_ok s ld B cb wt wn2 (by omega) (HRW.out.below hB)
        go_simp
        refine (hcr).mono ?_
        rintro e5 w5 ⟨v5, rfl, ho5, hb5⟩
        dsimp only
        refine outG hK ?_ (Below w4.heap.size w4) (fun W => FlsO W w4.heap.size (.slice (some ⟨gf, 0, none⟩) (fs.length - 1) cf) (fs.eraseIdx i) ∧ W.ownsRow w4.heap.size 3 1 v5 (wt.length + 1) (ins (ld :: wt))) ?_ ?_ (fun wn3 hHeld hst hnew2 => ?_)
        · exact HS.out _ (hB.trans (hb5.mono hB.size))
        · exact hB.trans (hb5.mono hB.size)
        · exact ⟨hnew.below hb5, own_lower ho5 hB.size⟩
        clear hB
        have hB := hst
        clear hst hnew
        obtain ⟨hnew, hown⟩ := hnew2
        clear hK K
        try simp only [List.getElem_toArray, List.getElem_cons_zero, List.getElem_cons_succ, Act.put, List.setIfInBounds_toArray, List.set_cons_zero, List.set_cons_succ]
        refine wpAnyH_take (i := 11) (oi := _) (v := ?_) rfl (by kernel_rfl) (by kernel_rfl) (by kernel_rfl) (fun _ _ _ h => h) (Or.inl ⟨by rfl, ?_⟩) (by assumption) ?_
        rotate_left
        · (intro w hSw; (try dsimp only at hSw); go_simp; try (with_reducible rfl))
        try simp only [List.getElem_toArray, List.getElem_cons_zero, List.getElem_cons_succ, Act.put, List.setIfInBounds_toArray, List.set_cons_zero, List.set_cons_succ]
        refine wpAnyH_take (i := 12) (oi := _) (v := ?_) rfl (by kernel_rfl) (by kernel_rfl) (by kernel_rfl) (fun _ _ _ h => h) (Or.inl ⟨by rfl, ?_⟩) (by assumption) ?_
        rotate_left
        · (intro w hSw; (try dsimp only at hSw); go_simp; try (with_reducible rfl))
        try simp only [List.getElem_toArray, List.getElem_cons_zero, List.getElem_cons_succ, Act.put, List.setIfInBounds_toArray, List.set_cons_zero, List.set_cons_succ]
        refine wpAnyH_take (i := 13) (oi := _) (v := ?_) rfl (by kernel_rfl) (by kernel_rfl) (by kernel_rfl) (fun _ _ _ h => h) (Or.inl ⟨by rfl, ?_⟩) (by assumption) ?_
        rotate_left
        · (intro w hSw; (try dsimp only at hSw); go_simp; try (with_reducible rfl))
        try simp only [List.getElem_toArray, List.getElem_cons_zero, List.getElem_cons_succ, Act.put, List.setIfInBounds_toArray, List.set_cons_zero, List.set_cons_succ]
        refine wpAnyH_done (by kernel_rfl) ?_ _
        clear hHeld
        dsimp only [Exit.then]
        repeat' ((fail_if_success at_builtin); (fail_if_success at_make); (first | go_values | go_skip | go_guarded | go_step | go_upon | go_back))
        go_ret3
        rw [HLD.out, HWT.out]
        exact ⟨_, _, rfl, hnew.lower hb14.size, own_lower hown hb14.size, hb14.trans (hB.mono hb14.size)⟩
      exact AllReadyH.nil
    exact AllReadyH.nil
  exact AllReadyH.nil
  --HELDEND
end Go.Proofs.Ytefhbgbhknobjaa
