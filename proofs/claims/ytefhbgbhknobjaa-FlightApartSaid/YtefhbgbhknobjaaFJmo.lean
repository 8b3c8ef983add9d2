/- flight.Join where one waits more. Conditions: the sizes. -/
import Derived.Test.YtefhbgbhknobjaaFJin
namespace Go.Proofs.Ytefhbgbhknobjaa
open Go.RowKit
set_option linter.unusedVariables false
set_option linter.unusedSimpArgs false
set_option maxRecDepth 100000

theorem own_put {w : World} {base n g cap k size : Nat} {e : TypeId} {xs : List Value} {u : Value} (h : w.ownsRow base e size (.slice (some ⟨g, 0, none⟩) n cap) n xs) (hk : k < n * size) : (w.setCell ⟨g, k, none⟩ u).ownsRow base e size (.slice (some ⟨g, 0, none⟩) n cap) n (xs.set k u) := by
  refine ⟨by rw [List.length_set]; exact h.1, ?_⟩
  rcases h.2 with ⟨h1, _⟩ | ⟨g', cap', cur, h1, hb, hg, hn, hm, hs, ht⟩
  · cases h1
  · injection h1 with e1 e2 e3
    injection e1 with e1
    injection e1 with e1
    subst e1 e3
    have hA : Arr w g e cur.toList := by simpa [Arr] using hg
    have hA2 := hA.set (k := k) (by rw [Array.length_toList, hs]; exact Nat.lt_of_lt_of_le hk (Nat.mul_le_mul_right _ hn)) u
    refine .inr ⟨g, cap, (cur.toList.set k u).toArray, rfl, hb, hA2, hn, hm, by rw [List.size_toArray, List.length_set, Array.length_toList, hs], ?_⟩
    rw [← ht, List.take_set]
theorem cellsF_set : ∀ (fs : List FlP) (As : List (Option Addr × Nat)) (i : Nat) (p p' : FlP) (a : Option Addr × Nat), As.length = fs.length → fs[i]? = some p → p'.key = p.key → p'.lead = p.lead →
    (cellsF fs As).set (i * 3 + 2) (.slice a.1 p'.wait.length a.2) = cellsF (fs.set i p') (As.set i a)
  | f :: fs, b :: As, 0, p, p', a, _, hp, hk, hl => by
    simp only [List.getElem?_cons_zero, Option.some.injEq] at hp
    subst hp
    simp only [cellsF, List.zip_cons_cons, List.flatMap_cons, List.set_cons_zero, fcell, hk, hl]
    rfl
  | f :: fs, b :: As, i + 1, p, p', a, h, hp, hk, hl => by
    have ih := cellsF_set fs As i p p' a (by simpa using h) (by simpa using hp) hk hl
    simp only [cellsF] at ih ⊢
    rw [List.set_cons_succ, List.set_cons_succ, List.zip_cons_cons, List.zip_cons_cons, List.flatMap_cons, List.flatMap_cons, ← ih, List.set_append_right _ _ (by simp [fcell]; omega)]
    congr 2
    simp [fcell]; omega

set_option maxHeartbeats 8000000 in
/-- one waits more -/
theorem Join_more (A : Option Addr) (c : Nat) (fs : List FlP) (k : ByteArray) (n : Int) (i : Nat) (w : World) (hG : GoodF fs) (hf : Fls w A fs) (hc : fs.length ≤ c) (hm : c ≤ maxLen) (hk : hexC k.data.toList = 0) (hks : k.size ≤ 140737488351232) (hn1 : 1 ≤ n) (hn2 : n ≤ 1000) (hfn : fnd 0 fs k.data.toList = some i) (hi : i < fs.length) (hin : (fs[i].lead :: fs[i].wait).contains n = false) (h5 : fs[i].wait.length < 5) :
    Calls Try.prog 11 #[.slice A fs.length c, .string k, .int .i64 n] w fun e w' => ∃ v, e = .returned (.tuple #[v, .bool false, .int .i64 0]) ∧ FlsO w' w.heap.size v (fs.set i ⟨fs[i].key, fs[i].lead, fs[i].wait ++ [n]⟩) ∧ Below w.heap.size w w' := by
  have h66 : fs.length ≤ 6 := hG.len
  have hfew := hG.few i hi
  have H5 := Lib.hid h5
  clear h5
  have HIN := Lib.hid hin
  have FF := Lib.hid hf
  clear hin
  have HCK := Lib.hid (fun w' hf' => FCheck_ok A c fs w' hG hf' hc hm)
  have HHX := Lib.hid (fun w' => hCheck_at (s := k) 0 rfl hk w' hks)
  have HWH := Lib.hid (fun w' => who_ok n w')
  have hwd : decide (1 ≤ n ∧ n ≤ 1000) = true := by simp [hn1, hn2]
  have HWD := Lib.hid hwd
  have HCP := Lib.hid (fun w' hf' => FCopy_ok A c fs w' (by omega) (fun p hp => by
    obtain ⟨j, hj, rfl⟩ := List.mem_iff_getElem.1 hp
    have := hG.few j hj; omega) hf' hc)
  have HFI := Lib.hid (fun w' hf' => Find_ok A c fs k w' (by omega) hf')
  have HF := Lib.hid hfn
  clear hG hk hwd hfn
  go_enter Try.func11, Try.ntmps11
  repeat' ((fail_if_success at_builtin); (fail_if_success at_make); (first | go_values | go_skip | go_guarded | go_step | go_upon | go_back))
  refine ((HCK.out w hf)).mono ?_; rintro e_ w1 ⟨rfl, hb1⟩; dsimp only
  have hf1 := hf.below hb1
  repeat' ((fail_if_success at_builtin); (fail_if_success at_make); (first | go_values | go_skip | go_guarded | go_step | go_upon | go_back))
  refine ((HHX.out w1)).mono ?_; rintro e_ w2 ⟨rfl, hb2⟩; dsimp only
  have hb12 := hb1.trans (hb2.mono hb1.size)
  have hf2 := hf1.below hb2
  repeat' ((fail_if_success at_builtin); (fail_if_success at_make); (first | go_values | go_skip | go_guarded | go_step | go_upon | go_back))
  refine ((HWH.out w2)).mono ?_; rintro e_ _ ⟨rfl, rfl⟩; dsimp only
  rw [HWD.out]
  repeat' ((fail_if_success at_builtin); (fail_if_success at_make); (first | go_values | go_skip | go_guarded | go_step | go_upon | go_back))
  refine ((HCP.out w2 hf2)).mono ?_; rintro e_ w3 ⟨v3, rfl, ho3, hb3⟩; dsimp only
  have hb13 := hb12.trans (hb3.mono hb12.size)
  have hf3 := hf2.below hb3
  have hfi := HFI.out w3 hf3
  rw [HF.out] at hfi
  dsimp only at hfi
  have HFF := Lib.hid hfi
  clear hfi hf hf1 hf2
  repeat' ((fail_if_success at_builtin); (fail_if_success at_make); (first | go_values | go_skip | go_guarded | go_step | go_upon | go_back))
  refine ((HFF.out)).mono ?_; rintro e_ w4 ⟨rfl, hb4⟩; dsimp only
  have hb14 := hb13.trans (hb4.mono hb13.size)
  obtain ⟨b, off, B, cb, rfl, hbb, c0, c1, c2, hrw, hwc, hcbm⟩ := (FF.out.below hb14).at_ i hi
  have i1 : (0 : Int) ≤ (i : Int) := by omega
  have i2 : (i : Int) < (fs.length : Int) := by omega
  obtain ⟨s, hs⟩ : ∃ s : ByteArray, s = ⟨fs[i].key.toArray⟩ := ⟨_, rfl⟩
  rw [← hs] at c0
  have ho4 := ho3.below hb4
  obtain ⟨p, hp⟩ : ∃ p, p = fs[i] := ⟨_, rfl⟩
  rw [← hp] at c1 c2 hrw hwc hfew HIN H5
  have HP := Lib.hid (show fs[i]? = some p from by rw [List.getElem?_eq_getElem hi, hp])
  have hgoal : fs.set i ⟨fs[i].key, fs[i].lead, fs[i].wait ++ [n]⟩ = fs.set i ⟨p.key, p.lead, p.wait ++ [n]⟩ := by rw [hp]
  have HGO := Lib.hid hgoal
  obtain ⟨ld, hld⟩ : ∃ x, x = p.lead := ⟨_, rfl⟩
  rw [← hld] at c1
  have HI2 := HIN.out
  rw [← hld] at HI2
  have HI3 := Lib.hid HI2
  have HLD := Lib.hid hld
  have H55 := H5.out
  have e5 : ((p.wait.length : Int) == 5) = false := by rw [beq_eq_false_iff_ne]; omega
  have e5' : (p.wait.length == 5) = false := by rw [beq_eq_false_iff_ne]; omega
  clear HI2 HIN hs hp hgoal hld H55
  repeat' ((fail_if_success at_builtin); (fail_if_success at_make); (first | go_values | go_skip | go_guarded | go_step | go_upon | go_back))
  refine ((crew_ok s ld B cb p.wait w4 (by omega) hrw)).mono ?_; rintro e_ w5 ⟨v5, rfl, ho5, hb5⟩; dsimp only
  have hb15 := hb14.trans (hb5.mono hb14.size)
  obtain ⟨A5, c5, rfl, hc5, hr5⟩ := Rd.of_own' ho5
  have hcon := Contains_ok A5 c5 (ld :: p.wait) n w5 (by simp only [List.length_cons]; omega) hr5
  rw [HI3.out] at hcon
  simp only [List.length_cons] at hcon
  have HCO := Lib.hid hcon
  have d2 := (hb5.cell (p := ⟨b, off + i * 3 + 2, none⟩) hbb).trans c2
  have ho55 := ho4.below hb5
  obtain ⟨As, j1, j2, j3, j4⟩ := ho55
  obtain ⟨g3, cap3, cs3, rfl, _, hA3, hcap3, hcm3, hcl3, hct3⟩ := own_ex j2 (by omega)
  have hia : i < As.length := by omega
  have ha : As[i]? = some As[i] := List.getElem?_eq_getElem hia
  obtain ⟨k1, k2⟩ := j3 i p As[i] HP.out ha
  have hcell := (Rd.of_own j2).2 (by omega)
  obtain ⟨_, _, e3, _, hcell⟩ := hcell
  cases e3
  have x2 := hcell (i * 3 + 2) _ ((fcells_at fs As i 2 p As[i] HP.out ha (by omega)).trans rfl)
  rw [Nat.zero_add] at x2
  obtain ⟨a, haE⟩ : ∃ a, a = As[i] := ⟨_, rfl⟩
  rw [← haE] at k1 k2 x2 ha
  obtain ⟨Ai, ci⟩ := a
  dsimp only at k1 k2 x2
  have hcap63 : (cap3 : Int) ≤ 9223372036854775807 := by unfold maxLen at hcm3; omega
  clear hcon ho5 hr5 c0 c1 c2 ho4 ho3 haE hcell
  repeat' ((fail_if_success at_builtin); (fail_if_success at_make); (first | go_values | go_skip | go_guarded | go_step | go_upon | go_back))
  refine ((HCO.out)).mono ?_; rintro e_ _ ⟨rfl, rfl⟩; dsimp only
  repeat' ((fail_if_success at_builtin); (fail_if_success at_make); (first | go_values | go_skip | go_guarded | go_step | go_upon | go_back))
  refine wpList_apN rfl (.tmp 75) (.tmp 77) rfl elInt (by rfl) k1 (us := [.int .i64 n]) (m := 1) (by rfl) rfl (by intro u hu; simp at hu; subst hu; rfl) (by omega) (Nat.le_trans hb3.size (Nat.le_trans hb4.size hb5.size)) ?_
  intro v7 w7 ho7 hg7 hv7
  rw [blk_own (Ai, ci)] at hg7 hv7
  rw [show ins p.wait ++ [.int .i64 n] = ins (p.wait ++ [n]) by simp [ins]] at ho7
  have hw7 : (p.wait ++ [n]).length = p.wait.length + 1 := by simp
  rw [← hw7] at ho7
  generalize hwn : p.wait ++ [n] = wn at *
  have hwl : wn.length ≤ 1000 := by have := H5.out; omega
  clear hwn hw7
  have hsz27 : w2.heap.size ≤ w7.heap.size := Nat.le_trans hb3.size (Nat.le_trans hb4.size (Nat.le_trans hb5.size hg7.size))
  have hb17 : Below w.heap.size w w7 := hb15.grown hg7 hb15.size (fun g h => Nat.le_trans hb12.size (k1.lt g (by rw [blk_own (Ai, ci)]; exact h.symm ▸ rfl)).1)
  obtain ⟨A7, c7, rfl, hc7, hr7⟩ := Rd.of_own' ho7
  have HC7 := Lib.hid (CloneI_ok A7 c7 (wn) w7 (by omega) hr7)
  have m2 := j2.kept hg7 (.inr (fun h => k2 g3 h.symm rfl))
  have m3 : ∀ (k : Nat) (q : FlP) (b : Option Addr × Nat), k ≠ i → fs[k]? = some q → As[k]? = some b → w7.ownsRow w2.heap.size 3 1 (.slice b.1 q.wait.length b.2) q.wait.length (ins q.wait) := fun k q b hki hq hb => by
    refine (j3 k q b hq hb).1.kept hg7 ?_
    rw [blk_own]
    cases hbk : blk b with
    | none => exact .inl rfl
    | some g =>
      refine .inr (fun h => ?_)
      rcases Nat.lt_or_gt_of_ne hki with h1 | h1
      · exact j4 k i b (Ai, ci) h1 hb ha g hbk h.symm
      · exact j4 i k (Ai, ci) b h1 ha hb g h.symm hbk
  have OLD := Lib.hid (show ∀ (k : Nat) (b : Option Addr × Nat), As[k]? = some b → ∀ g, blk b = some g → g < w7.heap.size from fun k b hb g hg => by
    have hkl := (List.getElem?_eq_some_iff.1 hb).1
    have hq : fs[k]? = some (fs[k]'(by omega)) := List.getElem?_eq_getElem _
    exact Nat.lt_of_lt_of_le ((j3 k _ b hq hb).1.lt g (by rw [blk_own]; exact hg)).2 hg7.size)
  have J3 := Lib.hid j3
  have J4 := Lib.hid j4
  have J1 := Lib.hid j1
  clear ho7 hg7 hv7 k1 k2 x2 j2 hr7 j3 j4 d2 hA3 hct3 hcl3
  repeat' ((fail_if_success at_builtin); (fail_if_success at_make); (first | go_values | go_skip | go_guarded | go_step | go_upon | go_back))
  refine ((HC7.out)).mono ?_; rintro e_ w8 ⟨v8, rfl, ho8, hb8⟩; dsimp only
  have hb18 := hb17.trans (hb8.mono hb17.size)
  have m28 := own_below m2 hb8
  have hlt3 := (m2.lt g3 rfl)
  obtain ⟨_, _, cs9, e9, _, hA9, _, _, hcl9, hct9⟩ := own_ex m28 (by omega)
  injection e9 with e91 _ e93
  injection e91 with e91
  injection e91 with e91
  subst e91 e93
  obtain ⟨y, hy⟩ : ∃ y, cs9[i * 3 + 2]? = some y := ⟨_, List.getElem?_eq_getElem (by omega)⟩
  have y2 := hA9.cell hy
  have z2 := hA9.frozen (i * 3 + 2)
  obtain ⟨A8, c8, rfl, hc8, _⟩ := Rd.of_own' ho8
  have n9 := own_put (u := .slice A8 wn.length c8) m28 (k := i * 3 + 2) (by omega)
  have hcf := cellsF_set fs As i p ⟨p.key, p.lead, wn⟩ (A8, c8) J1.out HP.out rfl rfl
  dsimp only at hcf
  rw [hcf] at n9
  have hbz : Below w.heap.size w (w8.setCell ⟨g3, i * 3 + 2, none⟩ (.slice A8 wn.length c8)) := Below.setCell hb18 (by show w.heap.size ≤ g3; exact Nat.le_trans hb12.size hlt3.1) _
  have hne8 : (Value.slice A8 wn.length c8).ownBlock ≠ some g3 := fun h => by have := (ho8.lt g3 h).1; omega
  have hfin : FlsO (w8.setCell ⟨g3, i * 3 + 2, none⟩ (.slice A8 wn.length c8)) w2.heap.size (.slice (some ⟨g3, 0, none⟩) fs.length cap3) (fs.set i ⟨p.key, p.lead, wn⟩) := by
    refine ⟨As.set i (A8, c8), by rw [List.length_set, List.length_set, J1.out], by rw [List.length_set]; exact n9, fun k q b hq hb => ?_, fun k j a' b hkj ha' hb g hag => ?_⟩
    · by_cases hki : k = i
      · subst hki
        rw [List.getElem?_set_self hi] at hq
        rw [List.getElem?_set_self hia] at hb
        cases hq; cases hb
        exact ⟨own_lower (own_other ho8 hne8) hsz27, fun g h h' => hne8 (by rw [blk_own (A8, c8), h]; exact (show some g3 = some g from h').symm)⟩
      · rw [List.getElem?_set_ne (Ne.symm hki)] at hq hb
        have h1 := own_below (m3 k q b hki hq hb) hb8
        have h2 := (J3.out k q b hq hb).2
        refine ⟨own_other h1 (fun h => h2 g3 (by rw [← blk_own b q.wait.length]; exact h) rfl), h2⟩
    · by_cases hki : k = i
      · subst hki
        rw [List.getElem?_set_self hia] at ha'
        cases ha'
        rw [List.getElem?_set_ne (by omega)] at hb
        intro hbg
        have := (ho8.lt g (by rw [blk_own (A8, c8)]; exact hag)).1
        have := OLD.out j b hb g hbg
        omega
      · rw [List.getElem?_set_ne (Ne.symm hki)] at ha'
        by_cases hji : j = i
        · subst hji
          rw [List.getElem?_set_self hia] at hb
          cases hb
          intro hbg
          have := (ho8.lt g (by rw [blk_own (A8, c8)]; exact hbg)).1
          have := OLD.out k a' ha' g hag
          omega
        · rw [List.getElem?_set_ne (Ne.symm hji)] at hb
          exact J4.out k j a' b hkj ha' hb g hag
  have hfin' := hfin.lower hb12.size
  have HFN := Lib.hid hfin'
  clear hfin hfin' n9 hcf m2 m3 m28 ho8
  repeat' ((fail_if_success at_builtin); (fail_if_success at_make); (first | go_values | go_skip | go_guarded | go_step | go_upon | go_back))
  go_ret3
  rw [HGO.out]
  exact ⟨_, rfl, HFN.out, hbz⟩
end Go.Proofs.Ytefhbgbhknobjaa
