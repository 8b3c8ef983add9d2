/- kept. No condition. -/
import Derived.Test.YtjldpfijekpddaaGreatSml
namespace Go.Proofs.YtjldpfijekpddaaGreat
open Go.RowKit
set_option linter.unusedVariables false
set_option linter.unusedSimpArgs false
set_option maxRecDepth 100000

theorem idx3n (k : Int) (h : k = 0 ∨ k = 1) (w : World) : (Instr.index 120 (.agg #[.int .i64 0, .int .i64 0, .int .i64 4]) (.int .i64 k)).run Tryz.prog w = .ok (.int .i64 0) w := by
  rcases h with rfl | rfl <;> kernel_rfl
theorem idx3n2 (w : World) : (Instr.index 120 (.agg #[.int .i64 0, .int .i64 0, .int .i64 4]) (.int .i64 2)).run Tryz.prog w = .ok (.int .i64 4) w := by kernel_rfl
theorem FitsN_ok (w : World) : Calls Tryz.prog 69 #[.slice none 0 0, .int .i64 (-1), .int .i64 0] w fun e w' => e = .returned (.int .i64 4) ∧ Below w.heap.size w w' := by
  have HL := Lib.hid (show ∀ W, Calls Tryz.prog 102 #[.slice none 0 0, .int .i64 (-1), .int .i64 0] W fun e w' => e = .returned (.tuple #[.int .i64 0, .int .i64 4]) ∧ W = w' from fun W => by
    go_enter Tryz.func102, Tryz.ntmps102
    repeat' ((fail_if_success at_builtin); (fail_if_success at_make); (first | go_values | go_skip | go_guarded | go_step | go_upon | go_back))
    go_ret2
    exact ⟨rfl, rfl⟩)
  go_enter Tryz.func69, Tryz.ntmps69
  repeat' ((fail_if_success at_builtin); (fail_if_success at_make); (first | go_values | go_skip | go_guarded | go_step | go_upon | go_back))
  refine ((HL.out w)).mono ?_; rintro e_ _ ⟨rfl, rfl⟩; dsimp only
  repeat' ((fail_if_success at_builtin); (fail_if_success at_make); (first | go_values | go_skip | go_guarded | go_step | go_upon | go_back))
  go_ret
  exact ⟨rfl, Below.refl _ _⟩
set_option maxHeartbeats 2000000 in
theorem CheckN_ok (w : World) : Calls Tryz.prog 33 #[.agg #[.slice none 0 0, .slice none 0 0, .int .i64 (-1), .int .i64 0]] w fun e w' => e = .returned (.int .i64 4) ∧ Below w.heap.size w w' := by
  obtain ⟨w0, hw0⟩ : ∃ w0, w0 = w.alloc (.cells #[.slice none 0 0, .slice none 0 0, .int .i64 (-1), .int .i64 0] 28) := ⟨_, rfl⟩
  obtain ⟨H, hH⟩ : ∃ H, H = w.heap.size := ⟨_, rfl⟩
  have hS : Arr w0 H 28 [.slice none 0 0, .slice none 0 0, .int .i64 (-1), .int .i64 0] := by rw [hw0, hH]; exact Arr.new w 28 _
  have hb0 : Below w.heap.size w w0 := by rw [hw0]; exact (Below.refl _ _).alloc (Nat.le_refl _) _
  rw [← hH] at hb0 ⊢
  have hHl : H < w0.heap.size := hS.lt
  have HSB := Lib.hid (show ∀ W, Below w0.heap.size w0 W → W.cell? ⟨H, 0, none⟩ = some (.slice none 0 0) ∧ W.cell? ⟨H, 1, none⟩ = some (.slice none 0 0) ∧ W.cell? ⟨H, 2, none⟩ = some (.int .i64 (-1)) from fun W h =>
    ⟨(hS.below h).cell (k := 0) rfl, (hS.below h).cell (k := 1) rfl, (hS.below h).cell (k := 2) rfl⟩)
  have HCB := Lib.hid (fun W (h : Below w0.heap.size w0 W) => CheckB_ok none 0 [] W ⟨by simp, by simp, List.Pairwise.nil⟩ Rw.nil_)
  have HCE := Lib.hid (fun W (h : Below w0.heap.size w0 W) => CheckE_ok none 0 [] W ⟨by simp, by simp, List.Pairwise.nil⟩ Rw.nil_)
  have HCF := Lib.hid (fun W (h : Below w0.heap.size w0 W) => FitsN_ok W)
  clear hS
  go_enter Tryz.func33, Tryz.ntmps33
  repeat' ((fail_if_success at_builtin); (fail_if_success at_make); (first | go_values | go_skip | go_guarded | go_step | go_upon | go_back))
  rw [← hw0]
  rw [← hH]
  clear hw0 hH
  --HELD1
  refine wp_region_held_drew (S := (fun w' => w'.cell? ⟨H, 0, none⟩ = some (.slice none 0 0) ∧ w'.cell? ⟨H, 1, none⟩ = some (.slice none 0 0) ∧ w'.cell? ⟨H, 2, none⟩ = some (.int .i64 (-1)))) (by kernel_rfl) ?_ (fun hHeld => ?_)
  · exact HSB.out _ (Below.refl _ w0).drew
  have hB := (Below.refl w0.heap.size w0).drew
  generalize w0.drew = wn0 at *
  refine wpAnyH_take (i := 0) (oi := _) (v := ?_) rfl (by kernel_rfl) (by kernel_rfl) (by kernel_rfl) (fun _ _ _ h => h) (Or.inl ⟨by rfl, ?_⟩) (by assumption) ?_
  rotate_left
  · (intro w hSw; (try dsimp only at hSw); go_simp; try (with_reducible rfl))
  try simp only [List.getElem_toArray, List.getElem_cons_zero, List.getElem_cons_succ, Act.put, List.setIfInBounds_toArray, List.set_cons_zero, List.set_cons_succ]
  refine wpAnyH_take (i := 1) (oi := _) (v := ?_) rfl (by kernel_rfl) (by kernel_rfl) (by kernel_rfl) (fun _ _ _ h => h) (Or.inl ⟨by rfl, ?_⟩) (by assumption) ?_
  rotate_left
  · (intro w hSw; (try dsimp only at hSw); go_simp; try (with_reducible rfl))
  try simp only [List.getElem_toArray, List.getElem_cons_zero, List.getElem_cons_succ, Act.put, List.setIfInBounds_toArray, List.set_cons_zero, List.set_cons_succ]
  refine wpAnyH_take (i := 3) (oi := _) (v := ?_) rfl (by kernel_rfl) (by kernel_rfl) (by kernel_rfl) (fun _ _ _ h => h) (Or.inl ⟨by rfl, ?_⟩) (by assumption) ?_
  rotate_left
  · (intro w hSw; (try dsimp only at hSw); go_simp; try (with_reducible rfl))
  try simp only [List.getElem_toArray, List.getElem_cons_zero, List.getElem_cons_succ, Act.put, List.setIfInBounds_toArray, List.set_cons_zero, List.set_cons_succ]
  refine wpAnyH_take (i := 4) (oi := _) (v := ?_) rfl (by kernel_rfl) (by kernel_rfl) (by kernel_rfl) (fun _ _ _ h => h) (Or.inl ⟨by rfl, ?_⟩) (by assumption) ?_
  rotate_left
  · (intro w hSw; (try dsimp only at hSw); go_simp; try (with_reducible rfl))
  try simp only [List.getElem_toArray, List.getElem_cons_zero, List.getElem_cons_succ, Act.put, List.setIfInBounds_toArray, List.set_cons_zero, List.set_cons_succ]
  refine wpAnyH_take (i := 6) (oi := _) (v := ?_) rfl (by kernel_rfl) (by kernel_rfl) (by kernel_rfl) (fun _ _ _ h => h) (Or.inl ⟨by rfl, ?_⟩) (by assumption) ?_
  rotate_left
  · (intro w hSw; (try dsimp only at hSw); go_simp; try (with_reducible rfl))
  try simp only [List.getElem_toArray, List.getElem_cons_zero, List.getElem_cons_succ, Act.put, List.setIfInBounds_toArray, List.set_cons_zero, List.set_cons_succ]
  refine wpAnyH_take (i := 7) (oi := _) (v := ?_) rfl (by kernel_rfl) (by kernel_rfl) (by kernel_rfl) (fun _ _ _ h => h) (Or.inl ⟨by rfl, ?_⟩) (by assumption) ?_
  rotate_left
  · (intro w hSw; (try dsimp only at hSw); go_simp; try (with_reducible rfl))
  try simp only [List.getElem_toArray, List.getElem_cons_zero, List.getElem_cons_succ, Act.put, List.setIfInBounds_toArray, List.set_cons_zero, List.set_cons_succ]
  refine wpAnyH_take (i := 8) (oi := _) (v := ?_) rfl (by kernel_rfl) (by kernel_rfl) (by kernel_rfl) (fun _ _ _ h => h) (Or.inl ⟨by rfl, ?_⟩) (by assumption) ?_
  rotate_left
  · (intro w hSw; (try dsimp only at hSw); go_simp; try (with_reducible rfl))
  try simp only [List.getElem_toArray, List.getElem_cons_zero, List.getElem_cons_succ, Act.put, List.setIfInBounds_toArray, List.set_cons_zero, List.set_cons_succ]
  refine wpAnyH_take (i := 9) (oi := _) (v := ?_) rfl (by kernel_rfl) (by kernel_rfl) (by kernel_rfl) (fun _ _ _ h => h) (Or.inl ⟨by rfl, ?_⟩) (by assumption) ?_
  rotate_left
  · (intro w hSw; (try dsimp only at hSw); go_simp; try (with_reducible rfl))
  try simp only [List.getElem_toArray, List.getElem_cons_zero, List.getElem_cons_succ, Act.put, List.setIfInBounds_toArray, List.set_cons_zero, List.set_cons_succ]
  refine wpAnyH_take (i := 12) (oi := _) (v := ?_) rfl (by kernel_rfl) (by kernel_rfl) (by kernel_rfl) (fun _ _ _ h => h) (Or.inl ⟨by rfl, ?_⟩) (by assumption) ?_
  rotate_left
  · (intro w hSw; (try dsimp only at hSw); go_simp; try (with_reducible rfl))
  try simp only [List.getElem_toArray, List.getElem_cons_zero, List.getElem_cons_succ, Act.put, List.setIfInBounds_toArray, List.set_cons_zero, List.set_cons_succ]
  refine wpAnyH_ready (rs := [2]) (by kernel_rfl) (by simp) ?_
  refine AllReadyH.cons (o := _) rfl (fun K hK => ?_) ?_
  ·
    go_simp
    refine (HCB.out wn0 hB).mono ?_
    rintro e5 w5 ⟨rfl, hb5⟩
    dsimp only
    refine outG hK ?_ (Below wn0.heap.size wn0) (fun W => True) ?_ ?_ (fun wn1 hHeld hst hnew => ?_)
    · (exact HSB.out _ (hB.trans (hb5.mono hB.size)))
    · (exact hb5)
    · (trivial)
    have hB := hB.trans (hst.mono hB.size)
    clear hst
    clear hK K
    try simp only [List.getElem_toArray, List.getElem_cons_zero, List.getElem_cons_succ, Act.put, List.setIfInBounds_toArray, List.set_cons_zero, List.set_cons_succ]
    refine wpAnyH_ready (rs := [5]) (by kernel_rfl) (by simp) ?_
    refine AllReadyH.cons (o := _) rfl (fun K hK => ?_) ?_
    ·
      go_simp
      refine (HCE.out wn1 hB).mono ?_
      rintro e5 w5 ⟨rfl, hb5⟩
      dsimp only
      refine outG hK ?_ (Below wn1.heap.size wn1) (fun W => True) ?_ ?_ (fun wn2 hHeld hst hnew => ?_)
      · (exact HSB.out _ (hB.trans (hb5.mono hB.size)))
      · (exact hb5)
      · (trivial)
      have hB := hB.trans (hst.mono hB.size)
      clear hst
      clear hK K
      try simp only [List.getElem_toArray, List.getElem_cons_zero, List.getElem_cons_succ, Act.put, List.setIfInBounds_toArray, List.set_cons_zero, List.set_cons_succ]
      refine wpAnyH_ready (rs := [10]) (by kernel_rfl) (by simp) ?_
      refine AllReadyH.cons (o := _) rfl (fun K hK => ?_) ?_
      ·
        go_simp
        refine (HCF.out wn2 hB).mono ?_
        rintro e5 w5 ⟨rfl, hb5⟩
        dsimp only
        refine outG hK ?_ (Below wn2.heap.size wn2) (fun W => True) ?_ ?_ (fun wn3 hHeld hst hnew => ?_)
        · (exact HSB.out _ (hB.trans (hb5.mono hB.size)))
        · (exact hb5)
        · (trivial)
        have hB := hB.trans (hst.mono hB.size)
        clear hst
        clear hK K
        try simp only [List.getElem_toArray, List.getElem_cons_zero, List.getElem_cons_succ, Act.put, List.setIfInBounds_toArray, List.set_cons_zero, List.set_cons_succ]
        refine wpAnyH_take (i := 11) (oi := _) (v := ?_) rfl (by kernel_rfl) (by kernel_rfl) (by kernel_rfl) (fun _ _ _ h => h) (Or.inl ⟨by rfl, ?_⟩) (by assumption) ?_
        rotate_left
        · (intro w hSw; (try dsimp only at hSw); go_simp; try (with_reducible rfl))
        try simp only [List.getElem_toArray, List.getElem_cons_zero, List.getElem_cons_succ, Act.put, List.setIfInBounds_toArray, List.set_cons_zero, List.set_cons_succ]
        refine wpAnyH_done (by kernel_rfl) ?_ _
        dsimp only [Exit.then]
        clear hHeld
        have hb1 := hb0.trans (hB.mono (Nat.le_of_lt hHl))
        clear hB hb0
        generalize wn3 = w1 at *
        repeat' ((fail_if_success at_builtin); (fail_if_success at_make); (first | go_values | go_skip | go_guarded | go_step | go_upon | go_back))
        go_loopg [19] 3 (fun gn i wr => ∃ j : Int, i = .int .i64 j ∧ (j = 0 ∨ j = 1 ∨ j = 2) ∧ gn = (3 - j).toNat ∧ wr = w1)
        case atStart => exact ⟨0, rfl, by omega, rfl, rfl⟩
        case round =>
          obtain ⟨j, rfl, hj, hgn, hwr⟩ := hrel
          subst hwr
          have ix0 := idx3n 0 (by omega) wr
          have ix1 := idx3n 1 (by omega) wr
          have ix2 := idx3n2 wr
          rcases hj with rfl | rfl | rfl
          · repeat' ((fail_if_success at_builtin); (fail_if_success at_make); (first | go_values | go_skip | go_guarded | go_step | go_upon | go_back))
            go_roundg 2
            case measure => omega
            case rel => exact ⟨1, rfl, by omega, rfl, rfl⟩
          · repeat' ((fail_if_success at_builtin); (fail_if_success at_make); (first | go_values | go_skip | go_guarded | go_step | go_upon | go_back))
            go_roundg 1
            case measure => omega
            case rel => exact ⟨2, rfl, by omega, rfl, rfl⟩
          · repeat' ((fail_if_success at_builtin); (fail_if_success at_make); (first | go_values | go_skip | go_guarded | go_step | go_upon | go_back))
            go_ret
            exact ⟨rfl, hb1⟩
      exact AllReadyH.nil
    exact AllReadyH.nil
  exact AllReadyH.nil
  --HELDEND1
set_option maxHeartbeats 2000000 in
theorem kept_ok (w : World) : Calls Tryz.prog 23 #[] w fun e w' => e = .returned (.bool true) ∧ Below w.heap.size w w' := by
  obtain ⟨A, hA⟩ : ∃ A : List UInt8, A = [97, 98, 99] := ⟨_, rfl⟩
  obtain ⟨M, hM⟩ : ∃ M : List UInt8, M = enc [⟨[120], shaS A, 3⟩] := ⟨_, rfl⟩
  obtain ⟨K, hK⟩ : ∃ K : List UInt8, K = keyS 0 := ⟨_, rfl⟩
  have HSM := Lib.hid (small_ok A M K hA hM hK w)
  have hAL : A.length = 3 := by rw [hA]; rfl
  have HGS := Lib.hid (sml_good (K := K) hAL (sml_len hA hM) (sml_ne hA hM) (by rw [hK]; exact hexC_sha _))
  have HAL := Lib.hid hAL
  obtain ⟨i, hi, hiB⟩ := List.mem_iff_getElem.1 ((sml_perm A M K).mem_iff.2 (List.mem_cons_self ..))
  have HIB := Lib.hid hiB
  have HRM := Lib.hid (show (smlOf A M K).room = 200 ∧ (smlOf A M K).clock = 1 from ⟨rfl, rfl⟩)
  have HA := Lib.hid hA
  clear hM hK hA hAL hiB
  generalize smlOf A M K = s at *
  have hkc := fun (w : World) (C : Array Value) (n c : Nat) => Lib.run_convert_bytes_const (P := Tryz.prog) w 30 5 C n c Tryz.underlying30 Tryz.underlying5
  go_enter Tryz.func23, Tryz.ntmps23
  repeat' ((fail_if_success at_builtin); (fail_if_success at_make); (first | go_values | go_skip | go_guarded | go_step | go_upon | go_back))
  refine ((HSM.out)).mono ?_; rintro e_ w1 ⟨X, c, Y, d, rfl, hr1, hb1⟩; dsimp only
  have hr2 : Rd (w1.alloc (.cells #[.int .u8 97, .int .u8 98, .int .u8 99] 5 (3, 4))) 1 (some ⟨w1.heap.size, 0, none⟩) 3 (bys A) := by
    have hz : OwnZ (w1.alloc (.cells #[.int .u8 97, .int .u8 98, .int .u8 99] 5 (3, 4))) w1.heap.size (some ⟨w1.heap.size, 0, none⟩) 3 A := by
      rw [HA.out]; exact ⟨w1.heap.size, [], (3, 4), rfl, Nat.le_refl _, World.alloc_heap_new w1 _, rfl, by simp [maxLen], .inr (Nat.le_refl _)⟩
    have := hz.rd
    rwa [HAL.out] at this
  have hba := (Below.refl w1.heap.size w1).alloc (Nat.le_refl _) (.cells #[.int .u8 97, .int .u8 98, .int .u8 99] 5 (3, 4))
  have HD := Lib.hid (Digest_ok (some ⟨w1.heap.size, 0, none⟩) 3 3 A _ HAL.out (by omega) (by omega) hr2)
  have hrA := hr1.below hba
  have hb12 := hb1.trans (hba.mono hb1.size)
  clear hr2 hba hr1 hb1
  repeat' ((fail_if_success at_builtin); (fail_if_success at_make); (first | go_values | go_skip | go_guarded | go_step | go_upon | go_back))
  clear hkc
  generalize w1.alloc (.cells #[.int .u8 97, .int .u8 98, .int .u8 99] 5 (3, 4)) = w2 at *
  refine ((HD.out)).mono ?_; rintro e_ w3 ⟨rfl, hb3⟩; dsimp only
  have hr3 := hrA.below hb3
  have hb13 := hb12.trans (hb3.mono hb12.size)
  have HGB := GetBlob_ok X c Y d s (shaS A) i w3 HGS.out hr3 hi (by rw [HIB.out])
  rw [HIB.out, HRM.out.1, HRM.out.2] at HGB
  dsimp only at HGB
  have HGB := Lib.hid HGB
  clear hr3 hrA hb12 hb3
  repeat' ((fail_if_success at_builtin); (fail_if_success at_make); (first | go_values | go_skip | go_guarded | go_step | go_upon | go_back))
  refine ((HGB.out)).mono ?_; rintro e_ w4 ⟨v4, rfl, ho4, hb4⟩; dsimp only
  have hb14 := hb13.trans (hb4.mono hb13.size)
  obtain ⟨A4, c4, rfl, hc4, hr4⟩ := Rd.of_own' ho4
  have hcv : (convert 30 9 (.slice A4 A.length c4)).run Tryz.prog w4 = .ok (.string ⟨#[97, 98, 99]⟩) w4 := by
    have := run_str (n := A.length) (c := c4) Tryz.underlying30 Tryz.underlying5 Tryz.underlying9 rfl hr4
    rw [this, HA.out]
  have HCN := Lib.hid (CheckN_ok w4)
  clear ho4 hr4 hb4 hb13
  repeat' ((fail_if_success at_builtin); (fail_if_success at_make); (first | go_values | go_skip | go_guarded | go_step | go_upon | go_back))
  clear hcv
  refine ((HCN.out)).mono ?_; rintro e_ w5 ⟨rfl, hb5⟩; dsimp only
  have hb15 := hb14.trans (hb5.mono hb14.size)
  repeat' ((fail_if_success at_builtin); (fail_if_success at_make); (first | go_values | go_skip | go_guarded | go_step | go_upon | go_back))
  go_ret
  exact ⟨rfl, hb15⟩
end Go.Proofs.YtjldpfijekpddaaGreat
