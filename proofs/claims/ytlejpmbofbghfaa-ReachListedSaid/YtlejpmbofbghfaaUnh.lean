/- keep.unhex. Conditions: the size. -/
import Derived.Test.YtlejpmbofbghfaaDecP
namespace Go.Proofs.Ytlejpmbofbghfaa
open Go.RowKit
set_option linter.unusedVariables false
set_option linter.unusedSimpArgs false
set_option maxRecDepth 100000

set_option maxHeartbeats 2000000 in
theorem unhex_ok (s : ByteArray) (r : List UInt8) (q : Nat) (w : World) (hs : s.size ≤ 4000) (hq : s.size = 2 * q) (hun : unhx s.data.toList = some r) :
    Calls Try.prog 38 #[.string s] w fun e w' => ∃ v, e = .returned v ∧ w'.ownsRow w.heap.size 5 1 v r.length (bys r) ∧ Below w.heap.size w w' := by
  have hsz : s.data.toList.length = s.size := by rw [Array.length_toList]; rfl
  have hq1 : q * 2 ≤ s.size := by omega
  have hq2 : s.size ≤ q * 2 := by omega
  have HZ := Lib.hid hsz
  have HUN := Lib.hid hun
  clear hq hsz hun
  go_enter Try.func38, Try.ntmps38
  repeat' ((fail_if_success at_builtin); (fail_if_success at_make); (first | go_values | go_skip | go_guarded | go_step | go_upon | go_back))
  go_loopg [3, 4] s.size (fun gn v i wr => ∃ (k : Nat) (acc : List UInt8), gn = s.size - 2 * k ∧ i = .int .i64 ((2 * k : Nat) : Int) ∧ k ≤ q ∧ acc.length = k ∧ unhx s.data.toList = (unhx (s.data.toList.drop (2 * k))).map (acc ++ ·) ∧
    wr.ownsRow w.heap.size 5 1 v acc.length (bys acc) ∧ Below w.heap.size w wr)
  case atStart => exact ⟨0, [], rfl, rfl, by omega, rfl, by simp, World.ownsRow_nil _ _ _ _, Below.refl _ _⟩
  case round =>
    obtain ⟨k, acc, hgk, rfl, hk, hacc, hun, hown, hbel⟩ := hrel
    have HGK0 := Lib.hid hgk
    have HU := Lib.hid hun
    have HA := Lib.hid hacc
    clear hun hacc hgk
    have hsw := hbel.size
    generalize hm : 2 * k = m at *
    have HGK := HGK0
    have HM := Lib.hid hm
    by_cases hlt : k < q
    · have hm1 : m + 1 < s.size := by omega
      have hm0 : m < s.size := by omega
      have hi0 : (0 : Int) ≤ (m : Int) := by omega
      have hi1 : (m : Int) < (s.size : Int) := by omega
      have hi2 : (m : Int) + 1 < (s.size : Int) := by omega
      have hi3 : (0 : Int) ≤ (m : Int) + 1 := by omega
      have hw1 : IntKind.i64.wrap ((m : Int) + 1) = (m : Int) + 1 := IntWalk.i64_in _ (by omega)
      have hw2 : IntKind.i64.wrap ((m : Int) + 2) = (m : Int) + 2 := IntWalk.i64_in _ (by omega)
      have hn1 : ((m : Int) + 1).toNat = m + 1 := by omega
      have hd : s.data.toList.drop m = s[m] :: s[m + 1] :: s.data.toList.drop (m + 2) := by
        have hz := HZ.out
        rw [List.drop_eq_getElem_cons (by omega), List.drop_eq_getElem_cons (i := m + 1) (by omega)]
        rfl
      have ra := val_range s[m]
      have rb := val_range s[m + 1]
      have hbad : ¬ (val s[m] < 0 ∨ val s[m + 1] < 0) := fun hbad => by
        have h := HUN.out
        rw [HU.out, hd, unhx, if_pos hbad] at h
        cases h
      have hstep : unhx s.data.toList = (unhx (s.data.toList.drop (m + 2))).map ((acc ++ [UInt8.ofNat (16 * (val s[m]).toNat + (val s[m + 1]).toNat)]) ++ ·) := by
        rw [HU.out, hd, unhx, if_neg hbad, Option.map_map]
        congr 1; funext x; simp
      have HG := Lib.hid hstep
      have hna : 0 ≤ val s[m] := by omega
      have hnb : 0 ≤ val s[m + 1] := by omega
      have hmx1 : max (0 : Int) (val s[m]) = val s[m] := by omega
      have hmx2 : max (0 : Int) (val s[m + 1]) = val s[m + 1] := by omega
      have he1 : bys [UInt8.ofNat (16 * (val s[m]).toNat + (val s[m + 1]).toNat)] = [.int .u8 (16 * val s[m] + val s[m + 1])] := by
        simp only [bys, List.map_cons, List.map_nil, UInt8.toNat_ofNat']
        congr 2; omega
      have HE1 := Lib.hid he1
      have hw3 : IntKind.i64.wrap (16 * val s[m]) = 16 * val s[m] := IntWalk.i64_in _ (by omega)
      have hw4 : IntKind.i64.wrap (16 * val s[m] + val s[m + 1]) = 16 * val s[m] + val s[m + 1] := IntWalk.i64_in _ (by omega)
      have hw5 : IntKind.u8.wrap (16 * val s[m] + val s[m + 1]) = 16 * val s[m] + val s[m + 1] := by rw [IntKind.wrap_u8]; omega
      have HOWN := Lib.hid hown
      have HBEL := Lib.hid hbel
      have hacl := HA.out
      clear hm hd hbad hstep hown hbel he1
      repeat' ((fail_if_success at_builtin); (fail_if_success at_make); (first | go_values | go_skip | go_guarded | go_step | go_upon | go_back))
      --HELD
      refine wp_region_held_drew (S := (fun _ => True)) (by kernel_rfl) ?_ (fun hHeld => ?_)
      · trivial
      have hB := (Below.refl wr.heap.size wr).drew
      generalize wr.drew = wn0 at *
      refine wpAnyH_take (i := 0) (oi := _) (v := ?_) rfl (by kernel_rfl) (by kernel_rfl) (by kernel_rfl) (fun _ _ _ h => h) (Or.inl ⟨by rfl, ?_⟩) (by assumption) ?_
      rotate_left
      · (intro w hSw; (try dsimp only at hSw); go_simp; try (with_reducible rfl))
      try simp only [Act.put, List.setIfInBounds_toArray, List.set_cons_zero, List.set_cons_succ]
      refine wpAnyH_take (i := 1) (oi := _) (v := ?_) rfl (by kernel_rfl) (by kernel_rfl) (by kernel_rfl) (fun _ _ _ h => h) (Or.inl ⟨by rfl, ?_⟩) (by assumption) ?_
      rotate_left
      · (intro w hSw; (try dsimp only at hSw); go_simp; try (with_reducible rfl))
      try simp only [Act.put, List.setIfInBounds_toArray, List.set_cons_zero, List.set_cons_succ]
      refine wpAnyH_take (i := 2) (oi := _) (v := ?_) rfl (by kernel_rfl) (by kernel_rfl) (by kernel_rfl) (fun _ _ _ h => h) (Or.inl ⟨by rfl, ?_⟩) (by assumption) ?_
      rotate_left
      · (intro w hSw; (try dsimp only at hSw); go_simp; try (with_reducible rfl))
      try simp only [Act.put, List.setIfInBounds_toArray, List.set_cons_zero, List.set_cons_succ]
      refine wpAnyH_take (i := 3) (oi := _) (v := ?_) rfl (by kernel_rfl) (by kernel_rfl) (by kernel_rfl) (fun _ _ _ h => h) (Or.inl ⟨by rfl, ?_⟩) (by assumption) ?_
      rotate_left
      · (intro w hSw; (try dsimp only at hSw); go_simp; try (with_reducible rfl))
      try simp only [Act.put, List.setIfInBounds_toArray, List.set_cons_zero, List.set_cons_succ]
      refine wpAnyH_take (i := 7) (oi := _) (v := ?_) rfl (by kernel_rfl) (by kernel_rfl) (by kernel_rfl) (fun _ _ _ h => h) (Or.inl ⟨by rfl, ?_⟩) (by assumption) ?_
      rotate_left
      · (intro w hSw; (try dsimp only at hSw); go_simp; try (with_reducible rfl))
      try simp only [Act.put, List.setIfInBounds_toArray, List.set_cons_zero, List.set_cons_succ]
      refine wpAnyH_take (i := 8) (oi := _) (v := ?_) rfl (by kernel_rfl) (by kernel_rfl) (by kernel_rfl) (fun _ _ _ h => h) (Or.inl ⟨by rfl, ?_⟩) (by assumption) ?_
      rotate_left
      · (intro w hSw; (try dsimp only at hSw); go_simp; try (with_reducible rfl))
      try simp only [Act.put, List.setIfInBounds_toArray, List.set_cons_zero, List.set_cons_succ]
      refine wpAnyH_take (i := 9) (oi := _) (v := ?_) rfl (by kernel_rfl) (by kernel_rfl) (by kernel_rfl) (fun _ _ _ h => h) (Or.inl ⟨by rfl, ?_⟩) (by assumption) ?_
      rotate_left
      · (intro w hSw; (try dsimp only at hSw); go_simp; try (with_reducible rfl))
      try simp only [Act.put, List.setIfInBounds_toArray, List.set_cons_zero, List.set_cons_succ]
      refine wpAnyH_take (i := 10) (oi := _) (v := ?_) rfl (by kernel_rfl) (by kernel_rfl) (by kernel_rfl) (fun _ _ _ h => h) (Or.inl ⟨by rfl, ?_⟩) (by assumption) ?_
      rotate_left
      · (intro w hSw; (try dsimp only at hSw); go_simp; try (with_reducible rfl))
      try simp only [Act.put, List.setIfInBounds_toArray, List.set_cons_zero, List.set_cons_succ]
      refine wpAnyH_ready (rs := [4]) (by kernel_rfl) (by simp) ?_
      refine AllReadyH.cons (o := _) rfl (fun K hK => ?_) ?_
      ·
        go_simp
        refine (IB_at _ _).mono ?_
        rintro e6 w6 ⟨rfl, hw6⟩
        replace hw6 := hw6.symm
        subst hw6
        dsimp only
        refine outG hK ?_ (Below wn0.heap.size wn0) (fun W => True) ?_ ?_ (fun wn1 hHeld hst hnew => ?_)
        · (trivial)
        · (first | exact (Below.refl _ _).alloc (Nat.le_refl _) _ | exact Below.refl _ _)
        · (trivial)
        have hB := hB.trans (hst.mono hB.size)
        clear hst
        clear hK K
        try simp only [Act.put, List.setIfInBounds_toArray, List.set_cons_zero, List.set_cons_succ]
        refine wpAnyH_take (i := 5) (oi := _) (v := ?_) rfl (by kernel_rfl) (by kernel_rfl) (by kernel_rfl) (fun _ _ _ h => h) (Or.inl ⟨by rfl, ?_⟩) (by assumption) ?_
        rotate_left
        · (intro w hSw; (try dsimp only at hSw); go_simp; try (with_reducible rfl))
        try simp only [Act.put, List.setIfInBounds_toArray, List.set_cons_zero, List.set_cons_succ]
        refine wpAnyH_take (i := 6) (oi := _) (v := ?_) rfl (by kernel_rfl) (by kernel_rfl) (by kernel_rfl) (fun _ _ _ h => h) (Or.inl ⟨by rfl, ?_⟩) (by assumption) ?_
        rotate_left
        · (intro w hSw; (try dsimp only at hSw); go_simp; try (with_reducible rfl))
        try simp only [Act.put, List.setIfInBounds_toArray, List.set_cons_zero, List.set_cons_succ]
        refine wpAnyH_ready (rs := [11]) (by kernel_rfl) (by simp) ?_
        refine AllReadyH.cons (o := _) rfl (fun K hK => ?_) ?_
        ·
          go_simp
          refine (IB_at _ _).mono ?_
          rintro e6 w6 ⟨rfl, hw6⟩
          replace hw6 := hw6.symm
          subst hw6
          dsimp only
          refine outG hK ?_ (Below wn1.heap.size wn1) (fun W => True) ?_ ?_ (fun wn2 hHeld hst hnew => ?_)
          · (trivial)
          · (first | exact (Below.refl _ _).alloc (Nat.le_refl _) _ | exact Below.refl _ _)
          · (trivial)
          have hB := hB.trans (hst.mono hB.size)
          clear hst
          clear hK K
          try simp only [Act.put, List.setIfInBounds_toArray, List.set_cons_zero, List.set_cons_succ]
          refine wpAnyH_take (i := 12) (oi := _) (v := ?_) rfl (by kernel_rfl) (by kernel_rfl) (by kernel_rfl) (fun _ _ _ h => h) (Or.inl ⟨by rfl, ?_⟩) (by assumption) ?_
          rotate_left
          · (intro w hSw; (try dsimp only at hSw); go_simp; try (with_reducible rfl))
          try simp only [Act.put, List.setIfInBounds_toArray, List.set_cons_zero, List.set_cons_succ]
          refine wpAnyH_take (i := 13) (oi := _) (v := ?_) rfl (by kernel_rfl) (by kernel_rfl) (by kernel_rfl) (fun _ _ _ h => h) (Or.inl ⟨by rfl, ?_⟩) (by assumption) ?_
          rotate_left
          · (intro w hSw; (try dsimp only at hSw); go_simp; try (with_reducible rfl))
          try simp only [Act.put, List.setIfInBounds_toArray, List.set_cons_zero, List.set_cons_succ]
          refine wpAnyH_take (i := 14) (oi := _) (v := ?_) rfl (by kernel_rfl) (by kernel_rfl) (by kernel_rfl) (fun _ _ _ h => h) (Or.inl ⟨by rfl, ?_⟩) (by assumption) ?_
          rotate_left
          · (intro w hSw; (try dsimp only at hSw); go_simp; try (with_reducible rfl))
          try simp only [Act.put, List.setIfInBounds_toArray, List.set_cons_zero, List.set_cons_succ]
          refine wpAnyH_ready (rs := [15]) (by kernel_rfl) (by simp) ?_
          refine AllReadyH.cons (o := _) rfl (fun K hK => ?_) ?_
          ·
            go_simp
            refine outG hK ?_ (Below wn2.heap.size wn2) (fun W => Rd W 1 (some ⟨wn2.heap.size, 0, none⟩) 1 (bys [UInt8.ofNat (16 * (val s[m]).toNat + (val s[m + 1]).toNat)])) ?_ ?_ (fun wn3 hHeld hst hnew => ?_)
            · (trivial)
            · (first | exact (Below.refl _ _).alloc (Nat.le_refl _) _ | exact Below.refl _ _)
            · (rw [HE1.out]; exact Rd.new1 _)
            have hB := hB.trans (hst.mono hB.size)
            have h15 := hnew
            clear hst
            clear hK K
            try simp only [Act.put, List.setIfInBounds_toArray, List.set_cons_zero, List.set_cons_succ]
            refine wpAnyH_ready (rs := [16]) (by kernel_rfl) (by simp) ?_
            refine AllReadyH.cons (o := _) rfl (fun K hK => ?_) ?_
            ·
              refine step_ap rfl (.tmp 12) (.tmp 27) rfl elU8 (by rfl) (own_below HOWN.out hB) (by rfl) h15 (bys_one _) (by omega) (Nat.le_trans hsw hB.size) ?_
              intro v7 w7 ho7 hg7 _
              refine outG hK ?_ (fun W => W.ownsRow w.heap.size 5 1 v7 (acc.length + 1) (bys acc ++ bys [UInt8.ofNat (16 * (val s[m]).toNat + (val s[m + 1]).toNat)])) (Below w.heap.size w) ?_ ?_ (fun wn4 hHeld hF hG => ?_)
              · trivial
              · exact ho7
              · exact below_own (HBEL.out.trans (hB.mono hsw)) (own_below HOWN.out hB) (Nat.le_refl _) hg7
              clear hK K
              try simp only [Act.put, List.setIfInBounds_toArray, List.set_cons_zero, List.set_cons_succ]
              refine wpAnyH_take (i := 17) (oi := _) (v := ?_) rfl (by kernel_rfl) (by kernel_rfl) (by kernel_rfl) (fun _ _ _ h => h) (Or.inl ⟨by rfl, ?_⟩) (by assumption) ?_
              rotate_left
              · (intro w hSw; (try dsimp only at hSw); go_simp; try (with_reducible rfl))
              try simp only [Act.put, List.setIfInBounds_toArray, List.set_cons_zero, List.set_cons_succ]
              refine wpAnyH_done (by kernel_rfl) ?_ _
              clear hHeld hB
              repeat' ((fail_if_success at_builtin); (fail_if_success at_make); (first | go_values | go_skip | go_guarded | go_step | go_upon | go_back))
              go_roundg (s.size - (m + 2))
              case measure => have := HGK.out; omega
              case rel =>
                refine ⟨k + 1, acc ++ [UInt8.ofNat (16 * (val s[m]).toNat + (val s[m + 1]).toNat)], by rw [show 2 * (k + 1) = m + 2 by have := HM.out; omega], by have := HM.out; go_num, by omega, by rw [List.length_append]; simp only [List.length_cons, List.length_nil]; omega, by rw [show 2 * (k + 1) = m + 2 by have := HM.out; omega]; exact HG.out, ?_, hG⟩
                rw [bys_app, List.length_append]; exact hF
            exact AllReadyH.nil
          exact AllReadyH.nil
        exact AllReadyH.nil
      exact AllReadyH.nil
      --HELDEND
    · have hkq : k = q := by omega
      have hfin : acc = r := by
        have h := HUN.out
        rw [HU.out, List.drop_of_length_le (by have := HZ.out; omega), unhx] at h
        simpa using h
      have hmm : s.size ≤ m := by omega
      have hmb : m ≤ 5000 := by omega
      subst hfin
      clear hkq hm
      have hcc : decide ((m : Int) + 1 < (s.size : Int)) = false := decide_eq_false (by omega)
      have hw1 : IntKind.i64.wrap ((m : Int) + 1) = (m : Int) + 1 := IntWalk.i64_in _ (by omega)
      repeat' ((fail_if_success at_builtin); (fail_if_success at_make); (first | go_values | go_skip | go_guarded | go_step | go_upon | go_back))
      go_ret
      exact ⟨_, rfl, hown, hbel⟩
end Go.Proofs.Ytlejpmbofbghfaa
