/- The walk of ManifestRises. Conditions: the sizes. -/
import Derived.Test.YtkbcpcldjenhiaaRis
namespace Go.Proofs.Ytkbcpcldjenhiaa
open Go.RowKit
set_option linter.unusedVariables false
set_option linter.unusedSimpArgs false
set_option maxRecDepth 100000

def rz : RawP := ⟨0, 0, 0, ByteArray.empty⟩
theorem rz_ok : RawOk rz := ⟨by decide, by decide, by decide, by decide, by decide, by decide, by decide⟩
theorem rcs_app (l m : List RawP) : rcs (l ++ m) = rcs l ++ rcs m := by simp [rcs]

theorem fine_ok {l : List PartP} (h : ∀ p ∈ l, FineP p) : PartsOk l := fun p hp => by
  have h := h p hp
  have h1 := nameC_zero h.1
  have h2 : p.dig.length = 64 := by
    have := h.2.1; unfold hexC at this; split at this
    · cases this
    · omega
  exact ⟨by omega, by omega, by have := h.2.2; omega⟩

theorem Check_zero (A : Option Addr) (n c : Nat) (l : List PartP) (w : World) (hl : l.length = n) (hc : n ≤ c) (hm : n ≤ 9223372036854775807) (hok : PartsOk l) (hr : Rd w 3 A n (pcs l)) (h0 : chk l = 0) :
    Calls Try.prog 25 #[.slice A n c] w fun e w' => e = .returned (.int .i64 0) ∧ Below w.heap.size w w' := by
  have h := Check_ok A n c l w hl hc hm hok hr
  rw [h0] at h; exact h
theorem Check_six (A : Option Addr) (n c : Nat) (l : List PartP) (w : World) (hl : l.length = n) (hc : n ≤ c) (hm : n ≤ 9223372036854775807) (hok : PartsOk l) (hr : Rd w 3 A n (pcs l)) (h0 : chk l = 6) :
    Calls Try.prog 25 #[.slice A n c] w fun e w' => e = .returned (.int .i64 6) ∧ Below w.heap.size w w' := by
  have h := Check_ok A n c l w hl hc hm hok hr
  rw [h0] at h; exact h
theorem Encode_six (A : Option Addr) (n c : Nat) (l : List PartP) (w : World) (hl : l.length = n) (hc : n ≤ c) (hm : n ≤ 9223372036854775807) (hok : PartsOk l) (hr : Rd w 3 A n (pcs l)) (h0 : chk l = 6) :
    Calls Try.prog 27 #[.slice A n c] w fun e w' => e = .returned (.tuple #[.slice none 0 0, .int .i64 6]) ∧ Below w.heap.size w w' := by
  have h := Encode_bad A n c l w hl hc hm hok hr (by rw [h0]; decide)
  rw [h0] at h; exact h

set_option maxHeartbeats 1000000 in
theorem ManifestRises_walk (A : Option Addr) (n c : Nat) (l : List RawP) (i j : Int) (w : World) (hl : l.length = n) (hc : n ≤ c) (hm : c ≤ maxLen) (hok : ∀ r ∈ l, RawOk r) (hr : Rd w 4 A n (rcs l)) (hcb : c * 40 ≤ 140737488351232)
    (hi0 : -9223372036854775808 ≤ i) (hi1 : i ≤ 9223372036854775807) (hj0 : -9223372036854775808 ≤ j) (hj1 : j ≤ 9223372036854775807) :
    Calls Try.prog 6 #[.slice A n c, .int .i64 i, .int .i64 j] w fun e w' => e = .returned (.bool true) ∧ Below w.heap.size w w' := by
  have HOK := Lib.hid (show ∀ r ∈ l ++ [rz, rz], RawOk r from fun r hr => by
    rcases List.mem_append.1 hr with h | h
    · exact hok r h
    · simp at h; subst h; exact rz_ok)
  have HL := Lib.hid (show (l ++ [rz, rz]).length = n + 2 by simp [hl])
  have HC := Lib.hid (rcs_app l [rz, rz])
  have HT := Lib.hid (show 0 < (lst (l ++ [rz, rz])).length by rw [lst_len]; simp; omega)
  have H1 := Lib.hid (rcs_one l)
  clear hok hl
  generalize l ++ [rz, rz] = y at *
  go_enter Try.func6, Try.ntmps6
  repeat' ((fail_if_success at_builtin); (fail_if_success at_make); (first | go_values | go_skip | go_guarded | go_step | go_upon | go_back))
  refine ((CloneRaw_ok A n c _ w (by omega) hr H1.out)).mono ?_; rintro e_ w1 ⟨v1, rfl, ho1, hb1⟩; dsimp only
  repeat' ((fail_if_success at_builtin); (fail_if_success at_make); (first | go_values | go_skip | go_guarded | go_step | go_upon | go_back))
  refine wpList_apN rfl (.tmp 14) (.tmp 17) rfl elRaw (by rfl) ho1 (us := rcs [rz, rz]) (m := 2) (by rfl) rfl (by intro u hu; exact rcs_one _ u hu) (by omega) hb1.size ?_
  intro v2 w2 ho2 hg2 _
  have hb2 := below_own hb1 ho1 (Nat.le_refl _) hg2
  rw [← HC.out] at ho2
  obtain ⟨g2, cap2, cs2, rfl, hgb2, _, hcap2, hcm2, _⟩ := own_ex ho2 (by omega)
  have hr2 := Rd.of_own ho2
  clear ho2 hg2 ho1
  repeat' ((fail_if_success at_builtin); (fail_if_success at_make); (first | go_values | go_skip | go_guarded | go_step | go_upon | go_back))
  refine ((listed_ok (some ⟨g2, 0, none⟩) (n + 2) cap2 y w2 HL.out hcap2 hcm2 HOK.out hr2)).mono ?_; rintro e_ w3 ⟨v3, rfl, ho3, hb3⟩; dsimp only
  have hb13 := hb2.trans (hb3.mono hb2.size)
  have hx8 := lst_le y
  have hk0 := chk_lst y
  have hset := chk_set y
  have htw := fun h => chk_twice y h
  have hz0 := chk_zero hk0
  have hx0 := HT.out
  generalize lst y = x at *
  clear HT HOK HL HC hr2
  obtain ⟨g3, cap3, cs3, rfl, hgb3, hA3, hcap3, hcm3, hcl3, hct3⟩ := own_ex ho3 hx0
  have hr3 := Rd.of_own ho3
  have hok3 : PartsOk x := fine_ok hz0.2
  have hm63 : (cap3 : Int) ≤ 9223372036854775807 := by unfold maxLen at hcm3; omega
  have HZ := Lib.hid hz0
  have HSET := Lib.hid hset
  have HTW := Lib.hid (htw hx0)
  have HOK3 := Lib.hid hok3
  have HCK := Lib.hid (fun w' hr => Check_zero (some ⟨g3, 0, none⟩) x.length cap3 x w' rfl hcap3 (by omega) hok3 hr hk0)
  have HPI := Lib.hid (fun w' => Picked_ok i x.length (x.length : Int) rfl w' hi0 hi1 hx0 (by omega))
  have HPJ := Lib.hid (fun w' => Picked_ok j x.length (x.length : Int) rfl w' hj0 hj1 hx0 (by omega))
  have ha := pk_lt i hx0
  have hb := pk_lt j hx0
  generalize pk i x.length = a at *
  generalize pk j x.length = b at *
  clear hz0 hset htw hok3 ho3 hk0
  repeat' ((fail_if_success at_builtin); (fail_if_success at_make); (first | go_values | go_skip | go_guarded | go_step | go_upon | go_back))
  refine ((HCK.out w3 hr3)).mono ?_; rintro e_ w4 ⟨rfl, hb4⟩; dsimp only
  have hr4 := hr3.below hb4
  have hA4 := hA3.below hb4
  repeat' ((fail_if_success at_builtin); (fail_if_success at_make); (first | go_values | go_skip | go_guarded | go_step | go_upon | go_back))
  refine ((HPI.out _)).mono ?_; rintro e_ _ ⟨rfl, rfl⟩; dsimp only
  repeat' ((fail_if_success at_builtin); (fail_if_success at_make); (first | go_values | go_skip | go_guarded | go_step | go_upon | go_back))
  refine ((HPJ.out _)).mono ?_; rintro e_ _ ⟨rfl, rfl⟩; dsimp only
  repeat' ((fail_if_success at_builtin); (fail_if_success at_make); (first | go_values | go_skip | go_guarded | go_step | go_upon | go_back))
  refine ((ClonePart_ok (some ⟨g3, 0, none⟩) x.length cap3 (pcs x) w4 (by omega) hr4 (pcs_one x))).mono ?_; rintro e_ w5 ⟨v5, rfl, ho5, hb5⟩; dsimp only
  have hr5 := hr4.below hb5
  have hA5 := hA4.below hb5
  obtain ⟨g6, cap6, cs6, rfl, hgb6, hA6, hcap6, hcm6, hcl6, hct6⟩ := own_ex ho5 hx0
  have hb25 := hb13.trans ((hb4.trans (hb5.mono hb4.size)).mono hb13.size)
  have q0 := (Rd.of_arr hA5 (by rw [pcs_len]) hct3)
  have qb : w5.cell? ⟨g3, b * 3, none⟩ = some (.string ⟨x[b].name.toArray⟩) := by
    refine hA5.cell ?_
    have := pcs_at x b 0 hb (by omega)
    rw [← hct3, List.getElem?_take, if_pos (by omega), Nat.add_zero] at this
    rw [this]; rfl
  have qa : w5.cell? ⟨g6, a * 3, none⟩ = some (.string ⟨x[a].name.toArray⟩) := by
    refine hA6.cell ?_
    have := pcs_at x a 0 ha (by omega)
    rw [← hct6, List.getElem?_take, if_pos (by omega), Nat.add_zero] at this
    rw [this]; rfl
  have hcs6 : (cs6.set (a * 3) (.string ⟨x[b].name.toArray⟩)).take (x.length * 3) = pcs (x.set a { x[a] with name := x[b].name }) := by
    rw [← pcs_set x a x[b].name ha, ← hct6, List.take_set]
  have hA6' := hA6.set (k := a * 3) (by rw [hcl6]; omega) (.string ⟨x[b].name.toArray⟩)
  have qf := hA6.frozen (a * 3)
  have hsl : (x.set a { x[a] with name := x[b].name }).length = x.length := by simp
  have hr6 := Rd.of_arr hA6' (xs := pcs (x.set a { x[a] with name := x[b].name })) (by rw [pcs_len, hsl]) hcs6
  have HS6 := Lib.hid hcs6
  have HSL := Lib.hid hsl
  have hy6 : a ≠ b → chk (x.set a { x[a] with name := x[b].name }) = 6 := HSET.out a b ha hb
  have HFY : PartsOk (x.set a { x[a] with name := x[b].name }) := fun p hp => by
    rcases List.mem_or_eq_of_mem_set hp with h | h
    · exact HOK3.out p h
    · subst h
      have h1 := HOK3.out _ (List.getElem_mem ha)
      have h2 := HOK3.out _ (List.getElem_mem hb)
      exact ⟨h2.1, h1.2.1, h1.2.2⟩
  have HY6 := Lib.hid hy6
  have HFY' := Lib.hid HFY
  have HCT6 := Lib.hid hct6
  have HCT3 := Lib.hid hct3
  have hr5x := hr5.other (g := g6) (k := a * 3) (by have := hr5.2 hx0; have := hA5.lt; have h4 := hb4.size; have := hA3.below hb4; have := this.lt; omega) (.string ⟨x[b].name.toArray⟩)
  clear hcs6 hsl hy6 HFY hct6 hct3 HSET
  generalize x.set a { x[a] with name := x[b].name } = y6 at *
  generalize x[b].name = nb at *
  generalize x[a].name = na at *
  have ham : (a : Int) < (x.length : Int) := by omega
  have hbm : (b : Int) < (x.length : Int) := by omega
  have hb56 := Below.setCell (p := ⟨g6, a * 3, none⟩) hb25 (by show w.heap.size ≤ g6; have := hb4.size; have := hb13.size; omega) (.string ⟨nb.toArray⟩)
  have hlt3 : g3 < w5.heap.size := hA5.lt
  by_cases hab : a = b
  · have hne : ((a : Int) != (b : Int)) = false := by simp [hab]
    clear hab
    repeat' ((fail_if_success at_builtin); (fail_if_success at_make); (first | go_values | go_skip | go_guarded | go_step | go_upon | go_back))
    have hbz := hb56
    have hrz := hr5x
    clear hb56 hr5x
    generalize w5.setCell ⟨g6, a * 3, none⟩ (.string ⟨nb.toArray⟩) = wz at *
    have hrp := hrz.pre (k := 1) (by omega)
    rw [show 1 * 3 = 1 * 3 from rfl, pcs_take] at hrp
    have hp0 : x.take 1 = [x[0]] := by
      cases x with
      | nil => simp at hx0
      | cons p r => rfl
    rw [hp0] at hrp
    have HTW0 := HTW
    have HOKP := Lib.hid (show PartsOk [x[0], x[0]] from fun p hp => by
      simp at hp; subst hp; exact HOK3.out _ (List.getElem_mem hx0))
    clear hp0 hrz HTW HOK3 HZ
    generalize x[0] = p0 at *
    obtain ⟨_, _, he, hbl, hcl⟩ := hrp.2 (by omega)
    cases he
    have d0 := hcl 0 _ rfl
    have d1 := hcl 1 _ rfl
    have d2 := hcl 2 _ rfl
    have HR1 := Lib.hid (show ∀ W, Below wz.heap.size wz W → Rd W 3 (some ⟨g3, 0, none⟩) 1 (pcs [p0]) from fun W h => hrp.below h)
    obtain ⟨s0, hs0⟩ : ∃ s : ByteArray, s = ⟨p0.name.toArray⟩ := ⟨_, rfl⟩
    obtain ⟨t0, ht0⟩ : ∃ s : ByteArray, s = ⟨p0.dig.toArray⟩ := ⟨_, rfl⟩
    obtain ⟨z0, hz0⟩ : ∃ z : Int, z = (p0.size : Int) := ⟨_, rfl⟩
    rw [← hs0] at d0
    rw [← ht0] at d1
    rw [← hz0] at d2
    rw [Nat.zero_add] at d0 d1 d2
    have hpc : pcs [p0] = [.string s0, .string t0, .int .i64 z0] := by rw [hs0, ht0, hz0]; rfl
    have HMK := Lib.hid (show ∀ W, Below wz.heap.size wz W → W.cell? ⟨g3, 0, none⟩ = some (.string s0) ∧ W.cell? ⟨g3, 1, none⟩ = some (.string t0) ∧ W.cell? ⟨g3, 2, none⟩ = some (.int .i64 z0) from fun W h => ⟨(h.cell (p := ⟨g3, 0, none⟩) hbl).trans d0, (h.cell (p := ⟨g3, 1, none⟩) hbl).trans d1, (h.cell (p := ⟨g3, 2, none⟩) hbl).trans d2⟩)
    have HPC := Lib.hid hpc
    have hc31 : (1 : Int) ≤ (cap3 : Int) := by omega
    clear hrp hcl d0 d1 d2 hs0 ht0 hz0 hpc
    --HELD
    refine wp_region_held_drew (S := (fun w' => w'.cell? ⟨g3, 0, none⟩ = some (.string s0) ∧ w'.cell? ⟨g3, 1, none⟩ = some (.string t0) ∧ w'.cell? ⟨g3, 2, none⟩ = some (.int .i64 z0))) (by kernel_rfl) ?_ (fun hHeld => ?_)
    · exact HMK.out _ (Below.refl _ wz).drew
    have hB := (Below.refl wz.heap.size wz).drew
    generalize wz.drew = wn0 at *
    refine wpAnyH_take (i := 0) (oi := _) (v := ?_) rfl (by kernel_rfl) (by kernel_rfl) (by kernel_rfl) (fun _ _ _ h => h) (Or.inl ⟨by rfl, ?_⟩) (by assumption) ?_
    rotate_left
    · (intro w hSw; (try dsimp only at hSw); go_simp; try (with_reducible rfl))
    try simp only [Act.put, List.setIfInBounds_toArray, List.set_cons_zero, List.set_cons_succ]
    refine wpAnyH_take (i := 1) (oi := _) (v := ?_) rfl (by kernel_rfl) (by kernel_rfl) (by kernel_rfl) (fun _ _ _ h => h) (Or.inl ⟨by rfl, ?_⟩) (by assumption) ?_
    rotate_left
    · (intro w hSw; (try dsimp only at hSw); go_simp; try (with_reducible rfl))
    try simp only [Act.put, List.setIfInBounds_toArray, List.set_cons_zero, List.set_cons_succ]
    refine wpAnyH_take (i := 3) (oi := _) (v := ?_) rfl (by kernel_rfl) (by kernel_rfl) (by kernel_rfl) (fun _ _ _ h => h) (Or.inl ⟨by rfl, ?_⟩) (by assumption) ?_
    rotate_left
    · (intro w hSw; (try dsimp only at hSw); go_simp; try (with_reducible rfl))
    try simp only [Act.put, List.setIfInBounds_toArray, List.set_cons_zero, List.set_cons_succ]
    refine wpAnyH_take (i := 4) (oi := _) (v := ?_) rfl (by kernel_rfl) (by kernel_rfl) (by kernel_rfl) (fun _ _ _ h => h) (Or.inl ⟨by rfl, ?_⟩) (by assumption) ?_
    rotate_left
    · (intro w hSw; (try dsimp only at hSw); go_simp; try (with_reducible rfl))
    try simp only [Act.put, List.setIfInBounds_toArray, List.set_cons_zero, List.set_cons_succ]
    refine wpAnyH_take (i := 5) (oi := _) (v := ?_) rfl (by kernel_rfl) (by kernel_rfl) (by kernel_rfl) (fun _ _ _ h => h) (Or.inl ⟨by rfl, ?_⟩) (by assumption) ?_
    rotate_left
    · (intro w hSw; (try dsimp only at hSw); go_simp; try (with_reducible rfl))
    try simp only [Act.put, List.setIfInBounds_toArray, List.set_cons_zero, List.set_cons_succ]
    refine wpAnyH_ready (rs := [2, 6]) (by kernel_rfl) (by simp) ?_
    refine AllReadyH.cons (o := _) rfl (fun K hK => ?_) ?_
    ·
      go_simp
      refine (ClonePart_ok (some ⟨g3, 0, none⟩) 1 cap3 (pcs [p0]) wn0 (by omega) (HR1.out _ hB) (pcs_one [p0])).mono ?_
      rintro e_ w_ ⟨v7, rfl, ho7, hb7⟩
      dsimp only
      refine outG hK ?_ (Below wn0.heap.size wn0) (fun W => W.ownsRow wz.heap.size 46 3 v7 1 (pcs [p0])) ?_ ?_ (fun wn1 hHeld hst hnew => ?_)
      · ((try dsimp only); exact HMK.out _ (hB.trans (Below.mono (show Below wn0.heap.size wn0 _ from by (first | exact (Below.refl _ _).alloc (Nat.le_refl _) _ | exact hb7 | exact hb8 | exact Below.refl _ _)) hB.size)))
      · (first | exact (Below.refl _ _).alloc (Nat.le_refl _) _ | exact hb7 | exact hb8 | exact Below.refl _ _)
      · (exact own_lower ho7 hB.size)
      have hB := hB.trans (hst.mono hB.size)
      have h2 := hnew
      clear hst
      clear hK K
      try simp only [Act.put, List.setIfInBounds_toArray, List.set_cons_zero, List.set_cons_succ]
      refine wpAnyH_ready (rs := [6]) (by kernel_rfl) (by simp) ?_
      refine AllReadyH.cons (o := _) rfl (fun K hK => ?_) ?_
      ·
        go_simp
        refine outG hK ?_ (Below wn1.heap.size wn1) (fun W => Rd W 3 (some ⟨wn1.heap.size, 0, none⟩) 1 (pcs [p0])) ?_ ?_ (fun wn2 hHeld hst hnew => ?_)
        · ((try dsimp only); exact HMK.out _ (hB.trans (Below.mono (show Below wn1.heap.size wn1 _ from by (first | exact (Below.refl _ _).alloc (Nat.le_refl _) _ | exact hb7 | exact hb8 | exact Below.refl _ _)) hB.size)))
        · (first | exact (Below.refl _ _).alloc (Nat.le_refl _) _ | exact hb7 | exact hb8 | exact Below.refl _ _)
        · (rw [HPC.out]; exact Rd.newN [.string s0, .string t0, .int .i64 z0] rfl)
        have h2 := own_below h2 hst
        have hB := hB.trans (hst.mono hB.size)
        have h6 := hnew
        clear hst
        clear hK K
        try simp only [Act.put, List.setIfInBounds_toArray, List.set_cons_zero, List.set_cons_succ]
        refine wpAnyH_ready (rs := [7]) (by kernel_rfl) (by simp) ?_
        refine AllReadyH.cons (o := _) rfl (fun K hK => ?_) ?_
        ·
          refine step_ap rfl (.tmp 53) (.tmp 57) rfl elPart (by rfl) h2 (by rfl) h6 (pcs_one _) (by omega) hB.size ?_
          intro v9 w9 ho9 hg9 _
          refine outG hK ?_ (fun W => ∃ g cap, v9 = .slice (some ⟨g, 0, none⟩) 2 cap ∧ 2 ≤ cap ∧ cap ≤ maxLen ∧ Rd W 3 (some ⟨g, 0, none⟩) 2 (pcs [p0, p0])) (Below wz.heap.size wz) ?_ ?_ (fun wn3 hHeld hF hB => ?_)
          · exact HMK.out _ (below_own hB h2 (Nat.le_refl _) hg9)
          · obtain ⟨g, cap, _, rfl, _, _, h1, h1', _⟩ := own_ex ho9 (by omega)
            exact ⟨g, cap, rfl, h1, h1', Rd.of_own ho9⟩
          · exact below_own hB h2 (Nat.le_refl _) hg9
          clear hK K
          try simp only [Act.put, List.setIfInBounds_toArray, List.set_cons_zero, List.set_cons_succ]
          refine wpAnyH_ready (rs := [8]) (by kernel_rfl) (by simp) ?_
          refine AllReadyH.cons (o := _) rfl (fun K hK => ?_) ?_
          ·
            obtain ⟨g10, cap10, rfl, hc10, hm10, hr10⟩ := hF
            go_simp
            refine (Encode_six (some ⟨g10, 0, none⟩) 2 cap10 [p0, p0] wn3 rfl hc10 (by omega) HOKP.out hr10 HTW0.out).mono ?_
            rintro e_ w_ ⟨rfl, hb8⟩
            dsimp only
            refine outG hK ?_ (Below wn3.heap.size wn3) (fun W => True) ?_ ?_ (fun wn4 hHeld hst hnew => ?_)
            · ((try dsimp only); exact HMK.out _ (hB.trans (Below.mono (show Below wn3.heap.size wn3 _ from by (first | exact (Below.refl _ _).alloc (Nat.le_refl _) _ | exact hb7 | exact hb8 | exact Below.refl _ _)) hB.size)))
            · (first | exact (Below.refl _ _).alloc (Nat.le_refl _) _ | exact hb7 | exact hb8 | exact Below.refl _ _)
            · (trivial)
            have hB := hB.trans (hst.mono hB.size)
            clear hst
            clear hK K
            try simp only [Act.put, List.setIfInBounds_toArray, List.set_cons_zero, List.set_cons_succ]
            refine wpAnyH_take (i := 9) (oi := _) (v := ?_) rfl (by kernel_rfl) (by kernel_rfl) (by kernel_rfl) (fun _ _ _ h => h) (Or.inl ⟨by rfl, ?_⟩) (by assumption) ?_
            rotate_left
            · (intro w hSw; (try dsimp only at hSw); go_simp; try (with_reducible rfl))
            try simp only [Act.put, List.setIfInBounds_toArray, List.set_cons_zero, List.set_cons_succ]
            refine wpAnyH_take (i := 10) (oi := _) (v := ?_) rfl (by kernel_rfl) (by kernel_rfl) (by kernel_rfl) (fun _ _ _ h => h) (Or.inl ⟨by rfl, ?_⟩) (by assumption) ?_
            rotate_left
            · (intro w hSw; (try dsimp only at hSw); go_simp; try (with_reducible rfl))
            try simp only [Act.put, List.setIfInBounds_toArray, List.set_cons_zero, List.set_cons_succ]
            refine wpAnyH_take (i := 11) (oi := _) (v := ?_) rfl (by kernel_rfl) (by kernel_rfl) (by kernel_rfl) (fun _ _ _ h => h) (Or.inl ⟨by rfl, ?_⟩) (by assumption) ?_
            rotate_left
            · (intro w hSw; (try dsimp only at hSw); go_simp; try (with_reducible rfl))
            try simp only [Act.put, List.setIfInBounds_toArray, List.set_cons_zero, List.set_cons_succ]
            refine wpAnyH_take (i := 12) (oi := _) (v := ?_) rfl (by kernel_rfl) (by kernel_rfl) (by kernel_rfl) (fun _ _ _ h => h) (Or.inl ⟨by rfl, ?_⟩) (by assumption) ?_
            rotate_left
            · (intro w hSw; (try dsimp only at hSw); go_simp; try (with_reducible rfl))
            try simp only [Act.put, List.setIfInBounds_toArray, List.set_cons_zero, List.set_cons_succ]
            refine wpAnyH_take (i := 13) (oi := _) (v := ?_) rfl (by kernel_rfl) (by kernel_rfl) (by kernel_rfl) (fun _ _ _ h => h) (Or.inl ⟨by rfl, ?_⟩) (by assumption) ?_
            rotate_left
            · (intro w hSw; (try dsimp only at hSw); go_simp; try (with_reducible rfl))
            try simp only [Act.put, List.setIfInBounds_toArray, List.set_cons_zero, List.set_cons_succ]
            refine wpAnyH_done (by kernel_rfl) ?_ _
            have hfin := hbz.trans (hB.mono hbz.size)
            clear hHeld hB
            repeat' ((fail_if_success at_builtin); (fail_if_success at_make); (first | go_values | go_skip | go_guarded | go_step | go_upon | go_back))
            go_ret
            exact ⟨rfl, hfin⟩
          exact AllReadyH.nil
        exact AllReadyH.nil
      exact AllReadyH.nil
    refine AllReadyH.cons (o := _) rfl (fun K hK => ?_) ?_
    ·
      go_simp
      refine outG hK ?_ (Below wn0.heap.size wn0) (fun W => Rd W 3 (some ⟨wn0.heap.size, 0, none⟩) 1 (pcs [p0])) ?_ ?_ (fun wn5 hHeld hst hnew => ?_)
      · ((try dsimp only); exact HMK.out _ (hB.trans (Below.mono (show Below wn0.heap.size wn0 _ from by (first | exact (Below.refl _ _).alloc (Nat.le_refl _) _ | exact hb7 | exact hb8 | exact Below.refl _ _)) hB.size)))
      · (first | exact (Below.refl _ _).alloc (Nat.le_refl _) _ | exact hb7 | exact hb8 | exact Below.refl _ _)
      · (rw [HPC.out]; exact Rd.newN [.string s0, .string t0, .int .i64 z0] rfl)
      have hB := hB.trans (hst.mono hB.size)
      have h6 := hnew
      clear hst
      clear hK K
      try simp only [Act.put, List.setIfInBounds_toArray, List.set_cons_zero, List.set_cons_succ]
      refine wpAnyH_ready (rs := [2]) (by kernel_rfl) (by simp) ?_
      refine AllReadyH.cons (o := _) rfl (fun K hK => ?_) ?_
      ·
        go_simp
        refine (ClonePart_ok (some ⟨g3, 0, none⟩) 1 cap3 (pcs [p0]) wn5 (by omega) (HR1.out _ hB) (pcs_one [p0])).mono ?_
        rintro e_ w_ ⟨v7, rfl, ho7, hb7⟩
        dsimp only
        refine outG hK ?_ (Below wn5.heap.size wn5) (fun W => W.ownsRow wz.heap.size 46 3 v7 1 (pcs [p0])) ?_ ?_ (fun wn6 hHeld hst hnew => ?_)
        · ((try dsimp only); exact HMK.out _ (hB.trans (Below.mono (show Below wn5.heap.size wn5 _ from by (first | exact (Below.refl _ _).alloc (Nat.le_refl _) _ | exact hb7 | exact hb8 | exact Below.refl _ _)) hB.size)))
        · (first | exact (Below.refl _ _).alloc (Nat.le_refl _) _ | exact hb7 | exact hb8 | exact Below.refl _ _)
        · (exact own_lower ho7 hB.size)
        have h6 := h6.below hst
        have hB := hB.trans (hst.mono hB.size)
        have h2 := hnew
        clear hst
        clear hK K
        try simp only [Act.put, List.setIfInBounds_toArray, List.set_cons_zero, List.set_cons_succ]
        refine wpAnyH_ready (rs := [7]) (by kernel_rfl) (by simp) ?_
        refine AllReadyH.cons (o := _) rfl (fun K hK => ?_) ?_
        ·
          refine step_ap rfl (.tmp 53) (.tmp 57) rfl elPart (by rfl) h2 (by rfl) h6 (pcs_one _) (by omega) hB.size ?_
          intro v9 w9 ho9 hg9 _
          refine outG hK ?_ (fun W => ∃ g cap, v9 = .slice (some ⟨g, 0, none⟩) 2 cap ∧ 2 ≤ cap ∧ cap ≤ maxLen ∧ Rd W 3 (some ⟨g, 0, none⟩) 2 (pcs [p0, p0])) (Below wz.heap.size wz) ?_ ?_ (fun wn7 hHeld hF hB => ?_)
          · exact HMK.out _ (below_own hB h2 (Nat.le_refl _) hg9)
          · obtain ⟨g, cap, _, rfl, _, _, h1, h1', _⟩ := own_ex ho9 (by omega)
            exact ⟨g, cap, rfl, h1, h1', Rd.of_own ho9⟩
          · exact below_own hB h2 (Nat.le_refl _) hg9
          clear hK K
          try simp only [Act.put, List.setIfInBounds_toArray, List.set_cons_zero, List.set_cons_succ]
          refine wpAnyH_ready (rs := [8]) (by kernel_rfl) (by simp) ?_
          refine AllReadyH.cons (o := _) rfl (fun K hK => ?_) ?_
          ·
            obtain ⟨g10, cap10, rfl, hc10, hm10, hr10⟩ := hF
            go_simp
            refine (Encode_six (some ⟨g10, 0, none⟩) 2 cap10 [p0, p0] wn7 rfl hc10 (by omega) HOKP.out hr10 HTW0.out).mono ?_
            rintro e_ w_ ⟨rfl, hb8⟩
            dsimp only
            refine outG hK ?_ (Below wn7.heap.size wn7) (fun W => True) ?_ ?_ (fun wn8 hHeld hst hnew => ?_)
            · ((try dsimp only); exact HMK.out _ (hB.trans (Below.mono (show Below wn7.heap.size wn7 _ from by (first | exact (Below.refl _ _).alloc (Nat.le_refl _) _ | exact hb7 | exact hb8 | exact Below.refl _ _)) hB.size)))
            · (first | exact (Below.refl _ _).alloc (Nat.le_refl _) _ | exact hb7 | exact hb8 | exact Below.refl _ _)
            · (trivial)
            have hB := hB.trans (hst.mono hB.size)
            clear hst
            clear hK K
            try simp only [Act.put, List.setIfInBounds_toArray, List.set_cons_zero, List.set_cons_succ]
            refine wpAnyH_take (i := 9) (oi := _) (v := ?_) rfl (by kernel_rfl) (by kernel_rfl) (by kernel_rfl) (fun _ _ _ h => h) (Or.inl ⟨by rfl, ?_⟩) (by assumption) ?_
            rotate_left
            · (intro w hSw; (try dsimp only at hSw); go_simp; try (with_reducible rfl))
            try simp only [Act.put, List.setIfInBounds_toArray, List.set_cons_zero, List.set_cons_succ]
            refine wpAnyH_take (i := 10) (oi := _) (v := ?_) rfl (by kernel_rfl) (by kernel_rfl) (by kernel_rfl) (fun _ _ _ h => h) (Or.inl ⟨by rfl, ?_⟩) (by assumption) ?_
            rotate_left
            · (intro w hSw; (try dsimp only at hSw); go_simp; try (with_reducible rfl))
            try simp only [Act.put, List.setIfInBounds_toArray, List.set_cons_zero, List.set_cons_succ]
            refine wpAnyH_take (i := 11) (oi := _) (v := ?_) rfl (by kernel_rfl) (by kernel_rfl) (by kernel_rfl) (fun _ _ _ h => h) (Or.inl ⟨by rfl, ?_⟩) (by assumption) ?_
            rotate_left
            · (intro w hSw; (try dsimp only at hSw); go_simp; try (with_reducible rfl))
            try simp only [Act.put, List.setIfInBounds_toArray, List.set_cons_zero, List.set_cons_succ]
            refine wpAnyH_take (i := 12) (oi := _) (v := ?_) rfl (by kernel_rfl) (by kernel_rfl) (by kernel_rfl) (fun _ _ _ h => h) (Or.inl ⟨by rfl, ?_⟩) (by assumption) ?_
            rotate_left
            · (intro w hSw; (try dsimp only at hSw); go_simp; try (with_reducible rfl))
            try simp only [Act.put, List.setIfInBounds_toArray, List.set_cons_zero, List.set_cons_succ]
            refine wpAnyH_take (i := 13) (oi := _) (v := ?_) rfl (by kernel_rfl) (by kernel_rfl) (by kernel_rfl) (fun _ _ _ h => h) (Or.inl ⟨by rfl, ?_⟩) (by assumption) ?_
            rotate_left
            · (intro w hSw; (try dsimp only at hSw); go_simp; try (with_reducible rfl))
            try simp only [Act.put, List.setIfInBounds_toArray, List.set_cons_zero, List.set_cons_succ]
            refine wpAnyH_done (by kernel_rfl) ?_ _
            have hfin := hbz.trans (hB.mono hbz.size)
            clear hHeld hB
            repeat' ((fail_if_success at_builtin); (fail_if_success at_make); (first | go_values | go_skip | go_guarded | go_step | go_upon | go_back))
            go_ret
            exact ⟨rfl, hfin⟩
          exact AllReadyH.nil
        exact AllReadyH.nil
      exact AllReadyH.nil
    exact AllReadyH.nil
    --HELDEND
  · have hne : ((a : Int) != (b : Int)) = true := by rw [bne_iff_ne]; omega
    have HAB := Lib.hid hab
    clear hab
    repeat' ((fail_if_success at_builtin); (fail_if_success at_make); (first | go_values | go_skip | go_guarded | go_step | go_upon | go_back))
    refine ((Check_six _ x.length cap6 y6 _ HSL.out hcap6 (by omega) HFY'.out hr6 (HY6.out HAB.out))).mono ?_; rintro e_ wz ⟨rfl, hb7⟩; dsimp only
    have hbz := hb56.trans (hb7.mono hb56.size)
    have hrz := hr5x.below hb7
    clear hb56 hr5x hb7
    repeat' ((fail_if_success at_builtin); (fail_if_success at_make); (first | go_values | go_skip | go_guarded | go_step | go_upon | go_back))
    have hrp := hrz.pre (k := 1) (by omega)
    rw [show 1 * 3 = 1 * 3 from rfl, pcs_take] at hrp
    have hp0 : x.take 1 = [x[0]] := by
      cases x with
      | nil => simp at hx0
      | cons p r => rfl
    rw [hp0] at hrp
    have HTW0 := HTW
    have HOKP := Lib.hid (show PartsOk [x[0], x[0]] from fun p hp => by
      simp at hp; subst hp; exact HOK3.out _ (List.getElem_mem hx0))
    clear hp0 hrz HTW HOK3 HZ
    generalize x[0] = p0 at *
    obtain ⟨_, _, he, hbl, hcl⟩ := hrp.2 (by omega)
    cases he
    have d0 := hcl 0 _ rfl
    have d1 := hcl 1 _ rfl
    have d2 := hcl 2 _ rfl
    have HR1 := Lib.hid (show ∀ W, Below wz.heap.size wz W → Rd W 3 (some ⟨g3, 0, none⟩) 1 (pcs [p0]) from fun W h => hrp.below h)
    obtain ⟨s0, hs0⟩ : ∃ s : ByteArray, s = ⟨p0.name.toArray⟩ := ⟨_, rfl⟩
    obtain ⟨t0, ht0⟩ : ∃ s : ByteArray, s = ⟨p0.dig.toArray⟩ := ⟨_, rfl⟩
    obtain ⟨z0, hz0⟩ : ∃ z : Int, z = (p0.size : Int) := ⟨_, rfl⟩
    rw [← hs0] at d0
    rw [← ht0] at d1
    rw [← hz0] at d2
    rw [Nat.zero_add] at d0 d1 d2
    have hpc : pcs [p0] = [.string s0, .string t0, .int .i64 z0] := by rw [hs0, ht0, hz0]; rfl
    have HMK := Lib.hid (show ∀ W, Below wz.heap.size wz W → W.cell? ⟨g3, 0, none⟩ = some (.string s0) ∧ W.cell? ⟨g3, 1, none⟩ = some (.string t0) ∧ W.cell? ⟨g3, 2, none⟩ = some (.int .i64 z0) from fun W h => ⟨(h.cell (p := ⟨g3, 0, none⟩) hbl).trans d0, (h.cell (p := ⟨g3, 1, none⟩) hbl).trans d1, (h.cell (p := ⟨g3, 2, none⟩) hbl).trans d2⟩)
    have HPC := Lib.hid hpc
    have hc31 : (1 : Int) ≤ (cap3 : Int) := by omega
    clear hrp hcl d0 d1 d2 hs0 ht0 hz0 hpc
    --HELD
    refine wp_region_held_drew (S := (fun w' => w'.cell? ⟨g3, 0, none⟩ = some (.string s0) ∧ w'.cell? ⟨g3, 1, none⟩ = some (.string t0) ∧ w'.cell? ⟨g3, 2, none⟩ = some (.int .i64 z0))) (by kernel_rfl) ?_ (fun hHeld => ?_)
    · exact HMK.out _ (Below.refl _ wz).drew
    have hB := (Below.refl wz.heap.size wz).drew
    generalize wz.drew = wn0 at *
    refine wpAnyH_take (i := 0) (oi := _) (v := ?_) rfl (by kernel_rfl) (by kernel_rfl) (by kernel_rfl) (fun _ _ _ h => h) (Or.inl ⟨by rfl, ?_⟩) (by assumption) ?_
    rotate_left
    · (intro w hSw; (try dsimp only at hSw); go_simp; try (with_reducible rfl))
    try simp only [Act.put, List.setIfInBounds_toArray, List.set_cons_zero, List.set_cons_succ]
    refine wpAnyH_take (i := 1) (oi := _) (v := ?_) rfl (by kernel_rfl) (by kernel_rfl) (by kernel_rfl) (fun _ _ _ h => h) (Or.inl ⟨by rfl, ?_⟩) (by assumption) ?_
    rotate_left
    · (intro w hSw; (try dsimp only at hSw); go_simp; try (with_reducible rfl))
    try simp only [Act.put, List.setIfInBounds_toArray, List.set_cons_zero, List.set_cons_succ]
    refine wpAnyH_take (i := 3) (oi := _) (v := ?_) rfl (by kernel_rfl) (by kernel_rfl) (by kernel_rfl) (fun _ _ _ h => h) (Or.inl ⟨by rfl, ?_⟩) (by assumption) ?_
    rotate_left
    · (intro w hSw; (try dsimp only at hSw); go_simp; try (with_reducible rfl))
    try simp only [Act.put, List.setIfInBounds_toArray, List.set_cons_zero, List.set_cons_succ]
    refine wpAnyH_take (i := 4) (oi := _) (v := ?_) rfl (by kernel_rfl) (by kernel_rfl) (by kernel_rfl) (fun _ _ _ h => h) (Or.inl ⟨by rfl, ?_⟩) (by assumption) ?_
    rotate_left
    · (intro w hSw; (try dsimp only at hSw); go_simp; try (with_reducible rfl))
    try simp only [Act.put, List.setIfInBounds_toArray, List.set_cons_zero, List.set_cons_succ]
    refine wpAnyH_take (i := 5) (oi := _) (v := ?_) rfl (by kernel_rfl) (by kernel_rfl) (by kernel_rfl) (fun _ _ _ h => h) (Or.inl ⟨by rfl, ?_⟩) (by assumption) ?_
    rotate_left
    · (intro w hSw; (try dsimp only at hSw); go_simp; try (with_reducible rfl))
    try simp only [Act.put, List.setIfInBounds_toArray, List.set_cons_zero, List.set_cons_succ]
    refine wpAnyH_ready (rs := [2, 6]) (by kernel_rfl) (by simp) ?_
    refine AllReadyH.cons (o := _) rfl (fun K hK => ?_) ?_
    ·
      go_simp
      refine (ClonePart_ok (some ⟨g3, 0, none⟩) 1 cap3 (pcs [p0]) wn0 (by omega) (HR1.out _ hB) (pcs_one [p0])).mono ?_
      rintro e_ w_ ⟨v7, rfl, ho7, hb7⟩
      dsimp only
      refine outG hK ?_ (Below wn0.heap.size wn0) (fun W => W.ownsRow wz.heap.size 46 3 v7 1 (pcs [p0])) ?_ ?_ (fun wn1 hHeld hst hnew => ?_)
      · ((try dsimp only); exact HMK.out _ (hB.trans (Below.mono (show Below wn0.heap.size wn0 _ from by (first | exact (Below.refl _ _).alloc (Nat.le_refl _) _ | exact hb7 | exact hb8 | exact Below.refl _ _)) hB.size)))
      · (first | exact (Below.refl _ _).alloc (Nat.le_refl _) _ | exact hb7 | exact hb8 | exact Below.refl _ _)
      · (exact own_lower ho7 hB.size)
      have hB := hB.trans (hst.mono hB.size)
      have h2 := hnew
      clear hst
      clear hK K
      try simp only [Act.put, List.setIfInBounds_toArray, List.set_cons_zero, List.set_cons_succ]
      refine wpAnyH_ready (rs := [6]) (by kernel_rfl) (by simp) ?_
      refine AllReadyH.cons (o := _) rfl (fun K hK => ?_) ?_
      ·
        go_simp
        refine outG hK ?_ (Below wn1.heap.size wn1) (fun W => Rd W 3 (some ⟨wn1.heap.size, 0, none⟩) 1 (pcs [p0])) ?_ ?_ (fun wn2 hHeld hst hnew => ?_)
        · ((try dsimp only); exact HMK.out _ (hB.trans (Below.mono (show Below wn1.heap.size wn1 _ from by (first | exact (Below.refl _ _).alloc (Nat.le_refl _) _ | exact hb7 | exact hb8 | exact Below.refl _ _)) hB.size)))
        · (first | exact (Below.refl _ _).alloc (Nat.le_refl _) _ | exact hb7 | exact hb8 | exact Below.refl _ _)
        · (rw [HPC.out]; exact Rd.newN [.string s0, .string t0, .int .i64 z0] rfl)
        have h2 := own_below h2 hst
        have hB := hB.trans (hst.mono hB.size)
        have h6 := hnew
        clear hst
        clear hK K
        try simp only [Act.put, List.setIfInBounds_toArray, List.set_cons_zero, List.set_cons_succ]
        refine wpAnyH_ready (rs := [7]) (by kernel_rfl) (by simp) ?_
        refine AllReadyH.cons (o := _) rfl (fun K hK => ?_) ?_
        ·
          refine step_ap rfl (.tmp 53) (.tmp 57) rfl elPart (by rfl) h2 (by rfl) h6 (pcs_one _) (by omega) hB.size ?_
          intro v9 w9 ho9 hg9 _
          refine outG hK ?_ (fun W => ∃ g cap, v9 = .slice (some ⟨g, 0, none⟩) 2 cap ∧ 2 ≤ cap ∧ cap ≤ maxLen ∧ Rd W 3 (some ⟨g, 0, none⟩) 2 (pcs [p0, p0])) (Below wz.heap.size wz) ?_ ?_ (fun wn3 hHeld hF hB => ?_)
          · exact HMK.out _ (below_own hB h2 (Nat.le_refl _) hg9)
          · obtain ⟨g, cap, _, rfl, _, _, h1, h1', _⟩ := own_ex ho9 (by omega)
            exact ⟨g, cap, rfl, h1, h1', Rd.of_own ho9⟩
          · exact below_own hB h2 (Nat.le_refl _) hg9
          clear hK K
          try simp only [Act.put, List.setIfInBounds_toArray, List.set_cons_zero, List.set_cons_succ]
          refine wpAnyH_ready (rs := [8]) (by kernel_rfl) (by simp) ?_
          refine AllReadyH.cons (o := _) rfl (fun K hK => ?_) ?_
          ·
            obtain ⟨g10, cap10, rfl, hc10, hm10, hr10⟩ := hF
            go_simp
            refine (Encode_six (some ⟨g10, 0, none⟩) 2 cap10 [p0, p0] wn3 rfl hc10 (by omega) HOKP.out hr10 HTW0.out).mono ?_
            rintro e_ w_ ⟨rfl, hb8⟩
            dsimp only
            refine outG hK ?_ (Below wn3.heap.size wn3) (fun W => True) ?_ ?_ (fun wn4 hHeld hst hnew => ?_)
            · ((try dsimp only); exact HMK.out _ (hB.trans (Below.mono (show Below wn3.heap.size wn3 _ from by (first | exact (Below.refl _ _).alloc (Nat.le_refl _) _ | exact hb7 | exact hb8 | exact Below.refl _ _)) hB.size)))
            · (first | exact (Below.refl _ _).alloc (Nat.le_refl _) _ | exact hb7 | exact hb8 | exact Below.refl _ _)
            · (trivial)
            have hB := hB.trans (hst.mono hB.size)
            clear hst
            clear hK K
            try simp only [Act.put, List.setIfInBounds_toArray, List.set_cons_zero, List.set_cons_succ]
            refine wpAnyH_take (i := 9) (oi := _) (v := ?_) rfl (by kernel_rfl) (by kernel_rfl) (by kernel_rfl) (fun _ _ _ h => h) (Or.inl ⟨by rfl, ?_⟩) (by assumption) ?_
            rotate_left
            · (intro w hSw; (try dsimp only at hSw); go_simp; try (with_reducible rfl))
            try simp only [Act.put, List.setIfInBounds_toArray, List.set_cons_zero, List.set_cons_succ]
            refine wpAnyH_take (i := 10) (oi := _) (v := ?_) rfl (by kernel_rfl) (by kernel_rfl) (by kernel_rfl) (fun _ _ _ h => h) (Or.inl ⟨by rfl, ?_⟩) (by assumption) ?_
            rotate_left
            · (intro w hSw; (try dsimp only at hSw); go_simp; try (with_reducible rfl))
            try simp only [Act.put, List.setIfInBounds_toArray, List.set_cons_zero, List.set_cons_succ]
            refine wpAnyH_take (i := 11) (oi := _) (v := ?_) rfl (by kernel_rfl) (by kernel_rfl) (by kernel_rfl) (fun _ _ _ h => h) (Or.inl ⟨by rfl, ?_⟩) (by assumption) ?_
            rotate_left
            · (intro w hSw; (try dsimp only at hSw); go_simp; try (with_reducible rfl))
            try simp only [Act.put, List.setIfInBounds_toArray, List.set_cons_zero, List.set_cons_succ]
            refine wpAnyH_take (i := 12) (oi := _) (v := ?_) rfl (by kernel_rfl) (by kernel_rfl) (by kernel_rfl) (fun _ _ _ h => h) (Or.inl ⟨by rfl, ?_⟩) (by assumption) ?_
            rotate_left
            · (intro w hSw; (try dsimp only at hSw); go_simp; try (with_reducible rfl))
            try simp only [Act.put, List.setIfInBounds_toArray, List.set_cons_zero, List.set_cons_succ]
            refine wpAnyH_take (i := 13) (oi := _) (v := ?_) rfl (by kernel_rfl) (by kernel_rfl) (by kernel_rfl) (fun _ _ _ h => h) (Or.inl ⟨by rfl, ?_⟩) (by assumption) ?_
            rotate_left
            · (intro w hSw; (try dsimp only at hSw); go_simp; try (with_reducible rfl))
            try simp only [Act.put, List.setIfInBounds_toArray, List.set_cons_zero, List.set_cons_succ]
            refine wpAnyH_done (by kernel_rfl) ?_ _
            have hfin := hbz.trans (hB.mono hbz.size)
            clear hHeld hB
            repeat' ((fail_if_success at_builtin); (fail_if_success at_make); (first | go_values | go_skip | go_guarded | go_step | go_upon | go_back))
            go_ret
            exact ⟨rfl, hfin⟩
          exact AllReadyH.nil
        exact AllReadyH.nil
      exact AllReadyH.nil
    refine AllReadyH.cons (o := _) rfl (fun K hK => ?_) ?_
    ·
      go_simp
      refine outG hK ?_ (Below wn0.heap.size wn0) (fun W => Rd W 3 (some ⟨wn0.heap.size, 0, none⟩) 1 (pcs [p0])) ?_ ?_ (fun wn5 hHeld hst hnew => ?_)
      · ((try dsimp only); exact HMK.out _ (hB.trans (Below.mono (show Below wn0.heap.size wn0 _ from by (first | exact (Below.refl _ _).alloc (Nat.le_refl _) _ | exact hb7 | exact hb8 | exact Below.refl _ _)) hB.size)))
      · (first | exact (Below.refl _ _).alloc (Nat.le_refl _) _ | exact hb7 | exact hb8 | exact Below.refl _ _)
      · (rw [HPC.out]; exact Rd.newN [.string s0, .string t0, .int .i64 z0] rfl)
      have hB := hB.trans (hst.mono hB.size)
      have h6 := hnew
      clear hst
      clear hK K
      try simp only [Act.put, List.setIfInBounds_toArray, List.set_cons_zero, List.set_cons_succ]
      refine wpAnyH_ready (rs := [2]) (by kernel_rfl) (by simp) ?_
      refine AllReadyH.cons (o := _) rfl (fun K hK => ?_) ?_
      ·
        go_simp
        refine (ClonePart_ok (some ⟨g3, 0, none⟩) 1 cap3 (pcs [p0]) wn5 (by omega) (HR1.out _ hB) (pcs_one [p0])).mono ?_
        rintro e_ w_ ⟨v7, rfl, ho7, hb7⟩
        dsimp only
        refine outG hK ?_ (Below wn5.heap.size wn5) (fun W => W.ownsRow wz.heap.size 46 3 v7 1 (pcs [p0])) ?_ ?_ (fun wn6 hHeld hst hnew => ?_)
        · ((try dsimp only); exact HMK.out _ (hB.trans (Below.mono (show Below wn5.heap.size wn5 _ from by (first | exact (Below.refl _ _).alloc (Nat.le_refl _) _ | exact hb7 | exact hb8 | exact Below.refl _ _)) hB.size)))
        · (first | exact (Below.refl _ _).alloc (Nat.le_refl _) _ | exact hb7 | exact hb8 | exact Below.refl _ _)
        · (exact own_lower ho7 hB.size)
        have h6 := h6.below hst
        have hB := hB.trans (hst.mono hB.size)
        have h2 := hnew
        clear hst
        clear hK K
        try simp only [Act.put, List.setIfInBounds_toArray, List.set_cons_zero, List.set_cons_succ]
        refine wpAnyH_ready (rs := [7]) (by kernel_rfl) (by simp) ?_
        refine AllReadyH.cons (o := _) rfl (fun K hK => ?_) ?_
        ·
          refine step_ap rfl (.tmp 53) (.tmp 57) rfl elPart (by rfl) h2 (by rfl) h6 (pcs_one _) (by omega) hB.size ?_
          intro v9 w9 ho9 hg9 _
          refine outG hK ?_ (fun W => ∃ g cap, v9 = .slice (some ⟨g, 0, none⟩) 2 cap ∧ 2 ≤ cap ∧ cap ≤ maxLen ∧ Rd W 3 (some ⟨g, 0, none⟩) 2 (pcs [p0, p0])) (Below wz.heap.size wz) ?_ ?_ (fun wn7 hHeld hF hB => ?_)
          · exact HMK.out _ (below_own hB h2 (Nat.le_refl _) hg9)
          · obtain ⟨g, cap, _, rfl, _, _, h1, h1', _⟩ := own_ex ho9 (by omega)
            exact ⟨g, cap, rfl, h1, h1', Rd.of_own ho9⟩
          · exact below_own hB h2 (Nat.le_refl _) hg9
          clear hK K
          try simp only [Act.put, List.setIfInBounds_toArray, List.set_cons_zero, List.set_cons_succ]
          refine wpAnyH_ready (rs := [8]) (by kernel_rfl) (by simp) ?_
          refine AllReadyH.cons (o := _) rfl (fun K hK => ?_) ?_
          ·
            obtain ⟨g10, cap10, rfl, hc10, hm10, hr10⟩ := hF
            go_simp
            refine (Encode_six (some ⟨g10, 0, none⟩) 2 cap10 [p0, p0] wn7 rfl hc10 (by omega) HOKP.out hr10 HTW0.out).mono ?_
            rintro e_ w_ ⟨rfl, hb8⟩
            dsimp only
            refine outG hK ?_ (Below wn7.heap.size wn7) (fun W => True) ?_ ?_ (fun wn8 hHeld hst hnew => ?_)
            · ((try dsimp only); exact HMK.out _ (hB.trans (Below.mono (show Below wn7.heap.size wn7 _ from by (first | exact (Below.refl _ _).alloc (Nat.le_refl _) _ | exact hb7 | exact hb8 | exact Below.refl _ _)) hB.size)))
            · (first | exact (Below.refl _ _).alloc (Nat.le_refl _) _ | exact hb7 | exact hb8 | exact Below.refl _ _)
            · (trivial)
            have hB := hB.trans (hst.mono hB.size)
            clear hst
            clear hK K
            try simp only [Act.put, List.setIfInBounds_toArray, List.set_cons_zero, List.set_cons_succ]
            refine wpAnyH_take (i := 9) (oi := _) (v := ?_) rfl (by kernel_rfl) (by kernel_rfl) (by kernel_rfl) (fun _ _ _ h => h) (Or.inl ⟨by rfl, ?_⟩) (by assumption) ?_
            rotate_left
            · (intro w hSw; (try dsimp only at hSw); go_simp; try (with_reducible rfl))
            try simp only [Act.put, List.setIfInBounds_toArray, List.set_cons_zero, List.set_cons_succ]
            refine wpAnyH_take (i := 10) (oi := _) (v := ?_) rfl (by kernel_rfl) (by kernel_rfl) (by kernel_rfl) (fun _ _ _ h => h) (Or.inl ⟨by rfl, ?_⟩) (by assumption) ?_
            rotate_left
            · (intro w hSw; (try dsimp only at hSw); go_simp; try (with_reducible rfl))
            try simp only [Act.put, List.setIfInBounds_toArray, List.set_cons_zero, List.set_cons_succ]
            refine wpAnyH_take (i := 11) (oi := _) (v := ?_) rfl (by kernel_rfl) (by kernel_rfl) (by kernel_rfl) (fun _ _ _ h => h) (Or.inl ⟨by rfl, ?_⟩) (by assumption) ?_
            rotate_left
            · (intro w hSw; (try dsimp only at hSw); go_simp; try (with_reducible rfl))
            try simp only [Act.put, List.setIfInBounds_toArray, List.set_cons_zero, List.set_cons_succ]
            refine wpAnyH_take (i := 12) (oi := _) (v := ?_) rfl (by kernel_rfl) (by kernel_rfl) (by kernel_rfl) (fun _ _ _ h => h) (Or.inl ⟨by rfl, ?_⟩) (by assumption) ?_
            rotate_left
            · (intro w hSw; (try dsimp only at hSw); go_simp; try (with_reducible rfl))
            try simp only [Act.put, List.setIfInBounds_toArray, List.set_cons_zero, List.set_cons_succ]
            refine wpAnyH_take (i := 13) (oi := _) (v := ?_) rfl (by kernel_rfl) (by kernel_rfl) (by kernel_rfl) (fun _ _ _ h => h) (Or.inl ⟨by rfl, ?_⟩) (by assumption) ?_
            rotate_left
            · (intro w hSw; (try dsimp only at hSw); go_simp; try (with_reducible rfl))
            try simp only [Act.put, List.setIfInBounds_toArray, List.set_cons_zero, List.set_cons_succ]
            refine wpAnyH_done (by kernel_rfl) ?_ _
            have hfin := hbz.trans (hB.mono hbz.size)
            clear hHeld hB
            repeat' ((fail_if_success at_builtin); (fail_if_success at_make); (first | go_values | go_skip | go_guarded | go_step | go_upon | go_back))
            go_ret
            exact ⟨rfl, hfin⟩
          exact AllReadyH.nil
        exact AllReadyH.nil
      exact AllReadyH.nil
    exact AllReadyH.nil
    --HELDEND
end Go.Proofs.Ytkbcpcldjenhiaa
