/- The walk of ActionApart. Conditions: the sizes. -/
import Derived.Test.YtkfipkmkmhkfaaaActO
import Derived.Test.YtkfipkmkmhkfaaaEqP
namespace Go.Proofs.Ytkfipkmkmhkfaaa
open Go.RowKit
set_option linter.unusedVariables false
set_option linter.unusedSimpArgs false
set_option maxRecDepth 100000

theorem own_ne {w : World} {base n g : Nat} {e e' : TypeId} {size : Nat} {v : Value} {xs ys : List Value} (h : w.ownsRow base e size v n xs) (ha : Arr w g e' ys) (hne : e ≠ e') : v.ownBlock ≠ some g := by
  rcases h.2 with ⟨rfl, _⟩ | ⟨g', cap, cur, rfl, _, hg, _⟩
  · simp [Value.ownBlock]
  · intro he
    simp only [Value.ownBlock, Option.some.injEq] at he
    subst he
    have ha' : w.heap[g']? = _ := ha
    rw [hg] at ha'
    simp only [Option.some.injEq, Obj.cells.injEq] at ha'
    exact hne ha'.2.1

set_option maxHeartbeats 40000000 in
theorem ActionApart_walk (r r' : RawP) (A : Option Addr) (n c : Nat) (l : List RawP) (A' : Option Addr) (n' c' : Nat) (l' : List RawP) (w : World) (hro : RawOk r) (hro' : RawOk r') (hl : l.length = n) (hc : n ≤ c) (hm : c ≤ maxLen) (hok : ∀ r ∈ l, RawOk r) (hr : Rd w 4 A n (rcs l))
    (hl' : l'.length = n') (hc' : n' ≤ c') (hm' : c' ≤ maxLen) (hok' : ∀ r ∈ l', RawOk r) (hr' : Rd w 4 A' n' (rcs l')) :
    Calls Try.prog 5 #[rval r, rval r', .slice A n c, .slice A' n' c'] w fun e w' => e = .returned (.bool true) ∧ Below w.heap.size w w' := by
  have HACT := Lib.hid (fun w' hr' => ActOf_ok r A n c l w' hro hl hc hm hok hr')
  have HACT' := Lib.hid (fun w' hr => ActOf_ok r' A' n' c' l' w' hro' hl' hc' hm' hok' hr)
  have hac := cmdOf_ok r l
  have hac' := cmdOf_ok r' l'
  have hx8 := lst_le l
  have hx8' := lst_le l'
  obtain ⟨rk, ra, rb, rt⟩ := r
  obtain ⟨sk, sa, sb, st⟩ := r'
  dsimp only [rval] at HACT HACT' ⊢
  have hcl := cmdOf_len ⟨rk, ra, rb, rt⟩
  have hcl' := cmdOf_len ⟨sk, sa, sb, st⟩
  have hpk := pk_lt ra (m := 50) (by omega)
  have hpk' := pk_lt sa (m := 50) (by omega)
  dsimp only at hcl hcl'
  generalize cmdOf ⟨rk, ra, rb, rt⟩ = C at *
  generalize cmdOf ⟨sk, sa, sb, st⟩ = D at *
  generalize lst l = x at *
  generalize lst l' = y at *
  obtain ⟨S1, hS1⟩ : ∃ S : ByteArray, S = ⟨C.toArray⟩ := ⟨_, rfl⟩
  obtain ⟨S2, hS2⟩ : ∃ S : ByteArray, S = ⟨D.toArray⟩ := ⟨_, rfl⟩
  have hd1 : S1.data.toList = C := by rw [hS1]
  have hd2 : S2.data.toList = D := by rw [hS2]
  have hz1 : S1.size ≤ 140737488351232 := by
    have h2 : S1.data.toList.length = S1.size := by rw [Array.length_toList]; rfl
    rw [hd1] at h2; omega
  have hz2 : S2.size ≤ 140737488351232 := by
    have h2 : S2.data.toList.length = S2.size := by rw [Array.length_toList]; rfl
    rw [hd2] at h2; omega
  have HV := Lib.hid (show ∀ v, actV C v = .agg #[.string S1, v] from fun v => by rw [actV, ← hS1])
  have HV' := Lib.hid (show ∀ v, actV D v = .agg #[.string S2, v] from fun v => by rw [actV, ← hS2])
  have hle1 := (encA_le C x hac).1
  have hle2 := (encA_le D y hac').1
  have HE1 := Lib.hid (fun (A : Option Addr) (c : Nat) (w' : World) (hc : x.length ≤ c) (hr : Rd w' 3 A x.length (pcs x)) => (by
    have h := AEncode_ok S1 A x.length c x w' hz1 rfl hc hr (by rw [hd1]; exact hac)
    rw [hd1] at h; exact h : Calls Try.prog 11 #[.agg #[.string S1, .slice A x.length c]] w' fun e w'' => ∃ A' c', e = .returned (.tuple #[.slice A' (encA C x).length c', .int .i64 0]) ∧ Rd w'' 1 A' (encA C x).length (bys (encA C x)) ∧ (encA C x).length ≤ c' ∧ c' ≤ maxLen ∧ Below w'.heap.size w' w''))
  have HE2 := Lib.hid (fun (A : Option Addr) (c : Nat) (w' : World) (hc : y.length ≤ c) (hr : Rd w' 3 A y.length (pcs y)) => (by
    have h := AEncode_ok S2 A y.length c y w' hz2 rfl hc hr (by rw [hd2]; exact hac')
    rw [hd2] at h; exact h : Calls Try.prog 11 #[.agg #[.string S2, .slice A y.length c]] w' fun e w'' => ∃ A' c', e = .returned (.tuple #[.slice A' (encA D y).length c', .int .i64 0]) ∧ Rd w'' 1 A' (encA D y).length (bys (encA D y)) ∧ (encA D y).length ≤ c' ∧ c' ≤ maxLen ∧ Below w'.heap.size w' w''))
  have HK1 := Lib.hid (fun (A : Option Addr) (c : Nat) (w' : World) (hc : x.length ≤ c) (hr : Rd w' 3 A x.length (pcs x)) => (by
    have h := AKey_ok S1 A x.length c x w' hz1 rfl hc hr (by rw [hd1]; exact hac) (by rw [hd1]; omega)
    rw [hd1] at h; exact h : Calls Try.prog 10 #[.agg #[.string S1, .slice A x.length c]] w' fun e w'' => e = .returned (.tuple #[.string ⟨(shaS (encA C x)).toArray⟩, .int .i64 0]) ∧ Below w'.heap.size w' w''))
  have HK2 := Lib.hid (fun (A : Option Addr) (c : Nat) (w' : World) (hc : y.length ≤ c) (hr : Rd w' 3 A y.length (pcs y)) => (by
    have h := AKey_ok S2 A y.length c y w' hz2 rfl hc hr (by rw [hd2]; exact hac') (by rw [hd2]; omega)
    rw [hd2] at h; exact h : Calls Try.prog 10 #[.agg #[.string S2, .slice A y.length c]] w' fun e w'' => e = .returned (.tuple #[.string ⟨(shaS (encA D y)).toArray⟩, .int .i64 0]) ∧ Below w'.heap.size w' w''))
  have HINJ := Lib.hid (fun (h : encA C x = encA D y) => encA_inj hac hac' h)
  have HSAME := Lib.hid (fun (h : C = D) (h2 : x = y) => (by rw [h, h2] : encA C x = encA D y))
  have HCD := Lib.hid (show S1 = S2 ↔ C = D from by rw [hS1, hS2]; exact str_inj)
  clear hS1 hS2 hd1 hd2 hz1 hz2 hcl hcl' hpk hpk' hac hac'
  generalize encA C x = E1 at *
  generalize encA D y = E2 at *
  obtain ⟨K1, hK1⟩ : ∃ K : ByteArray, K = ⟨(shaS E1).toArray⟩ := ⟨_, rfl⟩
  obtain ⟨K2, hK2⟩ : ∃ K : ByteArray, K = ⟨(shaS E2).toArray⟩ := ⟨_, rfl⟩
  rw [← hK1] at HK1
  rw [← hK2] at HK2
  have HKK := Lib.hid (fun (h : E1 = E2) => (by rw [hK1, hK2, h] : K1 = K2))
  have HKD := Lib.hid hK1
  clear hK1 hK2
  obtain ⟨w0, hw0⟩ : ∃ w0, w0 = w.alloc (.cells #[.int .i64 rk, .int .i64 ra, .int .i64 rb, .string rt] 33) := ⟨_, rfl⟩
  have hb0 : Below w.heap.size w w0 := by rw [hw0]; exact (Below.refl _ _).alloc (Nat.le_refl _) _
  have hA0 : Arr w0 w.heap.size 33 [.int .i64 rk, .int .i64 ra, .int .i64 rb, .string rt] := by rw [hw0]; exact Arr.new w _ _
  have hr0 : Rd w0 4 A n (rcs l) := by rw [hw0]; exact hr.alloc _
  have hr0' : Rd w0 4 A' n' (rcs l') := by rw [hw0]; exact hr'.alloc _
  have hs0 : w0.heap.size = w.heap.size + 1 := by rw [hw0]; exact World.size_alloc _ _
  obtain ⟨w1, hw1⟩ : ∃ w1, w1 = w0.alloc (.cells #[.int .i64 sk, .int .i64 sa, .int .i64 sb, .string st] 33) := ⟨_, rfl⟩
  have hb1 : Below w.heap.size w w1 := by rw [hw1]; exact hb0.alloc hb0.size _
  have hA1 : Arr w1 w.heap.size 33 [.int .i64 rk, .int .i64 ra, .int .i64 rb, .string rt] := by rw [hw1]; exact hA0.alloc _
  have hA1' : Arr w1 w0.heap.size 33 [.int .i64 sk, .int .i64 sa, .int .i64 sb, .string st] := by rw [hw1]; exact Arr.new w0 _ _
  have hr1 : Rd w1 4 A n (rcs l) := by rw [hw1]; exact hr0.alloc _
  have hr1' : Rd w1 4 A' n' (rcs l') := by rw [hw1]; exact hr0'.alloc _
  rw [hs0] at hA1'
  have HW1 := Lib.hid (show (w.alloc (.cells #[.int .i64 rk, .int .i64 ra, .int .i64 rb, .string rt] 33)).alloc (.cells #[.int .i64 sk, .int .i64 sa, .int .i64 sb, .string st] 33) = w1 from by rw [hw1, hw0])
  clear hw1 hw0 hb0 hA0 hr0 hr0' hs0 hro hro' hl hl' hok hok' hr hr'
  go_enter Try.func5, Try.ntmps5
  repeat' ((fail_if_success at_builtin); (fail_if_success at_make); (first | go_values | go_skip | go_guarded | go_step | go_upon | go_back))
  rw [HW1.out]
  obtain ⟨g, hg⟩ : ∃ g, g = w.heap.size := ⟨_, rfl⟩
  obtain ⟨g', hg'⟩ : ∃ g', g' = w.heap.size + 1 := ⟨_, rfl⟩
  rw [← hg'] at hA1' ⊢
  rw [← hg] at hA1 ⊢
  have HMK := Lib.hid (show ∀ W, Below w1.heap.size w1 W → (W.cell? ⟨g, 0, none⟩ = some (.int .i64 rk) ∧ W.cell? ⟨g, 1, none⟩ = some (.int .i64 ra) ∧ W.cell? ⟨g, 2, none⟩ = some (.int .i64 rb) ∧ W.cell? ⟨g, 3, none⟩ = some (.string rt)) ∧ (W.cell? ⟨g', 0, none⟩ = some (.int .i64 sk) ∧ W.cell? ⟨g', 1, none⟩ = some (.int .i64 sa) ∧ W.cell? ⟨g', 2, none⟩ = some (.int .i64 sb) ∧ W.cell? ⟨g', 3, none⟩ = some (.string st)) from fun W hb => by
    have h1 := hA1.below hb
    have h2 := hA1'.below hb
    exact ⟨⟨h1.cell (k := 0) rfl, h1.cell (k := 1) rfl, h1.cell (k := 2) rfl, h1.cell (k := 3) rfl⟩, ⟨h2.cell (k := 0) rfl, h2.cell (k := 1) rfl, h2.cell (k := 2) rfl, h2.cell (k := 3) rfl⟩⟩)
  have HRR := Lib.hid (show ∀ W, Below w1.heap.size w1 W → Rd W 4 A n (rcs l) ∧ Rd W 4 A' n' (rcs l') from fun W hb => ⟨hr1.below hb, hr1'.below hb⟩)
  have HB1 := Lib.hid hb1
  clear hA1 hA1' hr1 hr1' hg hg' hb1
  --HELD
  refine wp_region_held_drew (S := (fun w' => (w'.cell? ⟨g, 0, none⟩ = some (.int .i64 rk) ∧ w'.cell? ⟨g, 1, none⟩ = some (.int .i64 ra) ∧ w'.cell? ⟨g, 2, none⟩ = some (.int .i64 rb) ∧ w'.cell? ⟨g, 3, none⟩ = some (.string rt)) ∧ (w'.cell? ⟨g', 0, none⟩ = some (.int .i64 sk) ∧ w'.cell? ⟨g', 1, none⟩ = some (.int .i64 sa) ∧ w'.cell? ⟨g', 2, none⟩ = some (.int .i64 sb) ∧ w'.cell? ⟨g', 3, none⟩ = some (.string st)))) (by kernel_rfl) ?_ (fun hHeld => ?_)
  · exact HMK.out _ (Below.refl _ w1).drew
  have hB := (Below.refl w1.heap.size w1).drew
  generalize w1.drew = wn0 at *
  refine wpAnyH_take (i := 0) (oi := _) (v := ?_) rfl (by kernel_rfl) (by kernel_rfl) (by kernel_rfl) (fun _ _ _ h => h) (Or.inl ⟨by rfl, ?_⟩) (by assumption) ?_
  rotate_left
  · (intro w hSw; (try dsimp only at hSw); go_simp; try (with_reducible rfl))
  try simp only [List.getElem_toArray, List.getElem_cons_zero, List.getElem_cons_succ, Act.put, List.setIfInBounds_toArray, List.set_cons_zero, List.set_cons_succ]
  refine wpAnyH_take (i := 1) (oi := _) (v := ?_) rfl (by kernel_rfl) (by kernel_rfl) (by kernel_rfl) (fun _ _ _ h => h) (Or.inl ⟨by rfl, ?_⟩) (by assumption) ?_
  rotate_left
  · (intro w hSw; (try dsimp only at hSw); go_simp; try (with_reducible rfl))
  try simp only [List.getElem_toArray, List.getElem_cons_zero, List.getElem_cons_succ, Act.put, List.setIfInBounds_toArray, List.set_cons_zero, List.set_cons_succ]
  refine wpAnyH_take (i := 3) (oi := _) (v := ?_) rfl (by kernel_rfl) (by kernel_rfl) (by kernel_rfl) (fun _ _ _ h => h) (Or.inl ⟨by rfl, ?_⟩) (by assumption) ?_
  rotate_left
  · (intro w hSw; (try dsimp only at hSw); go_simp; try (with_reducible rfl))
  try simp only [List.getElem_toArray, List.getElem_cons_zero, List.getElem_cons_succ, Act.put, List.setIfInBounds_toArray, List.set_cons_zero, List.set_cons_succ]
  refine wpAnyH_take (i := 4) (oi := _) (v := ?_) rfl (by kernel_rfl) (by kernel_rfl) (by kernel_rfl) (fun _ _ _ h => h) (Or.inl ⟨by rfl, ?_⟩) (by assumption) ?_
  rotate_left
  · (intro w hSw; (try dsimp only at hSw); go_simp; try (with_reducible rfl))
  try simp only [List.getElem_toArray, List.getElem_cons_zero, List.getElem_cons_succ, Act.put, List.setIfInBounds_toArray, List.set_cons_zero, List.set_cons_succ]
  refine wpAnyH_ready (rs := [2, 6, 7]) (by kernel_rfl) (by simp) ?_
  refine AllReadyH.cons (o := _) rfl (fun K hK => ?_) ?_
  ·
    go_simp
    refine (HACT.out wn0 (HRR.out _ hB).1).mono ?_
    rintro e2 w2 ⟨v1, rfl, ho2, hb2⟩
    rw [HV.out]
    dsimp only
    refine outG hK ?_ (Below wn0.heap.size wn0) (fun W => W.ownsRow w1.heap.size 45 3 v1 x.length (pcs x)) ?_ ?_ (fun wn1 hHeld hst hnew => ?_)
    · ((try dsimp only); first | exact HMK.out _ (hB.alloc hB.size _) | exact HMK.out _ (hB.trans (hb2.mono hB.size)) | exact HMK.out _ (hB.trans (hb5.mono hB.size)))
    · (first | exact (Below.refl _ _).alloc (Nat.le_refl _) _ | exact hb2 | exact hb5 | exact Below.refl _ _)
    · (exact own_lower ho2 hB.size)
    have hB := hB.trans (hst.mono hB.size)
    have h2 := hnew
    clear hnew
    clear hst
    clear hK K
    try simp only [List.getElem_toArray, List.getElem_cons_zero, List.getElem_cons_succ, Act.put, List.setIfInBounds_toArray, List.set_cons_zero, List.set_cons_succ]
    refine wpAnyH_ready (rs := [5, 6, 7]) (by kernel_rfl) (by simp) ?_
    refine AllReadyH.cons (o := _) rfl (fun K hK => ?_) ?_
    ·
      go_simp
      refine (HACT'.out wn1 (HRR.out _ hB).2).mono ?_
      rintro e5 w5 ⟨v2, rfl, ho5, hb5⟩
      rw [HV'.out]
      dsimp only
      refine outG hK ?_ (Below wn1.heap.size wn1) (fun W => W.ownsRow w1.heap.size 45 3 v2 y.length (pcs y)) ?_ ?_ (fun wn2 hHeld hst hnew => ?_)
      · ((try dsimp only); first | exact HMK.out _ (hB.alloc hB.size _) | exact HMK.out _ (hB.trans (hb2.mono hB.size)) | exact HMK.out _ (hB.trans (hb5.mono hB.size)))
      · (first | exact (Below.refl _ _).alloc (Nat.le_refl _) _ | exact hb2 | exact hb5 | exact Below.refl _ _)
      · (exact own_lower ho5 hB.size)
      have h2 := own_below h2 hst
      have hB := hB.trans (hst.mono hB.size)
      have h5 := hnew
      clear hnew
      clear hst
      clear hK K
      try simp only [List.getElem_toArray, List.getElem_cons_zero, List.getElem_cons_succ, Act.put, List.setIfInBounds_toArray, List.set_cons_zero, List.set_cons_succ]
      refine wpAnyH_ready (rs := [6, 7]) (by kernel_rfl) (by simp) ?_
      refine AllReadyH.cons (o := _) rfl (fun K hK => ?_) ?_
      ·
        go_simp
        refine outG hK ?_ (Below wn2.heap.size wn2) (fun W => Arr W wn2.heap.size 26 [.string ⟨#[]⟩, .slice none 0 0] ∧ wn2.heap.size < W.heap.size ∧ w1.heap.size ≤ wn2.heap.size) ?_ ?_ (fun wn3 hHeld hst hnew => ?_)
        · ((try dsimp only); first | exact HMK.out _ (hB.alloc hB.size _) | exact HMK.out _ (hB.trans (hb2.mono hB.size)) | exact HMK.out _ (hB.trans (hb5.mono hB.size)))
        · (first | exact (Below.refl _ _).alloc (Nat.le_refl _) _ | exact hb2 | exact hb5 | exact Below.refl _ _)
        · (exact ⟨Arr.new _ _ _, by simp, hB.size⟩)
        have h2 := own_below h2 hst
        have h5 := own_below h5 hst
        have hB := hB.trans (hst.mono hB.size)
        obtain ⟨h6, l6, k6⟩ := hnew
        generalize hg6 : wn2.heap.size = g6 at *
        try (have ne67 : g6 ≠ g7 := by omega)
        clear hst
        clear hK K
        try simp only [List.getElem_toArray, List.getElem_cons_zero, List.getElem_cons_succ, Act.put, List.setIfInBounds_toArray, List.set_cons_zero, List.set_cons_succ]
        refine wpAnyH_ready (rs := [7]) (by kernel_rfl) (by simp) ?_
        refine AllReadyH.cons (o := _) rfl (fun K hK => ?_) ?_
        ·
          go_simp
          refine outG hK ?_ (Below wn3.heap.size wn3) (fun W => Arr W wn3.heap.size 26 [.string ⟨#[]⟩, .slice none 0 0] ∧ wn3.heap.size < W.heap.size ∧ w1.heap.size ≤ wn3.heap.size) ?_ ?_ (fun wn4 hHeld hst hnew => ?_)
          · ((try dsimp only); first | exact HMK.out _ (hB.alloc hB.size _) | exact HMK.out _ (hB.trans (hb2.mono hB.size)) | exact HMK.out _ (hB.trans (hb5.mono hB.size)))
          · (first | exact (Below.refl _ _).alloc (Nat.le_refl _) _ | exact hb2 | exact hb5 | exact Below.refl _ _)
          · (exact ⟨Arr.new _ _ _, by simp, hB.size⟩)
          have h2 := own_below h2 hst
          have h5 := own_below h5 hst
          have h6 := h6.below hst
          try (have l6 := Nat.lt_of_lt_of_le l6 hst.size)
          have hB := hB.trans (hst.mono hB.size)
          obtain ⟨h7, l7, k7⟩ := hnew
          generalize hg7 : wn3.heap.size = g7 at *
          try (have ne67 : g6 ≠ g7 := by omega)
          clear hst
          clear hK K
          try simp only [List.getElem_toArray, List.getElem_cons_zero, List.getElem_cons_succ, Act.put, List.setIfInBounds_toArray, List.set_cons_zero, List.set_cons_succ]
          refine wpAnyH_ready (rs := [8]) (by kernel_rfl) (by simp) ?_
          refine AllReadyH.cons (o := _) rfl (fun K hK => ?_) ?_
          ·
            obtain ⟨A1, c1, rfl, hc1, _⟩ := Rd.of_own' h2
            have y0 := h6.cell (k := 0) rfl
            have y1 := h6.cell (k := 1) rfl
            have z0 := h6.frozen 0
            have z1 := h6.frozen 1
            have y2 := (h6.set (k := 0) (by simp) (.string S1)).cell (k := 1) rfl
            have y3 := (h6.set (k := 0) (by simp) (.string S1)).frozen 1
            have n1 := own_ne h2 h6 (by decide)
            have n2 := own_ne h5 h6 (by decide)
            go_simp
            refine outG hK ?_ (fun W => Arr W g6 26 [.string S1, .slice A1 x.length c1] ∧ Arr W g7 26 [.string ⟨#[]⟩, .slice none 0 0] ∧ W.ownsRow w1.heap.size 45 3 (.slice A1 x.length c1) x.length (pcs x) ∧ W.ownsRow w1.heap.size 45 3 v2 y.length (pcs y)) (Below w1.heap.size w1) ?_ ?_ (fun wn5 hHeld hF hB => ?_)
            · exact HMK.out _ (Below.put2 hB k6 _ _)
            · exact ⟨h6.put2 _ _, (h7.other (Ne.symm ne67) _).other (Ne.symm ne67) _, own_other (own_other h2 n1) n1, own_other (own_other h5 n2) n2⟩
            · exact Below.put2 hB k6 _ _
            clear h2 h5 h6 h7 n1 n2
            obtain ⟨h6, h7, h2, h5⟩ := hF
            clear hK K
            try simp only [List.getElem_toArray, List.getElem_cons_zero, List.getElem_cons_succ, Act.put, List.setIfInBounds_toArray, List.set_cons_zero, List.set_cons_succ]
            refine wpAnyH_ready (rs := [9]) (by kernel_rfl) (by simp) ?_
            refine AllReadyH.cons (o := _) rfl (fun K hK => ?_) ?_
            ·
              obtain ⟨A2, c2, rfl, hc2, _⟩ := Rd.of_own' h5
              have y0 := h7.cell (k := 0) rfl
              have y1 := h7.cell (k := 1) rfl
              have z0 := h7.frozen 0
              have z1 := h7.frozen 1
              have y2 := (h7.set (k := 0) (by simp) (.string S2)).cell (k := 1) rfl
              have y3 := (h7.set (k := 0) (by simp) (.string S2)).frozen 1
              have n1 := own_ne h2 h7 (by decide)
              have n2 := own_ne h5 h7 (by decide)
              go_simp
              refine outG hK ?_ (fun W => Arr W g6 26 [.string S1, .slice A1 x.length c1] ∧ Arr W g7 26 [.string S2, .slice A2 y.length c2] ∧ W.ownsRow w1.heap.size 45 3 (.slice A1 x.length c1) x.length (pcs x) ∧ W.ownsRow w1.heap.size 45 3 (.slice A2 y.length c2) y.length (pcs y)) (Below w1.heap.size w1) ?_ ?_ (fun wn6 hHeld hF hB => ?_)
              · exact HMK.out _ (Below.put2 hB k7 _ _)
              · exact ⟨(h6.other ne67 _).other ne67 _, h7.put2 _ _, own_other (own_other h2 n1) n1, own_other (own_other h5 n2) n2⟩
              · exact Below.put2 hB k7 _ _
              clear h2 h5 h6 h7 n1 n2
              obtain ⟨h6, h7, h2, h5⟩ := hF
              clear hK K
              try simp only [List.getElem_toArray, List.getElem_cons_zero, List.getElem_cons_succ, Act.put, List.setIfInBounds_toArray, List.set_cons_zero, List.set_cons_succ]
              refine wpAnyH_done (by kernel_rfl) ?_ _
              clear hHeld
              dsimp only [Exit.then]
              have hbz := HB1.out.trans (hB.mono HB1.out.size)
              have hrx := Rd.of_own h2
              have hry := Rd.of_own h5
              clear h2 h5 hB
              have p0 := h6.cell (k := 0) rfl
              have p1 := h6.cell (k := 1) rfl
              repeat' ((fail_if_success at_builtin); (fail_if_success at_make); (first | go_values | go_skip | go_guarded | go_step | go_upon | go_back))
              refine ((HE1.out A1 c1 wn6 hc1 hrx)).mono ?_; rintro e_ w3 ⟨A3, c3, rfl, hr3, hc3, hm3, hb3⟩; dsimp only
              have hbz := hbz.trans (hb3.mono hbz.size)
              have h6 := h6.below hb3
              have h7 := h7.below hb3
              have hrx := hrx.below hb3
              have hry := hry.below hb3
              clear p0 p1 hb3
              have p0 := h7.cell (k := 0) rfl
              have p1 := h7.cell (k := 1) rfl
              repeat' ((fail_if_success at_builtin); (fail_if_success at_make); (first | go_values | go_skip | go_guarded | go_step | go_upon | go_back))
              refine ((HE2.out A2 c2 w3 hc2 hry)).mono ?_; rintro e_ w4 ⟨A4, c4, rfl, hr4, hc4, hm4, hb4⟩; dsimp only
              have hbz := hbz.trans (hb4.mono hbz.size)
              have h6 := h6.below hb4
              have h7 := h7.below hb4
              have hrx := hrx.below hb4
              have hry := hry.below hb4
              have hr3 := hr3.below hb4
              clear p0 p1 hb4
              have p0 := h6.cell (k := 0) rfl
              have p1 := h6.cell (k := 1) rfl
              repeat' ((fail_if_success at_builtin); (fail_if_success at_make); (first | go_values | go_skip | go_guarded | go_step | go_upon | go_back))
              refine ((HK1.out A1 c1 w4 hc1 hrx)).mono ?_; rintro e_ w5 ⟨rfl, hb5⟩; dsimp only
              have hbz := hbz.trans (hb5.mono hbz.size)
              have h6 := h6.below hb5
              have h7 := h7.below hb5
              have hrx := hrx.below hb5
              have hry := hry.below hb5
              have hr3 := hr3.below hb5
              have hr4 := hr4.below hb5
              clear p0 p1 hb5
              have p0 := h6.cell (k := 0) rfl
              have p1 := h6.cell (k := 1) rfl
              have q0 := h7.cell (k := 0) rfl
              have q1 := h7.cell (k := 1) rfl
              by_cases hSS : S1 = S2
              · by_cases hxy : x = y
                · have hEE := HSAME.out (HCD.out.1 hSS) hxy
                  have hKK := HKK.out hEE
                  have e0 : (S1.toList == S2.toList) = true := by simp [hSS]
                  have eK : (K1.toList == K2.toList) = true := by simp [hKK]
                  have HEQ := Lib.hid (by
                    have h := EqualP_same A1 A2 x.length c1 c2 x w5 rfl (by omega) hrx (by rw [hxy]; exact hry)
                    rw [show x.length = y.length by rw [hxy]] at h ⊢
                    exact h : Calls Try.prog 15 #[.slice A1 x.length c1, .slice A2 y.length c2] w5 fun e w' => e = .returned (.bool true) ∧ Below w5.heap.size w5 w')
                  have HT := Lib.hid (show ((⟨E1.toArray⟩ : ByteArray).toList == (⟨E2.toArray⟩ : ByteArray).toList) = true by simp [hEE])
                  clear hSS hxy hEE hKK
                  repeat' ((fail_if_success at_builtin); (fail_if_success at_make); (first | go_values | go_skip | go_guarded | go_step | go_upon | go_back))
                  refine ((HEQ.out)).mono ?_; rintro e_ w6 ⟨rfl, hb6⟩; dsimp only
                  have hbz := hbz.trans (hb6.mono hbz.size)
                  have h7 := h7.below hb6
                  have hry := hry.below hb6
                  have hr3 := hr3.below hb6
                  have hr4 := hr4.below hb6
                  clear p0 p1 q0 q1 hb6
                  have q0 := h7.cell (k := 0) rfl
                  have q1 := h7.cell (k := 1) rfl
                  repeat' ((fail_if_success at_builtin); (fail_if_success at_make); (first | go_values | go_skip | go_guarded | go_step | go_upon | go_back))
                  refine ((HK2.out A2 c2 w6 hc2 hry)).mono ?_; rintro e_ w9 ⟨rfl, hb9⟩; dsimp only
                  have hbz := hbz.trans (hb9.mono hbz.size)
                  have hr3 := hr3.below hb9
                  have hr4 := hr4.below hb9
                  have t1 := run_str (P := Try.prog) (c := c3) (src := 35) (dst := 9) Try.underlying35 Try.underlying5 Try.underlying9 rfl hr3
                  have t2 := run_str (P := Try.prog) (c := c4) (src := 35) (dst := 9) Try.underlying35 Try.underlying5 Try.underlying9 rfl hr4
                  have hdg := Digest_ok A3 E1.length c3 E1 w9 rfl hc3 (by omega) hr3
                  rw [← HKD.out] at hdg
                  have HDG := Lib.hid hdg
                  have hT := HT.out
                  generalize (⟨E1.toArray⟩ : ByteArray) = T1 at *
                  generalize (⟨E2.toArray⟩ : ByteArray) = T2 at *
                  clear hdg q0 q1 hb9
                  repeat' ((fail_if_success at_builtin); (fail_if_success at_make); (first | go_values | go_skip | go_guarded | go_step | go_upon | go_back))
                  refine ((HDG.out)).mono ?_; rintro e_ w10 ⟨rfl, hb10⟩; dsimp only
                  repeat' ((fail_if_success at_builtin); (fail_if_success at_make); (first | go_values | go_skip | go_guarded | go_step | go_upon | go_back))
                  go_ret
                  exact ⟨rfl, hbz.trans (hb10.mono hbz.size)⟩
                · have hEE : ¬ E1 = E2 := fun h => hxy (HINJ.out h).2
                  have e0 : (S1.toList == S2.toList) = true := by simp [hSS]
                  have HEQ := Lib.hid (EqualP_diff A1 A2 x.length y.length c1 c2 x y w5 rfl rfl (by omega) (by omega) hrx hry hxy)
                  have HT := Lib.hid (show ((⟨E1.toArray⟩ : ByteArray).toList == (⟨E2.toArray⟩ : ByteArray).toList) = false from bytes_ne (fun h => hEE (str_inj.1 h)))
                  clear hSS hxy hEE
                  repeat' ((fail_if_success at_builtin); (fail_if_success at_make); (first | go_values | go_skip | go_guarded | go_step | go_upon | go_back))
                  refine ((HEQ.out)).mono ?_; rintro e_ w6 ⟨rfl, hb6⟩; dsimp only
                  have hbz := hbz.trans (hb6.mono hbz.size)
                  have h7 := h7.below hb6
                  have hry := hry.below hb6
                  have hr3 := hr3.below hb6
                  have hr4 := hr4.below hb6
                  clear p0 p1 q0 q1 hb6
                  have q0 := h7.cell (k := 0) rfl
                  have q1 := h7.cell (k := 1) rfl
                  repeat' ((fail_if_success at_builtin); (fail_if_success at_make); (first | go_values | go_skip | go_guarded | go_step | go_upon | go_back))
                  refine ((HK2.out A2 c2 w6 hc2 hry)).mono ?_; rintro e_ w9 ⟨rfl, hb9⟩; dsimp only
                  have hbz := hbz.trans (hb9.mono hbz.size)
                  have hr3 := hr3.below hb9
                  have hr4 := hr4.below hb9
                  have t1 := run_str (P := Try.prog) (c := c3) (src := 35) (dst := 9) Try.underlying35 Try.underlying5 Try.underlying9 rfl hr3
                  have t2 := run_str (P := Try.prog) (c := c4) (src := 35) (dst := 9) Try.underlying35 Try.underlying5 Try.underlying9 rfl hr4
                  have hdg := Digest_ok A3 E1.length c3 E1 w9 rfl hc3 (by omega) hr3
                  rw [← HKD.out] at hdg
                  have HDG := Lib.hid hdg
                  have hT := HT.out
                  generalize (⟨E1.toArray⟩ : ByteArray) = T1 at *
                  generalize (⟨E2.toArray⟩ : ByteArray) = T2 at *
                  clear hdg q0 q1 hb9
                  repeat' ((fail_if_success at_builtin); (fail_if_success at_make); (first | go_values | go_skip | go_guarded | go_step | go_upon | go_back))
                  refine ((HDG.out)).mono ?_; rintro e_ w10 ⟨rfl, hb10⟩; dsimp only
                  repeat' ((fail_if_success at_builtin); (fail_if_success at_make); (first | go_values | go_skip | go_guarded | go_step | go_upon | go_back))
                  go_ret
                  exact ⟨rfl, hbz.trans (hb10.mono hbz.size)⟩
              · have hEE : ¬ E1 = E2 := fun h => hSS (HCD.out.2 (HINJ.out h).1)
                have e0 : (S1.toList == S2.toList) = false := bytes_ne hSS
                have HT := Lib.hid (show ((⟨E1.toArray⟩ : ByteArray).toList == (⟨E2.toArray⟩ : ByteArray).toList) = false from bytes_ne (fun h => hEE (str_inj.1 h)))
                have hb6 := Below.refl w5.heap.size w5
                clear hSS hEE
                repeat' ((fail_if_success at_builtin); (fail_if_success at_make); (first | go_values | go_skip | go_guarded | go_step | go_upon | go_back))
                have hbz := hbz.trans (hb6.mono hbz.size)
                have h7 := h7.below hb6
                have hry := hry.below hb6
                have hr3 := hr3.below hb6
                have hr4 := hr4.below hb6
                clear p0 p1 q0 q1 hb6
                have q0 := h7.cell (k := 0) rfl
                have q1 := h7.cell (k := 1) rfl
                repeat' ((fail_if_success at_builtin); (fail_if_success at_make); (first | go_values | go_skip | go_guarded | go_step | go_upon | go_back))
                refine ((HK2.out A2 c2 w5 hc2 hry)).mono ?_; rintro e_ w9 ⟨rfl, hb9⟩; dsimp only
                have hbz := hbz.trans (hb9.mono hbz.size)
                have hr3 := hr3.below hb9
                have hr4 := hr4.below hb9
                have t1 := run_str (P := Try.prog) (c := c3) (src := 35) (dst := 9) Try.underlying35 Try.underlying5 Try.underlying9 rfl hr3
                have t2 := run_str (P := Try.prog) (c := c4) (src := 35) (dst := 9) Try.underlying35 Try.underlying5 Try.underlying9 rfl hr4
                have hdg := Digest_ok A3 E1.length c3 E1 w9 rfl hc3 (by omega) hr3
                rw [← HKD.out] at hdg
                have HDG := Lib.hid hdg
                have hT := HT.out
                generalize (⟨E1.toArray⟩ : ByteArray) = T1 at *
                generalize (⟨E2.toArray⟩ : ByteArray) = T2 at *
                clear hdg q0 q1 hb9
                repeat' ((fail_if_success at_builtin); (fail_if_success at_make); (first | go_values | go_skip | go_guarded | go_step | go_upon | go_back))
                refine ((HDG.out)).mono ?_; rintro e_ w10 ⟨rfl, hb10⟩; dsimp only
                repeat' ((fail_if_success at_builtin); (fail_if_success at_make); (first | go_values | go_skip | go_guarded | go_step | go_upon | go_back))
                go_ret
                exact ⟨rfl, hbz.trans (hb10.mono hbz.size)⟩
            exact AllReadyH.nil
          exact AllReadyH.nil
        exact AllReadyH.nil
      refine AllReadyH.cons (o := _) rfl (fun K hK => ?_) ?_
      ·
        go_simp
        refine outG hK ?_ (Below wn2.heap.size wn2) (fun W => Arr W wn2.heap.size 26 [.string ⟨#[]⟩, .slice none 0 0] ∧ wn2.heap.size < W.heap.size ∧ w1.heap.size ≤ wn2.heap.size) ?_ ?_ (fun wn7 hHeld hst hnew => ?_)
        · ((try dsimp only); first | exact HMK.out _ (hB.alloc hB.size _) | exact HMK.out _ (hB.trans (hb2.mono hB.size)) | exact HMK.out _ (hB.trans (hb5.mono hB.size)))
        · (first | exact (Below.refl _ _).alloc (Nat.le_refl _) _ | exact hb2 | exact hb5 | exact Below.refl _ _)
        · (exact ⟨Arr.new _ _ _, by simp, hB.size⟩)
        have h2 := own_below h2 hst
        have h5 := own_below h5 hst
        have hB := hB.trans (hst.mono hB.size)
        obtain ⟨h7, l7, k7⟩ := hnew
        generalize hg7 : wn2.heap.size = g7 at *
        try (have ne67 : g6 ≠ g7 := by omega)
        clear hst
        clear hK K
        try simp only [List.getElem_toArray, List.getElem_cons_zero, List.getElem_cons_succ, Act.put, List.setIfInBounds_toArray, List.set_cons_zero, List.set_cons_succ]
        refine wpAnyH_ready (rs := [6]) (by kernel_rfl) (by simp) ?_
        refine AllReadyH.cons (o := _) rfl (fun K hK => ?_) ?_
        ·
          go_simp
          refine outG hK ?_ (Below wn7.heap.size wn7) (fun W => Arr W wn7.heap.size 26 [.string ⟨#[]⟩, .slice none 0 0] ∧ wn7.heap.size < W.heap.size ∧ w1.heap.size ≤ wn7.heap.size) ?_ ?_ (fun wn8 hHeld hst hnew => ?_)
          · ((try dsimp only); first | exact HMK.out _ (hB.alloc hB.size _) | exact HMK.out _ (hB.trans (hb2.mono hB.size)) | exact HMK.out _ (hB.trans (hb5.mono hB.size)))
          · (first | exact (Below.refl _ _).alloc (Nat.le_refl _) _ | exact hb2 | exact hb5 | exact Below.refl _ _)
          · (exact ⟨Arr.new _ _ _, by simp, hB.size⟩)
          have h2 := own_below h2 hst
          have h5 := own_below h5 hst
          have h7 := h7.below hst
          try (have l7 := Nat.lt_of_lt_of_le l7 hst.size)
          have hB := hB.trans (hst.mono hB.size)
          obtain ⟨h6, l6, k6⟩ := hnew
          generalize hg6 : wn7.heap.size = g6 at *
          try (have ne67 : g6 ≠ g7 := by omega)
          clear hst
          clear hK K
          try simp only [List.getElem_toArray, List.getElem_cons_zero, List.getElem_cons_succ, Act.put, List.setIfInBounds_toArray, List.set_cons_zero, List.set_cons_succ]
          refine wpAnyH_ready (rs := [8]) (by kernel_rfl) (by simp) ?_
          refine AllReadyH.cons (o := _) rfl (fun K hK => ?_) ?_
          ·
            obtain ⟨A1, c1, rfl, hc1, _⟩ := Rd.of_own' h2
            have y0 := h6.cell (k := 0) rfl
            have y1 := h6.cell (k := 1) rfl
            have z0 := h6.frozen 0
            have z1 := h6.frozen 1
            have y2 := (h6.set (k := 0) (by simp) (.string S1)).cell (k := 1) rfl
            have y3 := (h6.set (k := 0) (by simp) (.string S1)).frozen 1
            have n1 := own_ne h2 h6 (by decide)
            have n2 := own_ne h5 h6 (by decide)
            go_simp
            refine outG hK ?_ (fun W => Arr W g6 26 [.string S1, .slice A1 x.length c1] ∧ Arr W g7 26 [.string ⟨#[]⟩, .slice none 0 0] ∧ W.ownsRow w1.heap.size 45 3 (.slice A1 x.length c1) x.length (pcs x) ∧ W.ownsRow w1.heap.size 45 3 v2 y.length (pcs y)) (Below w1.heap.size w1) ?_ ?_ (fun wn9 hHeld hF hB => ?_)
            · exact HMK.out _ (Below.put2 hB k6 _ _)
            · exact ⟨h6.put2 _ _, (h7.other (Ne.symm ne67) _).other (Ne.symm ne67) _, own_other (own_other h2 n1) n1, own_other (own_other h5 n2) n2⟩
            · exact Below.put2 hB k6 _ _
            clear h2 h5 h6 h7 n1 n2
            obtain ⟨h6, h7, h2, h5⟩ := hF
            clear hK K
            try simp only [List.getElem_toArray, List.getElem_cons_zero, List.getElem_cons_succ, Act.put, List.setIfInBounds_toArray, List.set_cons_zero, List.set_cons_succ]
            refine wpAnyH_ready (rs := [9]) (by kernel_rfl) (by simp) ?_
            refine AllReadyH.cons (o := _) rfl (fun K hK => ?_) ?_
            ·
              obtain ⟨A2, c2, rfl, hc2, _⟩ := Rd.of_own' h5
              have y0 := h7.cell (k := 0) rfl
              have y1 := h7.cell (k := 1) rfl
              have z0 := h7.frozen 0
              have z1 := h7.frozen 1
              have y2 := (h7.set (k := 0) (by simp) (.string S2)).cell (k := 1) rfl
              have y3 := (h7.set (k := 0) (by simp) (.string S2)).frozen 1
              have n1 := own_ne h2 h7 (by decide)
              have n2 := own_ne h5 h7 (by decide)
              go_simp
              refine outG hK ?_ (fun W => Arr W g6 26 [.string S1, .slice A1 x.length c1] ∧ Arr W g7 26 [.string S2, .slice A2 y.length c2] ∧ W.ownsRow w1.heap.size 45 3 (.slice A1 x.length c1) x.length (pcs x) ∧ W.ownsRow w1.heap.size 45 3 (.slice A2 y.length c2) y.length (pcs y)) (Below w1.heap.size w1) ?_ ?_ (fun wn10 hHeld hF hB => ?_)
              · exact HMK.out _ (Below.put2 hB k7 _ _)
              · exact ⟨(h6.other ne67 _).other ne67 _, h7.put2 _ _, own_other (own_other h2 n1) n1, own_other (own_other h5 n2) n2⟩
              · exact Below.put2 hB k7 _ _
              clear h2 h5 h6 h7 n1 n2
              obtain ⟨h6, h7, h2, h5⟩ := hF
              clear hK K
              try simp only [List.getElem_toArray, List.getElem_cons_zero, List.getElem_cons_succ, Act.put, List.setIfInBounds_toArray, List.set_cons_zero, List.set_cons_succ]
              refine wpAnyH_done (by kernel_rfl) ?_ _
              clear hHeld
              dsimp only [Exit.then]
              have hbz := HB1.out.trans (hB.mono HB1.out.size)
              have hrx := Rd.of_own h2
              have hry := Rd.of_own h5
              clear h2 h5 hB
              have p0 := h6.cell (k := 0) rfl
              have p1 := h6.cell (k := 1) rfl
              repeat' ((fail_if_success at_builtin); (fail_if_success at_make); (first | go_values | go_skip | go_guarded | go_step | go_upon | go_back))
              refine ((HE1.out A1 c1 wn10 hc1 hrx)).mono ?_; rintro e_ w3 ⟨A3, c3, rfl, hr3, hc3, hm3, hb3⟩; dsimp only
              have hbz := hbz.trans (hb3.mono hbz.size)
              have h6 := h6.below hb3
              have h7 := h7.below hb3
              have hrx := hrx.below hb3
              have hry := hry.below hb3
              clear p0 p1 hb3
              have p0 := h7.cell (k := 0) rfl
              have p1 := h7.cell (k := 1) rfl
              repeat' ((fail_if_success at_builtin); (fail_if_success at_make); (first | go_values | go_skip | go_guarded | go_step | go_upon | go_back))
              refine ((HE2.out A2 c2 w3 hc2 hry)).mono ?_; rintro e_ w4 ⟨A4, c4, rfl, hr4, hc4, hm4, hb4⟩; dsimp only
              have hbz := hbz.trans (hb4.mono hbz.size)
              have h6 := h6.below hb4
              have h7 := h7.below hb4
              have hrx := hrx.below hb4
              have hry := hry.below hb4
              have hr3 := hr3.below hb4
              clear p0 p1 hb4
              have p0 := h6.cell (k := 0) rfl
              have p1 := h6.cell (k := 1) rfl
              repeat' ((fail_if_success at_builtin); (fail_if_success at_make); (first | go_values | go_skip | go_guarded | go_step | go_upon | go_back))
              refine ((HK1.out A1 c1 w4 hc1 hrx)).mono ?_; rintro e_ w5 ⟨rfl, hb5⟩; dsimp only
              have hbz := hbz.trans (hb5.mono hbz.size)
              have h6 := h6.below hb5
              have h7 := h7.below hb5
              have hrx := hrx.below hb5
              have hry := hry.below hb5
              have hr3 := hr3.below hb5
              have hr4 := hr4.below hb5
              clear p0 p1 hb5
              have p0 := h6.cell (k := 0) rfl
              have p1 := h6.cell (k := 1) rfl
              have q0 := h7.cell (k := 0) rfl
              have q1 := h7.cell (k := 1) rfl
              by_cases hSS : S1 = S2
              · by_cases hxy : x = y
                · have hEE := HSAME.out (HCD.out.1 hSS) hxy
                  have hKK := HKK.out hEE
                  have e0 : (S1.toList == S2.toList) = true := by simp [hSS]
                  have eK : (K1.toList == K2.toList) = true := by simp [hKK]
                  have HEQ := Lib.hid (by
                    have h := EqualP_same A1 A2 x.length c1 c2 x w5 rfl (by omega) hrx (by rw [hxy]; exact hry)
                    rw [show x.length = y.length by rw [hxy]] at h ⊢
                    exact h : Calls Try.prog 15 #[.slice A1 x.length c1, .slice A2 y.length c2] w5 fun e w' => e = .returned (.bool true) ∧ Below w5.heap.size w5 w')
                  have HT := Lib.hid (show ((⟨E1.toArray⟩ : ByteArray).toList == (⟨E2.toArray⟩ : ByteArray).toList) = true by simp [hEE])
                  clear hSS hxy hEE hKK
                  repeat' ((fail_if_success at_builtin); (fail_if_success at_make); (first | go_values | go_skip | go_guarded | go_step | go_upon | go_back))
                  refine ((HEQ.out)).mono ?_; rintro e_ w6 ⟨rfl, hb6⟩; dsimp only
                  have hbz := hbz.trans (hb6.mono hbz.size)
                  have h7 := h7.below hb6
                  have hry := hry.below hb6
                  have hr3 := hr3.below hb6
                  have hr4 := hr4.below hb6
                  clear p0 p1 q0 q1 hb6
                  have q0 := h7.cell (k := 0) rfl
                  have q1 := h7.cell (k := 1) rfl
                  repeat' ((fail_if_success at_builtin); (fail_if_success at_make); (first | go_values | go_skip | go_guarded | go_step | go_upon | go_back))
                  refine ((HK2.out A2 c2 w6 hc2 hry)).mono ?_; rintro e_ w9 ⟨rfl, hb9⟩; dsimp only
                  have hbz := hbz.trans (hb9.mono hbz.size)
                  have hr3 := hr3.below hb9
                  have hr4 := hr4.below hb9
                  have t1 := run_str (P := Try.prog) (c := c3) (src := 35) (dst := 9) Try.underlying35 Try.underlying5 Try.underlying9 rfl hr3
                  have t2 := run_str (P := Try.prog) (c := c4) (src := 35) (dst := 9) Try.underlying35 Try.underlying5 Try.underlying9 rfl hr4
                  have hdg := Digest_ok A3 E1.length c3 E1 w9 rfl hc3 (by omega) hr3
                  rw [← HKD.out] at hdg
                  have HDG := Lib.hid hdg
                  have hT := HT.out
                  generalize (⟨E1.toArray⟩ : ByteArray) = T1 at *
                  generalize (⟨E2.toArray⟩ : ByteArray) = T2 at *
                  clear hdg q0 q1 hb9
                  repeat' ((fail_if_success at_builtin); (fail_if_success at_make); (first | go_values | go_skip | go_guarded | go_step | go_upon | go_back))
                  refine ((HDG.out)).mono ?_; rintro e_ w10 ⟨rfl, hb10⟩; dsimp only
                  repeat' ((fail_if_success at_builtin); (fail_if_success at_make); (first | go_values | go_skip | go_guarded | go_step | go_upon | go_back))
                  go_ret
                  exact ⟨rfl, hbz.trans (hb10.mono hbz.size)⟩
                · have hEE : ¬ E1 = E2 := fun h => hxy (HINJ.out h).2
                  have e0 : (S1.toList == S2.toList) = true := by simp [hSS]
                  have HEQ := Lib.hid (EqualP_diff A1 A2 x.length y.length c1 c2 x y w5 rfl rfl (by omega) (by omega) hrx hry hxy)
                  have HT := Lib.hid (show ((⟨E1.toArray⟩ : ByteArray).toList == (⟨E2.toArray⟩ : ByteArray).toList) = false from bytes_ne (fun h => hEE (str_inj.1 h)))
                  clear hSS hxy hEE
                  repeat' ((fail_if_success at_builtin); (fail_if_success at_make); (first | go_values | go_skip | go_guarded | go_step | go_upon | go_back))
                  refine ((HEQ.out)).mono ?_; rintro e_ w6 ⟨rfl, hb6⟩; dsimp only
                  have hbz := hbz.trans (hb6.mono hbz.size)
                  have h7 := h7.below hb6
                  have hry := hry.below hb6
                  have hr3 := hr3.below hb6
                  have hr4 := hr4.below hb6
                  clear p0 p1 q0 q1 hb6
                  have q0 := h7.cell (k := 0) rfl
                  have q1 := h7.cell (k := 1) rfl
                  repeat' ((fail_if_success at_builtin); (fail_if_success at_make); (first | go_values | go_skip | go_guarded | go_step | go_upon | go_back))
                  refine ((HK2.out A2 c2 w6 hc2 hry)).mono ?_; rintro e_ w9 ⟨rfl, hb9⟩; dsimp only
                  have hbz := hbz.trans (hb9.mono hbz.size)
                  have hr3 := hr3.below hb9
                  have hr4 := hr4.below hb9
                  have t1 := run_str (P := Try.prog) (c := c3) (src := 35) (dst := 9) Try.underlying35 Try.underlying5 Try.underlying9 rfl hr3
                  have t2 := run_str (P := Try.prog) (c := c4) (src := 35) (dst := 9) Try.underlying35 Try.underlying5 Try.underlying9 rfl hr4
                  have hdg := Digest_ok A3 E1.length c3 E1 w9 rfl hc3 (by omega) hr3
                  rw [← HKD.out] at hdg
                  have HDG := Lib.hid hdg
                  have hT := HT.out
                  generalize (⟨E1.toArray⟩ : ByteArray) = T1 at *
                  generalize (⟨E2.toArray⟩ : ByteArray) = T2 at *
                  clear hdg q0 q1 hb9
                  repeat' ((fail_if_success at_builtin); (fail_if_success at_make); (first | go_values | go_skip | go_guarded | go_step | go_upon | go_back))
                  refine ((HDG.out)).mono ?_; rintro e_ w10 ⟨rfl, hb10⟩; dsimp only
                  repeat' ((fail_if_success at_builtin); (fail_if_success at_make); (first | go_values | go_skip | go_guarded | go_step | go_upon | go_back))
                  go_ret
                  exact ⟨rfl, hbz.trans (hb10.mono hbz.size)⟩
              · have hEE : ¬ E1 = E2 := fun h => hSS (HCD.out.2 (HINJ.out h).1)
                have e0 : (S1.toList == S2.toList) = false := bytes_ne hSS
                have HT := Lib.hid (show ((⟨E1.toArray⟩ : ByteArray).toList == (⟨E2.toArray⟩ : ByteArray).toList) = false from bytes_ne (fun h => hEE (str_inj.1 h)))
                have hb6 := Below.refl w5.heap.size w5
                clear hSS hEE
                repeat' ((fail_if_success at_builtin); (fail_if_success at_make); (first | go_values | go_skip | go_guarded | go_step | go_upon | go_back))
                have hbz := hbz.trans (hb6.mono hbz.size)
                have h7 := h7.below hb6
                have hry := hry.below hb6
                have hr3 := hr3.below hb6
                have hr4 := hr4.below hb6
                clear p0 p1 q0 q1 hb6
                have q0 := h7.cell (k := 0) rfl
                have q1 := h7.cell (k := 1) rfl
                repeat' ((fail_if_success at_builtin); (fail_if_success at_make); (first | go_values | go_skip | go_guarded | go_step | go_upon | go_back))
                refine ((HK2.out A2 c2 w5 hc2 hry)).mono ?_; rintro e_ w9 ⟨rfl, hb9⟩; dsimp only
                have hbz := hbz.trans (hb9.mono hbz.size)
                have hr3 := hr3.below hb9
                have hr4 := hr4.below hb9
                have t1 := run_str (P := Try.prog) (c := c3) (src := 35) (dst := 9) Try.underlying35 Try.underlying5 Try.underlying9 rfl hr3
                have t2 := run_str (P := Try.prog) (c := c4) (src := 35) (dst := 9) Try.underlying35 Try.underlying5 Try.underlying9 rfl hr4
                have hdg := Digest_ok A3 E1.length c3 E1 w9 rfl hc3 (by omega) hr3
                rw [← HKD.out] at hdg
                have HDG := Lib.hid hdg
                have hT := HT.out
                generalize (⟨E1.toArray⟩ : ByteArray) = T1 at *
                generalize (⟨E2.toArray⟩ : ByteArray) = T2 at *
                clear hdg q0 q1 hb9
                repeat' ((fail_if_success at_builtin); (fail_if_success at_make); (first | go_values | go_skip | go_guarded | go_step | go_upon | go_back))
                refine ((HDG.out)).mono ?_; rintro e_ w10 ⟨rfl, hb10⟩; dsimp only
                repeat' ((fail_if_success at_builtin); (fail_if_success at_make); (first | go_values | go_skip | go_guarded | go_step | go_upon | go_back))
                go_ret
                exact ⟨rfl, hbz.trans (hb10.mono hbz.size)⟩
            exact AllReadyH.nil
          exact AllReadyH.nil
        exact AllReadyH.nil
      exact AllReadyH.nil
    refine AllReadyH.cons (o := _) rfl (fun K hK => ?_) ?_
    ·
      go_simp
      refine outG hK ?_ (Below wn1.heap.size wn1) (fun W => Arr W wn1.heap.size 26 [.string ⟨#[]⟩, .slice none 0 0] ∧ wn1.heap.size < W.heap.size ∧ w1.heap.size ≤ wn1.heap.size) ?_ ?_ (fun wn11 hHeld hst hnew => ?_)
      · ((try dsimp only); first | exact HMK.out _ (hB.alloc hB.size _) | exact HMK.out _ (hB.trans (hb2.mono hB.size)) | exact HMK.out _ (hB.trans (hb5.mono hB.size)))
      · (first | exact (Below.refl _ _).alloc (Nat.le_refl _) _ | exact hb2 | exact hb5 | exact Below.refl _ _)
      · (exact ⟨Arr.new _ _ _, by simp, hB.size⟩)
      have h2 := own_below h2 hst
      have hB := hB.trans (hst.mono hB.size)
      obtain ⟨h6, l6, k6⟩ := hnew
      generalize hg6 : wn1.heap.size = g6 at *
      try (have ne67 : g6 ≠ g7 := by omega)
      clear hst
      clear hK K
      try simp only [List.getElem_toArray, List.getElem_cons_zero, List.getElem_cons_succ, Act.put, List.setIfInBounds_toArray, List.set_cons_zero, List.set_cons_succ]
      refine wpAnyH_ready (rs := [5, 7]) (by kernel_rfl) (by simp) ?_
      refine AllReadyH.cons (o := _) rfl (fun K hK => ?_) ?_
      ·
        go_simp
        refine (HACT'.out wn11 (HRR.out _ hB).2).mono ?_
        rintro e5 w5 ⟨v2, rfl, ho5, hb5⟩
        rw [HV'.out]
        dsimp only
        refine outG hK ?_ (Below wn11.heap.size wn11) (fun W => W.ownsRow w1.heap.size 45 3 v2 y.length (pcs y)) ?_ ?_ (fun wn12 hHeld hst hnew => ?_)
        · ((try dsimp only); first | exact HMK.out _ (hB.alloc hB.size _) | exact HMK.out _ (hB.trans (hb2.mono hB.size)) | exact HMK.out _ (hB.trans (hb5.mono hB.size)))
        · (first | exact (Below.refl _ _).alloc (Nat.le_refl _) _ | exact hb2 | exact hb5 | exact Below.refl _ _)
        · (exact own_lower ho5 hB.size)
        have h2 := own_below h2 hst
        have h6 := h6.below hst
        try (have l6 := Nat.lt_of_lt_of_le l6 hst.size)
        have hB := hB.trans (hst.mono hB.size)
        have h5 := hnew
        clear hnew
        clear hst
        clear hK K
        try simp only [List.getElem_toArray, List.getElem_cons_zero, List.getElem_cons_succ, Act.put, List.setIfInBounds_toArray, List.set_cons_zero, List.set_cons_succ]
        refine wpAnyH_ready (rs := [7]) (by kernel_rfl) (by simp) ?_
        refine AllReadyH.cons (o := _) rfl (fun K hK => ?_) ?_
        ·
          go_simp
          refine outG hK ?_ (Below wn12.heap.size wn12) (fun W => Arr W wn12.heap.size 26 [.string ⟨#[]⟩, .slice none 0 0] ∧ wn12.heap.size < W.heap.size ∧ w1.heap.size ≤ wn12.heap.size) ?_ ?_ (fun wn13 hHeld hst hnew => ?_)
          · ((try dsimp only); first | exact HMK.out _ (hB.alloc hB.size _) | exact HMK.out _ (hB.trans (hb2.mono hB.size)) | exact HMK.out _ (hB.trans (hb5.mono hB.size)))
          · (first | exact (Below.refl _ _).alloc (Nat.le_refl _) _ | exact hb2 | exact hb5 | exact Below.refl _ _)
          · (exact ⟨Arr.new _ _ _, by simp, hB.size⟩)
          have h2 := own_below h2 hst
          have h5 := own_below h5 hst
          have h6 := h6.below hst
          try (have l6 := Nat.lt_of_lt_of_le l6 hst.size)
          have hB := hB.trans (hst.mono hB.size)
          obtain ⟨h7, l7, k7⟩ := hnew
          generalize hg7 : wn12.heap.size = g7 at *
          try (have ne67 : g6 ≠ g7 := by omega)
          clear hst
          clear hK K
          try simp only [List.getElem_toArray, List.getElem_cons_zero, List.getElem_cons_succ, Act.put, List.setIfInBounds_toArray, List.set_cons_zero, List.set_cons_succ]
          refine wpAnyH_ready (rs := [8]) (by kernel_rfl) (by simp) ?_
          refine AllReadyH.cons (o := _) rfl (fun K hK => ?_) ?_
          ·
            obtain ⟨A1, c1, rfl, hc1, _⟩ := Rd.of_own' h2
            have y0 := h6.cell (k := 0) rfl
            have y1 := h6.cell (k := 1) rfl
            have z0 := h6.frozen 0
            have z1 := h6.frozen 1
            have y2 := (h6.set (k := 0) (by simp) (.string S1)).cell (k := 1) rfl
            have y3 := (h6.set (k := 0) (by simp) (.string S1)).frozen 1
            have n1 := own_ne h2 h6 (by decide)
            have n2 := own_ne h5 h6 (by decide)
            go_simp
            refine outG hK ?_ (fun W => Arr W g6 26 [.string S1, .slice A1 x.length c1] ∧ Arr W g7 26 [.string ⟨#[]⟩, .slice none 0 0] ∧ W.ownsRow w1.heap.size 45 3 (.slice A1 x.length c1) x.length (pcs x) ∧ W.ownsRow w1.heap.size 45 3 v2 y.length (pcs y)) (Below w1.heap.size w1) ?_ ?_ (fun wn14 hHeld hF hB => ?_)
            · exact HMK.out _ (Below.put2 hB k6 _ _)
            · exact ⟨h6.put2 _ _, (h7.other (Ne.symm ne67) _).other (Ne.symm ne67) _, own_other (own_other h2 n1) n1, own_other (own_other h5 n2) n2⟩
            · exact Below.put2 hB k6 _ _
            clear h2 h5 h6 h7 n1 n2
            obtain ⟨h6, h7, h2, h5⟩ := hF
            clear hK K
            try simp only [List.getElem_toArray, List.getElem_cons_zero, List.getElem_cons_succ, Act.put, List.setIfInBounds_toArray, List.set_cons_zero, List.set_cons_succ]
            refine wpAnyH_ready (rs := [9]) (by kernel_rfl) (by simp) ?_
            refine AllReadyH.cons (o := _) rfl (fun K hK => ?_) ?_
            ·
              obtain ⟨A2, c2, rfl, hc2, _⟩ := Rd.of_own' h5
              have y0 := h7.cell (k := 0) rfl
              have y1 := h7.cell (k := 1) rfl
              have z0 := h7.frozen 0
              have z1 := h7.frozen 1
              have y2 := (h7.set (k := 0) (by simp) (.string S2)).cell (k := 1) rfl
              have y3 := (h7.set (k := 0) (by simp) (.string S2)).frozen 1
              have n1 := own_ne h2 h7 (by decide)
              have n2 := own_ne h5 h7 (by decide)
              go_simp
              refine outG hK ?_ (fun W => Arr W g6 26 [.string S1, .slice A1 x.length c1] ∧ Arr W g7 26 [.string S2, .slice A2 y.length c2] ∧ W.ownsRow w1.heap.size 45 3 (.slice A1 x.length c1) x.length (pcs x) ∧ W.ownsRow w1.heap.size 45 3 (.slice A2 y.length c2) y.length (pcs y)) (Below w1.heap.size w1) ?_ ?_ (fun wn15 hHeld hF hB => ?_)
              · exact HMK.out _ (Below.put2 hB k7 _ _)
              · exact ⟨(h6.other ne67 _).other ne67 _, h7.put2 _ _, own_other (own_other h2 n1) n1, own_other (own_other h5 n2) n2⟩
              · exact Below.put2 hB k7 _ _
              clear h2 h5 h6 h7 n1 n2
              obtain ⟨h6, h7, h2, h5⟩ := hF
              clear hK K
              try simp only [List.getElem_toArray, List.getElem_cons_zero, List.getElem_cons_succ, Act.put, List.setIfInBounds_toArray, List.set_cons_zero, List.set_cons_succ]
              refine wpAnyH_done (by kernel_rfl) ?_ _
              clear hHeld
              dsimp only [Exit.then]
              have hbz := HB1.out.trans (hB.mono HB1.out.size)
              have hrx := Rd.of_own h2
              have hry := Rd.of_own h5
              clear h2 h5 hB
              have p0 := h6.cell (k := 0) rfl
              have p1 := h6.cell (k := 1) rfl
              repeat' ((fail_if_success at_builtin); (fail_if_success at_make); (first | go_values | go_skip | go_guarded | go_step | go_upon | go_back))
              refine ((HE1.out A1 c1 wn15 hc1 hrx)).mono ?_; rintro e_ w3 ⟨A3, c3, rfl, hr3, hc3, hm3, hb3⟩; dsimp only
              have hbz := hbz.trans (hb3.mono hbz.size)
              have h6 := h6.below hb3
              have h7 := h7.below hb3
              have hrx := hrx.below hb3
              have hry := hry.below hb3
              clear p0 p1 hb3
              have p0 := h7.cell (k := 0) rfl
              have p1 := h7.cell (k := 1) rfl
              repeat' ((fail_if_success at_builtin); (fail_if_success at_make); (first | go_values | go_skip | go_guarded | go_step | go_upon | go_back))
              refine ((HE2.out A2 c2 w3 hc2 hry)).mono ?_; rintro e_ w4 ⟨A4, c4, rfl, hr4, hc4, hm4, hb4⟩; dsimp only
              have hbz := hbz.trans (hb4.mono hbz.size)
              have h6 := h6.below hb4
              have h7 := h7.below hb4
              have hrx := hrx.below hb4
              have hry := hry.below hb4
              have hr3 := hr3.below hb4
              clear p0 p1 hb4
              have p0 := h6.cell (k := 0) rfl
              have p1 := h6.cell (k := 1) rfl
              repeat' ((fail_if_success at_builtin); (fail_if_success at_make); (first | go_values | go_skip | go_guarded | go_step | go_upon | go_back))
              refine ((HK1.out A1 c1 w4 hc1 hrx)).mono ?_; rintro e_ w5 ⟨rfl, hb5⟩; dsimp only
              have hbz := hbz.trans (hb5.mono hbz.size)
              have h6 := h6.below hb5
              have h7 := h7.below hb5
              have hrx := hrx.below hb5
              have hry := hry.below hb5
              have hr3 := hr3.below hb5
              have hr4 := hr4.below hb5
              clear p0 p1 hb5
              have p0 := h6.cell (k := 0) rfl
              have p1 := h6.cell (k := 1) rfl
              have q0 := h7.cell (k := 0) rfl
              have q1 := h7.cell (k := 1) rfl
              by_cases hSS : S1 = S2
              · by_cases hxy : x = y
                · have hEE := HSAME.out (HCD.out.1 hSS) hxy
                  have hKK := HKK.out hEE
                  have e0 : (S1.toList == S2.toList) = true := by simp [hSS]
                  have eK : (K1.toList == K2.toList) = true := by simp [hKK]
                  have HEQ := Lib.hid (by
                    have h := EqualP_same A1 A2 x.length c1 c2 x w5 rfl (by omega) hrx (by rw [hxy]; exact hry)
                    rw [show x.length = y.length by rw [hxy]] at h ⊢
                    exact h : Calls Try.prog 15 #[.slice A1 x.length c1, .slice A2 y.length c2] w5 fun e w' => e = .returned (.bool true) ∧ Below w5.heap.size w5 w')
                  have HT := Lib.hid (show ((⟨E1.toArray⟩ : ByteArray).toList == (⟨E2.toArray⟩ : ByteArray).toList) = true by simp [hEE])
                  clear hSS hxy hEE hKK
                  repeat' ((fail_if_success at_builtin); (fail_if_success at_make); (first | go_values | go_skip | go_guarded | go_step | go_upon | go_back))
                  refine ((HEQ.out)).mono ?_; rintro e_ w6 ⟨rfl, hb6⟩; dsimp only
                  have hbz := hbz.trans (hb6.mono hbz.size)
                  have h7 := h7.below hb6
                  have hry := hry.below hb6
                  have hr3 := hr3.below hb6
                  have hr4 := hr4.below hb6
                  clear p0 p1 q0 q1 hb6
                  have q0 := h7.cell (k := 0) rfl
                  have q1 := h7.cell (k := 1) rfl
                  repeat' ((fail_if_success at_builtin); (fail_if_success at_make); (first | go_values | go_skip | go_guarded | go_step | go_upon | go_back))
                  refine ((HK2.out A2 c2 w6 hc2 hry)).mono ?_; rintro e_ w9 ⟨rfl, hb9⟩; dsimp only
                  have hbz := hbz.trans (hb9.mono hbz.size)
                  have hr3 := hr3.below hb9
                  have hr4 := hr4.below hb9
                  have t1 := run_str (P := Try.prog) (c := c3) (src := 35) (dst := 9) Try.underlying35 Try.underlying5 Try.underlying9 rfl hr3
                  have t2 := run_str (P := Try.prog) (c := c4) (src := 35) (dst := 9) Try.underlying35 Try.underlying5 Try.underlying9 rfl hr4
                  have hdg := Digest_ok A3 E1.length c3 E1 w9 rfl hc3 (by omega) hr3
                  rw [← HKD.out] at hdg
                  have HDG := Lib.hid hdg
                  have hT := HT.out
                  generalize (⟨E1.toArray⟩ : ByteArray) = T1 at *
                  generalize (⟨E2.toArray⟩ : ByteArray) = T2 at *
                  clear hdg q0 q1 hb9
                  repeat' ((fail_if_success at_builtin); (fail_if_success at_make); (first | go_values | go_skip | go_guarded | go_step | go_upon | go_back))
                  refine ((HDG.out)).mono ?_; rintro e_ w10 ⟨rfl, hb10⟩; dsimp only
                  repeat' ((fail_if_success at_builtin); (fail_if_success at_make); (first | go_values | go_skip | go_guarded | go_step | go_upon | go_back))
                  go_ret
                  exact ⟨rfl, hbz.trans (hb10.mono hbz.size)⟩
                · have hEE : ¬ E1 = E2 := fun h => hxy (HINJ.out h).2
                  have e0 : (S1.toList == S2.toList) = true := by simp [hSS]
                  have HEQ := Lib.hid (EqualP_diff A1 A2 x.length y.length c1 c2 x y w5 rfl rfl (by omega) (by omega) hrx hry hxy)
                  have HT := Lib.hid (show ((⟨E1.toArray⟩ : ByteArray).toList == (⟨E2.toArray⟩ : ByteArray).toList) = false from bytes_ne (fun h => hEE (str_inj.1 h)))
                  clear hSS hxy hEE
                  repeat' ((fail_if_success at_builtin); (fail_if_success at_make); (first | go_values | go_skip | go_guarded | go_step | go_upon | go_back))
                  refine ((HEQ.out)).mono ?_; rintro e_ w6 ⟨rfl, hb6⟩; dsimp only
                  have hbz := hbz.trans (hb6.mono hbz.size)
                  have h7 := h7.below hb6
                  have hry := hry.below hb6
                  have hr3 := hr3.below hb6
                  have hr4 := hr4.below hb6
                  clear p0 p1 q0 q1 hb6
                  have q0 := h7.cell (k := 0) rfl
                  have q1 := h7.cell (k := 1) rfl
                  repeat' ((fail_if_success at_builtin); (fail_if_success at_make); (first | go_values | go_skip | go_guarded | go_step | go_upon | go_back))
                  refine ((HK2.out A2 c2 w6 hc2 hry)).mono ?_; rintro e_ w9 ⟨rfl, hb9⟩; dsimp only
                  have hbz := hbz.trans (hb9.mono hbz.size)
                  have hr3 := hr3.below hb9
                  have hr4 := hr4.below hb9
                  have t1 := run_str (P := Try.prog) (c := c3) (src := 35) (dst := 9) Try.underlying35 Try.underlying5 Try.underlying9 rfl hr3
                  have t2 := run_str (P := Try.prog) (c := c4) (src := 35) (dst := 9) Try.underlying35 Try.underlying5 Try.underlying9 rfl hr4
                  have hdg := Digest_ok A3 E1.length c3 E1 w9 rfl hc3 (by omega) hr3
                  rw [← HKD.out] at hdg
                  have HDG := Lib.hid hdg
                  have hT := HT.out
                  generalize (⟨E1.toArray⟩ : ByteArray) = T1 at *
                  generalize (⟨E2.toArray⟩ : ByteArray) = T2 at *
                  clear hdg q0 q1 hb9
                  repeat' ((fail_if_success at_builtin); (fail_if_success at_make); (first | go_values | go_skip | go_guarded | go_step | go_upon | go_back))
                  refine ((HDG.out)).mono ?_; rintro e_ w10 ⟨rfl, hb10⟩; dsimp only
                  repeat' ((fail_if_success at_builtin); (fail_if_success at_make); (first | go_values | go_skip | go_guarded | go_step | go_upon | go_back))
                  go_ret
                  exact ⟨rfl, hbz.trans (hb10.mono hbz.size)⟩
              · have hEE : ¬ E1 = E2 := fun h => hSS (HCD.out.2 (HINJ.out h).1)
                have e0 : (S1.toList == S2.toList) = false := bytes_ne hSS
                have HT := Lib.hid (show ((⟨E1.toArray⟩ : ByteArray).toList == (⟨E2.toArray⟩ : ByteArray).toList) = false from bytes_ne (fun h => hEE (str_inj.1 h)))
                have hb6 := Below.refl w5.heap.size w5
                clear hSS hEE
                repeat' ((fail_if_success at_builtin); (fail_if_success at_make); (first | go_values | go_skip | go_guarded | go_step | go_upon | go_back))
                have hbz := hbz.trans (hb6.mono hbz.size)
                have h7 := h7.below hb6
                have hry := hry.below hb6
                have hr3 := hr3.below hb6
                have hr4 := hr4.below hb6
                clear p0 p1 q0 q1 hb6
                have q0 := h7.cell (k := 0) rfl
                have q1 := h7.cell (k := 1) rfl
                repeat' ((fail_if_success at_builtin); (fail_if_success at_make); (first | go_values | go_skip | go_guarded | go_step | go_upon | go_back))
                refine ((HK2.out A2 c2 w5 hc2 hry)).mono ?_; rintro e_ w9 ⟨rfl, hb9⟩; dsimp only
                have hbz := hbz.trans (hb9.mono hbz.size)
                have hr3 := hr3.below hb9
                have hr4 := hr4.below hb9
                have t1 := run_str (P := Try.prog) (c := c3) (src := 35) (dst := 9) Try.underlying35 Try.underlying5 Try.underlying9 rfl hr3
                have t2 := run_str (P := Try.prog) (c := c4) (src := 35) (dst := 9) Try.underlying35 Try.underlying5 Try.underlying9 rfl hr4
                have hdg := Digest_ok A3 E1.length c3 E1 w9 rfl hc3 (by omega) hr3
                rw [← HKD.out] at hdg
                have HDG := Lib.hid hdg
                have hT := HT.out
                generalize (⟨E1.toArray⟩ : ByteArray) = T1 at *
                generalize (⟨E2.toArray⟩ : ByteArray) = T2 at *
                clear hdg q0 q1 hb9
                repeat' ((fail_if_success at_builtin); (fail_if_success at_make); (first | go_values | go_skip | go_guarded | go_step | go_upon | go_back))
                refine ((HDG.out)).mono ?_; rintro e_ w10 ⟨rfl, hb10⟩; dsimp only
                repeat' ((fail_if_success at_builtin); (fail_if_success at_make); (first | go_values | go_skip | go_guarded | go_step | go_upon | go_back))
                go_ret
                exact ⟨rfl, hbz.trans (hb10.mono hbz.size)⟩
            exact AllReadyH.nil
          exact AllReadyH.nil
        exact AllReadyH.nil
      refine AllReadyH.cons (o := _) rfl (fun K hK => ?_) ?_
      ·
        go_simp
        refine outG hK ?_ (Below wn11.heap.size wn11) (fun W => Arr W wn11.heap.size 26 [.string ⟨#[]⟩, .slice none 0 0] ∧ wn11.heap.size < W.heap.size ∧ w1.heap.size ≤ wn11.heap.size) ?_ ?_ (fun wn16 hHeld hst hnew => ?_)
        · ((try dsimp only); first | exact HMK.out _ (hB.alloc hB.size _) | exact HMK.out _ (hB.trans (hb2.mono hB.size)) | exact HMK.out _ (hB.trans (hb5.mono hB.size)))
        · (first | exact (Below.refl _ _).alloc (Nat.le_refl _) _ | exact hb2 | exact hb5 | exact Below.refl _ _)
        · (exact ⟨Arr.new _ _ _, by simp, hB.size⟩)
        have h2 := own_below h2 hst
        have h6 := h6.below hst
        try (have l6 := Nat.lt_of_lt_of_le l6 hst.size)
        have hB := hB.trans (hst.mono hB.size)
        obtain ⟨h7, l7, k7⟩ := hnew
        generalize hg7 : wn11.heap.size = g7 at *
        try (have ne67 : g6 ≠ g7 := by omega)
        clear hst
        clear hK K
        try simp only [List.getElem_toArray, List.getElem_cons_zero, List.getElem_cons_succ, Act.put, List.setIfInBounds_toArray, List.set_cons_zero, List.set_cons_succ]
        refine wpAnyH_ready (rs := [5]) (by kernel_rfl) (by simp) ?_
        refine AllReadyH.cons (o := _) rfl (fun K hK => ?_) ?_
        ·
          go_simp
          refine (HACT'.out wn16 (HRR.out _ hB).2).mono ?_
          rintro e5 w5 ⟨v2, rfl, ho5, hb5⟩
          rw [HV'.out]
          dsimp only
          refine outG hK ?_ (Below wn16.heap.size wn16) (fun W => W.ownsRow w1.heap.size 45 3 v2 y.length (pcs y)) ?_ ?_ (fun wn17 hHeld hst hnew => ?_)
          · ((try dsimp only); first | exact HMK.out _ (hB.alloc hB.size _) | exact HMK.out _ (hB.trans (hb2.mono hB.size)) | exact HMK.out _ (hB.trans (hb5.mono hB.size)))
          · (first | exact (Below.refl _ _).alloc (Nat.le_refl _) _ | exact hb2 | exact hb5 | exact Below.refl _ _)
          · (exact own_lower ho5 hB.size)
          have h2 := own_below h2 hst
          have h6 := h6.below hst
          try (have l6 := Nat.lt_of_lt_of_le l6 hst.size)
          have h7 := h7.below hst
          try (have l7 := Nat.lt_of_lt_of_le l7 hst.size)
          have hB := hB.trans (hst.mono hB.size)
          have h5 := hnew
          clear hnew
          clear hst
          clear hK K
          try simp only [List.getElem_toArray, List.getElem_cons_zero, List.getElem_cons_succ, Act.put, List.setIfInBounds_toArray, List.set_cons_zero, List.set_cons_succ]
          refine wpAnyH_ready (rs := [8]) (by kernel_rfl) (by simp) ?_
          refine AllReadyH.cons (o := _) rfl (fun K hK => ?_) ?_
          ·
            obtain ⟨A1, c1, rfl, hc1, _⟩ := Rd.of_own' h2
            have y0 := h6.cell (k := 0) rfl
            have y1 := h6.cell (k := 1) rfl
            have z0 := h6.frozen 0
            have z1 := h6.frozen 1
            have y2 := (h6.set (k := 0) (by simp) (.string S1)).cell (k := 1) rfl
            have y3 := (h6.set (k := 0) (by simp) (.string S1)).frozen 1
            have n1 := own_ne h2 h6 (by decide)
            have n2 := own_ne h5 h6 (by decide)
            go_simp
            refine outG hK ?_ (fun W => Arr W g6 26 [.string S1, .slice A1 x.length c1] ∧ Arr W g7 26 [.string ⟨#[]⟩, .slice none 0 0] ∧ W.ownsRow w1.heap.size 45 3 (.slice A1 x.length c1) x.length (pcs x) ∧ W.ownsRow w1.heap.size 45 3 v2 y.length (pcs y)) (Below w1.heap.size w1) ?_ ?_ (fun wn18 hHeld hF hB => ?_)
            · exact HMK.out _ (Below.put2 hB k6 _ _)
            · exact ⟨h6.put2 _ _, (h7.other (Ne.symm ne67) _).other (Ne.symm ne67) _, own_other (own_other h2 n1) n1, own_other (own_other h5 n2) n2⟩
            · exact Below.put2 hB k6 _ _
            clear h2 h5 h6 h7 n1 n2
            obtain ⟨h6, h7, h2, h5⟩ := hF
            clear hK K
            try simp only [List.getElem_toArray, List.getElem_cons_zero, List.getElem_cons_succ, Act.put, List.setIfInBounds_toArray, List.set_cons_zero, List.set_cons_succ]
            refine wpAnyH_ready (rs := [9]) (by kernel_rfl) (by simp) ?_
            refine AllReadyH.cons (o := _) rfl (fun K hK => ?_) ?_
            ·
              obtain ⟨A2, c2, rfl, hc2, _⟩ := Rd.of_own' h5
              have y0 := h7.cell (k := 0) rfl
              have y1 := h7.cell (k := 1) rfl
              have z0 := h7.frozen 0
              have z1 := h7.frozen 1
              have y2 := (h7.set (k := 0) (by simp) (.string S2)).cell (k := 1) rfl
              have y3 := (h7.set (k := 0) (by simp) (.string S2)).frozen 1
              have n1 := own_ne h2 h7 (by decide)
              have n2 := own_ne h5 h7 (by decide)
              go_simp
              refine outG hK ?_ (fun W => Arr W g6 26 [.string S1, .slice A1 x.length c1] ∧ Arr W g7 26 [.string S2, .slice A2 y.length c2] ∧ W.ownsRow w1.heap.size 45 3 (.slice A1 x.length c1) x.length (pcs x) ∧ W.ownsRow w1.heap.size 45 3 (.slice A2 y.length c2) y.length (pcs y)) (Below w1.heap.size w1) ?_ ?_ (fun wn19 hHeld hF hB => ?_)
              · exact HMK.out _ (Below.put2 hB k7 _ _)
              · exact ⟨(h6.other ne67 _).other ne67 _, h7.put2 _ _, own_other (own_other h2 n1) n1, own_other (own_other h5 n2) n2⟩
              · exact Below.put2 hB k7 _ _
              clear h2 h5 h6 h7 n1 n2
              obtain ⟨h6, h7, h2, h5⟩ := hF
              clear hK K
              try simp only [List.getElem_toArray, List.getElem_cons_zero, List.getElem_cons_succ, Act.put, List.setIfInBounds_toArray, List.set_cons_zero, List.set_cons_succ]
              refine wpAnyH_done (by kernel_rfl) ?_ _
              clear hHeld
              dsimp only [Exit.then]
              have hbz := HB1.out.trans (hB.mono HB1.out.size)
              have hrx := Rd.of_own h2
              have hry := Rd.of_own h5
              clear h2 h5 hB
              have p0 := h6.cell (k := 0) rfl
              have p1 := h6.cell (k := 1) rfl
              repeat' ((fail_if_success at_builtin); (fail_if_success at_make); (first | go_values | go_skip | go_guarded | go_step | go_upon | go_back))
              refine ((HE1.out A1 c1 wn19 hc1 hrx)).mono ?_; rintro e_ w3 ⟨A3, c3, rfl, hr3, hc3, hm3, hb3⟩; dsimp only
              have hbz := hbz.trans (hb3.mono hbz.size)
              have h6 := h6.below hb3
              have h7 := h7.below hb3
              have hrx := hrx.below hb3
              have hry := hry.below hb3
              clear p0 p1 hb3
              have p0 := h7.cell (k := 0) rfl
              have p1 := h7.cell (k := 1) rfl
              repeat' ((fail_if_success at_builtin); (fail_if_success at_make); (first | go_values | go_skip | go_guarded | go_step | go_upon | go_back))
              refine ((HE2.out A2 c2 w3 hc2 hry)).mono ?_; rintro e_ w4 ⟨A4, c4, rfl, hr4, hc4, hm4, hb4⟩; dsimp only
              have hbz := hbz.trans (hb4.mono hbz.size)
              have h6 := h6.below hb4
              have h7 := h7.below hb4
              have hrx := hrx.below hb4
              have hry := hry.below hb4
              have hr3 := hr3.below hb4
              clear p0 p1 hb4
              have p0 := h6.cell (k := 0) rfl
              have p1 := h6.cell (k := 1) rfl
              repeat' ((fail_if_success at_builtin); (fail_if_success at_make); (first | go_values | go_skip | go_guarded | go_step | go_upon | go_back))
              refine ((HK1.out A1 c1 w4 hc1 hrx)).mono ?_; rintro e_ w5 ⟨rfl, hb5⟩; dsimp only
              have hbz := hbz.trans (hb5.mono hbz.size)
              have h6 := h6.below hb5
              have h7 := h7.below hb5
              have hrx := hrx.below hb5
              have hry := hry.below hb5
              have hr3 := hr3.below hb5
              have hr4 := hr4.below hb5
              clear p0 p1 hb5
              have p0 := h6.cell (k := 0) rfl
              have p1 := h6.cell (k := 1) rfl
              have q0 := h7.cell (k := 0) rfl
              have q1 := h7.cell (k := 1) rfl
              by_cases hSS : S1 = S2
              · by_cases hxy : x = y
                · have hEE := HSAME.out (HCD.out.1 hSS) hxy
                  have hKK := HKK.out hEE
                  have e0 : (S1.toList == S2.toList) = true := by simp [hSS]
                  have eK : (K1.toList == K2.toList) = true := by simp [hKK]
                  have HEQ := Lib.hid (by
                    have h := EqualP_same A1 A2 x.length c1 c2 x w5 rfl (by omega) hrx (by rw [hxy]; exact hry)
                    rw [show x.length = y.length by rw [hxy]] at h ⊢
                    exact h : Calls Try.prog 15 #[.slice A1 x.length c1, .slice A2 y.length c2] w5 fun e w' => e = .returned (.bool true) ∧ Below w5.heap.size w5 w')
                  have HT := Lib.hid (show ((⟨E1.toArray⟩ : ByteArray).toList == (⟨E2.toArray⟩ : ByteArray).toList) = true by simp [hEE])
                  clear hSS hxy hEE hKK
                  repeat' ((fail_if_success at_builtin); (fail_if_success at_make); (first | go_values | go_skip | go_guarded | go_step | go_upon | go_back))
                  refine ((HEQ.out)).mono ?_; rintro e_ w6 ⟨rfl, hb6⟩; dsimp only
                  have hbz := hbz.trans (hb6.mono hbz.size)
                  have h7 := h7.below hb6
                  have hry := hry.below hb6
                  have hr3 := hr3.below hb6
                  have hr4 := hr4.below hb6
                  clear p0 p1 q0 q1 hb6
                  have q0 := h7.cell (k := 0) rfl
                  have q1 := h7.cell (k := 1) rfl
                  repeat' ((fail_if_success at_builtin); (fail_if_success at_make); (first | go_values | go_skip | go_guarded | go_step | go_upon | go_back))
                  refine ((HK2.out A2 c2 w6 hc2 hry)).mono ?_; rintro e_ w9 ⟨rfl, hb9⟩; dsimp only
                  have hbz := hbz.trans (hb9.mono hbz.size)
                  have hr3 := hr3.below hb9
                  have hr4 := hr4.below hb9
                  have t1 := run_str (P := Try.prog) (c := c3) (src := 35) (dst := 9) Try.underlying35 Try.underlying5 Try.underlying9 rfl hr3
                  have t2 := run_str (P := Try.prog) (c := c4) (src := 35) (dst := 9) Try.underlying35 Try.underlying5 Try.underlying9 rfl hr4
                  have hdg := Digest_ok A3 E1.length c3 E1 w9 rfl hc3 (by omega) hr3
                  rw [← HKD.out] at hdg
                  have HDG := Lib.hid hdg
                  have hT := HT.out
                  generalize (⟨E1.toArray⟩ : ByteArray) = T1 at *
                  generalize (⟨E2.toArray⟩ : ByteArray) = T2 at *
                  clear hdg q0 q1 hb9
                  repeat' ((fail_if_success at_builtin); (fail_if_success at_make); (first | go_values | go_skip | go_guarded | go_step | go_upon | go_back))
                  refine ((HDG.out)).mono ?_; rintro e_ w10 ⟨rfl, hb10⟩; dsimp only
                  repeat' ((fail_if_success at_builtin); (fail_if_success at_make); (first | go_values | go_skip | go_guarded | go_step | go_upon | go_back))
                  go_ret
                  exact ⟨rfl, hbz.trans (hb10.mono hbz.size)⟩
                · have hEE : ¬ E1 = E2 := fun h => hxy (HINJ.out h).2
                  have e0 : (S1.toList == S2.toList) = true := by simp [hSS]
                  have HEQ := Lib.hid (EqualP_diff A1 A2 x.length y.length c1 c2 x y w5 rfl rfl (by omega) (by omega) hrx hry hxy)
                  have HT := Lib.hid (show ((⟨E1.toArray⟩ : ByteArray).toList == (⟨E2.toArray⟩ : ByteArray).toList) = false from bytes_ne (fun h => hEE (str_inj.1 h)))
                  clear hSS hxy hEE
                  repeat' ((fail_if_success at_builtin); (fail_if_success at_make); (first | go_values | go_skip | go_guarded | go_step | go_upon | go_back))
                  refine ((HEQ.out)).mono ?_; rintro e_ w6 ⟨rfl, hb6⟩; dsimp only
                  have hbz := hbz.trans (hb6.mono hbz.size)
                  have h7 := h7.below hb6
                  have hry := hry.below hb6
                  have hr3 := hr3.below hb6
                  have hr4 := hr4.below hb6
                  clear p0 p1 q0 q1 hb6
                  have q0 := h7.cell (k := 0) rfl
                  have q1 := h7.cell (k := 1) rfl
                  repeat' ((fail_if_success at_builtin); (fail_if_success at_make); (first | go_values | go_skip | go_guarded | go_step | go_upon | go_back))
                  refine ((HK2.out A2 c2 w6 hc2 hry)).mono ?_; rintro e_ w9 ⟨rfl, hb9⟩; dsimp only
                  have hbz := hbz.trans (hb9.mono hbz.size)
                  have hr3 := hr3.below hb9
                  have hr4 := hr4.below hb9
                  have t1 := run_str (P := Try.prog) (c := c3) (src := 35) (dst := 9) Try.underlying35 Try.underlying5 Try.underlying9 rfl hr3
                  have t2 := run_str (P := Try.prog) (c := c4) (src := 35) (dst := 9) Try.underlying35 Try.underlying5 Try.underlying9 rfl hr4
                  have hdg := Digest_ok A3 E1.length c3 E1 w9 rfl hc3 (by omega) hr3
                  rw [← HKD.out] at hdg
                  have HDG := Lib.hid hdg
                  have hT := HT.out
                  generalize (⟨E1.toArray⟩ : ByteArray) = T1 at *
                  generalize (⟨E2.toArray⟩ : ByteArray) = T2 at *
                  clear hdg q0 q1 hb9
                  repeat' ((fail_if_success at_builtin); (fail_if_success at_make); (first | go_values | go_skip | go_guarded | go_step | go_upon | go_back))
                  refine ((HDG.out)).mono ?_; rintro e_ w10 ⟨rfl, hb10⟩; dsimp only
                  repeat' ((fail_if_success at_builtin); (fail_if_success at_make); (first | go_values | go_skip | go_guarded | go_step | go_upon | go_back))
                  go_ret
                  exact ⟨rfl, hbz.trans (hb10.mono hbz.size)⟩
              · have hEE : ¬ E1 = E2 := fun h => hSS (HCD.out.2 (HINJ.out h).1)
                have e0 : (S1.toList == S2.toList) = false := bytes_ne hSS
                have HT := Lib.hid (show ((⟨E1.toArray⟩ : ByteArray).toList == (⟨E2.toArray⟩ : ByteArray).toList) = false from bytes_ne (fun h => hEE (str_inj.1 h)))
                have hb6 := Below.refl w5.heap.size w5
                clear hSS hEE
                repeat' ((fail_if_success at_builtin); (fail_if_success at_make); (first | go_values | go_skip | go_guarded | go_step | go_upon | go_back))
                have hbz := hbz.trans (hb6.mono hbz.size)
                have h7 := h7.below hb6
                have hry := hry.below hb6
                have hr3 := hr3.below hb6
                have hr4 := hr4.below hb6
                clear p0 p1 q0 q1 hb6
                have q0 := h7.cell (k := 0) rfl
                have q1 := h7.cell (k := 1) rfl
                repeat' ((fail_if_success at_builtin); (fail_if_success at_make); (first | go_values | go_skip | go_guarded | go_step | go_upon | go_back))
                refine ((HK2.out A2 c2 w5 hc2 hry)).mono ?_; rintro e_ w9 ⟨rfl, hb9⟩; dsimp only
                have hbz := hbz.trans (hb9.mono hbz.size)
                have hr3 := hr3.below hb9
                have hr4 := hr4.below hb9
                have t1 := run_str (P := Try.prog) (c := c3) (src := 35) (dst := 9) Try.underlying35 Try.underlying5 Try.underlying9 rfl hr3
                have t2 := run_str (P := Try.prog) (c := c4) (src := 35) (dst := 9) Try.underlying35 Try.underlying5 Try.underlying9 rfl hr4
                have hdg := Digest_ok A3 E1.length c3 E1 w9 rfl hc3 (by omega) hr3
                rw [← HKD.out] at hdg
                have HDG := Lib.hid hdg
                have hT := HT.out
                generalize (⟨E1.toArray⟩ : ByteArray) = T1 at *
                generalize (⟨E2.toArray⟩ : ByteArray) = T2 at *
                clear hdg q0 q1 hb9
                repeat' ((fail_if_success at_builtin); (fail_if_success at_make); (first | go_values | go_skip | go_guarded | go_step | go_upon | go_back))
                refine ((HDG.out)).mono ?_; rintro e_ w10 ⟨rfl, hb10⟩; dsimp only
                repeat' ((fail_if_success at_builtin); (fail_if_success at_make); (first | go_values | go_skip | go_guarded | go_step | go_upon | go_back))
                go_ret
                exact ⟨rfl, hbz.trans (hb10.mono hbz.size)⟩
            exact AllReadyH.nil
          exact AllReadyH.nil
        exact AllReadyH.nil
      exact AllReadyH.nil
    refine AllReadyH.cons (o := _) rfl (fun K hK => ?_) ?_
    ·
      go_simp
      refine outG hK ?_ (Below wn1.heap.size wn1) (fun W => Arr W wn1.heap.size 26 [.string ⟨#[]⟩, .slice none 0 0] ∧ wn1.heap.size < W.heap.size ∧ w1.heap.size ≤ wn1.heap.size) ?_ ?_ (fun wn20 hHeld hst hnew => ?_)
      · ((try dsimp only); first | exact HMK.out _ (hB.alloc hB.size _) | exact HMK.out _ (hB.trans (hb2.mono hB.size)) | exact HMK.out _ (hB.trans (hb5.mono hB.size)))
      · (first | exact (Below.refl _ _).alloc (Nat.le_refl _) _ | exact hb2 | exact hb5 | exact Below.refl _ _)
      · (exact ⟨Arr.new _ _ _, by simp, hB.size⟩)
      have h2 := own_below h2 hst
      have hB := hB.trans (hst.mono hB.size)
      obtain ⟨h7, l7, k7⟩ := hnew
      generalize hg7 : wn1.heap.size = g7 at *
      try (have ne67 : g6 ≠ g7 := by omega)
      clear hst
      clear hK K
      try simp only [List.getElem_toArray, List.getElem_cons_zero, List.getElem_cons_succ, Act.put, List.setIfInBounds_toArray, List.set_cons_zero, List.set_cons_succ]
      refine wpAnyH_ready (rs := [5, 6]) (by kernel_rfl) (by simp) ?_
      refine AllReadyH.cons (o := _) rfl (fun K hK => ?_) ?_
      ·
        go_simp
        refine (HACT'.out wn20 (HRR.out _ hB).2).mono ?_
        rintro e5 w5 ⟨v2, rfl, ho5, hb5⟩
        rw [HV'.out]
        dsimp only
        refine outG hK ?_ (Below wn20.heap.size wn20) (fun W => W.ownsRow w1.heap.size 45 3 v2 y.length (pcs y)) ?_ ?_ (fun wn21 hHeld hst hnew => ?_)
        · ((try dsimp only); first | exact HMK.out _ (hB.alloc hB.size _) | exact HMK.out _ (hB.trans (hb2.mono hB.size)) | exact HMK.out _ (hB.trans (hb5.mono hB.size)))
        · (first | exact (Below.refl _ _).alloc (Nat.le_refl _) _ | exact hb2 | exact hb5 | exact Below.refl _ _)
        · (exact own_lower ho5 hB.size)
        have h2 := own_below h2 hst
        have h7 := h7.below hst
        try (have l7 := Nat.lt_of_lt_of_le l7 hst.size)
        have hB := hB.trans (hst.mono hB.size)
        have h5 := hnew
        clear hnew
        clear hst
        clear hK K
        try simp only [List.getElem_toArray, List.getElem_cons_zero, List.getElem_cons_succ, Act.put, List.setIfInBounds_toArray, List.set_cons_zero, List.set_cons_succ]
        refine wpAnyH_ready (rs := [6]) (by kernel_rfl) (by simp) ?_
        refine AllReadyH.cons (o := _) rfl (fun K hK => ?_) ?_
        ·
          go_simp
          refine outG hK ?_ (Below wn21.heap.size wn21) (fun W => Arr W wn21.heap.size 26 [.string ⟨#[]⟩, .slice none 0 0] ∧ wn21.heap.size < W.heap.size ∧ w1.heap.size ≤ wn21.heap.size) ?_ ?_ (fun wn22 hHeld hst hnew => ?_)
          · ((try dsimp only); first | exact HMK.out _ (hB.alloc hB.size _) | exact HMK.out _ (hB.trans (hb2.mono hB.size)) | exact HMK.out _ (hB.trans (hb5.mono hB.size)))
          · (first | exact (Below.refl _ _).alloc (Nat.le_refl _) _ | exact hb2 | exact hb5 | exact Below.refl _ _)
          · (exact ⟨Arr.new _ _ _, by simp, hB.size⟩)
          have h2 := own_below h2 hst
          have h5 := own_below h5 hst
          have h7 := h7.below hst
          try (have l7 := Nat.lt_of_lt_of_le l7 hst.size)
          have hB := hB.trans (hst.mono hB.size)
          obtain ⟨h6, l6, k6⟩ := hnew
          generalize hg6 : wn21.heap.size = g6 at *
          try (have ne67 : g6 ≠ g7 := by omega)
          clear hst
          clear hK K
          try simp only [List.getElem_toArray, List.getElem_cons_zero, List.getElem_cons_succ, Act.put, List.setIfInBounds_toArray, List.set_cons_zero, List.set_cons_succ]
          refine wpAnyH_ready (rs := [8]) (by kernel_rfl) (by simp) ?_
          refine AllReadyH.cons (o := _) rfl (fun K hK => ?_) ?_
          ·
            obtain ⟨A1, c1, rfl, hc1, _⟩ := Rd.of_own' h2
            have y0 := h6.cell (k := 0) rfl
            have y1 := h6.cell (k := 1) rfl
            have z0 := h6.frozen 0
            have z1 := h6.frozen 1
            have y2 := (h6.set (k := 0) (by simp) (.string S1)).cell (k := 1) rfl
            have y3 := (h6.set (k := 0) (by simp) (.string S1)).frozen 1
            have n1 := own_ne h2 h6 (by decide)
            have n2 := own_ne h5 h6 (by decide)
            go_simp
            refine outG hK ?_ (fun W => Arr W g6 26 [.string S1, .slice A1 x.length c1] ∧ Arr W g7 26 [.string ⟨#[]⟩, .slice none 0 0] ∧ W.ownsRow w1.heap.size 45 3 (.slice A1 x.length c1) x.length (pcs x) ∧ W.ownsRow w1.heap.size 45 3 v2 y.length (pcs y)) (Below w1.heap.size w1) ?_ ?_ (fun wn23 hHeld hF hB => ?_)
            · exact HMK.out _ (Below.put2 hB k6 _ _)
            · exact ⟨h6.put2 _ _, (h7.other (Ne.symm ne67) _).other (Ne.symm ne67) _, own_other (own_other h2 n1) n1, own_other (own_other h5 n2) n2⟩
            · exact Below.put2 hB k6 _ _
            clear h2 h5 h6 h7 n1 n2
            obtain ⟨h6, h7, h2, h5⟩ := hF
            clear hK K
            try simp only [List.getElem_toArray, List.getElem_cons_zero, List.getElem_cons_succ, Act.put, List.setIfInBounds_toArray, List.set_cons_zero, List.set_cons_succ]
            refine wpAnyH_ready (rs := [9]) (by kernel_rfl) (by simp) ?_
            refine AllReadyH.cons (o := _) rfl (fun K hK => ?_) ?_
            ·
              obtain ⟨A2, c2, rfl, hc2, _⟩ := Rd.of_own' h5
              have y0 := h7.cell (k := 0) rfl
              have y1 := h7.cell (k := 1) rfl
              have z0 := h7.frozen 0
              have z1 := h7.frozen 1
              have y2 := (h7.set (k := 0) (by simp) (.string S2)).cell (k := 1) rfl
              have y3 := (h7.set (k := 0) (by simp) (.string S2)).frozen 1
              have n1 := own_ne h2 h7 (by decide)
              have n2 := own_ne h5 h7 (by decide)
              go_simp
              refine outG hK ?_ (fun W => Arr W g6 26 [.string S1, .slice A1 x.length c1] ∧ Arr W g7 26 [.string S2, .slice A2 y.length c2] ∧ W.ownsRow w1.heap.size 45 3 (.slice A1 x.length c1) x.length (pcs x) ∧ W.ownsRow w1.heap.size 45 3 (.slice A2 y.length c2) y.length (pcs y)) (Below w1.heap.size w1) ?_ ?_ (fun wn24 hHeld hF hB => ?_)
              · exact HMK.out _ (Below.put2 hB k7 _ _)
              · exact ⟨(h6.other ne67 _).other ne67 _, h7.put2 _ _, own_other (own_other h2 n1) n1, own_other (own_other h5 n2) n2⟩
              · exact Below.put2 hB k7 _ _
              clear h2 h5 h6 h7 n1 n2
              obtain ⟨h6, h7, h2, h5⟩ := hF
              clear hK K
              try simp only [List.getElem_toArray, List.getElem_cons_zero, List.getElem_cons_succ, Act.put, List.setIfInBounds_toArray, List.set_cons_zero, List.set_cons_succ]
              refine wpAnyH_done (by kernel_rfl) ?_ _
              clear hHeld
              dsimp only [Exit.then]
              have hbz := HB1.out.trans (hB.mono HB1.out.size)
              have hrx := Rd.of_own h2
              have hry := Rd.of_own h5
              clear h2 h5 hB
              have p0 := h6.cell (k := 0) rfl
              have p1 := h6.cell (k := 1) rfl
              repeat' ((fail_if_success at_builtin); (fail_if_success at_make); (first | go_values | go_skip | go_guarded | go_step | go_upon | go_back))
              refine ((HE1.out A1 c1 wn24 hc1 hrx)).mono ?_; rintro e_ w3 ⟨A3, c3, rfl, hr3, hc3, hm3, hb3⟩; dsimp only
              have hbz := hbz.trans (hb3.mono hbz.size)
              have h6 := h6.below hb3
              have h7 := h7.below hb3
              have hrx := hrx.below hb3
              have hry := hry.below hb3
              clear p0 p1 hb3
              have p0 := h7.cell (k := 0) rfl
              have p1 := h7.cell (k := 1) rfl
              repeat' ((fail_if_success at_builtin); (fail_if_success at_make); (first | go_values | go_skip | go_guarded | go_step | go_upon | go_back))
              refine ((HE2.out A2 c2 w3 hc2 hry)).mono ?_; rintro e_ w4 ⟨A4, c4, rfl, hr4, hc4, hm4, hb4⟩; dsimp only
              have hbz := hbz.trans (hb4.mono hbz.size)
              have h6 := h6.below hb4
              have h7 := h7.below hb4
              have hrx := hrx.below hb4
              have hry := hry.below hb4
              have hr3 := hr3.below hb4
              clear p0 p1 hb4
              have p0 := h6.cell (k := 0) rfl
              have p1 := h6.cell (k := 1) rfl
              repeat' ((fail_if_success at_builtin); (fail_if_success at_make); (first | go_values | go_skip | go_guarded | go_step | go_upon | go_back))
              refine ((HK1.out A1 c1 w4 hc1 hrx)).mono ?_; rintro e_ w5 ⟨rfl, hb5⟩; dsimp only
              have hbz := hbz.trans (hb5.mono hbz.size)
              have h6 := h6.below hb5
              have h7 := h7.below hb5
              have hrx := hrx.below hb5
              have hry := hry.below hb5
              have hr3 := hr3.below hb5
              have hr4 := hr4.below hb5
              clear p0 p1 hb5
              have p0 := h6.cell (k := 0) rfl
              have p1 := h6.cell (k := 1) rfl
              have q0 := h7.cell (k := 0) rfl
              have q1 := h7.cell (k := 1) rfl
              by_cases hSS : S1 = S2
              · by_cases hxy : x = y
                · have hEE := HSAME.out (HCD.out.1 hSS) hxy
                  have hKK := HKK.out hEE
                  have e0 : (S1.toList == S2.toList) = true := by simp [hSS]
                  have eK : (K1.toList == K2.toList) = true := by simp [hKK]
                  have HEQ := Lib.hid (by
                    have h := EqualP_same A1 A2 x.length c1 c2 x w5 rfl (by omega) hrx (by rw [hxy]; exact hry)
                    rw [show x.length = y.length by rw [hxy]] at h ⊢
                    exact h : Calls Try.prog 15 #[.slice A1 x.length c1, .slice A2 y.length c2] w5 fun e w' => e = .returned (.bool true) ∧ Below w5.heap.size w5 w')
                  have HT := Lib.hid (show ((⟨E1.toArray⟩ : ByteArray).toList == (⟨E2.toArray⟩ : ByteArray).toList) = true by simp [hEE])
                  clear hSS hxy hEE hKK
                  repeat' ((fail_if_success at_builtin); (fail_if_success at_make); (first | go_values | go_skip | go_guarded | go_step | go_upon | go_back))
                  refine ((HEQ.out)).mono ?_; rintro e_ w6 ⟨rfl, hb6⟩; dsimp only
                  have hbz := hbz.trans (hb6.mono hbz.size)
                  have h7 := h7.below hb6
                  have hry := hry.below hb6
                  have hr3 := hr3.below hb6
                  have hr4 := hr4.below hb6
                  clear p0 p1 q0 q1 hb6
                  have q0 := h7.cell (k := 0) rfl
                  have q1 := h7.cell (k := 1) rfl
                  repeat' ((fail_if_success at_builtin); (fail_if_success at_make); (first | go_values | go_skip | go_guarded | go_step | go_upon | go_back))
                  refine ((HK2.out A2 c2 w6 hc2 hry)).mono ?_; rintro e_ w9 ⟨rfl, hb9⟩; dsimp only
                  have hbz := hbz.trans (hb9.mono hbz.size)
                  have hr3 := hr3.below hb9
                  have hr4 := hr4.below hb9
                  have t1 := run_str (P := Try.prog) (c := c3) (src := 35) (dst := 9) Try.underlying35 Try.underlying5 Try.underlying9 rfl hr3
                  have t2 := run_str (P := Try.prog) (c := c4) (src := 35) (dst := 9) Try.underlying35 Try.underlying5 Try.underlying9 rfl hr4
                  have hdg := Digest_ok A3 E1.length c3 E1 w9 rfl hc3 (by omega) hr3
                  rw [← HKD.out] at hdg
                  have HDG := Lib.hid hdg
                  have hT := HT.out
                  generalize (⟨E1.toArray⟩ : ByteArray) = T1 at *
                  generalize (⟨E2.toArray⟩ : ByteArray) = T2 at *
                  clear hdg q0 q1 hb9
                  repeat' ((fail_if_success at_builtin); (fail_if_success at_make); (first | go_values | go_skip | go_guarded | go_step | go_upon | go_back))
                  refine ((HDG.out)).mono ?_; rintro e_ w10 ⟨rfl, hb10⟩; dsimp only
                  repeat' ((fail_if_success at_builtin); (fail_if_success at_make); (first | go_values | go_skip | go_guarded | go_step | go_upon | go_back))
                  go_ret
                  exact ⟨rfl, hbz.trans (hb10.mono hbz.size)⟩
                · have hEE : ¬ E1 = E2 := fun h => hxy (HINJ.out h).2
                  have e0 : (S1.toList == S2.toList) = true := by simp [hSS]
                  have HEQ := Lib.hid (EqualP_diff A1 A2 x.length y.length c1 c2 x y w5 rfl rfl (by omega) (by omega) hrx hry hxy)
                  have HT := Lib.hid (show ((⟨E1.toArray⟩ : ByteArray).toList == (⟨E2.toArray⟩ : ByteArray).toList) = false from bytes_ne (fun h => hEE (str_inj.1 h)))
                  clear hSS hxy hEE
                  repeat' ((fail_if_success at_builtin); (fail_if_success at_make); (first | go_values | go_skip | go_guarded | go_step | go_upon | go_back))
                  refine ((HEQ.out)).mono ?_; rintro e_ w6 ⟨rfl, hb6⟩; dsimp only
                  have hbz := hbz.trans (hb6.mono hbz.size)
                  have h7 := h7.below hb6
                  have hry := hry.below hb6
                  have hr3 := hr3.below hb6
                  have hr4 := hr4.below hb6
                  clear p0 p1 q0 q1 hb6
                  have q0 := h7.cell (k := 0) rfl
                  have q1 := h7.cell (k := 1) rfl
                  repeat' ((fail_if_success at_builtin); (fail_if_success at_make); (first | go_values | go_skip | go_guarded | go_step | go_upon | go_back))
                  refine ((HK2.out A2 c2 w6 hc2 hry)).mono ?_; rintro e_ w9 ⟨rfl, hb9⟩; dsimp only
                  have hbz := hbz.trans (hb9.mono hbz.size)
                  have hr3 := hr3.below hb9
                  have hr4 := hr4.below hb9
                  have t1 := run_str (P := Try.prog) (c := c3) (src := 35) (dst := 9) Try.underlying35 Try.underlying5 Try.underlying9 rfl hr3
                  have t2 := run_str (P := Try.prog) (c := c4) (src := 35) (dst := 9) Try.underlying35 Try.underlying5 Try.underlying9 rfl hr4
                  have hdg := Digest_ok A3 E1.length c3 E1 w9 rfl hc3 (by omega) hr3
                  rw [← HKD.out] at hdg
                  have HDG := Lib.hid hdg
                  have hT := HT.out
                  generalize (⟨E1.toArray⟩ : ByteArray) = T1 at *
                  generalize (⟨E2.toArray⟩ : ByteArray) = T2 at *
                  clear hdg q0 q1 hb9
                  repeat' ((fail_if_success at_builtin); (fail_if_success at_make); (first | go_values | go_skip | go_guarded | go_step | go_upon | go_back))
                  refine ((HDG.out)).mono ?_; rintro e_ w10 ⟨rfl, hb10⟩; dsimp only
                  repeat' ((fail_if_success at_builtin); (fail_if_success at_make); (first | go_values | go_skip | go_guarded | go_step | go_upon | go_back))
                  go_ret
                  exact ⟨rfl, hbz.trans (hb10.mono hbz.size)⟩
              · have hEE : ¬ E1 = E2 := fun h => hSS (HCD.out.2 (HINJ.out h).1)
                have e0 : (S1.toList == S2.toList) = false := bytes_ne hSS
                have HT := Lib.hid (show ((⟨E1.toArray⟩ : ByteArray).toList == (⟨E2.toArray⟩ : ByteArray).toList) = false from bytes_ne (fun h => hEE (str_inj.1 h)))
                have hb6 := Below.refl w5.heap.size w5
                clear hSS hEE
                repeat' ((fail_if_success at_builtin); (fail_if_success at_make); (first | go_values | go_skip | go_guarded | go_step | go_upon | go_back))
                have hbz := hbz.trans (hb6.mono hbz.size)
                have h7 := h7.below hb6
                have hry := hry.below hb6
                have hr3 := hr3.below hb6
                have hr4 := hr4.below hb6
                clear p0 p1 q0 q1 hb6
                have q0 := h7.cell (k := 0) rfl
                have q1 := h7.cell (k := 1) rfl
                repeat' ((fail_if_success at_builtin); (fail_if_success at_make); (first | go_values | go_skip | go_guarded | go_step | go_upon | go_back))
                refine ((HK2.out A2 c2 w5 hc2 hry)).mono ?_; rintro e_ w9 ⟨rfl, hb9⟩; dsimp only
                have hbz := hbz.trans (hb9.mono hbz.size)
                have hr3 := hr3.below hb9
                have hr4 := hr4.below hb9
                have t1 := run_str (P := Try.prog) (c := c3) (src := 35) (dst := 9) Try.underlying35 Try.underlying5 Try.underlying9 rfl hr3
                have t2 := run_str (P := Try.prog) (c := c4) (src := 35) (dst := 9) Try.underlying35 Try.underlying5 Try.underlying9 rfl hr4
                have hdg := Digest_ok A3 E1.length c3 E1 w9 rfl hc3 (by omega) hr3
                rw [← HKD.out] at hdg
                have HDG := Lib.hid hdg
                have hT := HT.out
                generalize (⟨E1.toArray⟩ : ByteArray) = T1 at *
                generalize (⟨E2.toArray⟩ : ByteArray) = T2 at *
                clear hdg q0 q1 hb9
                repeat' ((fail_if_success at_builtin); (fail_if_success at_make); (first | go_values | go_skip | go_guarded | go_step | go_upon | go_back))
                refine ((HDG.out)).mono ?_; rintro e_ w10 ⟨rfl, hb10⟩; dsimp only
                repeat' ((fail_if_success at_builtin); (fail_if_success at_make); (first | go_values | go_skip | go_guarded | go_step | go_upon | go_back))
                go_ret
                exact ⟨rfl, hbz.trans (hb10.mono hbz.size)⟩
            exact AllReadyH.nil
          exact AllReadyH.nil
        exact AllReadyH.nil
      refine AllReadyH.cons (o := _) rfl (fun K hK => ?_) ?_
      ·
        go_simp
        refine outG hK ?_ (Below wn20.heap.size wn20) (fun W => Arr W wn20.heap.size 26 [.string ⟨#[]⟩, .slice none 0 0] ∧ wn20.heap.size < W.heap.size ∧ w1.heap.size ≤ wn20.heap.size) ?_ ?_ (fun wn25 hHeld hst hnew => ?_)
        · ((try dsimp only); first | exact HMK.out _ (hB.alloc hB.size _) | exact HMK.out _ (hB.trans (hb2.mono hB.size)) | exact HMK.out _ (hB.trans (hb5.mono hB.size)))
        · (first | exact (Below.refl _ _).alloc (Nat.le_refl _) _ | exact hb2 | exact hb5 | exact Below.refl _ _)
        · (exact ⟨Arr.new _ _ _, by simp, hB.size⟩)
        have h2 := own_below h2 hst
        have h7 := h7.below hst
        try (have l7 := Nat.lt_of_lt_of_le l7 hst.size)
        have hB := hB.trans (hst.mono hB.size)
        obtain ⟨h6, l6, k6⟩ := hnew
        generalize hg6 : wn20.heap.size = g6 at *
        try (have ne67 : g6 ≠ g7 := by omega)
        clear hst
        clear hK K
        try simp only [List.getElem_toArray, List.getElem_cons_zero, List.getElem_cons_succ, Act.put, List.setIfInBounds_toArray, List.set_cons_zero, List.set_cons_succ]
        refine wpAnyH_ready (rs := [5]) (by kernel_rfl) (by simp) ?_
        refine AllReadyH.cons (o := _) rfl (fun K hK => ?_) ?_
        ·
          go_simp
          refine (HACT'.out wn25 (HRR.out _ hB).2).mono ?_
          rintro e5 w5 ⟨v2, rfl, ho5, hb5⟩
          rw [HV'.out]
          dsimp only
          refine outG hK ?_ (Below wn25.heap.size wn25) (fun W => W.ownsRow w1.heap.size 45 3 v2 y.length (pcs y)) ?_ ?_ (fun wn26 hHeld hst hnew => ?_)
          · ((try dsimp only); first | exact HMK.out _ (hB.alloc hB.size _) | exact HMK.out _ (hB.trans (hb2.mono hB.size)) | exact HMK.out _ (hB.trans (hb5.mono hB.size)))
          · (first | exact (Below.refl _ _).alloc (Nat.le_refl _) _ | exact hb2 | exact hb5 | exact Below.refl _ _)
          · (exact own_lower ho5 hB.size)
          have h2 := own_below h2 hst
          have h6 := h6.below hst
          try (have l6 := Nat.lt_of_lt_of_le l6 hst.size)
          have h7 := h7.below hst
          try (have l7 := Nat.lt_of_lt_of_le l7 hst.size)
          have hB := hB.trans (hst.mono hB.size)
          have h5 := hnew
          clear hnew
          clear hst
          clear hK K
          try simp only [List.getElem_toArray, List.getElem_cons_zero, List.getElem_cons_succ, Act.put, List.setIfInBounds_toArray, List.set_cons_zero, List.set_cons_succ]
          refine wpAnyH_ready (rs := [8]) (by kernel_rfl) (by simp) ?_
          refine AllReadyH.cons (o := _) rfl (fun K hK => ?_) ?_
          ·
            obtain ⟨A1, c1, rfl, hc1, _⟩ := Rd.of_own' h2
            have y0 := h6.cell (k := 0) rfl
            have y1 := h6.cell (k := 1) rfl
            have z0 := h6.frozen 0
            have z1 := h6.frozen 1
            have y2 := (h6.set (k := 0) (by simp) (.string S1)).cell (k := 1) rfl
            have y3 := (h6.set (k := 0) (by simp) (.string S1)).frozen 1
            have n1 := own_ne h2 h6 (by decide)
            have n2 := own_ne h5 h6 (by decide)
            go_simp
            refine outG hK ?_ (fun W => Arr W g6 26 [.string S1, .slice A1 x.length c1] ∧ Arr W g7 26 [.string ⟨#[]⟩, .slice none 0 0] ∧ W.ownsRow w1.heap.size 45 3 (.slice A1 x.length c1) x.length (pcs x) ∧ W.ownsRow w1.heap.size 45 3 v2 y.length (pcs y)) (Below w1.heap.size w1) ?_ ?_ (fun wn27 hHeld hF hB => ?_)
            · exact HMK.out _ (Below.put2 hB k6 _ _)
            · exact ⟨h6.put2 _ _, (h7.other (Ne.symm ne67) _).other (Ne.symm ne67) _, own_other (own_other h2 n1) n1, own_other (own_other h5 n2) n2⟩
            · exact Below.put2 hB k6 _ _
            clear h2 h5 h6 h7 n1 n2
            obtain ⟨h6, h7, h2, h5⟩ := hF
            clear hK K
            try simp only [List.getElem_toArray, List.getElem_cons_zero, List.getElem_cons_succ, Act.put, List.setIfInBounds_toArray, List.set_cons_zero, List.set_cons_succ]
            refine wpAnyH_ready (rs := [9]) (by kernel_rfl) (by simp) ?_
            refine AllReadyH.cons (o := _) rfl (fun K hK => ?_) ?_
            ·
              obtain ⟨A2, c2, rfl, hc2, _⟩ := Rd.of_own' h5
              have y0 := h7.cell (k := 0) rfl
              have y1 := h7.cell (k := 1) rfl
              have z0 := h7.frozen 0
              have z1 := h7.frozen 1
              have y2 := (h7.set (k := 0) (by simp) (.string S2)).cell (k := 1) rfl
              have y3 := (h7.set (k := 0) (by simp) (.string S2)).frozen 1
              have n1 := own_ne h2 h7 (by decide)
              have n2 := own_ne h5 h7 (by decide)
              go_simp
              refine outG hK ?_ (fun W => Arr W g6 26 [.string S1, .slice A1 x.length c1] ∧ Arr W g7 26 [.string S2, .slice A2 y.length c2] ∧ W.ownsRow w1.heap.size 45 3 (.slice A1 x.length c1) x.length (pcs x) ∧ W.ownsRow w1.heap.size 45 3 (.slice A2 y.length c2) y.length (pcs y)) (Below w1.heap.size w1) ?_ ?_ (fun wn28 hHeld hF hB => ?_)
              · exact HMK.out _ (Below.put2 hB k7 _ _)
              · exact ⟨(h6.other ne67 _).other ne67 _, h7.put2 _ _, own_other (own_other h2 n1) n1, own_other (own_other h5 n2) n2⟩
              · exact Below.put2 hB k7 _ _
              clear h2 h5 h6 h7 n1 n2
              obtain ⟨h6, h7, h2, h5⟩ := hF
              clear hK K
              try simp only [List.getElem_toArray, List.getElem_cons_zero, List.getElem_cons_succ, Act.put, List.setIfInBounds_toArray, List.set_cons_zero, List.set_cons_succ]
              refine wpAnyH_done (by kernel_rfl) ?_ _
              clear hHeld
              dsimp only [Exit.then]
              have hbz := HB1.out.trans (hB.mono HB1.out.size)
              have hrx := Rd.of_own h2
              have hry := Rd.of_own h5
              clear h2 h5 hB
              have p0 := h6.cell (k := 0) rfl
              have p1 := h6.cell (k := 1) rfl
              repeat' ((fail_if_success at_builtin); (fail_if_success at_make); (first | go_values | go_skip | go_guarded | go_step | go_upon | go_back))
              refine ((HE1.out A1 c1 wn28 hc1 hrx)).mono ?_; rintro e_ w3 ⟨A3, c3, rfl, hr3, hc3, hm3, hb3⟩; dsimp only
              have hbz := hbz.trans (hb3.mono hbz.size)
              have h6 := h6.below hb3
              have h7 := h7.below hb3
              have hrx := hrx.below hb3
              have hry := hry.below hb3
              clear p0 p1 hb3
              have p0 := h7.cell (k := 0) rfl
              have p1 := h7.cell (k := 1) rfl
              repeat' ((fail_if_success at_builtin); (fail_if_success at_make); (first | go_values | go_skip | go_guarded | go_step | go_upon | go_back))
              refine ((HE2.out A2 c2 w3 hc2 hry)).mono ?_; rintro e_ w4 ⟨A4, c4, rfl, hr4, hc4, hm4, hb4⟩; dsimp only
              have hbz := hbz.trans (hb4.mono hbz.size)
              have h6 := h6.below hb4
              have h7 := h7.below hb4
              have hrx := hrx.below hb4
              have hry := hry.below hb4
              have hr3 := hr3.below hb4
              clear p0 p1 hb4
              have p0 := h6.cell (k := 0) rfl
              have p1 := h6.cell (k := 1) rfl
              repeat' ((fail_if_success at_builtin); (fail_if_success at_make); (first | go_values | go_skip | go_guarded | go_step | go_upon | go_back))
              refine ((HK1.out A1 c1 w4 hc1 hrx)).mono ?_; rintro e_ w5 ⟨rfl, hb5⟩; dsimp only
              have hbz := hbz.trans (hb5.mono hbz.size)
              have h6 := h6.below hb5
              have h7 := h7.below hb5
              have hrx := hrx.below hb5
              have hry := hry.below hb5
              have hr3 := hr3.below hb5
              have hr4 := hr4.below hb5
              clear p0 p1 hb5
              have p0 := h6.cell (k := 0) rfl
              have p1 := h6.cell (k := 1) rfl
              have q0 := h7.cell (k := 0) rfl
              have q1 := h7.cell (k := 1) rfl
              by_cases hSS : S1 = S2
              · by_cases hxy : x = y
                · have hEE := HSAME.out (HCD.out.1 hSS) hxy
                  have hKK := HKK.out hEE
                  have e0 : (S1.toList == S2.toList) = true := by simp [hSS]
                  have eK : (K1.toList == K2.toList) = true := by simp [hKK]
                  have HEQ := Lib.hid (by
                    have h := EqualP_same A1 A2 x.length c1 c2 x w5 rfl (by omega) hrx (by rw [hxy]; exact hry)
                    rw [show x.length = y.length by rw [hxy]] at h ⊢
                    exact h : Calls Try.prog 15 #[.slice A1 x.length c1, .slice A2 y.length c2] w5 fun e w' => e = .returned (.bool true) ∧ Below w5.heap.size w5 w')
                  have HT := Lib.hid (show ((⟨E1.toArray⟩ : ByteArray).toList == (⟨E2.toArray⟩ : ByteArray).toList) = true by simp [hEE])
                  clear hSS hxy hEE hKK
                  repeat' ((fail_if_success at_builtin); (fail_if_success at_make); (first | go_values | go_skip | go_guarded | go_step | go_upon | go_back))
                  refine ((HEQ.out)).mono ?_; rintro e_ w6 ⟨rfl, hb6⟩; dsimp only
                  have hbz := hbz.trans (hb6.mono hbz.size)
                  have h7 := h7.below hb6
                  have hry := hry.below hb6
                  have hr3 := hr3.below hb6
                  have hr4 := hr4.below hb6
                  clear p0 p1 q0 q1 hb6
                  have q0 := h7.cell (k := 0) rfl
                  have q1 := h7.cell (k := 1) rfl
                  repeat' ((fail_if_success at_builtin); (fail_if_success at_make); (first | go_values | go_skip | go_guarded | go_step | go_upon | go_back))
                  refine ((HK2.out A2 c2 w6 hc2 hry)).mono ?_; rintro e_ w9 ⟨rfl, hb9⟩; dsimp only
                  have hbz := hbz.trans (hb9.mono hbz.size)
                  have hr3 := hr3.below hb9
                  have hr4 := hr4.below hb9
                  have t1 := run_str (P := Try.prog) (c := c3) (src := 35) (dst := 9) Try.underlying35 Try.underlying5 Try.underlying9 rfl hr3
                  have t2 := run_str (P := Try.prog) (c := c4) (src := 35) (dst := 9) Try.underlying35 Try.underlying5 Try.underlying9 rfl hr4
                  have hdg := Digest_ok A3 E1.length c3 E1 w9 rfl hc3 (by omega) hr3
                  rw [← HKD.out] at hdg
                  have HDG := Lib.hid hdg
                  have hT := HT.out
                  generalize (⟨E1.toArray⟩ : ByteArray) = T1 at *
                  generalize (⟨E2.toArray⟩ : ByteArray) = T2 at *
                  clear hdg q0 q1 hb9
                  repeat' ((fail_if_success at_builtin); (fail_if_success at_make); (first | go_values | go_skip | go_guarded | go_step | go_upon | go_back))
                  refine ((HDG.out)).mono ?_; rintro e_ w10 ⟨rfl, hb10⟩; dsimp only
                  repeat' ((fail_if_success at_builtin); (fail_if_success at_make); (first | go_values | go_skip | go_guarded | go_step | go_upon | go_back))
                  go_ret
                  exact ⟨rfl, hbz.trans (hb10.mono hbz.size)⟩
                · have hEE : ¬ E1 = E2 := fun h => hxy (HINJ.out h).2
                  have e0 : (S1.toList == S2.toList) = true := by simp [hSS]
                  have HEQ := Lib.hid (EqualP_diff A1 A2 x.length y.length c1 c2 x y w5 rfl rfl (by omega) (by omega) hrx hry hxy)
                  have HT := Lib.hid (show ((⟨E1.toArray⟩ : ByteArray).toList == (⟨E2.toArray⟩ : ByteArray).toList) = false from bytes_ne (fun h => hEE (str_inj.1 h)))
                  clear hSS hxy hEE
                  repeat' ((fail_if_success at_builtin); (fail_if_success at_make); (first | go_values | go_skip | go_guarded | go_step | go_upon | go_back))
                  refine ((HEQ.out)).mono ?_; rintro e_ w6 ⟨rfl, hb6⟩; dsimp only
                  have hbz := hbz.trans (hb6.mono hbz.size)
                  have h7 := h7.below hb6
                  have hry := hry.below hb6
                  have hr3 := hr3.below hb6
                  have hr4 := hr4.below hb6
                  clear p0 p1 q0 q1 hb6
                  have q0 := h7.cell (k := 0) rfl
                  have q1 := h7.cell (k := 1) rfl
                  repeat' ((fail_if_success at_builtin); (fail_if_success at_make); (first | go_values | go_skip | go_guarded | go_step | go_upon | go_back))
                  refine ((HK2.out A2 c2 w6 hc2 hry)).mono ?_; rintro e_ w9 ⟨rfl, hb9⟩; dsimp only
                  have hbz := hbz.trans (hb9.mono hbz.size)
                  have hr3 := hr3.below hb9
                  have hr4 := hr4.below hb9
                  have t1 := run_str (P := Try.prog) (c := c3) (src := 35) (dst := 9) Try.underlying35 Try.underlying5 Try.underlying9 rfl hr3
                  have t2 := run_str (P := Try.prog) (c := c4) (src := 35) (dst := 9) Try.underlying35 Try.underlying5 Try.underlying9 rfl hr4
                  have hdg := Digest_ok A3 E1.length c3 E1 w9 rfl hc3 (by omega) hr3
                  rw [← HKD.out] at hdg
                  have HDG := Lib.hid hdg
                  have hT := HT.out
                  generalize (⟨E1.toArray⟩ : ByteArray) = T1 at *
                  generalize (⟨E2.toArray⟩ : ByteArray) = T2 at *
                  clear hdg q0 q1 hb9
                  repeat' ((fail_if_success at_builtin); (fail_if_success at_make); (first | go_values | go_skip | go_guarded | go_step | go_upon | go_back))
                  refine ((HDG.out)).mono ?_; rintro e_ w10 ⟨rfl, hb10⟩; dsimp only
                  repeat' ((fail_if_success at_builtin); (fail_if_success at_make); (first | go_values | go_skip | go_guarded | go_step | go_upon | go_back))
                  go_ret
                  exact ⟨rfl, hbz.trans (hb10.mono hbz.size)⟩
              · have hEE : ¬ E1 = E2 := fun h => hSS (HCD.out.2 (HINJ.out h).1)
                have e0 : (S1.toList == S2.toList) = false := bytes_ne hSS
                have HT := Lib.hid (show ((⟨E1.toArray⟩ : ByteArray).toList == (⟨E2.toArray⟩ : ByteArray).toList) = false from bytes_ne (fun h => hEE (str_inj.1 h)))
                have hb6 := Below.refl w5.heap.size w5
                clear hSS hEE
                repeat' ((fail_if_success at_builtin); (fail_if_success at_make); (first | go_values | go_skip | go_guarded | go_step | go_upon | go_back))
                have hbz := hbz.trans (hb6.mono hbz.size)
                have h7 := h7.below hb6
                have hry := hry.below hb6
                have hr3 := hr3.below hb6
                have hr4 := hr4.below hb6
                clear p0 p1 q0 q1 hb6
                have q0 := h7.cell (k := 0) rfl
                have q1 := h7.cell (k := 1) rfl
                repeat' ((fail_if_success at_builtin); (fail_if_success at_make); (first | go_values | go_skip | go_guarded | go_step | go_upon | go_back))
                refine ((HK2.out A2 c2 w5 hc2 hry)).mono ?_; rintro e_ w9 ⟨rfl, hb9⟩; dsimp only
                have hbz := hbz.trans (hb9.mono hbz.size)
                have hr3 := hr3.below hb9
                have hr4 := hr4.below hb9
                have t1 := run_str (P := Try.prog) (c := c3) (src := 35) (dst := 9) Try.underlying35 Try.underlying5 Try.underlying9 rfl hr3
                have t2 := run_str (P := Try.prog) (c := c4) (src := 35) (dst := 9) Try.underlying35 Try.underlying5 Try.underlying9 rfl hr4
                have hdg := Digest_ok A3 E1.length c3 E1 w9 rfl hc3 (by omega) hr3
                rw [← HKD.out] at hdg
                have HDG := Lib.hid hdg
                have hT := HT.out
                generalize (⟨E1.toArray⟩ : ByteArray) = T1 at *
                generalize (⟨E2.toArray⟩ : ByteArray) = T2 at *
                clear hdg q0 q1 hb9
                repeat' ((fail_if_success at_builtin); (fail_if_success at_make); (first | go_values | go_skip | go_guarded | go_step | go_upon | go_back))
                refine ((HDG.out)).mono ?_; rintro e_ w10 ⟨rfl, hb10⟩; dsimp only
                repeat' ((fail_if_success at_builtin); (fail_if_success at_make); (first | go_values | go_skip | go_guarded | go_step | go_upon | go_back))
                go_ret
                exact ⟨rfl, hbz.trans (hb10.mono hbz.size)⟩
            exact AllReadyH.nil
          exact AllReadyH.nil
        exact AllReadyH.nil
      exact AllReadyH.nil
    exact AllReadyH.nil
  refine AllReadyH.cons (o := _) rfl (fun K hK => ?_) ?_
  ·
    go_simp
    refine outG hK ?_ (Below wn0.heap.size wn0) (fun W => Arr W wn0.heap.size 26 [.string ⟨#[]⟩, .slice none 0 0] ∧ wn0.heap.size < W.heap.size ∧ w1.heap.size ≤ wn0.heap.size) ?_ ?_ (fun wn29 hHeld hst hnew => ?_)
    · ((try dsimp only); first | exact HMK.out _ (hB.alloc hB.size _) | exact HMK.out _ (hB.trans (hb2.mono hB.size)) | exact HMK.out _ (hB.trans (hb5.mono hB.size)))
    · (first | exact (Below.refl _ _).alloc (Nat.le_refl _) _ | exact hb2 | exact hb5 | exact Below.refl _ _)
    · (exact ⟨Arr.new _ _ _, by simp, hB.size⟩)
    have hB := hB.trans (hst.mono hB.size)
    obtain ⟨h6, l6, k6⟩ := hnew
    generalize hg6 : wn0.heap.size = g6 at *
    try (have ne67 : g6 ≠ g7 := by omega)
    clear hst
    clear hK K
    try simp only [List.getElem_toArray, List.getElem_cons_zero, List.getElem_cons_succ, Act.put, List.setIfInBounds_toArray, List.set_cons_zero, List.set_cons_succ]
    refine wpAnyH_ready (rs := [2, 7]) (by kernel_rfl) (by simp) ?_
    refine AllReadyH.cons (o := _) rfl (fun K hK => ?_) ?_
    ·
      go_simp
      refine (HACT.out wn29 (HRR.out _ hB).1).mono ?_
      rintro e2 w2 ⟨v1, rfl, ho2, hb2⟩
      rw [HV.out]
      dsimp only
      refine outG hK ?_ (Below wn29.heap.size wn29) (fun W => W.ownsRow w1.heap.size 45 3 v1 x.length (pcs x)) ?_ ?_ (fun wn30 hHeld hst hnew => ?_)
      · ((try dsimp only); first | exact HMK.out _ (hB.alloc hB.size _) | exact HMK.out _ (hB.trans (hb2.mono hB.size)) | exact HMK.out _ (hB.trans (hb5.mono hB.size)))
      · (first | exact (Below.refl _ _).alloc (Nat.le_refl _) _ | exact hb2 | exact hb5 | exact Below.refl _ _)
      · (exact own_lower ho2 hB.size)
      have h6 := h6.below hst
      try (have l6 := Nat.lt_of_lt_of_le l6 hst.size)
      have hB := hB.trans (hst.mono hB.size)
      have h2 := hnew
      clear hnew
      clear hst
      clear hK K
      try simp only [List.getElem_toArray, List.getElem_cons_zero, List.getElem_cons_succ, Act.put, List.setIfInBounds_toArray, List.set_cons_zero, List.set_cons_succ]
      refine wpAnyH_ready (rs := [5, 7]) (by kernel_rfl) (by simp) ?_
      refine AllReadyH.cons (o := _) rfl (fun K hK => ?_) ?_
      ·
        go_simp
        refine (HACT'.out wn30 (HRR.out _ hB).2).mono ?_
        rintro e5 w5 ⟨v2, rfl, ho5, hb5⟩
        rw [HV'.out]
        dsimp only
        refine outG hK ?_ (Below wn30.heap.size wn30) (fun W => W.ownsRow w1.heap.size 45 3 v2 y.length (pcs y)) ?_ ?_ (fun wn31 hHeld hst hnew => ?_)
        · ((try dsimp only); first | exact HMK.out _ (hB.alloc hB.size _) | exact HMK.out _ (hB.trans (hb2.mono hB.size)) | exact HMK.out _ (hB.trans (hb5.mono hB.size)))
        · (first | exact (Below.refl _ _).alloc (Nat.le_refl _) _ | exact hb2 | exact hb5 | exact Below.refl _ _)
        · (exact own_lower ho5 hB.size)
        have h2 := own_below h2 hst
        have h6 := h6.below hst
        try (have l6 := Nat.lt_of_lt_of_le l6 hst.size)
        have hB := hB.trans (hst.mono hB.size)
        have h5 := hnew
        clear hnew
        clear hst
        clear hK K
        try simp only [List.getElem_toArray, List.getElem_cons_zero, List.getElem_cons_succ, Act.put, List.setIfInBounds_toArray, List.set_cons_zero, List.set_cons_succ]
        refine wpAnyH_ready (rs := [7]) (by kernel_rfl) (by simp) ?_
        refine AllReadyH.cons (o := _) rfl (fun K hK => ?_) ?_
        ·
          go_simp
          refine outG hK ?_ (Below wn31.heap.size wn31) (fun W => Arr W wn31.heap.size 26 [.string ⟨#[]⟩, .slice none 0 0] ∧ wn31.heap.size < W.heap.size ∧ w1.heap.size ≤ wn31.heap.size) ?_ ?_ (fun wn32 hHeld hst hnew => ?_)
          · ((try dsimp only); first | exact HMK.out _ (hB.alloc hB.size _) | exact HMK.out _ (hB.trans (hb2.mono hB.size)) | exact HMK.out _ (hB.trans (hb5.mono hB.size)))
          · (first | exact (Below.refl _ _).alloc (Nat.le_refl _) _ | exact hb2 | exact hb5 | exact Below.refl _ _)
          · (exact ⟨Arr.new _ _ _, by simp, hB.size⟩)
          have h2 := own_below h2 hst
          have h5 := own_below h5 hst
          have h6 := h6.below hst
          try (have l6 := Nat.lt_of_lt_of_le l6 hst.size)
          have hB := hB.trans (hst.mono hB.size)
          obtain ⟨h7, l7, k7⟩ := hnew
          generalize hg7 : wn31.heap.size = g7 at *
          try (have ne67 : g6 ≠ g7 := by omega)
          clear hst
          clear hK K
          try simp only [List.getElem_toArray, List.getElem_cons_zero, List.getElem_cons_succ, Act.put, List.setIfInBounds_toArray, List.set_cons_zero, List.set_cons_succ]
          refine wpAnyH_ready (rs := [8]) (by kernel_rfl) (by simp) ?_
          refine AllReadyH.cons (o := _) rfl (fun K hK => ?_) ?_
          ·
            obtain ⟨A1, c1, rfl, hc1, _⟩ := Rd.of_own' h2
            have y0 := h6.cell (k := 0) rfl
            have y1 := h6.cell (k := 1) rfl
            have z0 := h6.frozen 0
            have z1 := h6.frozen 1
            have y2 := (h6.set (k := 0) (by simp) (.string S1)).cell (k := 1) rfl
            have y3 := (h6.set (k := 0) (by simp) (.string S1)).frozen 1
            have n1 := own_ne h2 h6 (by decide)
            have n2 := own_ne h5 h6 (by decide)
            go_simp
            refine outG hK ?_ (fun W => Arr W g6 26 [.string S1, .slice A1 x.length c1] ∧ Arr W g7 26 [.string ⟨#[]⟩, .slice none 0 0] ∧ W.ownsRow w1.heap.size 45 3 (.slice A1 x.length c1) x.length (pcs x) ∧ W.ownsRow w1.heap.size 45 3 v2 y.length (pcs y)) (Below w1.heap.size w1) ?_ ?_ (fun wn33 hHeld hF hB => ?_)
            · exact HMK.out _ (Below.put2 hB k6 _ _)
            · exact ⟨h6.put2 _ _, (h7.other (Ne.symm ne67) _).other (Ne.symm ne67) _, own_other (own_other h2 n1) n1, own_other (own_other h5 n2) n2⟩
            · exact Below.put2 hB k6 _ _
            clear h2 h5 h6 h7 n1 n2
            obtain ⟨h6, h7, h2, h5⟩ := hF
            clear hK K
            try simp only [List.getElem_toArray, List.getElem_cons_zero, List.getElem_cons_succ, Act.put, List.setIfInBounds_toArray, List.set_cons_zero, List.set_cons_succ]
            refine wpAnyH_ready (rs := [9]) (by kernel_rfl) (by simp) ?_
            refine AllReadyH.cons (o := _) rfl (fun K hK => ?_) ?_
            ·
              obtain ⟨A2, c2, rfl, hc2, _⟩ := Rd.of_own' h5
              have y0 := h7.cell (k := 0) rfl
              have y1 := h7.cell (k := 1) rfl
              have z0 := h7.frozen 0
              have z1 := h7.frozen 1
              have y2 := (h7.set (k := 0) (by simp) (.string S2)).cell (k := 1) rfl
              have y3 := (h7.set (k := 0) (by simp) (.string S2)).frozen 1
              have n1 := own_ne h2 h7 (by decide)
              have n2 := own_ne h5 h7 (by decide)
              go_simp
              refine outG hK ?_ (fun W => Arr W g6 26 [.string S1, .slice A1 x.length c1] ∧ Arr W g7 26 [.string S2, .slice A2 y.length c2] ∧ W.ownsRow w1.heap.size 45 3 (.slice A1 x.length c1) x.length (pcs x) ∧ W.ownsRow w1.heap.size 45 3 (.slice A2 y.length c2) y.length (pcs y)) (Below w1.heap.size w1) ?_ ?_ (fun wn34 hHeld hF hB => ?_)
              · exact HMK.out _ (Below.put2 hB k7 _ _)
              · exact ⟨(h6.other ne67 _).other ne67 _, h7.put2 _ _, own_other (own_other h2 n1) n1, own_other (own_other h5 n2) n2⟩
              · exact Below.put2 hB k7 _ _
              clear h2 h5 h6 h7 n1 n2
              obtain ⟨h6, h7, h2, h5⟩ := hF
              clear hK K
              try simp only [List.getElem_toArray, List.getElem_cons_zero, List.getElem_cons_succ, Act.put, List.setIfInBounds_toArray, List.set_cons_zero, List.set_cons_succ]
              refine wpAnyH_done (by kernel_rfl) ?_ _
              clear hHeld
              dsimp only [Exit.then]
              have hbz := HB1.out.trans (hB.mono HB1.out.size)
              have hrx := Rd.of_own h2
              have hry := Rd.of_own h5
              clear h2 h5 hB
              have p0 := h6.cell (k := 0) rfl
              have p1 := h6.cell (k := 1) rfl
              repeat' ((fail_if_success at_builtin); (fail_if_success at_make); (first | go_values | go_skip | go_guarded | go_step | go_upon | go_back))
              refine ((HE1.out A1 c1 wn34 hc1 hrx)).mono ?_; rintro e_ w3 ⟨A3, c3, rfl, hr3, hc3, hm3, hb3⟩; dsimp only
              have hbz := hbz.trans (hb3.mono hbz.size)
              have h6 := h6.below hb3
              have h7 := h7.below hb3
              have hrx := hrx.below hb3
              have hry := hry.below hb3
              clear p0 p1 hb3
              have p0 := h7.cell (k := 0) rfl
              have p1 := h7.cell (k := 1) rfl
              repeat' ((fail_if_success at_builtin); (fail_if_success at_make); (first | go_values | go_skip | go_guarded | go_step | go_upon | go_back))
              refine ((HE2.out A2 c2 w3 hc2 hry)).mono ?_; rintro e_ w4 ⟨A4, c4, rfl, hr4, hc4, hm4, hb4⟩; dsimp only
              have hbz := hbz.trans (hb4.mono hbz.size)
              have h6 := h6.below hb4
              have h7 := h7.below hb4
              have hrx := hrx.below hb4
              have hry := hry.below hb4
              have hr3 := hr3.below hb4
              clear p0 p1 hb4
              have p0 := h6.cell (k := 0) rfl
              have p1 := h6.cell (k := 1) rfl
              repeat' ((fail_if_success at_builtin); (fail_if_success at_make); (first | go_values | go_skip | go_guarded | go_step | go_upon | go_back))
              refine ((HK1.out A1 c1 w4 hc1 hrx)).mono ?_; rintro e_ w5 ⟨rfl, hb5⟩; dsimp only
              have hbz := hbz.trans (hb5.mono hbz.size)
              have h6 := h6.below hb5
              have h7 := h7.below hb5
              have hrx := hrx.below hb5
              have hry := hry.below hb5
              have hr3 := hr3.below hb5
              have hr4 := hr4.below hb5
              clear p0 p1 hb5
              have p0 := h6.cell (k := 0) rfl
              have p1 := h6.cell (k := 1) rfl
              have q0 := h7.cell (k := 0) rfl
              have q1 := h7.cell (k := 1) rfl
              by_cases hSS : S1 = S2
              · by_cases hxy : x = y
                · have hEE := HSAME.out (HCD.out.1 hSS) hxy
                  have hKK := HKK.out hEE
                  have e0 : (S1.toList == S2.toList) = true := by simp [hSS]
                  have eK : (K1.toList == K2.toList) = true := by simp [hKK]
                  have HEQ := Lib.hid (by
                    have h := EqualP_same A1 A2 x.length c1 c2 x w5 rfl (by omega) hrx (by rw [hxy]; exact hry)
                    rw [show x.length = y.length by rw [hxy]] at h ⊢
                    exact h : Calls Try.prog 15 #[.slice A1 x.length c1, .slice A2 y.length c2] w5 fun e w' => e = .returned (.bool true) ∧ Below w5.heap.size w5 w')
                  have HT := Lib.hid (show ((⟨E1.toArray⟩ : ByteArray).toList == (⟨E2.toArray⟩ : ByteArray).toList) = true by simp [hEE])
                  clear hSS hxy hEE hKK
                  repeat' ((fail_if_success at_builtin); (fail_if_success at_make); (first | go_values | go_skip | go_guarded | go_step | go_upon | go_back))
                  refine ((HEQ.out)).mono ?_; rintro e_ w6 ⟨rfl, hb6⟩; dsimp only
                  have hbz := hbz.trans (hb6.mono hbz.size)
                  have h7 := h7.below hb6
                  have hry := hry.below hb6
                  have hr3 := hr3.below hb6
                  have hr4 := hr4.below hb6
                  clear p0 p1 q0 q1 hb6
                  have q0 := h7.cell (k := 0) rfl
                  have q1 := h7.cell (k := 1) rfl
                  repeat' ((fail_if_success at_builtin); (fail_if_success at_make); (first | go_values | go_skip | go_guarded | go_step | go_upon | go_back))
                  refine ((HK2.out A2 c2 w6 hc2 hry)).mono ?_; rintro e_ w9 ⟨rfl, hb9⟩; dsimp only
                  have hbz := hbz.trans (hb9.mono hbz.size)
                  have hr3 := hr3.below hb9
                  have hr4 := hr4.below hb9
                  have t1 := run_str (P := Try.prog) (c := c3) (src := 35) (dst := 9) Try.underlying35 Try.underlying5 Try.underlying9 rfl hr3
                  have t2 := run_str (P := Try.prog) (c := c4) (src := 35) (dst := 9) Try.underlying35 Try.underlying5 Try.underlying9 rfl hr4
                  have hdg := Digest_ok A3 E1.length c3 E1 w9 rfl hc3 (by omega) hr3
                  rw [← HKD.out] at hdg
                  have HDG := Lib.hid hdg
                  have hT := HT.out
                  generalize (⟨E1.toArray⟩ : ByteArray) = T1 at *
                  generalize (⟨E2.toArray⟩ : ByteArray) = T2 at *
                  clear hdg q0 q1 hb9
                  repeat' ((fail_if_success at_builtin); (fail_if_success at_make); (first | go_values | go_skip | go_guarded | go_step | go_upon | go_back))
                  refine ((HDG.out)).mono ?_; rintro e_ w10 ⟨rfl, hb10⟩; dsimp only
                  repeat' ((fail_if_success at_builtin); (fail_if_success at_make); (first | go_values | go_skip | go_guarded | go_step | go_upon | go_back))
                  go_ret
                  exact ⟨rfl, hbz.trans (hb10.mono hbz.size)⟩
                · have hEE : ¬ E1 = E2 := fun h => hxy (HINJ.out h).2
                  have e0 : (S1.toList == S2.toList) = true := by simp [hSS]
                  have HEQ := Lib.hid (EqualP_diff A1 A2 x.length y.length c1 c2 x y w5 rfl rfl (by omega) (by omega) hrx hry hxy)
                  have HT := Lib.hid (show ((⟨E1.toArray⟩ : ByteArray).toList == (⟨E2.toArray⟩ : ByteArray).toList) = false from bytes_ne (fun h => hEE (str_inj.1 h)))
                  clear hSS hxy hEE
                  repeat' ((fail_if_success at_builtin); (fail_if_success at_make); (first | go_values | go_skip | go_guarded | go_step | go_upon | go_back))
                  refine ((HEQ.out)).mono ?_; rintro e_ w6 ⟨rfl, hb6⟩; dsimp only
                  have hbz := hbz.trans (hb6.mono hbz.size)
                  have h7 := h7.below hb6
                  have hry := hry.below hb6
                  have hr3 := hr3.below hb6
                  have hr4 := hr4.below hb6
                  clear p0 p1 q0 q1 hb6
                  have q0 := h7.cell (k := 0) rfl
                  have q1 := h7.cell (k := 1) rfl
                  repeat' ((fail_if_success at_builtin); (fail_if_success at_make); (first | go_values | go_skip | go_guarded | go_step | go_upon | go_back))
                  refine ((HK2.out A2 c2 w6 hc2 hry)).mono ?_; rintro e_ w9 ⟨rfl, hb9⟩; dsimp only
                  have hbz := hbz.trans (hb9.mono hbz.size)
                  have hr3 := hr3.below hb9
                  have hr4 := hr4.below hb9
                  have t1 := run_str (P := Try.prog) (c := c3) (src := 35) (dst := 9) Try.underlying35 Try.underlying5 Try.underlying9 rfl hr3
                  have t2 := run_str (P := Try.prog) (c := c4) (src := 35) (dst := 9) Try.underlying35 Try.underlying5 Try.underlying9 rfl hr4
                  have hdg := Digest_ok A3 E1.length c3 E1 w9 rfl hc3 (by omega) hr3
                  rw [← HKD.out] at hdg
                  have HDG := Lib.hid hdg
                  have hT := HT.out
                  generalize (⟨E1.toArray⟩ : ByteArray) = T1 at *
                  generalize (⟨E2.toArray⟩ : ByteArray) = T2 at *
                  clear hdg q0 q1 hb9
                  repeat' ((fail_if_success at_builtin); (fail_if_success at_make); (first | go_values | go_skip | go_guarded | go_step | go_upon | go_back))
                  refine ((HDG.out)).mono ?_; rintro e_ w10 ⟨rfl, hb10⟩; dsimp only
                  repeat' ((fail_if_success at_builtin); (fail_if_success at_make); (first | go_values | go_skip | go_guarded | go_step | go_upon | go_back))
                  go_ret
                  exact ⟨rfl, hbz.trans (hb10.mono hbz.size)⟩
              · have hEE : ¬ E1 = E2 := fun h => hSS (HCD.out.2 (HINJ.out h).1)
                have e0 : (S1.toList == S2.toList) = false := bytes_ne hSS
                have HT := Lib.hid (show ((⟨E1.toArray⟩ : ByteArray).toList == (⟨E2.toArray⟩ : ByteArray).toList) = false from bytes_ne (fun h => hEE (str_inj.1 h)))
                have hb6 := Below.refl w5.heap.size w5
                clear hSS hEE
                repeat' ((fail_if_success at_builtin); (fail_if_success at_make); (first | go_values | go_skip | go_guarded | go_step | go_upon | go_back))
                have hbz := hbz.trans (hb6.mono hbz.size)
                have h7 := h7.below hb6
                have hry := hry.below hb6
                have hr3 := hr3.below hb6
                have hr4 := hr4.below hb6
                clear p0 p1 q0 q1 hb6
                have q0 := h7.cell (k := 0) rfl
                have q1 := h7.cell (k := 1) rfl
                repeat' ((fail_if_success at_builtin); (fail_if_success at_make); (first | go_values | go_skip | go_guarded | go_step | go_upon | go_back))
                refine ((HK2.out A2 c2 w5 hc2 hry)).mono ?_; rintro e_ w9 ⟨rfl, hb9⟩; dsimp only
                have hbz := hbz.trans (hb9.mono hbz.size)
                have hr3 := hr3.below hb9
                have hr4 := hr4.below hb9
                have t1 := run_str (P := Try.prog) (c := c3) (src := 35) (dst := 9) Try.underlying35 Try.underlying5 Try.underlying9 rfl hr3
                have t2 := run_str (P := Try.prog) (c := c4) (src := 35) (dst := 9) Try.underlying35 Try.underlying5 Try.underlying9 rfl hr4
                have hdg := Digest_ok A3 E1.length c3 E1 w9 rfl hc3 (by omega) hr3
                rw [← HKD.out] at hdg
                have HDG := Lib.hid hdg
                have hT := HT.out
                generalize (⟨E1.toArray⟩ : ByteArray) = T1 at *
                generalize (⟨E2.toArray⟩ : ByteArray) = T2 at *
                clear hdg q0 q1 hb9
                repeat' ((fail_if_success at_builtin); (fail_if_success at_make); (first | go_values | go_skip | go_guarded | go_step | go_upon | go_back))
                refine ((HDG.out)).mono ?_; rintro e_ w10 ⟨rfl, hb10⟩; dsimp only
                repeat' ((fail_if_success at_builtin); (fail_if_success at_make); (first | go_values | go_skip | go_guarded | go_step | go_upon | go_back))
                go_ret
                exact ⟨rfl, hbz.trans (hb10.mono hbz.size)⟩
            exact AllReadyH.nil
          exact AllReadyH.nil
        exact AllReadyH.nil
      refine AllReadyH.cons (o := _) rfl (fun K hK => ?_) ?_
      ·
        go_simp
        refine outG hK ?_ (Below wn30.heap.size wn30) (fun W => Arr W wn30.heap.size 26 [.string ⟨#[]⟩, .slice none 0 0] ∧ wn30.heap.size < W.heap.size ∧ w1.heap.size ≤ wn30.heap.size) ?_ ?_ (fun wn35 hHeld hst hnew => ?_)
        · ((try dsimp only); first | exact HMK.out _ (hB.alloc hB.size _) | exact HMK.out _ (hB.trans (hb2.mono hB.size)) | exact HMK.out _ (hB.trans (hb5.mono hB.size)))
        · (first | exact (Below.refl _ _).alloc (Nat.le_refl _) _ | exact hb2 | exact hb5 | exact Below.refl _ _)
        · (exact ⟨Arr.new _ _ _, by simp, hB.size⟩)
        have h2 := own_below h2 hst
        have h6 := h6.below hst
        try (have l6 := Nat.lt_of_lt_of_le l6 hst.size)
        have hB := hB.trans (hst.mono hB.size)
        obtain ⟨h7, l7, k7⟩ := hnew
        generalize hg7 : wn30.heap.size = g7 at *
        try (have ne67 : g6 ≠ g7 := by omega)
        clear hst
        clear hK K
        try simp only [List.getElem_toArray, List.getElem_cons_zero, List.getElem_cons_succ, Act.put, List.setIfInBounds_toArray, List.set_cons_zero, List.set_cons_succ]
        refine wpAnyH_ready (rs := [5]) (by kernel_rfl) (by simp) ?_
        refine AllReadyH.cons (o := _) rfl (fun K hK => ?_) ?_
        ·
          go_simp
          refine (HACT'.out wn35 (HRR.out _ hB).2).mono ?_
          rintro e5 w5 ⟨v2, rfl, ho5, hb5⟩
          rw [HV'.out]
          dsimp only
          refine outG hK ?_ (Below wn35.heap.size wn35) (fun W => W.ownsRow w1.heap.size 45 3 v2 y.length (pcs y)) ?_ ?_ (fun wn36 hHeld hst hnew => ?_)
          · ((try dsimp only); first | exact HMK.out _ (hB.alloc hB.size _) | exact HMK.out _ (hB.trans (hb2.mono hB.size)) | exact HMK.out _ (hB.trans (hb5.mono hB.size)))
          · (first | exact (Below.refl _ _).alloc (Nat.le_refl _) _ | exact hb2 | exact hb5 | exact Below.refl _ _)
          · (exact own_lower ho5 hB.size)
          have h2 := own_below h2 hst
          have h6 := h6.below hst
          try (have l6 := Nat.lt_of_lt_of_le l6 hst.size)
          have h7 := h7.below hst
          try (have l7 := Nat.lt_of_lt_of_le l7 hst.size)
          have hB := hB.trans (hst.mono hB.size)
          have h5 := hnew
          clear hnew
          clear hst
          clear hK K
          try simp only [List.getElem_toArray, List.getElem_cons_zero, List.getElem_cons_succ, Act.put, List.setIfInBounds_toArray, List.set_cons_zero, List.set_cons_succ]
          refine wpAnyH_ready (rs := [8]) (by kernel_rfl) (by simp) ?_
          refine AllReadyH.cons (o := _) rfl (fun K hK => ?_) ?_
          ·
            obtain ⟨A1, c1, rfl, hc1, _⟩ := Rd.of_own' h2
            have y0 := h6.cell (k := 0) rfl
            have y1 := h6.cell (k := 1) rfl
            have z0 := h6.frozen 0
            have z1 := h6.frozen 1
            have y2 := (h6.set (k := 0) (by simp) (.string S1)).cell (k := 1) rfl
            have y3 := (h6.set (k := 0) (by simp) (.string S1)).frozen 1
            have n1 := own_ne h2 h6 (by decide)
            have n2 := own_ne h5 h6 (by decide)
            go_simp
            refine outG hK ?_ (fun W => Arr W g6 26 [.string S1, .slice A1 x.length c1] ∧ Arr W g7 26 [.string ⟨#[]⟩, .slice none 0 0] ∧ W.ownsRow w1.heap.size 45 3 (.slice A1 x.length c1) x.length (pcs x) ∧ W.ownsRow w1.heap.size 45 3 v2 y.length (pcs y)) (Below w1.heap.size w1) ?_ ?_ (fun wn37 hHeld hF hB => ?_)
            · exact HMK.out _ (Below.put2 hB k6 _ _)
            · exact ⟨h6.put2 _ _, (h7.other (Ne.symm ne67) _).other (Ne.symm ne67) _, own_other (own_other h2 n1) n1, own_other (own_other h5 n2) n2⟩
            · exact Below.put2 hB k6 _ _
            clear h2 h5 h6 h7 n1 n2
            obtain ⟨h6, h7, h2, h5⟩ := hF
            clear hK K
            try simp only [List.getElem_toArray, List.getElem_cons_zero, List.getElem_cons_succ, Act.put, List.setIfInBounds_toArray, List.set_cons_zero, List.set_cons_succ]
            refine wpAnyH_ready (rs := [9]) (by kernel_rfl) (by simp) ?_
            refine AllReadyH.cons (o := _) rfl (fun K hK => ?_) ?_
            ·
              obtain ⟨A2, c2, rfl, hc2, _⟩ := Rd.of_own' h5
              have y0 := h7.cell (k := 0) rfl
              have y1 := h7.cell (k := 1) rfl
              have z0 := h7.frozen 0
              have z1 := h7.frozen 1
              have y2 := (h7.set (k := 0) (by simp) (.string S2)).cell (k := 1) rfl
              have y3 := (h7.set (k := 0) (by simp) (.string S2)).frozen 1
              have n1 := own_ne h2 h7 (by decide)
              have n2 := own_ne h5 h7 (by decide)
              go_simp
              refine outG hK ?_ (fun W => Arr W g6 26 [.string S1, .slice A1 x.length c1] ∧ Arr W g7 26 [.string S2, .slice A2 y.length c2] ∧ W.ownsRow w1.heap.size 45 3 (.slice A1 x.length c1) x.length (pcs x) ∧ W.ownsRow w1.heap.size 45 3 (.slice A2 y.length c2) y.length (pcs y)) (Below w1.heap.size w1) ?_ ?_ (fun wn38 hHeld hF hB => ?_)
              · exact HMK.out _ (Below.put2 hB k7 _ _)
              · exact ⟨(h6.other ne67 _).other ne67 _, h7.put2 _ _, own_other (own_other h2 n1) n1, own_other (own_other h5 n2) n2⟩
              · exact Below.put2 hB k7 _ _
              clear h2 h5 h6 h7 n1 n2
              obtain ⟨h6, h7, h2, h5⟩ := hF
              clear hK K
              try simp only [List.getElem_toArray, List.getElem_cons_zero, List.getElem_cons_succ, Act.put, List.setIfInBounds_toArray, List.set_cons_zero, List.set_cons_succ]
              refine wpAnyH_done (by kernel_rfl) ?_ _
              clear hHeld
              dsimp only [Exit.then]
              have hbz := HB1.out.trans (hB.mono HB1.out.size)
              have hrx := Rd.of_own h2
              have hry := Rd.of_own h5
              clear h2 h5 hB
              have p0 := h6.cell (k := 0) rfl
              have p1 := h6.cell (k := 1) rfl
              repeat' ((fail_if_success at_builtin); (fail_if_success at_make); (first | go_values | go_skip | go_guarded | go_step | go_upon | go_back))
              refine ((HE1.out A1 c1 wn38 hc1 hrx)).mono ?_; rintro e_ w3 ⟨A3, c3, rfl, hr3, hc3, hm3, hb3⟩; dsimp only
              have hbz := hbz.trans (hb3.mono hbz.size)
              have h6 := h6.below hb3
              have h7 := h7.below hb3
              have hrx := hrx.below hb3
              have hry := hry.below hb3
              clear p0 p1 hb3
              have p0 := h7.cell (k := 0) rfl
              have p1 := h7.cell (k := 1) rfl
              repeat' ((fail_if_success at_builtin); (fail_if_success at_make); (first | go_values | go_skip | go_guarded | go_step | go_upon | go_back))
              refine ((HE2.out A2 c2 w3 hc2 hry)).mono ?_; rintro e_ w4 ⟨A4, c4, rfl, hr4, hc4, hm4, hb4⟩; dsimp only
              have hbz := hbz.trans (hb4.mono hbz.size)
              have h6 := h6.below hb4
              have h7 := h7.below hb4
              have hrx := hrx.below hb4
              have hry := hry.below hb4
              have hr3 := hr3.below hb4
              clear p0 p1 hb4
              have p0 := h6.cell (k := 0) rfl
              have p1 := h6.cell (k := 1) rfl
              repeat' ((fail_if_success at_builtin); (fail_if_success at_make); (first | go_values | go_skip | go_guarded | go_step | go_upon | go_back))
              refine ((HK1.out A1 c1 w4 hc1 hrx)).mono ?_; rintro e_ w5 ⟨rfl, hb5⟩; dsimp only
              have hbz := hbz.trans (hb5.mono hbz.size)
              have h6 := h6.below hb5
              have h7 := h7.below hb5
              have hrx := hrx.below hb5
              have hry := hry.below hb5
              have hr3 := hr3.below hb5
              have hr4 := hr4.below hb5
              clear p0 p1 hb5
              have p0 := h6.cell (k := 0) rfl
              have p1 := h6.cell (k := 1) rfl
              have q0 := h7.cell (k := 0) rfl
              have q1 := h7.cell (k := 1) rfl
              by_cases hSS : S1 = S2
              · by_cases hxy : x = y
                · have hEE := HSAME.out (HCD.out.1 hSS) hxy
                  have hKK := HKK.out hEE
                  have e0 : (S1.toList == S2.toList) = true := by simp [hSS]
                  have eK : (K1.toList == K2.toList) = true := by simp [hKK]
                  have HEQ := Lib.hid (by
                    have h := EqualP_same A1 A2 x.length c1 c2 x w5 rfl (by omega) hrx (by rw [hxy]; exact hry)
                    rw [show x.length = y.length by rw [hxy]] at h ⊢
                    exact h : Calls Try.prog 15 #[.slice A1 x.length c1, .slice A2 y.length c2] w5 fun e w' => e = .returned (.bool true) ∧ Below w5.heap.size w5 w')
                  have HT := Lib.hid (show ((⟨E1.toArray⟩ : ByteArray).toList == (⟨E2.toArray⟩ : ByteArray).toList) = true by simp [hEE])
                  clear hSS hxy hEE hKK
                  repeat' ((fail_if_success at_builtin); (fail_if_success at_make); (first | go_values | go_skip | go_guarded | go_step | go_upon | go_back))
                  refine ((HEQ.out)).mono ?_; rintro e_ w6 ⟨rfl, hb6⟩; dsimp only
                  have hbz := hbz.trans (hb6.mono hbz.size)
                  have h7 := h7.below hb6
                  have hry := hry.below hb6
                  have hr3 := hr3.below hb6
                  have hr4 := hr4.below hb6
                  clear p0 p1 q0 q1 hb6
                  have q0 := h7.cell (k := 0) rfl
                  have q1 := h7.cell (k := 1) rfl
                  repeat' ((fail_if_success at_builtin); (fail_if_success at_make); (first | go_values | go_skip | go_guarded | go_step | go_upon | go_back))
                  refine ((HK2.out A2 c2 w6 hc2 hry)).mono ?_; rintro e_ w9 ⟨rfl, hb9⟩; dsimp only
                  have hbz := hbz.trans (hb9.mono hbz.size)
                  have hr3 := hr3.below hb9
                  have hr4 := hr4.below hb9
                  have t1 := run_str (P := Try.prog) (c := c3) (src := 35) (dst := 9) Try.underlying35 Try.underlying5 Try.underlying9 rfl hr3
                  have t2 := run_str (P := Try.prog) (c := c4) (src := 35) (dst := 9) Try.underlying35 Try.underlying5 Try.underlying9 rfl hr4
                  have hdg := Digest_ok A3 E1.length c3 E1 w9 rfl hc3 (by omega) hr3
                  rw [← HKD.out] at hdg
                  have HDG := Lib.hid hdg
                  have hT := HT.out
                  generalize (⟨E1.toArray⟩ : ByteArray) = T1 at *
                  generalize (⟨E2.toArray⟩ : ByteArray) = T2 at *
                  clear hdg q0 q1 hb9
                  repeat' ((fail_if_success at_builtin); (fail_if_success at_make); (first | go_values | go_skip | go_guarded | go_step | go_upon | go_back))
                  refine ((HDG.out)).mono ?_; rintro e_ w10 ⟨rfl, hb10⟩; dsimp only
                  repeat' ((fail_if_success at_builtin); (fail_if_success at_make); (first | go_values | go_skip | go_guarded | go_step | go_upon | go_back))
                  go_ret
                  exact ⟨rfl, hbz.trans (hb10.mono hbz.size)⟩
                · have hEE : ¬ E1 = E2 := fun h => hxy (HINJ.out h).2
                  have e0 : (S1.toList == S2.toList) = true := by simp [hSS]
                  have HEQ := Lib.hid (EqualP_diff A1 A2 x.length y.length c1 c2 x y w5 rfl rfl (by omega) (by omega) hrx hry hxy)
                  have HT := Lib.hid (show ((⟨E1.toArray⟩ : ByteArray).toList == (⟨E2.toArray⟩ : ByteArray).toList) = false from bytes_ne (fun h => hEE (str_inj.1 h)))
                  clear hSS hxy hEE
                  repeat' ((fail_if_success at_builtin); (fail_if_success at_make); (first | go_values | go_skip | go_guarded | go_step | go_upon | go_back))
                  refine ((HEQ.out)).mono ?_; rintro e_ w6 ⟨rfl, hb6⟩; dsimp only
                  have hbz := hbz.trans (hb6.mono hbz.size)
                  have h7 := h7.below hb6
                  have hry := hry.below hb6
                  have hr3 := hr3.below hb6
                  have hr4 := hr4.below hb6
                  clear p0 p1 q0 q1 hb6
                  have q0 := h7.cell (k := 0) rfl
                  have q1 := h7.cell (k := 1) rfl
                  repeat' ((fail_if_success at_builtin); (fail_if_success at_make); (first | go_values | go_skip | go_guarded | go_step | go_upon | go_back))
                  refine ((HK2.out A2 c2 w6 hc2 hry)).mono ?_; rintro e_ w9 ⟨rfl, hb9⟩; dsimp only
                  have hbz := hbz.trans (hb9.mono hbz.size)
                  have hr3 := hr3.below hb9
                  have hr4 := hr4.below hb9
                  have t1 := run_str (P := Try.prog) (c := c3) (src := 35) (dst := 9) Try.underlying35 Try.underlying5 Try.underlying9 rfl hr3
                  have t2 := run_str (P := Try.prog) (c := c4) (src := 35) (dst := 9) Try.underlying35 Try.underlying5 Try.underlying9 rfl hr4
                  have hdg := Digest_ok A3 E1.length c3 E1 w9 rfl hc3 (by omega) hr3
                  rw [← HKD.out] at hdg
                  have HDG := Lib.hid hdg
                  have hT := HT.out
                  generalize (⟨E1.toArray⟩ : ByteArray) = T1 at *
                  generalize (⟨E2.toArray⟩ : ByteArray) = T2 at *
                  clear hdg q0 q1 hb9
                  repeat' ((fail_if_success at_builtin); (fail_if_success at_make); (first | go_values | go_skip | go_guarded | go_step | go_upon | go_back))
                  refine ((HDG.out)).mono ?_; rintro e_ w10 ⟨rfl, hb10⟩; dsimp only
                  repeat' ((fail_if_success at_builtin); (fail_if_success at_make); (first | go_values | go_skip | go_guarded | go_step | go_upon | go_back))
                  go_ret
                  exact ⟨rfl, hbz.trans (hb10.mono hbz.size)⟩
              · have hEE : ¬ E1 = E2 := fun h => hSS (HCD.out.2 (HINJ.out h).1)
                have e0 : (S1.toList == S2.toList) = false := bytes_ne hSS
                have HT := Lib.hid (show ((⟨E1.toArray⟩ : ByteArray).toList == (⟨E2.toArray⟩ : ByteArray).toList) = false from bytes_ne (fun h => hEE (str_inj.1 h)))
                have hb6 := Below.refl w5.heap.size w5
                clear hSS hEE
                repeat' ((fail_if_success at_builtin); (fail_if_success at_make); (first | go_values | go_skip | go_guarded | go_step | go_upon | go_back))
                have hbz := hbz.trans (hb6.mono hbz.size)
                have h7 := h7.below hb6
                have hry := hry.below hb6
                have hr3 := hr3.below hb6
                have hr4 := hr4.below hb6
                clear p0 p1 q0 q1 hb6
                have q0 := h7.cell (k := 0) rfl
                have q1 := h7.cell (k := 1) rfl
                repeat' ((fail_if_success at_builtin); (fail_if_success at_make); (first | go_values | go_skip | go_guarded | go_step | go_upon | go_back))
                refine ((HK2.out A2 c2 w5 hc2 hry)).mono ?_; rintro e_ w9 ⟨rfl, hb9⟩; dsimp only
                have hbz := hbz.trans (hb9.mono hbz.size)
                have hr3 := hr3.below hb9
                have hr4 := hr4.below hb9
                have t1 := run_str (P := Try.prog) (c := c3) (src := 35) (dst := 9) Try.underlying35 Try.underlying5 Try.underlying9 rfl hr3
                have t2 := run_str (P := Try.prog) (c := c4) (src := 35) (dst := 9) Try.underlying35 Try.underlying5 Try.underlying9 rfl hr4
                have hdg := Digest_ok A3 E1.length c3 E1 w9 rfl hc3 (by omega) hr3
                rw [← HKD.out] at hdg
                have HDG := Lib.hid hdg
                have hT := HT.out
                generalize (⟨E1.toArray⟩ : ByteArray) = T1 at *
                generalize (⟨E2.toArray⟩ : ByteArray) = T2 at *
                clear hdg q0 q1 hb9
                repeat' ((fail_if_success at_builtin); (fail_if_success at_make); (first | go_values | go_skip | go_guarded | go_step | go_upon | go_back))
                refine ((HDG.out)).mono ?_; rintro e_ w10 ⟨rfl, hb10⟩; dsimp only
                repeat' ((fail_if_success at_builtin); (fail_if_success at_make); (first | go_values | go_skip | go_guarded | go_step | go_upon | go_back))
                go_ret
                exact ⟨rfl, hbz.trans (hb10.mono hbz.size)⟩
            exact AllReadyH.nil
          exact AllReadyH.nil
        exact AllReadyH.nil
      exact AllReadyH.nil
    refine AllReadyH.cons (o := _) rfl (fun K hK => ?_) ?_
    ·
      go_simp
      refine outG hK ?_ (Below wn29.heap.size wn29) (fun W => Arr W wn29.heap.size 26 [.string ⟨#[]⟩, .slice none 0 0] ∧ wn29.heap.size < W.heap.size ∧ w1.heap.size ≤ wn29.heap.size) ?_ ?_ (fun wn39 hHeld hst hnew => ?_)
      · ((try dsimp only); first | exact HMK.out _ (hB.alloc hB.size _) | exact HMK.out _ (hB.trans (hb2.mono hB.size)) | exact HMK.out _ (hB.trans (hb5.mono hB.size)))
      · (first | exact (Below.refl _ _).alloc (Nat.le_refl _) _ | exact hb2 | exact hb5 | exact Below.refl _ _)
      · (exact ⟨Arr.new _ _ _, by simp, hB.size⟩)
      have h6 := h6.below hst
      try (have l6 := Nat.lt_of_lt_of_le l6 hst.size)
      have hB := hB.trans (hst.mono hB.size)
      obtain ⟨h7, l7, k7⟩ := hnew
      generalize hg7 : wn29.heap.size = g7 at *
      try (have ne67 : g6 ≠ g7 := by omega)
      clear hst
      clear hK K
      try simp only [List.getElem_toArray, List.getElem_cons_zero, List.getElem_cons_succ, Act.put, List.setIfInBounds_toArray, List.set_cons_zero, List.set_cons_succ]
      refine wpAnyH_ready (rs := [2]) (by kernel_rfl) (by simp) ?_
      refine AllReadyH.cons (o := _) rfl (fun K hK => ?_) ?_
      ·
        go_simp
        refine (HACT.out wn39 (HRR.out _ hB).1).mono ?_
        rintro e2 w2 ⟨v1, rfl, ho2, hb2⟩
        rw [HV.out]
        dsimp only
        refine outG hK ?_ (Below wn39.heap.size wn39) (fun W => W.ownsRow w1.heap.size 45 3 v1 x.length (pcs x)) ?_ ?_ (fun wn40 hHeld hst hnew => ?_)
        · ((try dsimp only); first | exact HMK.out _ (hB.alloc hB.size _) | exact HMK.out _ (hB.trans (hb2.mono hB.size)) | exact HMK.out _ (hB.trans (hb5.mono hB.size)))
        · (first | exact (Below.refl _ _).alloc (Nat.le_refl _) _ | exact hb2 | exact hb5 | exact Below.refl _ _)
        · (exact own_lower ho2 hB.size)
        have h6 := h6.below hst
        try (have l6 := Nat.lt_of_lt_of_le l6 hst.size)
        have h7 := h7.below hst
        try (have l7 := Nat.lt_of_lt_of_le l7 hst.size)
        have hB := hB.trans (hst.mono hB.size)
        have h2 := hnew
        clear hnew
        clear hst
        clear hK K
        try simp only [List.getElem_toArray, List.getElem_cons_zero, List.getElem_cons_succ, Act.put, List.setIfInBounds_toArray, List.set_cons_zero, List.set_cons_succ]
        refine wpAnyH_ready (rs := [5]) (by kernel_rfl) (by simp) ?_
        refine AllReadyH.cons (o := _) rfl (fun K hK => ?_) ?_
        ·
          go_simp
          refine (HACT'.out wn40 (HRR.out _ hB).2).mono ?_
          rintro e5 w5 ⟨v2, rfl, ho5, hb5⟩
          rw [HV'.out]
          dsimp only
          refine outG hK ?_ (Below wn40.heap.size wn40) (fun W => W.ownsRow w1.heap.size 45 3 v2 y.length (pcs y)) ?_ ?_ (fun wn41 hHeld hst hnew => ?_)
          · ((try dsimp only); first | exact HMK.out _ (hB.alloc hB.size _) | exact HMK.out _ (hB.trans (hb2.mono hB.size)) | exact HMK.out _ (hB.trans (hb5.mono hB.size)))
          · (first | exact (Below.refl _ _).alloc (Nat.le_refl _) _ | exact hb2 | exact hb5 | exact Below.refl _ _)
          · (exact own_lower ho5 hB.size)
          have h2 := own_below h2 hst
          have h6 := h6.below hst
          try (have l6 := Nat.lt_of_lt_of_le l6 hst.size)
          have h7 := h7.below hst
          try (have l7 := Nat.lt_of_lt_of_le l7 hst.size)
          have hB := hB.trans (hst.mono hB.size)
          have h5 := hnew
          clear hnew
          clear hst
          clear hK K
          try simp only [List.getElem_toArray, List.getElem_cons_zero, List.getElem_cons_succ, Act.put, List.setIfInBounds_toArray, List.set_cons_zero, List.set_cons_succ]
          refine wpAnyH_ready (rs := [8]) (by kernel_rfl) (by simp) ?_
          refine AllReadyH.cons (o := _) rfl (fun K hK => ?_) ?_
          ·
            obtain ⟨A1, c1, rfl, hc1, _⟩ := Rd.of_own' h2
            have y0 := h6.cell (k := 0) rfl
            have y1 := h6.cell (k := 1) rfl
            have z0 := h6.frozen 0
            have z1 := h6.frozen 1
            have y2 := (h6.set (k := 0) (by simp) (.string S1)).cell (k := 1) rfl
            have y3 := (h6.set (k := 0) (by simp) (.string S1)).frozen 1
            have n1 := own_ne h2 h6 (by decide)
            have n2 := own_ne h5 h6 (by decide)
            go_simp
            refine outG hK ?_ (fun W => Arr W g6 26 [.string S1, .slice A1 x.length c1] ∧ Arr W g7 26 [.string ⟨#[]⟩, .slice none 0 0] ∧ W.ownsRow w1.heap.size 45 3 (.slice A1 x.length c1) x.length (pcs x) ∧ W.ownsRow w1.heap.size 45 3 v2 y.length (pcs y)) (Below w1.heap.size w1) ?_ ?_ (fun wn42 hHeld hF hB => ?_)
            · exact HMK.out _ (Below.put2 hB k6 _ _)
            · exact ⟨h6.put2 _ _, (h7.other (Ne.symm ne67) _).other (Ne.symm ne67) _, own_other (own_other h2 n1) n1, own_other (own_other h5 n2) n2⟩
            · exact Below.put2 hB k6 _ _
            clear h2 h5 h6 h7 n1 n2
            obtain ⟨h6, h7, h2, h5⟩ := hF
            clear hK K
            try simp only [List.getElem_toArray, List.getElem_cons_zero, List.getElem_cons_succ, Act.put, List.setIfInBounds_toArray, List.set_cons_zero, List.set_cons_succ]
            refine wpAnyH_ready (rs := [9]) (by kernel_rfl) (by simp) ?_
            refine AllReadyH.cons (o := _) rfl (fun K hK => ?_) ?_
            ·
              obtain ⟨A2, c2, rfl, hc2, _⟩ := Rd.of_own' h5
              have y0 := h7.cell (k := 0) rfl
              have y1 := h7.cell (k := 1) rfl
              have z0 := h7.frozen 0
              have z1 := h7.frozen 1
              have y2 := (h7.set (k := 0) (by simp) (.string S2)).cell (k := 1) rfl
              have y3 := (h7.set (k := 0) (by simp) (.string S2)).frozen 1
              have n1 := own_ne h2 h7 (by decide)
              have n2 := own_ne h5 h7 (by decide)
              go_simp
              refine outG hK ?_ (fun W => Arr W g6 26 [.string S1, .slice A1 x.length c1] ∧ Arr W g7 26 [.string S2, .slice A2 y.length c2] ∧ W.ownsRow w1.heap.size 45 3 (.slice A1 x.length c1) x.length (pcs x) ∧ W.ownsRow w1.heap.size 45 3 (.slice A2 y.length c2) y.length (pcs y)) (Below w1.heap.size w1) ?_ ?_ (fun wn43 hHeld hF hB => ?_)
              · exact HMK.out _ (Below.put2 hB k7 _ _)
              · exact ⟨(h6.other ne67 _).other ne67 _, h7.put2 _ _, own_other (own_other h2 n1) n1, own_other (own_other h5 n2) n2⟩
              · exact Below.put2 hB k7 _ _
              clear h2 h5 h6 h7 n1 n2
              obtain ⟨h6, h7, h2, h5⟩ := hF
              clear hK K
              try simp only [List.getElem_toArray, List.getElem_cons_zero, List.getElem_cons_succ, Act.put, List.setIfInBounds_toArray, List.set_cons_zero, List.set_cons_succ]
              refine wpAnyH_done (by kernel_rfl) ?_ _
              clear hHeld
              dsimp only [Exit.then]
              have hbz := HB1.out.trans (hB.mono HB1.out.size)
              have hrx := Rd.of_own h2
              have hry := Rd.of_own h5
              clear h2 h5 hB
              have p0 := h6.cell (k := 0) rfl
              have p1 := h6.cell (k := 1) rfl
              repeat' ((fail_if_success at_builtin); (fail_if_success at_make); (first | go_values | go_skip | go_guarded | go_step | go_upon | go_back))
              refine ((HE1.out A1 c1 wn43 hc1 hrx)).mono ?_; rintro e_ w3 ⟨A3, c3, rfl, hr3, hc3, hm3, hb3⟩; dsimp only
              have hbz := hbz.trans (hb3.mono hbz.size)
              have h6 := h6.below hb3
              have h7 := h7.below hb3
              have hrx := hrx.below hb3
              have hry := hry.below hb3
              clear p0 p1 hb3
              have p0 := h7.cell (k := 0) rfl
              have p1 := h7.cell (k := 1) rfl
              repeat' ((fail_if_success at_builtin); (fail_if_success at_make); (first | go_values | go_skip | go_guarded | go_step | go_upon | go_back))
              refine ((HE2.out A2 c2 w3 hc2 hry)).mono ?_; rintro e_ w4 ⟨A4, c4, rfl, hr4, hc4, hm4, hb4⟩; dsimp only
              have hbz := hbz.trans (hb4.mono hbz.size)
              have h6 := h6.below hb4
              have h7 := h7.below hb4
              have hrx := hrx.below hb4
              have hry := hry.below hb4
              have hr3 := hr3.below hb4
              clear p0 p1 hb4
              have p0 := h6.cell (k := 0) rfl
              have p1 := h6.cell (k := 1) rfl
              repeat' ((fail_if_success at_builtin); (fail_if_success at_make); (first | go_values | go_skip | go_guarded | go_step | go_upon | go_back))
              refine ((HK1.out A1 c1 w4 hc1 hrx)).mono ?_; rintro e_ w5 ⟨rfl, hb5⟩; dsimp only
              have hbz := hbz.trans (hb5.mono hbz.size)
              have h6 := h6.below hb5
              have h7 := h7.below hb5
              have hrx := hrx.below hb5
              have hry := hry.below hb5
              have hr3 := hr3.below hb5
              have hr4 := hr4.below hb5
              clear p0 p1 hb5
              have p0 := h6.cell (k := 0) rfl
              have p1 := h6.cell (k := 1) rfl
              have q0 := h7.cell (k := 0) rfl
              have q1 := h7.cell (k := 1) rfl
              by_cases hSS : S1 = S2
              · by_cases hxy : x = y
                · have hEE := HSAME.out (HCD.out.1 hSS) hxy
                  have hKK := HKK.out hEE
                  have e0 : (S1.toList == S2.toList) = true := by simp [hSS]
                  have eK : (K1.toList == K2.toList) = true := by simp [hKK]
                  have HEQ := Lib.hid (by
                    have h := EqualP_same A1 A2 x.length c1 c2 x w5 rfl (by omega) hrx (by rw [hxy]; exact hry)
                    rw [show x.length = y.length by rw [hxy]] at h ⊢
                    exact h : Calls Try.prog 15 #[.slice A1 x.length c1, .slice A2 y.length c2] w5 fun e w' => e = .returned (.bool true) ∧ Below w5.heap.size w5 w')
                  have HT := Lib.hid (show ((⟨E1.toArray⟩ : ByteArray).toList == (⟨E2.toArray⟩ : ByteArray).toList) = true by simp [hEE])
                  clear hSS hxy hEE hKK
                  repeat' ((fail_if_success at_builtin); (fail_if_success at_make); (first | go_values | go_skip | go_guarded | go_step | go_upon | go_back))
                  refine ((HEQ.out)).mono ?_; rintro e_ w6 ⟨rfl, hb6⟩; dsimp only
                  have hbz := hbz.trans (hb6.mono hbz.size)
                  have h7 := h7.below hb6
                  have hry := hry.below hb6
                  have hr3 := hr3.below hb6
                  have hr4 := hr4.below hb6
                  clear p0 p1 q0 q1 hb6
                  have q0 := h7.cell (k := 0) rfl
                  have q1 := h7.cell (k := 1) rfl
                  repeat' ((fail_if_success at_builtin); (fail_if_success at_make); (first | go_values | go_skip | go_guarded | go_step | go_upon | go_back))
                  refine ((HK2.out A2 c2 w6 hc2 hry)).mono ?_; rintro e_ w9 ⟨rfl, hb9⟩; dsimp only
                  have hbz := hbz.trans (hb9.mono hbz.size)
                  have hr3 := hr3.below hb9
                  have hr4 := hr4.below hb9
                  have t1 := run_str (P := Try.prog) (c := c3) (src := 35) (dst := 9) Try.underlying35 Try.underlying5 Try.underlying9 rfl hr3
                  have t2 := run_str (P := Try.prog) (c := c4) (src := 35) (dst := 9) Try.underlying35 Try.underlying5 Try.underlying9 rfl hr4
                  have hdg := Digest_ok A3 E1.length c3 E1 w9 rfl hc3 (by omega) hr3
                  rw [← HKD.out] at hdg
                  have HDG := Lib.hid hdg
                  have hT := HT.out
                  generalize (⟨E1.toArray⟩ : ByteArray) = T1 at *
                  generalize (⟨E2.toArray⟩ : ByteArray) = T2 at *
                  clear hdg q0 q1 hb9
                  repeat' ((fail_if_success at_builtin); (fail_if_success at_make); (first | go_values | go_skip | go_guarded | go_step | go_upon | go_back))
                  refine ((HDG.out)).mono ?_; rintro e_ w10 ⟨rfl, hb10⟩; dsimp only
                  repeat' ((fail_if_success at_builtin); (fail_if_success at_make); (first | go_values | go_skip | go_guarded | go_step | go_upon | go_back))
                  go_ret
                  exact ⟨rfl, hbz.trans (hb10.mono hbz.size)⟩
                · have hEE : ¬ E1 = E2 := fun h => hxy (HINJ.out h).2
                  have e0 : (S1.toList == S2.toList) = true := by simp [hSS]
                  have HEQ := Lib.hid (EqualP_diff A1 A2 x.length y.length c1 c2 x y w5 rfl rfl (by omega) (by omega) hrx hry hxy)
                  have HT := Lib.hid (show ((⟨E1.toArray⟩ : ByteArray).toList == (⟨E2.toArray⟩ : ByteArray).toList) = false from bytes_ne (fun h => hEE (str_inj.1 h)))
                  clear hSS hxy hEE
                  repeat' ((fail_if_success at_builtin); (fail_if_success at_make); (first | go_values | go_skip | go_guarded | go_step | go_upon | go_back))
                  refine ((HEQ.out)).mono ?_; rintro e_ w6 ⟨rfl, hb6⟩; dsimp only
                  have hbz := hbz.trans (hb6.mono hbz.size)
                  have h7 := h7.below hb6
                  have hry := hry.below hb6
                  have hr3 := hr3.below hb6
                  have hr4 := hr4.below hb6
                  clear p0 p1 q0 q1 hb6
                  have q0 := h7.cell (k := 0) rfl
                  have q1 := h7.cell (k := 1) rfl
                  repeat' ((fail_if_success at_builtin); (fail_if_success at_make); (first | go_values | go_skip | go_guarded | go_step | go_upon | go_back))
                  refine ((HK2.out A2 c2 w6 hc2 hry)).mono ?_; rintro e_ w9 ⟨rfl, hb9⟩; dsimp only
                  have hbz := hbz.trans (hb9.mono hbz.size)
                  have hr3 := hr3.below hb9
                  have hr4 := hr4.below hb9
                  have t1 := run_str (P := Try.prog) (c := c3) (src := 35) (dst := 9) Try.underlying35 Try.underlying5 Try.underlying9 rfl hr3
                  have t2 := run_str (P := Try.prog) (c := c4) (src := 35) (dst := 9) Try.underlying35 Try.underlying5 Try.underlying9 rfl hr4
                  have hdg := Digest_ok A3 E1.length c3 E1 w9 rfl hc3 (by omega) hr3
                  rw [← HKD.out] at hdg
                  have HDG := Lib.hid hdg
                  have hT := HT.out
                  generalize (⟨E1.toArray⟩ : ByteArray) = T1 at *
                  generalize (⟨E2.toArray⟩ : ByteArray) = T2 at *
                  clear hdg q0 q1 hb9
                  repeat' ((fail_if_success at_builtin); (fail_if_success at_make); (first | go_values | go_skip | go_guarded | go_step | go_upon | go_back))
                  refine ((HDG.out)).mono ?_; rintro e_ w10 ⟨rfl, hb10⟩; dsimp only
                  repeat' ((fail_if_success at_builtin); (fail_if_success at_make); (first | go_values | go_skip | go_guarded | go_step | go_upon | go_back))
                  go_ret
                  exact ⟨rfl, hbz.trans (hb10.mono hbz.size)⟩
              · have hEE : ¬ E1 = E2 := fun h => hSS (HCD.out.2 (HINJ.out h).1)
                have e0 : (S1.toList == S2.toList) = false := bytes_ne hSS
                have HT := Lib.hid (show ((⟨E1.toArray⟩ : ByteArray).toList == (⟨E2.toArray⟩ : ByteArray).toList) = false from bytes_ne (fun h => hEE (str_inj.1 h)))
                have hb6 := Below.refl w5.heap.size w5
                clear hSS hEE
                repeat' ((fail_if_success at_builtin); (fail_if_success at_make); (first | go_values | go_skip | go_guarded | go_step | go_upon | go_back))
                have hbz := hbz.trans (hb6.mono hbz.size)
                have h7 := h7.below hb6
                have hry := hry.below hb6
                have hr3 := hr3.below hb6
                have hr4 := hr4.below hb6
                clear p0 p1 q0 q1 hb6
                have q0 := h7.cell (k := 0) rfl
                have q1 := h7.cell (k := 1) rfl
                repeat' ((fail_if_success at_builtin); (fail_if_success at_make); (first | go_values | go_skip | go_guarded | go_step | go_upon | go_back))
                refine ((HK2.out A2 c2 w5 hc2 hry)).mono ?_; rintro e_ w9 ⟨rfl, hb9⟩; dsimp only
                have hbz := hbz.trans (hb9.mono hbz.size)
                have hr3 := hr3.below hb9
                have hr4 := hr4.below hb9
                have t1 := run_str (P := Try.prog) (c := c3) (src := 35) (dst := 9) Try.underlying35 Try.underlying5 Try.underlying9 rfl hr3
                have t2 := run_str (P := Try.prog) (c := c4) (src := 35) (dst := 9) Try.underlying35 Try.underlying5 Try.underlying9 rfl hr4
                have hdg := Digest_ok A3 E1.length c3 E1 w9 rfl hc3 (by omega) hr3
                rw [← HKD.out] at hdg
                have HDG := Lib.hid hdg
                have hT := HT.out
                generalize (⟨E1.toArray⟩ : ByteArray) = T1 at *
                generalize (⟨E2.toArray⟩ : ByteArray) = T2 at *
                clear hdg q0 q1 hb9
                repeat' ((fail_if_success at_builtin); (fail_if_success at_make); (first | go_values | go_skip | go_guarded | go_step | go_upon | go_back))
                refine ((HDG.out)).mono ?_; rintro e_ w10 ⟨rfl, hb10⟩; dsimp only
                repeat' ((fail_if_success at_builtin); (fail_if_success at_make); (first | go_values | go_skip | go_guarded | go_step | go_upon | go_back))
                go_ret
                exact ⟨rfl, hbz.trans (hb10.mono hbz.size)⟩
            exact AllReadyH.nil
          exact AllReadyH.nil
        exact AllReadyH.nil
      exact AllReadyH.nil
    exact AllReadyH.nil
  refine AllReadyH.cons (o := _) rfl (fun K hK => ?_) ?_
  ·
    go_simp
    refine outG hK ?_ (Below wn0.heap.size wn0) (fun W => Arr W wn0.heap.size 26 [.string ⟨#[]⟩, .slice none 0 0] ∧ wn0.heap.size < W.heap.size ∧ w1.heap.size ≤ wn0.heap.size) ?_ ?_ (fun wn44 hHeld hst hnew => ?_)
    · ((try dsimp only); first | exact HMK.out _ (hB.alloc hB.size _) | exact HMK.out _ (hB.trans (hb2.mono hB.size)) | exact HMK.out _ (hB.trans (hb5.mono hB.size)))
    · (first | exact (Below.refl _ _).alloc (Nat.le_refl _) _ | exact hb2 | exact hb5 | exact Below.refl _ _)
    · (exact ⟨Arr.new _ _ _, by simp, hB.size⟩)
    have hB := hB.trans (hst.mono hB.size)
    obtain ⟨h7, l7, k7⟩ := hnew
    generalize hg7 : wn0.heap.size = g7 at *
    try (have ne67 : g6 ≠ g7 := by omega)
    clear hst
    clear hK K
    try simp only [List.getElem_toArray, List.getElem_cons_zero, List.getElem_cons_succ, Act.put, List.setIfInBounds_toArray, List.set_cons_zero, List.set_cons_succ]
    refine wpAnyH_ready (rs := [2, 6]) (by kernel_rfl) (by simp) ?_
    refine AllReadyH.cons (o := _) rfl (fun K hK => ?_) ?_
    ·
      go_simp
      refine (HACT.out wn44 (HRR.out _ hB).1).mono ?_
      rintro e2 w2 ⟨v1, rfl, ho2, hb2⟩
      rw [HV.out]
      dsimp only
      refine outG hK ?_ (Below wn44.heap.size wn44) (fun W => W.ownsRow w1.heap.size 45 3 v1 x.length (pcs x)) ?_ ?_ (fun wn45 hHeld hst hnew => ?_)
      · ((try dsimp only); first | exact HMK.out _ (hB.alloc hB.size _) | exact HMK.out _ (hB.trans (hb2.mono hB.size)) | exact HMK.out _ (hB.trans (hb5.mono hB.size)))
      · (first | exact (Below.refl _ _).alloc (Nat.le_refl _) _ | exact hb2 | exact hb5 | exact Below.refl _ _)
      · (exact own_lower ho2 hB.size)
      have h7 := h7.below hst
      try (have l7 := Nat.lt_of_lt_of_le l7 hst.size)
      have hB := hB.trans (hst.mono hB.size)
      have h2 := hnew
      clear hnew
      clear hst
      clear hK K
      try simp only [List.getElem_toArray, List.getElem_cons_zero, List.getElem_cons_succ, Act.put, List.setIfInBounds_toArray, List.set_cons_zero, List.set_cons_succ]
      refine wpAnyH_ready (rs := [5, 6]) (by kernel_rfl) (by simp) ?_
      refine AllReadyH.cons (o := _) rfl (fun K hK => ?_) ?_
      ·
        go_simp
        refine (HACT'.out wn45 (HRR.out _ hB).2).mono ?_
        rintro e5 w5 ⟨v2, rfl, ho5, hb5⟩
        rw [HV'.out]
        dsimp only
        refine outG hK ?_ (Below wn45.heap.size wn45) (fun W => W.ownsRow w1.heap.size 45 3 v2 y.length (pcs y)) ?_ ?_ (fun wn46 hHeld hst hnew => ?_)
        · ((try dsimp only); first | exact HMK.out _ (hB.alloc hB.size _) | exact HMK.out _ (hB.trans (hb2.mono hB.size)) | exact HMK.out _ (hB.trans (hb5.mono hB.size)))
        · (first | exact (Below.refl _ _).alloc (Nat.le_refl _) _ | exact hb2 | exact hb5 | exact Below.refl _ _)
        · (exact own_lower ho5 hB.size)
        have h2 := own_below h2 hst
        have h7 := h7.below hst
        try (have l7 := Nat.lt_of_lt_of_le l7 hst.size)
        have hB := hB.trans (hst.mono hB.size)
        have h5 := hnew
        clear hnew
        clear hst
        clear hK K
        try simp only [List.getElem_toArray, List.getElem_cons_zero, List.getElem_cons_succ, Act.put, List.setIfInBounds_toArray, List.set_cons_zero, List.set_cons_succ]
        refine wpAnyH_ready (rs := [6]) (by kernel_rfl) (by simp) ?_
        refine AllReadyH.cons (o := _) rfl (fun K hK => ?_) ?_
        ·
          go_simp
          refine outG hK ?_ (Below wn46.heap.size wn46) (fun W => Arr W wn46.heap.size 26 [.string ⟨#[]⟩, .slice none 0 0] ∧ wn46.heap.size < W.heap.size ∧ w1.heap.size ≤ wn46.heap.size) ?_ ?_ (fun wn47 hHeld hst hnew => ?_)
          · ((try dsimp only); first | exact HMK.out _ (hB.alloc hB.size _) | exact HMK.out _ (hB.trans (hb2.mono hB.size)) | exact HMK.out _ (hB.trans (hb5.mono hB.size)))
          · (first | exact (Below.refl _ _).alloc (Nat.le_refl _) _ | exact hb2 | exact hb5 | exact Below.refl _ _)
          · (exact ⟨Arr.new _ _ _, by simp, hB.size⟩)
          have h2 := own_below h2 hst
          have h5 := own_below h5 hst
          have h7 := h7.below hst
          try (have l7 := Nat.lt_of_lt_of_le l7 hst.size)
          have hB := hB.trans (hst.mono hB.size)
          obtain ⟨h6, l6, k6⟩ := hnew
          generalize hg6 : wn46.heap.size = g6 at *
          try (have ne67 : g6 ≠ g7 := by omega)
          clear hst
          clear hK K
          try simp only [List.getElem_toArray, List.getElem_cons_zero, List.getElem_cons_succ, Act.put, List.setIfInBounds_toArray, List.set_cons_zero, List.set_cons_succ]
          refine wpAnyH_ready (rs := [8]) (by kernel_rfl) (by simp) ?_
          refine AllReadyH.cons (o := _) rfl (fun K hK => ?_) ?_
          ·
            obtain ⟨A1, c1, rfl, hc1, _⟩ := Rd.of_own' h2
            have y0 := h6.cell (k := 0) rfl
            have y1 := h6.cell (k := 1) rfl
            have z0 := h6.frozen 0
            have z1 := h6.frozen 1
            have y2 := (h6.set (k := 0) (by simp) (.string S1)).cell (k := 1) rfl
            have y3 := (h6.set (k := 0) (by simp) (.string S1)).frozen 1
            have n1 := own_ne h2 h6 (by decide)
            have n2 := own_ne h5 h6 (by decide)
            go_simp
            refine outG hK ?_ (fun W => Arr W g6 26 [.string S1, .slice A1 x.length c1] ∧ Arr W g7 26 [.string ⟨#[]⟩, .slice none 0 0] ∧ W.ownsRow w1.heap.size 45 3 (.slice A1 x.length c1) x.length (pcs x) ∧ W.ownsRow w1.heap.size 45 3 v2 y.length (pcs y)) (Below w1.heap.size w1) ?_ ?_ (fun wn48 hHeld hF hB => ?_)
            · exact HMK.out _ (Below.put2 hB k6 _ _)
            · exact ⟨h6.put2 _ _, (h7.other (Ne.symm ne67) _).other (Ne.symm ne67) _, own_other (own_other h2 n1) n1, own_other (own_other h5 n2) n2⟩
            · exact Below.put2 hB k6 _ _
            clear h2 h5 h6 h7 n1 n2
            obtain ⟨h6, h7, h2, h5⟩ := hF
            clear hK K
            try simp only [List.getElem_toArray, List.getElem_cons_zero, List.getElem_cons_succ, Act.put, List.setIfInBounds_toArray, List.set_cons_zero, List.set_cons_succ]
            refine wpAnyH_ready (rs := [9]) (by kernel_rfl) (by simp) ?_
            refine AllReadyH.cons (o := _) rfl (fun K hK => ?_) ?_
            ·
              obtain ⟨A2, c2, rfl, hc2, _⟩ := Rd.of_own' h5
              have y0 := h7.cell (k := 0) rfl
              have y1 := h7.cell (k := 1) rfl
              have z0 := h7.frozen 0
              have z1 := h7.frozen 1
              have y2 := (h7.set (k := 0) (by simp) (.string S2)).cell (k := 1) rfl
              have y3 := (h7.set (k := 0) (by simp) (.string S2)).frozen 1
              have n1 := own_ne h2 h7 (by decide)
              have n2 := own_ne h5 h7 (by decide)
              go_simp
              refine outG hK ?_ (fun W => Arr W g6 26 [.string S1, .slice A1 x.length c1] ∧ Arr W g7 26 [.string S2, .slice A2 y.length c2] ∧ W.ownsRow w1.heap.size 45 3 (.slice A1 x.length c1) x.length (pcs x) ∧ W.ownsRow w1.heap.size 45 3 (.slice A2 y.length c2) y.length (pcs y)) (Below w1.heap.size w1) ?_ ?_ (fun wn49 hHeld hF hB => ?_)
              · exact HMK.out _ (Below.put2 hB k7 _ _)
              · exact ⟨(h6.other ne67 _).other ne67 _, h7.put2 _ _, own_other (own_other h2 n1) n1, own_other (own_other h5 n2) n2⟩
              · exact Below.put2 hB k7 _ _
              clear h2 h5 h6 h7 n1 n2
              obtain ⟨h6, h7, h2, h5⟩ := hF
              clear hK K
              try simp only [List.getElem_toArray, List.getElem_cons_zero, List.getElem_cons_succ, Act.put, List.setIfInBounds_toArray, List.set_cons_zero, List.set_cons_succ]
              refine wpAnyH_done (by kernel_rfl) ?_ _
              clear hHeld
              dsimp only [Exit.then]
              have hbz := HB1.out.trans (hB.mono HB1.out.size)
              have hrx := Rd.of_own h2
              have hry := Rd.of_own h5
              clear h2 h5 hB
              have p0 := h6.cell (k := 0) rfl
              have p1 := h6.cell (k := 1) rfl
              repeat' ((fail_if_success at_builtin); (fail_if_success at_make); (first | go_values | go_skip | go_guarded | go_step | go_upon | go_back))
              refine ((HE1.out A1 c1 wn49 hc1 hrx)).mono ?_; rintro e_ w3 ⟨A3, c3, rfl, hr3, hc3, hm3, hb3⟩; dsimp only
              have hbz := hbz.trans (hb3.mono hbz.size)
              have h6 := h6.below hb3
              have h7 := h7.below hb3
              have hrx := hrx.below hb3
              have hry := hry.below hb3
              clear p0 p1 hb3
              have p0 := h7.cell (k := 0) rfl
              have p1 := h7.cell (k := 1) rfl
              repeat' ((fail_if_success at_builtin); (fail_if_success at_make); (first | go_values | go_skip | go_guarded | go_step | go_upon | go_back))
              refine ((HE2.out A2 c2 w3 hc2 hry)).mono ?_; rintro e_ w4 ⟨A4, c4, rfl, hr4, hc4, hm4, hb4⟩; dsimp only
              have hbz := hbz.trans (hb4.mono hbz.size)
              have h6 := h6.below hb4
              have h7 := h7.below hb4
              have hrx := hrx.below hb4
              have hry := hry.below hb4
              have hr3 := hr3.below hb4
              clear p0 p1 hb4
              have p0 := h6.cell (k := 0) rfl
              have p1 := h6.cell (k := 1) rfl
              repeat' ((fail_if_success at_builtin); (fail_if_success at_make); (first | go_values | go_skip | go_guarded | go_step | go_upon | go_back))
              refine ((HK1.out A1 c1 w4 hc1 hrx)).mono ?_; rintro e_ w5 ⟨rfl, hb5⟩; dsimp only
              have hbz := hbz.trans (hb5.mono hbz.size)
              have h6 := h6.below hb5
              have h7 := h7.below hb5
              have hrx := hrx.below hb5
              have hry := hry.below hb5
              have hr3 := hr3.below hb5
              have hr4 := hr4.below hb5
              clear p0 p1 hb5
              have p0 := h6.cell (k := 0) rfl
              have p1 := h6.cell (k := 1) rfl
              have q0 := h7.cell (k := 0) rfl
              have q1 := h7.cell (k := 1) rfl
              by_cases hSS : S1 = S2
              · by_cases hxy : x = y
                · have hEE := HSAME.out (HCD.out.1 hSS) hxy
                  have hKK := HKK.out hEE
                  have e0 : (S1.toList == S2.toList) = true := by simp [hSS]
                  have eK : (K1.toList == K2.toList) = true := by simp [hKK]
                  have HEQ := Lib.hid (by
                    have h := EqualP_same A1 A2 x.length c1 c2 x w5 rfl (by omega) hrx (by rw [hxy]; exact hry)
                    rw [show x.length = y.length by rw [hxy]] at h ⊢
                    exact h : Calls Try.prog 15 #[.slice A1 x.length c1, .slice A2 y.length c2] w5 fun e w' => e = .returned (.bool true) ∧ Below w5.heap.size w5 w')
                  have HT := Lib.hid (show ((⟨E1.toArray⟩ : ByteArray).toList == (⟨E2.toArray⟩ : ByteArray).toList) = true by simp [hEE])
                  clear hSS hxy hEE hKK
                  repeat' ((fail_if_success at_builtin); (fail_if_success at_make); (first | go_values | go_skip | go_guarded | go_step | go_upon | go_back))
                  refine ((HEQ.out)).mono ?_; rintro e_ w6 ⟨rfl, hb6⟩; dsimp only
                  have hbz := hbz.trans (hb6.mono hbz.size)
                  have h7 := h7.below hb6
                  have hry := hry.below hb6
                  have hr3 := hr3.below hb6
                  have hr4 := hr4.below hb6
                  clear p0 p1 q0 q1 hb6
                  have q0 := h7.cell (k := 0) rfl
                  have q1 := h7.cell (k := 1) rfl
                  repeat' ((fail_if_success at_builtin); (fail_if_success at_make); (first | go_values | go_skip | go_guarded | go_step | go_upon | go_back))
                  refine ((HK2.out A2 c2 w6 hc2 hry)).mono ?_; rintro e_ w9 ⟨rfl, hb9⟩; dsimp only
                  have hbz := hbz.trans (hb9.mono hbz.size)
                  have hr3 := hr3.below hb9
                  have hr4 := hr4.below hb9
                  have t1 := run_str (P := Try.prog) (c := c3) (src := 35) (dst := 9) Try.underlying35 Try.underlying5 Try.underlying9 rfl hr3
                  have t2 := run_str (P := Try.prog) (c := c4) (src := 35) (dst := 9) Try.underlying35 Try.underlying5 Try.underlying9 rfl hr4
                  have hdg := Digest_ok A3 E1.length c3 E1 w9 rfl hc3 (by omega) hr3
                  rw [← HKD.out] at hdg
                  have HDG := Lib.hid hdg
                  have hT := HT.out
                  generalize (⟨E1.toArray⟩ : ByteArray) = T1 at *
                  generalize (⟨E2.toArray⟩ : ByteArray) = T2 at *
                  clear hdg q0 q1 hb9
                  repeat' ((fail_if_success at_builtin); (fail_if_success at_make); (first | go_values | go_skip | go_guarded | go_step | go_upon | go_back))
                  refine ((HDG.out)).mono ?_; rintro e_ w10 ⟨rfl, hb10⟩; dsimp only
                  repeat' ((fail_if_success at_builtin); (fail_if_success at_make); (first | go_values | go_skip | go_guarded | go_step | go_upon | go_back))
                  go_ret
                  exact ⟨rfl, hbz.trans (hb10.mono hbz.size)⟩
                · have hEE : ¬ E1 = E2 := fun h => hxy (HINJ.out h).2
                  have e0 : (S1.toList == S2.toList) = true := by simp [hSS]
                  have HEQ := Lib.hid (EqualP_diff A1 A2 x.length y.length c1 c2 x y w5 rfl rfl (by omega) (by omega) hrx hry hxy)
                  have HT := Lib.hid (show ((⟨E1.toArray⟩ : ByteArray).toList == (⟨E2.toArray⟩ : ByteArray).toList) = false from bytes_ne (fun h => hEE (str_inj.1 h)))
                  clear hSS hxy hEE
                  repeat' ((fail_if_success at_builtin); (fail_if_success at_make); (first | go_values | go_skip | go_guarded | go_step | go_upon | go_back))
                  refine ((HEQ.out)).mono ?_; rintro e_ w6 ⟨rfl, hb6⟩; dsimp only
                  have hbz := hbz.trans (hb6.mono hbz.size)
                  have h7 := h7.below hb6
                  have hry := hry.below hb6
                  have hr3 := hr3.below hb6
                  have hr4 := hr4.below hb6
                  clear p0 p1 q0 q1 hb6
                  have q0 := h7.cell (k := 0) rfl
                  have q1 := h7.cell (k := 1) rfl
                  repeat' ((fail_if_success at_builtin); (fail_if_success at_make); (first | go_values | go_skip | go_guarded | go_step | go_upon | go_back))
                  refine ((HK2.out A2 c2 w6 hc2 hry)).mono ?_; rintro e_ w9 ⟨rfl, hb9⟩; dsimp only
                  have hbz := hbz.trans (hb9.mono hbz.size)
                  have hr3 := hr3.below hb9
                  have hr4 := hr4.below hb9
                  have t1 := run_str (P := Try.prog) (c := c3) (src := 35) (dst := 9) Try.underlying35 Try.underlying5 Try.underlying9 rfl hr3
                  have t2 := run_str (P := Try.prog) (c := c4) (src := 35) (dst := 9) Try.underlying35 Try.underlying5 Try.underlying9 rfl hr4
                  have hdg := Digest_ok A3 E1.length c3 E1 w9 rfl hc3 (by omega) hr3
                  rw [← HKD.out] at hdg
                  have HDG := Lib.hid hdg
                  have hT := HT.out
                  generalize (⟨E1.toArray⟩ : ByteArray) = T1 at *
                  generalize (⟨E2.toArray⟩ : ByteArray) = T2 at *
                  clear hdg q0 q1 hb9
                  repeat' ((fail_if_success at_builtin); (fail_if_success at_make); (first | go_values | go_skip | go_guarded | go_step | go_upon | go_back))
                  refine ((HDG.out)).mono ?_; rintro e_ w10 ⟨rfl, hb10⟩; dsimp only
                  repeat' ((fail_if_success at_builtin); (fail_if_success at_make); (first | go_values | go_skip | go_guarded | go_step | go_upon | go_back))
                  go_ret
                  exact ⟨rfl, hbz.trans (hb10.mono hbz.size)⟩
              · have hEE : ¬ E1 = E2 := fun h => hSS (HCD.out.2 (HINJ.out h).1)
                have e0 : (S1.toList == S2.toList) = false := bytes_ne hSS
                have HT := Lib.hid (show ((⟨E1.toArray⟩ : ByteArray).toList == (⟨E2.toArray⟩ : ByteArray).toList) = false from bytes_ne (fun h => hEE (str_inj.1 h)))
                have hb6 := Below.refl w5.heap.size w5
                clear hSS hEE
                repeat' ((fail_if_success at_builtin); (fail_if_success at_make); (first | go_values | go_skip | go_guarded | go_step | go_upon | go_back))
                have hbz := hbz.trans (hb6.mono hbz.size)
                have h7 := h7.below hb6
                have hry := hry.below hb6
                have hr3 := hr3.below hb6
                have hr4 := hr4.below hb6
                clear p0 p1 q0 q1 hb6
                have q0 := h7.cell (k := 0) rfl
                have q1 := h7.cell (k := 1) rfl
                repeat' ((fail_if_success at_builtin); (fail_if_success at_make); (first | go_values | go_skip | go_guarded | go_step | go_upon | go_back))
                refine ((HK2.out A2 c2 w5 hc2 hry)).mono ?_; rintro e_ w9 ⟨rfl, hb9⟩; dsimp only
                have hbz := hbz.trans (hb9.mono hbz.size)
                have hr3 := hr3.below hb9
                have hr4 := hr4.below hb9
                have t1 := run_str (P := Try.prog) (c := c3) (src := 35) (dst := 9) Try.underlying35 Try.underlying5 Try.underlying9 rfl hr3
                have t2 := run_str (P := Try.prog) (c := c4) (src := 35) (dst := 9) Try.underlying35 Try.underlying5 Try.underlying9 rfl hr4
                have hdg := Digest_ok A3 E1.length c3 E1 w9 rfl hc3 (by omega) hr3
                rw [← HKD.out] at hdg
                have HDG := Lib.hid hdg
                have hT := HT.out
                generalize (⟨E1.toArray⟩ : ByteArray) = T1 at *
                generalize (⟨E2.toArray⟩ : ByteArray) = T2 at *
                clear hdg q0 q1 hb9
                repeat' ((fail_if_success at_builtin); (fail_if_success at_make); (first | go_values | go_skip | go_guarded | go_step | go_upon | go_back))
                refine ((HDG.out)).mono ?_; rintro e_ w10 ⟨rfl, hb10⟩; dsimp only
                repeat' ((fail_if_success at_builtin); (fail_if_success at_make); (first | go_values | go_skip | go_guarded | go_step | go_upon | go_back))
                go_ret
                exact ⟨rfl, hbz.trans (hb10.mono hbz.size)⟩
            exact AllReadyH.nil
          exact AllReadyH.nil
        exact AllReadyH.nil
      refine AllReadyH.cons (o := _) rfl (fun K hK => ?_) ?_
      ·
        go_simp
        refine outG hK ?_ (Below wn45.heap.size wn45) (fun W => Arr W wn45.heap.size 26 [.string ⟨#[]⟩, .slice none 0 0] ∧ wn45.heap.size < W.heap.size ∧ w1.heap.size ≤ wn45.heap.size) ?_ ?_ (fun wn50 hHeld hst hnew => ?_)
        · ((try dsimp only); first | exact HMK.out _ (hB.alloc hB.size _) | exact HMK.out _ (hB.trans (hb2.mono hB.size)) | exact HMK.out _ (hB.trans (hb5.mono hB.size)))
        · (first | exact (Below.refl _ _).alloc (Nat.le_refl _) _ | exact hb2 | exact hb5 | exact Below.refl _ _)
        · (exact ⟨Arr.new _ _ _, by simp, hB.size⟩)
        have h2 := own_below h2 hst
        have h7 := h7.below hst
        try (have l7 := Nat.lt_of_lt_of_le l7 hst.size)
        have hB := hB.trans (hst.mono hB.size)
        obtain ⟨h6, l6, k6⟩ := hnew
        generalize hg6 : wn45.heap.size = g6 at *
        try (have ne67 : g6 ≠ g7 := by omega)
        clear hst
        clear hK K
        try simp only [List.getElem_toArray, List.getElem_cons_zero, List.getElem_cons_succ, Act.put, List.setIfInBounds_toArray, List.set_cons_zero, List.set_cons_succ]
        refine wpAnyH_ready (rs := [5]) (by kernel_rfl) (by simp) ?_
        refine AllReadyH.cons (o := _) rfl (fun K hK => ?_) ?_
        ·
          go_simp
          refine (HACT'.out wn50 (HRR.out _ hB).2).mono ?_
          rintro e5 w5 ⟨v2, rfl, ho5, hb5⟩
          rw [HV'.out]
          dsimp only
          refine outG hK ?_ (Below wn50.heap.size wn50) (fun W => W.ownsRow w1.heap.size 45 3 v2 y.length (pcs y)) ?_ ?_ (fun wn51 hHeld hst hnew => ?_)
          · ((try dsimp only); first | exact HMK.out _ (hB.alloc hB.size _) | exact HMK.out _ (hB.trans (hb2.mono hB.size)) | exact HMK.out _ (hB.trans (hb5.mono hB.size)))
          · (first | exact (Below.refl _ _).alloc (Nat.le_refl _) _ | exact hb2 | exact hb5 | exact Below.refl _ _)
          · (exact own_lower ho5 hB.size)
          have h2 := own_below h2 hst
          have h6 := h6.below hst
          try (have l6 := Nat.lt_of_lt_of_le l6 hst.size)
          have h7 := h7.below hst
          try (have l7 := Nat.lt_of_lt_of_le l7 hst.size)
          have hB := hB.trans (hst.mono hB.size)
          have h5 := hnew
          clear hnew
          clear hst
          clear hK K
          try simp only [List.getElem_toArray, List.getElem_cons_zero, List.getElem_cons_succ, Act.put, List.setIfInBounds_toArray, List.set_cons_zero, List.set_cons_succ]
          refine wpAnyH_ready (rs := [8]) (by kernel_rfl) (by simp) ?_
          refine AllReadyH.cons (o := _) rfl (fun K hK => ?_) ?_
          ·
            obtain ⟨A1, c1, rfl, hc1, _⟩ := Rd.of_own' h2
            have y0 := h6.cell (k := 0) rfl
            have y1 := h6.cell (k := 1) rfl
            have z0 := h6.frozen 0
            have z1 := h6.frozen 1
            have y2 := (h6.set (k := 0) (by simp) (.string S1)).cell (k := 1) rfl
            have y3 := (h6.set (k := 0) (by simp) (.string S1)).frozen 1
            have n1 := own_ne h2 h6 (by decide)
            have n2 := own_ne h5 h6 (by decide)
            go_simp
            refine outG hK ?_ (fun W => Arr W g6 26 [.string S1, .slice A1 x.length c1] ∧ Arr W g7 26 [.string ⟨#[]⟩, .slice none 0 0] ∧ W.ownsRow w1.heap.size 45 3 (.slice A1 x.length c1) x.length (pcs x) ∧ W.ownsRow w1.heap.size 45 3 v2 y.length (pcs y)) (Below w1.heap.size w1) ?_ ?_ (fun wn52 hHeld hF hB => ?_)
            · exact HMK.out _ (Below.put2 hB k6 _ _)
            · exact ⟨h6.put2 _ _, (h7.other (Ne.symm ne67) _).other (Ne.symm ne67) _, own_other (own_other h2 n1) n1, own_other (own_other h5 n2) n2⟩
            · exact Below.put2 hB k6 _ _
            clear h2 h5 h6 h7 n1 n2
            obtain ⟨h6, h7, h2, h5⟩ := hF
            clear hK K
            try simp only [List.getElem_toArray, List.getElem_cons_zero, List.getElem_cons_succ, Act.put, List.setIfInBounds_toArray, List.set_cons_zero, List.set_cons_succ]
            refine wpAnyH_ready (rs := [9]) (by kernel_rfl) (by simp) ?_
            refine AllReadyH.cons (o := _) rfl (fun K hK => ?_) ?_
            ·
              obtain ⟨A2, c2, rfl, hc2, _⟩ := Rd.of_own' h5
              have y0 := h7.cell (k := 0) rfl
              have y1 := h7.cell (k := 1) rfl
              have z0 := h7.frozen 0
              have z1 := h7.frozen 1
              have y2 := (h7.set (k := 0) (by simp) (.string S2)).cell (k := 1) rfl
              have y3 := (h7.set (k := 0) (by simp) (.string S2)).frozen 1
              have n1 := own_ne h2 h7 (by decide)
              have n2 := own_ne h5 h7 (by decide)
              go_simp
              refine outG hK ?_ (fun W => Arr W g6 26 [.string S1, .slice A1 x.length c1] ∧ Arr W g7 26 [.string S2, .slice A2 y.length c2] ∧ W.ownsRow w1.heap.size 45 3 (.slice A1 x.length c1) x.length (pcs x) ∧ W.ownsRow w1.heap.size 45 3 (.slice A2 y.length c2) y.length (pcs y)) (Below w1.heap.size w1) ?_ ?_ (fun wn53 hHeld hF hB => ?_)
              · exact HMK.out _ (Below.put2 hB k7 _ _)
              · exact ⟨(h6.other ne67 _).other ne67 _, h7.put2 _ _, own_other (own_other h2 n1) n1, own_other (own_other h5 n2) n2⟩
              · exact Below.put2 hB k7 _ _
              clear h2 h5 h6 h7 n1 n2
              obtain ⟨h6, h7, h2, h5⟩ := hF
              clear hK K
              try simp only [List.getElem_toArray, List.getElem_cons_zero, List.getElem_cons_succ, Act.put, List.setIfInBounds_toArray, List.set_cons_zero, List.set_cons_succ]
              refine wpAnyH_done (by kernel_rfl) ?_ _
              clear hHeld
              dsimp only [Exit.then]
              have hbz := HB1.out.trans (hB.mono HB1.out.size)
              have hrx := Rd.of_own h2
              have hry := Rd.of_own h5
              clear h2 h5 hB
              have p0 := h6.cell (k := 0) rfl
              have p1 := h6.cell (k := 1) rfl
              repeat' ((fail_if_success at_builtin); (fail_if_success at_make); (first | go_values | go_skip | go_guarded | go_step | go_upon | go_back))
              refine ((HE1.out A1 c1 wn53 hc1 hrx)).mono ?_; rintro e_ w3 ⟨A3, c3, rfl, hr3, hc3, hm3, hb3⟩; dsimp only
              have hbz := hbz.trans (hb3.mono hbz.size)
              have h6 := h6.below hb3
              have h7 := h7.below hb3
              have hrx := hrx.below hb3
              have hry := hry.below hb3
              clear p0 p1 hb3
              have p0 := h7.cell (k := 0) rfl
              have p1 := h7.cell (k := 1) rfl
              repeat' ((fail_if_success at_builtin); (fail_if_success at_make); (first | go_values | go_skip | go_guarded | go_step | go_upon | go_back))
              refine ((HE2.out A2 c2 w3 hc2 hry)).mono ?_; rintro e_ w4 ⟨A4, c4, rfl, hr4, hc4, hm4, hb4⟩; dsimp only
              have hbz := hbz.trans (hb4.mono hbz.size)
              have h6 := h6.below hb4
              have h7 := h7.below hb4
              have hrx := hrx.below hb4
              have hry := hry.below hb4
              have hr3 := hr3.below hb4
              clear p0 p1 hb4
              have p0 := h6.cell (k := 0) rfl
              have p1 := h6.cell (k := 1) rfl
              repeat' ((fail_if_success at_builtin); (fail_if_success at_make); (first | go_values | go_skip | go_guarded | go_step | go_upon | go_back))
              refine ((HK1.out A1 c1 w4 hc1 hrx)).mono ?_; rintro e_ w5 ⟨rfl, hb5⟩; dsimp only
              have hbz := hbz.trans (hb5.mono hbz.size)
              have h6 := h6.below hb5
              have h7 := h7.below hb5
              have hrx := hrx.below hb5
              have hry := hry.below hb5
              have hr3 := hr3.below hb5
              have hr4 := hr4.below hb5
              clear p0 p1 hb5
              have p0 := h6.cell (k := 0) rfl
              have p1 := h6.cell (k := 1) rfl
              have q0 := h7.cell (k := 0) rfl
              have q1 := h7.cell (k := 1) rfl
              by_cases hSS : S1 = S2
              · by_cases hxy : x = y
                · have hEE := HSAME.out (HCD.out.1 hSS) hxy
                  have hKK := HKK.out hEE
                  have e0 : (S1.toList == S2.toList) = true := by simp [hSS]
                  have eK : (K1.toList == K2.toList) = true := by simp [hKK]
                  have HEQ := Lib.hid (by
                    have h := EqualP_same A1 A2 x.length c1 c2 x w5 rfl (by omega) hrx (by rw [hxy]; exact hry)
                    rw [show x.length = y.length by rw [hxy]] at h ⊢
                    exact h : Calls Try.prog 15 #[.slice A1 x.length c1, .slice A2 y.length c2] w5 fun e w' => e = .returned (.bool true) ∧ Below w5.heap.size w5 w')
                  have HT := Lib.hid (show ((⟨E1.toArray⟩ : ByteArray).toList == (⟨E2.toArray⟩ : ByteArray).toList) = true by simp [hEE])
                  clear hSS hxy hEE hKK
                  repeat' ((fail_if_success at_builtin); (fail_if_success at_make); (first | go_values | go_skip | go_guarded | go_step | go_upon | go_back))
                  refine ((HEQ.out)).mono ?_; rintro e_ w6 ⟨rfl, hb6⟩; dsimp only
                  have hbz := hbz.trans (hb6.mono hbz.size)
                  have h7 := h7.below hb6
                  have hry := hry.below hb6
                  have hr3 := hr3.below hb6
                  have hr4 := hr4.below hb6
                  clear p0 p1 q0 q1 hb6
                  have q0 := h7.cell (k := 0) rfl
                  have q1 := h7.cell (k := 1) rfl
                  repeat' ((fail_if_success at_builtin); (fail_if_success at_make); (first | go_values | go_skip | go_guarded | go_step | go_upon | go_back))
                  refine ((HK2.out A2 c2 w6 hc2 hry)).mono ?_; rintro e_ w9 ⟨rfl, hb9⟩; dsimp only
                  have hbz := hbz.trans (hb9.mono hbz.size)
                  have hr3 := hr3.below hb9
                  have hr4 := hr4.below hb9
                  have t1 := run_str (P := Try.prog) (c := c3) (src := 35) (dst := 9) Try.underlying35 Try.underlying5 Try.underlying9 rfl hr3
                  have t2 := run_str (P := Try.prog) (c := c4) (src := 35) (dst := 9) Try.underlying35 Try.underlying5 Try.underlying9 rfl hr4
                  have hdg := Digest_ok A3 E1.length c3 E1 w9 rfl hc3 (by omega) hr3
                  rw [← HKD.out] at hdg
                  have HDG := Lib.hid hdg
                  have hT := HT.out
                  generalize (⟨E1.toArray⟩ : ByteArray) = T1 at *
                  generalize (⟨E2.toArray⟩ : ByteArray) = T2 at *
                  clear hdg q0 q1 hb9
                  repeat' ((fail_if_success at_builtin); (fail_if_success at_make); (first | go_values | go_skip | go_guarded | go_step | go_upon | go_back))
                  refine ((HDG.out)).mono ?_; rintro e_ w10 ⟨rfl, hb10⟩; dsimp only
                  repeat' ((fail_if_success at_builtin); (fail_if_success at_make); (first | go_values | go_skip | go_guarded | go_step | go_upon | go_back))
                  go_ret
                  exact ⟨rfl, hbz.trans (hb10.mono hbz.size)⟩
                · have hEE : ¬ E1 = E2 := fun h => hxy (HINJ.out h).2
                  have e0 : (S1.toList == S2.toList) = true := by simp [hSS]
                  have HEQ := Lib.hid (EqualP_diff A1 A2 x.length y.length c1 c2 x y w5 rfl rfl (by omega) (by omega) hrx hry hxy)
                  have HT := Lib.hid (show ((⟨E1.toArray⟩ : ByteArray).toList == (⟨E2.toArray⟩ : ByteArray).toList) = false from bytes_ne (fun h => hEE (str_inj.1 h)))
                  clear hSS hxy hEE
                  repeat' ((fail_if_success at_builtin); (fail_if_success at_make); (first | go_values | go_skip | go_guarded | go_step | go_upon | go_back))
                  refine ((HEQ.out)).mono ?_; rintro e_ w6 ⟨rfl, hb6⟩; dsimp only
                  have hbz := hbz.trans (hb6.mono hbz.size)
                  have h7 := h7.below hb6
                  have hry := hry.below hb6
                  have hr3 := hr3.below hb6
                  have hr4 := hr4.below hb6
                  clear p0 p1 q0 q1 hb6
                  have q0 := h7.cell (k := 0) rfl
                  have q1 := h7.cell (k := 1) rfl
                  repeat' ((fail_if_success at_builtin); (fail_if_success at_make); (first | go_values | go_skip | go_guarded | go_step | go_upon | go_back))
                  refine ((HK2.out A2 c2 w6 hc2 hry)).mono ?_; rintro e_ w9 ⟨rfl, hb9⟩; dsimp only
                  have hbz := hbz.trans (hb9.mono hbz.size)
                  have hr3 := hr3.below hb9
                  have hr4 := hr4.below hb9
                  have t1 := run_str (P := Try.prog) (c := c3) (src := 35) (dst := 9) Try.underlying35 Try.underlying5 Try.underlying9 rfl hr3
                  have t2 := run_str (P := Try.prog) (c := c4) (src := 35) (dst := 9) Try.underlying35 Try.underlying5 Try.underlying9 rfl hr4
                  have hdg := Digest_ok A3 E1.length c3 E1 w9 rfl hc3 (by omega) hr3
                  rw [← HKD.out] at hdg
                  have HDG := Lib.hid hdg
                  have hT := HT.out
                  generalize (⟨E1.toArray⟩ : ByteArray) = T1 at *
                  generalize (⟨E2.toArray⟩ : ByteArray) = T2 at *
                  clear hdg q0 q1 hb9
                  repeat' ((fail_if_success at_builtin); (fail_if_success at_make); (first | go_values | go_skip | go_guarded | go_step | go_upon | go_back))
                  refine ((HDG.out)).mono ?_; rintro e_ w10 ⟨rfl, hb10⟩; dsimp only
                  repeat' ((fail_if_success at_builtin); (fail_if_success at_make); (first | go_values | go_skip | go_guarded | go_step | go_upon | go_back))
                  go_ret
                  exact ⟨rfl, hbz.trans (hb10.mono hbz.size)⟩
              · have hEE : ¬ E1 = E2 := fun h => hSS (HCD.out.2 (HINJ.out h).1)
                have e0 : (S1.toList == S2.toList) = false := bytes_ne hSS
                have HT := Lib.hid (show ((⟨E1.toArray⟩ : ByteArray).toList == (⟨E2.toArray⟩ : ByteArray).toList) = false from bytes_ne (fun h => hEE (str_inj.1 h)))
                have hb6 := Below.refl w5.heap.size w5
                clear hSS hEE
                repeat' ((fail_if_success at_builtin); (fail_if_success at_make); (first | go_values | go_skip | go_guarded | go_step | go_upon | go_back))
                have hbz := hbz.trans (hb6.mono hbz.size)
                have h7 := h7.below hb6
                have hry := hry.below hb6
                have hr3 := hr3.below hb6
                have hr4 := hr4.below hb6
                clear p0 p1 q0 q1 hb6
                have q0 := h7.cell (k := 0) rfl
                have q1 := h7.cell (k := 1) rfl
                repeat' ((fail_if_success at_builtin); (fail_if_success at_make); (first | go_values | go_skip | go_guarded | go_step | go_upon | go_back))
                refine ((HK2.out A2 c2 w5 hc2 hry)).mono ?_; rintro e_ w9 ⟨rfl, hb9⟩; dsimp only
                have hbz := hbz.trans (hb9.mono hbz.size)
                have hr3 := hr3.below hb9
                have hr4 := hr4.below hb9
                have t1 := run_str (P := Try.prog) (c := c3) (src := 35) (dst := 9) Try.underlying35 Try.underlying5 Try.underlying9 rfl hr3
                have t2 := run_str (P := Try.prog) (c := c4) (src := 35) (dst := 9) Try.underlying35 Try.underlying5 Try.underlying9 rfl hr4
                have hdg := Digest_ok A3 E1.length c3 E1 w9 rfl hc3 (by omega) hr3
                rw [← HKD.out] at hdg
                have HDG := Lib.hid hdg
                have hT := HT.out
                generalize (⟨E1.toArray⟩ : ByteArray) = T1 at *
                generalize (⟨E2.toArray⟩ : ByteArray) = T2 at *
                clear hdg q0 q1 hb9
                repeat' ((fail_if_success at_builtin); (fail_if_success at_make); (first | go_values | go_skip | go_guarded | go_step | go_upon | go_back))
                refine ((HDG.out)).mono ?_; rintro e_ w10 ⟨rfl, hb10⟩; dsimp only
                repeat' ((fail_if_success at_builtin); (fail_if_success at_make); (first | go_values | go_skip | go_guarded | go_step | go_upon | go_back))
                go_ret
                exact ⟨rfl, hbz.trans (hb10.mono hbz.size)⟩
            exact AllReadyH.nil
          exact AllReadyH.nil
        exact AllReadyH.nil
      exact AllReadyH.nil
    refine AllReadyH.cons (o := _) rfl (fun K hK => ?_) ?_
    ·
      go_simp
      refine outG hK ?_ (Below wn44.heap.size wn44) (fun W => Arr W wn44.heap.size 26 [.string ⟨#[]⟩, .slice none 0 0] ∧ wn44.heap.size < W.heap.size ∧ w1.heap.size ≤ wn44.heap.size) ?_ ?_ (fun wn54 hHeld hst hnew => ?_)
      · ((try dsimp only); first | exact HMK.out _ (hB.alloc hB.size _) | exact HMK.out _ (hB.trans (hb2.mono hB.size)) | exact HMK.out _ (hB.trans (hb5.mono hB.size)))
      · (first | exact (Below.refl _ _).alloc (Nat.le_refl _) _ | exact hb2 | exact hb5 | exact Below.refl _ _)
      · (exact ⟨Arr.new _ _ _, by simp, hB.size⟩)
      have h7 := h7.below hst
      try (have l7 := Nat.lt_of_lt_of_le l7 hst.size)
      have hB := hB.trans (hst.mono hB.size)
      obtain ⟨h6, l6, k6⟩ := hnew
      generalize hg6 : wn44.heap.size = g6 at *
      try (have ne67 : g6 ≠ g7 := by omega)
      clear hst
      clear hK K
      try simp only [List.getElem_toArray, List.getElem_cons_zero, List.getElem_cons_succ, Act.put, List.setIfInBounds_toArray, List.set_cons_zero, List.set_cons_succ]
      refine wpAnyH_ready (rs := [2]) (by kernel_rfl) (by simp) ?_
      refine AllReadyH.cons (o := _) rfl (fun K hK => ?_) ?_
      ·
        go_simp
        refine (HACT.out wn54 (HRR.out _ hB).1).mono ?_
        rintro e2 w2 ⟨v1, rfl, ho2, hb2⟩
        rw [HV.out]
        dsimp only
        refine outG hK ?_ (Below wn54.heap.size wn54) (fun W => W.ownsRow w1.heap.size 45 3 v1 x.length (pcs x)) ?_ ?_ (fun wn55 hHeld hst hnew => ?_)
        · ((try dsimp only); first | exact HMK.out _ (hB.alloc hB.size _) | exact HMK.out _ (hB.trans (hb2.mono hB.size)) | exact HMK.out _ (hB.trans (hb5.mono hB.size)))
        · (first | exact (Below.refl _ _).alloc (Nat.le_refl _) _ | exact hb2 | exact hb5 | exact Below.refl _ _)
        · (exact own_lower ho2 hB.size)
        have h6 := h6.below hst
        try (have l6 := Nat.lt_of_lt_of_le l6 hst.size)
        have h7 := h7.below hst
        try (have l7 := Nat.lt_of_lt_of_le l7 hst.size)
        have hB := hB.trans (hst.mono hB.size)
        have h2 := hnew
        clear hnew
        clear hst
        clear hK K
        try simp only [List.getElem_toArray, List.getElem_cons_zero, List.getElem_cons_succ, Act.put, List.setIfInBounds_toArray, List.set_cons_zero, List.set_cons_succ]
        refine wpAnyH_ready (rs := [5]) (by kernel_rfl) (by simp) ?_
        refine AllReadyH.cons (o := _) rfl (fun K hK => ?_) ?_
        ·
          go_simp
          refine (HACT'.out wn55 (HRR.out _ hB).2).mono ?_
          rintro e5 w5 ⟨v2, rfl, ho5, hb5⟩
          rw [HV'.out]
          dsimp only
          refine outG hK ?_ (Below wn55.heap.size wn55) (fun W => W.ownsRow w1.heap.size 45 3 v2 y.length (pcs y)) ?_ ?_ (fun wn56 hHeld hst hnew => ?_)
          · ((try dsimp only); first | exact HMK.out _ (hB.alloc hB.size _) | exact HMK.out _ (hB.trans (hb2.mono hB.size)) | exact HMK.out _ (hB.trans (hb5.mono hB.size)))
          · (first | exact (Below.refl _ _).alloc (Nat.le_refl _) _ | exact hb2 | exact hb5 | exact Below.refl _ _)
          · (exact own_lower ho5 hB.size)
          have h2 := own_below h2 hst
          have h6 := h6.below hst
          try (have l6 := Nat.lt_of_lt_of_le l6 hst.size)
          have h7 := h7.below hst
          try (have l7 := Nat.lt_of_lt_of_le l7 hst.size)
          have hB := hB.trans (hst.mono hB.size)
          have h5 := hnew
          clear hnew
          clear hst
          clear hK K
          try simp only [List.getElem_toArray, List.getElem_cons_zero, List.getElem_cons_succ, Act.put, List.setIfInBounds_toArray, List.set_cons_zero, List.set_cons_succ]
          refine wpAnyH_ready (rs := [8]) (by kernel_rfl) (by simp) ?_
          refine AllReadyH.cons (o := _) rfl (fun K hK => ?_) ?_
          ·
            obtain ⟨A1, c1, rfl, hc1, _⟩ := Rd.of_own' h2
            have y0 := h6.cell (k := 0) rfl
            have y1 := h6.cell (k := 1) rfl
            have z0 := h6.frozen 0
            have z1 := h6.frozen 1
            have y2 := (h6.set (k := 0) (by simp) (.string S1)).cell (k := 1) rfl
            have y3 := (h6.set (k := 0) (by simp) (.string S1)).frozen 1
            have n1 := own_ne h2 h6 (by decide)
            have n2 := own_ne h5 h6 (by decide)
            go_simp
            refine outG hK ?_ (fun W => Arr W g6 26 [.string S1, .slice A1 x.length c1] ∧ Arr W g7 26 [.string ⟨#[]⟩, .slice none 0 0] ∧ W.ownsRow w1.heap.size 45 3 (.slice A1 x.length c1) x.length (pcs x) ∧ W.ownsRow w1.heap.size 45 3 v2 y.length (pcs y)) (Below w1.heap.size w1) ?_ ?_ (fun wn57 hHeld hF hB => ?_)
            · exact HMK.out _ (Below.put2 hB k6 _ _)
            · exact ⟨h6.put2 _ _, (h7.other (Ne.symm ne67) _).other (Ne.symm ne67) _, own_other (own_other h2 n1) n1, own_other (own_other h5 n2) n2⟩
            · exact Below.put2 hB k6 _ _
            clear h2 h5 h6 h7 n1 n2
            obtain ⟨h6, h7, h2, h5⟩ := hF
            clear hK K
            try simp only [List.getElem_toArray, List.getElem_cons_zero, List.getElem_cons_succ, Act.put, List.setIfInBounds_toArray, List.set_cons_zero, List.set_cons_succ]
            refine wpAnyH_ready (rs := [9]) (by kernel_rfl) (by simp) ?_
            refine AllReadyH.cons (o := _) rfl (fun K hK => ?_) ?_
            ·
              obtain ⟨A2, c2, rfl, hc2, _⟩ := Rd.of_own' h5
              have y0 := h7.cell (k := 0) rfl
              have y1 := h7.cell (k := 1) rfl
              have z0 := h7.frozen 0
              have z1 := h7.frozen 1
              have y2 := (h7.set (k := 0) (by simp) (.string S2)).cell (k := 1) rfl
              have y3 := (h7.set (k := 0) (by simp) (.string S2)).frozen 1
              have n1 := own_ne h2 h7 (by decide)
              have n2 := own_ne h5 h7 (by decide)
              go_simp
              refine outG hK ?_ (fun W => Arr W g6 26 [.string S1, .slice A1 x.length c1] ∧ Arr W g7 26 [.string S2, .slice A2 y.length c2] ∧ W.ownsRow w1.heap.size 45 3 (.slice A1 x.length c1) x.length (pcs x) ∧ W.ownsRow w1.heap.size 45 3 (.slice A2 y.length c2) y.length (pcs y)) (Below w1.heap.size w1) ?_ ?_ (fun wn58 hHeld hF hB => ?_)
              · exact HMK.out _ (Below.put2 hB k7 _ _)
              · exact ⟨(h6.other ne67 _).other ne67 _, h7.put2 _ _, own_other (own_other h2 n1) n1, own_other (own_other h5 n2) n2⟩
              · exact Below.put2 hB k7 _ _
              clear h2 h5 h6 h7 n1 n2
              obtain ⟨h6, h7, h2, h5⟩ := hF
              clear hK K
              try simp only [List.getElem_toArray, List.getElem_cons_zero, List.getElem_cons_succ, Act.put, List.setIfInBounds_toArray, List.set_cons_zero, List.set_cons_succ]
              refine wpAnyH_done (by kernel_rfl) ?_ _
              clear hHeld
              dsimp only [Exit.then]
              have hbz := HB1.out.trans (hB.mono HB1.out.size)
              have hrx := Rd.of_own h2
              have hry := Rd.of_own h5
              clear h2 h5 hB
              have p0 := h6.cell (k := 0) rfl
              have p1 := h6.cell (k := 1) rfl
              repeat' ((fail_if_success at_builtin); (fail_if_success at_make); (first | go_values | go_skip | go_guarded | go_step | go_upon | go_back))
              refine ((HE1.out A1 c1 wn58 hc1 hrx)).mono ?_; rintro e_ w3 ⟨A3, c3, rfl, hr3, hc3, hm3, hb3⟩; dsimp only
              have hbz := hbz.trans (hb3.mono hbz.size)
              have h6 := h6.below hb3
              have h7 := h7.below hb3
              have hrx := hrx.below hb3
              have hry := hry.below hb3
              clear p0 p1 hb3
              have p0 := h7.cell (k := 0) rfl
              have p1 := h7.cell (k := 1) rfl
              repeat' ((fail_if_success at_builtin); (fail_if_success at_make); (first | go_values | go_skip | go_guarded | go_step | go_upon | go_back))
              refine ((HE2.out A2 c2 w3 hc2 hry)).mono ?_; rintro e_ w4 ⟨A4, c4, rfl, hr4, hc4, hm4, hb4⟩; dsimp only
              have hbz := hbz.trans (hb4.mono hbz.size)
              have h6 := h6.below hb4
              have h7 := h7.below hb4
              have hrx := hrx.below hb4
              have hry := hry.below hb4
              have hr3 := hr3.below hb4
              clear p0 p1 hb4
              have p0 := h6.cell (k := 0) rfl
              have p1 := h6.cell (k := 1) rfl
              repeat' ((fail_if_success at_builtin); (fail_if_success at_make); (first | go_values | go_skip | go_guarded | go_step | go_upon | go_back))
              refine ((HK1.out A1 c1 w4 hc1 hrx)).mono ?_; rintro e_ w5 ⟨rfl, hb5⟩; dsimp only
              have hbz := hbz.trans (hb5.mono hbz.size)
              have h6 := h6.below hb5
              have h7 := h7.below hb5
              have hrx := hrx.below hb5
              have hry := hry.below hb5
              have hr3 := hr3.below hb5
              have hr4 := hr4.below hb5
              clear p0 p1 hb5
              have p0 := h6.cell (k := 0) rfl
              have p1 := h6.cell (k := 1) rfl
              have q0 := h7.cell (k := 0) rfl
              have q1 := h7.cell (k := 1) rfl
              by_cases hSS : S1 = S2
              · by_cases hxy : x = y
                · have hEE := HSAME.out (HCD.out.1 hSS) hxy
                  have hKK := HKK.out hEE
                  have e0 : (S1.toList == S2.toList) = true := by simp [hSS]
                  have eK : (K1.toList == K2.toList) = true := by simp [hKK]
                  have HEQ := Lib.hid (by
                    have h := EqualP_same A1 A2 x.length c1 c2 x w5 rfl (by omega) hrx (by rw [hxy]; exact hry)
                    rw [show x.length = y.length by rw [hxy]] at h ⊢
                    exact h : Calls Try.prog 15 #[.slice A1 x.length c1, .slice A2 y.length c2] w5 fun e w' => e = .returned (.bool true) ∧ Below w5.heap.size w5 w')
                  have HT := Lib.hid (show ((⟨E1.toArray⟩ : ByteArray).toList == (⟨E2.toArray⟩ : ByteArray).toList) = true by simp [hEE])
                  clear hSS hxy hEE hKK
                  repeat' ((fail_if_success at_builtin); (fail_if_success at_make); (first | go_values | go_skip | go_guarded | go_step | go_upon | go_back))
                  refine ((HEQ.out)).mono ?_; rintro e_ w6 ⟨rfl, hb6⟩; dsimp only
                  have hbz := hbz.trans (hb6.mono hbz.size)
                  have h7 := h7.below hb6
                  have hry := hry.below hb6
                  have hr3 := hr3.below hb6
                  have hr4 := hr4.below hb6
                  clear p0 p1 q0 q1 hb6
                  have q0 := h7.cell (k := 0) rfl
                  have q1 := h7.cell (k := 1) rfl
                  repeat' ((fail_if_success at_builtin); (fail_if_success at_make); (first | go_values | go_skip | go_guarded | go_step | go_upon | go_back))
                  refine ((HK2.out A2 c2 w6 hc2 hry)).mono ?_; rintro e_ w9 ⟨rfl, hb9⟩; dsimp only
                  have hbz := hbz.trans (hb9.mono hbz.size)
                  have hr3 := hr3.below hb9
                  have hr4 := hr4.below hb9
                  have t1 := run_str (P := Try.prog) (c := c3) (src := 35) (dst := 9) Try.underlying35 Try.underlying5 Try.underlying9 rfl hr3
                  have t2 := run_str (P := Try.prog) (c := c4) (src := 35) (dst := 9) Try.underlying35 Try.underlying5 Try.underlying9 rfl hr4
                  have hdg := Digest_ok A3 E1.length c3 E1 w9 rfl hc3 (by omega) hr3
                  rw [← HKD.out] at hdg
                  have HDG := Lib.hid hdg
                  have hT := HT.out
                  generalize (⟨E1.toArray⟩ : ByteArray) = T1 at *
                  generalize (⟨E2.toArray⟩ : ByteArray) = T2 at *
                  clear hdg q0 q1 hb9
                  repeat' ((fail_if_success at_builtin); (fail_if_success at_make); (first | go_values | go_skip | go_guarded | go_step | go_upon | go_back))
                  refine ((HDG.out)).mono ?_; rintro e_ w10 ⟨rfl, hb10⟩; dsimp only
                  repeat' ((fail_if_success at_builtin); (fail_if_success at_make); (first | go_values | go_skip | go_guarded | go_step | go_upon | go_back))
                  go_ret
                  exact ⟨rfl, hbz.trans (hb10.mono hbz.size)⟩
                · have hEE : ¬ E1 = E2 := fun h => hxy (HINJ.out h).2
                  have e0 : (S1.toList == S2.toList) = true := by simp [hSS]
                  have HEQ := Lib.hid (EqualP_diff A1 A2 x.length y.length c1 c2 x y w5 rfl rfl (by omega) (by omega) hrx hry hxy)
                  have HT := Lib.hid (show ((⟨E1.toArray⟩ : ByteArray).toList == (⟨E2.toArray⟩ : ByteArray).toList) = false from bytes_ne (fun h => hEE (str_inj.1 h)))
                  clear hSS hxy hEE
                  repeat' ((fail_if_success at_builtin); (fail_if_success at_make); (first | go_values | go_skip | go_guarded | go_step | go_upon | go_back))
                  refine ((HEQ.out)).mono ?_; rintro e_ w6 ⟨rfl, hb6⟩; dsimp only
                  have hbz := hbz.trans (hb6.mono hbz.size)
                  have h7 := h7.below hb6
                  have hry := hry.below hb6
                  have hr3 := hr3.below hb6
                  have hr4 := hr4.below hb6
                  clear p0 p1 q0 q1 hb6
                  have q0 := h7.cell (k := 0) rfl
                  have q1 := h7.cell (k := 1) rfl
                  repeat' ((fail_if_success at_builtin); (fail_if_success at_make); (first | go_values | go_skip | go_guarded | go_step | go_upon | go_back))
                  refine ((HK2.out A2 c2 w6 hc2 hry)).mono ?_; rintro e_ w9 ⟨rfl, hb9⟩; dsimp only
                  have hbz := hbz.trans (hb9.mono hbz.size)
                  have hr3 := hr3.below hb9
                  have hr4 := hr4.below hb9
                  have t1 := run_str (P := Try.prog) (c := c3) (src := 35) (dst := 9) Try.underlying35 Try.underlying5 Try.underlying9 rfl hr3
                  have t2 := run_str (P := Try.prog) (c := c4) (src := 35) (dst := 9) Try.underlying35 Try.underlying5 Try.underlying9 rfl hr4
                  have hdg := Digest_ok A3 E1.length c3 E1 w9 rfl hc3 (by omega) hr3
                  rw [← HKD.out] at hdg
                  have HDG := Lib.hid hdg
                  have hT := HT.out
                  generalize (⟨E1.toArray⟩ : ByteArray) = T1 at *
                  generalize (⟨E2.toArray⟩ : ByteArray) = T2 at *
                  clear hdg q0 q1 hb9
                  repeat' ((fail_if_success at_builtin); (fail_if_success at_make); (first | go_values | go_skip | go_guarded | go_step | go_upon | go_back))
                  refine ((HDG.out)).mono ?_; rintro e_ w10 ⟨rfl, hb10⟩; dsimp only
                  repeat' ((fail_if_success at_builtin); (fail_if_success at_make); (first | go_values | go_skip | go_guarded | go_step | go_upon | go_back))
                  go_ret
                  exact ⟨rfl, hbz.trans (hb10.mono hbz.size)⟩
              · have hEE : ¬ E1 = E2 := fun h => hSS (HCD.out.2 (HINJ.out h).1)
                have e0 : (S1.toList == S2.toList) = false := bytes_ne hSS
                have HT := Lib.hid (show ((⟨E1.toArray⟩ : ByteArray).toList == (⟨E2.toArray⟩ : ByteArray).toList) = false from bytes_ne (fun h => hEE (str_inj.1 h)))
                have hb6 := Below.refl w5.heap.size w5
                clear hSS hEE
                repeat' ((fail_if_success at_builtin); (fail_if_success at_make); (first | go_values | go_skip | go_guarded | go_step | go_upon | go_back))
                have hbz := hbz.trans (hb6.mono hbz.size)
                have h7 := h7.below hb6
                have hry := hry.below hb6
                have hr3 := hr3.below hb6
                have hr4 := hr4.below hb6
                clear p0 p1 q0 q1 hb6
                have q0 := h7.cell (k := 0) rfl
                have q1 := h7.cell (k := 1) rfl
                repeat' ((fail_if_success at_builtin); (fail_if_success at_make); (first | go_values | go_skip | go_guarded | go_step | go_upon | go_back))
                refine ((HK2.out A2 c2 w5 hc2 hry)).mono ?_; rintro e_ w9 ⟨rfl, hb9⟩; dsimp only
                have hbz := hbz.trans (hb9.mono hbz.size)
                have hr3 := hr3.below hb9
                have hr4 := hr4.below hb9
                have t1 := run_str (P := Try.prog) (c := c3) (src := 35) (dst := 9) Try.underlying35 Try.underlying5 Try.underlying9 rfl hr3
                have t2 := run_str (P := Try.prog) (c := c4) (src := 35) (dst := 9) Try.underlying35 Try.underlying5 Try.underlying9 rfl hr4
                have hdg := Digest_ok A3 E1.length c3 E1 w9 rfl hc3 (by omega) hr3
                rw [← HKD.out] at hdg
                have HDG := Lib.hid hdg
                have hT := HT.out
                generalize (⟨E1.toArray⟩ : ByteArray) = T1 at *
                generalize (⟨E2.toArray⟩ : ByteArray) = T2 at *
                clear hdg q0 q1 hb9
                repeat' ((fail_if_success at_builtin); (fail_if_success at_make); (first | go_values | go_skip | go_guarded | go_step | go_upon | go_back))
                refine ((HDG.out)).mono ?_; rintro e_ w10 ⟨rfl, hb10⟩; dsimp only
                repeat' ((fail_if_success at_builtin); (fail_if_success at_make); (first | go_values | go_skip | go_guarded | go_step | go_upon | go_back))
                go_ret
                exact ⟨rfl, hbz.trans (hb10.mono hbz.size)⟩
            exact AllReadyH.nil
          exact AllReadyH.nil
        exact AllReadyH.nil
      exact AllReadyH.nil
    exact AllReadyH.nil
  exact AllReadyH.nil
  --HELDEND
end Go.Proofs.Ytkfipkmkmhkfaaa
