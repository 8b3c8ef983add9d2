/- The walk of EvictCleans. Conditions: the sizes. -/
import Derived.Test.YtmjcoebfldmgnaaGreatCle
import Derived.Test.YtmjcoebfldmgnaaGreatSmS
namespace Go.Proofs.YtmjcoebfldmgnaaGreat
open Go.RowKit Go.Maps
set_option linter.unusedVariables false
set_option linter.unusedSimpArgs false
set_option maxRecDepth 100000

theorem cln_rchF {s : StoP} (hr : RisesBy (·.dig) s.blobs) : Rch (cln s).blobs (rts (cln s)) = Rch s.blobs (rts s) := funext fun x => propext (cln_rch hr x)
theorem rises_ndp {bl : List BlobP} (hr : RisesBy (·.dig) bl) : (bl.map (·.dig)).Nodup := by
  refine List.pairwise_map.2 (hr.imp fun {a b} h e => ?_)
  have h' : Op.bytesLess a.dig b.dig = true := h
  rw [e, bl_irr] at h'; cases h'
theorem cln_all {s : StoP} (hr : RisesBy (·.dig) s.blobs) {L : List (List UInt8)} (hL : StrL L (Rch (cln s).blobs (rts (cln s)))) : L.length = (cln s).blobs.length := by
  have h := hL.len (N := (cln s).blobs.map (·.dig)) (rises_ndp (cln_rises hr)) (fun x => by
    rw [List.mem_map]
    exact ⟨fun ⟨b, hb, e⟩ => by rw [← e]; exact cln_full hr hb, fun h => h.inB⟩)
  rw [h, List.length_map]
theorem sameBL_rfl (l : List BlobP) : sameBL l l = true := sameBL_iff.2 rfl
theorem sameEL_rfl (l : List EntP) : sameEL l l = true := sameEL_iff.2 rfl
set_option maxHeartbeats 8000000 in
theorem EvictCleans_walk (A : Option Addr) (n c : Nat) (l : List RawP) (w : World) (hl : l.length = n) (hc : n ≤ c) (hm : c ≤ maxLen) (hok : ∀ r ∈ l, RawOk r) (hr : Rd w 4 A n (rcs l)) :
    Calls Tryz.prog 3 #[.slice A n c] w fun e w' => e = .returned (.bool true) ∧ Below w.heap.size w w' := by
  have HS := Lib.hid (Store_ok A n c l w hl hc hm hok hr)
  have HGS := Lib.hid (sto_good l)
  clear hok hl hr hc hm
  generalize sto l = s at *
  have hbl := HGS.out.b.len
  have hel := HGS.out.e.len
  have hcl := cln_len s
  have HGX := Lib.hid (cln_good HGS.out)
  have HRF := Lib.hid (cln_rchF HGS.out.b.ris)
  have HLN := Lib.hid (fun L (h : StrL L (Rch (cln s).blobs (rts (cln s)))) => cln_all HGS.out.b.ris h)
  have HID := Lib.hid (cln_idem HGS.out.b.ris)
  go_enter Tryz.func3, Tryz.ntmps3
  repeat' ((fail_if_success at_builtin); (fail_if_success at_make); (first | go_values | go_skip | go_guarded | go_step | go_upon | go_back))
  refine ((HS.out)).mono ?_; rintro e_ w1 ⟨v1, v2, rfl, hb, he, hb1⟩; dsimp only
  obtain ⟨Ab, cb, rfl, hcb1, hcb2, hRb⟩ := hb.rows
  obtain ⟨Ae, ce, rfl, hce1, hce2, hRe⟩ := he.rows
  have hrd1 : RdSt w1 Ab cb Ae ce s := ⟨hRb, hRe, hcb1, hcb2, hce1, hce2⟩
  have hAs : Arr (w1.alloc (.cells #[.slice Ab s.blobs.length cb, .slice Ae s.ents.length ce, .int .i64 (s.room : Int), .int .i64 (s.clock : Int)] 26)) w1.heap.size 26 [.slice Ab s.blobs.length cb, .slice Ae s.ents.length ce, .int .i64 (s.room : Int), .int .i64 (s.clock : Int)] := Arr.new w1 26 _
  have hb2 := (Below.refl w1.heap.size w1).alloc (Nat.le_refl _) (.cells #[.slice Ab s.blobs.length cb, .slice Ae s.ents.length ce, .int .i64 (s.room : Int), .int .i64 (s.clock : Int)] 26)
  have hb12 := hb1.trans (hb2.mono hb1.size)
  have hrd2 := hrd1.below hb2
  have q0 := hAs.cell (k := 0) rfl
  have q1 := hAs.cell (k := 1) rfl
  have q2 := hAs.cell (k := 2) rfl
  have q3 := hAs.cell (k := 3) rfl
  clear hb he hRb hRe hrd1 hb2 hb1
  repeat' ((fail_if_success at_builtin); (fail_if_success at_make); (first | go_values | go_skip | go_guarded | go_step | go_upon | go_back))
  generalize w1.alloc (.cells #[.slice Ab s.blobs.length cb, .slice Ae s.ents.length ce, .int .i64 (s.room : Int), .int .i64 (s.clock : Int)] 26) = w2 at *
  generalize w1.heap.size = gs at *
  clear q0 q1 q2 q3
  refine ((Clean_ok Ab cb Ae ce s w2 HGS.out hrd2)).mono ?_; rintro e_ w3 ⟨vx1, vx2, rfl, hox, hb3⟩; dsimp only
  obtain ⟨Ax, cx, Bx, dx, e1, e2, hrdx⟩ := hox.rows
  rw [cln_ents] at e2
  subst e1 e2
  have hb13 := hb12.trans (hb3.mono hb12.size)
  have hAs3 := hAs.below hb3
  have hrd3 := hrd2.below hb3
  clear hAs hrd2 hb12 hb3 hox
  have hAx : Arr (w3.alloc (.cells #[.slice Ax (cln s).blobs.length cx, .slice Bx s.ents.length dx, .int .i64 (s.room : Int), .int .i64 (s.clock : Int)] 26)) w3.heap.size 26 [.slice Ax (cln s).blobs.length cx, .slice Bx s.ents.length dx, .int .i64 (s.room : Int), .int .i64 (s.clock : Int)] := Arr.new w3 26 _
  have hb4 := (Below.refl w3.heap.size w3).alloc (Nat.le_refl _) (.cells #[.slice Ax (cln s).blobs.length cx, .slice Bx s.ents.length dx, .int .i64 (s.room : Int), .int .i64 (s.clock : Int)] 26)
  have hb14 := hb13.trans (hb4.mono hb13.size)
  have hAs4 := hAs3.below hb4
  have hrd4 := hrd3.below hb4
  have hrdx4 := hrdx.below hb4
  have q0 := hAx.cell (k := 0) rfl
  have q1 := hAx.cell (k := 1) rfl
  have q2 := hAx.cell (k := 2) rfl
  have q3 := hAx.cell (k := 3) rfl
  clear hAs3 hrd3 hrdx hb4 hb13
  repeat' ((fail_if_success at_builtin); (fail_if_success at_make); (first | go_values | go_skip | go_guarded | go_step | go_upon | go_back))
  generalize (w3.alloc (.cells #[.slice Ax (cln s).blobs.length cx, .slice Bx s.ents.length dx, .int .i64 (s.room : Int), .int .i64 (s.clock : Int)] 26)) = w4 at *
  generalize w3.heap.size = gx at *
  clear q0 q1 q2 q3
  have hcl2 := Clean_ok Ax cx Bx dx (cln s) w4 HGX.out hrdx4
  rw [HID.out] at hcl2
  simp only [cln_room, cln_clock, cln_ents, Int.sub_self] at hcl2
  have HCL2 := Lib.hid hcl2
  clear hcl2
  refine ((HCL2.out)).mono ?_; rintro e_ w5 ⟨vy1, vy2, rfl, hoy, hb5⟩; dsimp only
  obtain ⟨Ay, cy, By, dy, e1, e2, hrdy⟩ := hoy.rows
  rw [cln_ents] at e2
  subst e1 e2
  have hb15 := hb14.trans (hb5.mono hb14.size)
  have hAs5 := hAs4.below hb5
  have hAx5 := hAx.below hb5
  have hrd5 := hrd4.below hb5
  have hrdx5 := hrdx4.below hb5
  clear hAs4 hAx hrd4 hrdx4 hb14 hb5 hoy
  have hAy : Arr (w5.alloc (.cells #[.slice Ay (cln s).blobs.length cy, .slice By s.ents.length dy, .int .i64 (s.room : Int), .int .i64 (s.clock : Int)] 26)) w5.heap.size 26 [.slice Ay (cln s).blobs.length cy, .slice By s.ents.length dy, .int .i64 (s.room : Int), .int .i64 (s.clock : Int)] := Arr.new w5 26 _
  have hb6 := (Below.refl w5.heap.size w5).alloc (Nat.le_refl _) (.cells #[.slice Ay (cln s).blobs.length cy, .slice By s.ents.length dy, .int .i64 (s.room : Int), .int .i64 (s.clock : Int)] 26)
  have hb16 := hb15.trans (hb6.mono hb15.size)
  have hAs6 := hAs5.below hb6
  have hAx6 := hAx5.below hb6
  have hrd6 := hrd5.below hb6
  have hrdx6 := hrdx5.below hb6
  have hrdy6 := hrdy.below hb6
  clear hAs5 hAx5 hrd5 hrdx5 hrdy hb6 hb15
  repeat' ((fail_if_success at_builtin); (fail_if_success at_make); (first | go_values | go_skip | go_guarded | go_step | go_upon | go_back))
  generalize (w5.alloc (.cells #[.slice Ay (cln s).blobs.length cy, .slice By s.ents.length dy, .int .i64 (s.room : Int), .int .i64 (s.clock : Int)] 26)) = w6 at *
  generalize w5.heap.size = gy at *
  refine ((comes_ok w6)).mono ?_; rintro e_ w7 ⟨rfl, hb7⟩; dsimp only
  have hb17 := hb16.trans (hb7.mono hb16.size)
  have hAs7 := hAs6.below hb7
  have hAx7 := hAx6.below hb7
  have hAy7 := hAy.below hb7
  have hrd7 := hrd6.below hb7
  have hrdx7 := hrdx6.below hb7
  have hrdy7 := hrdy6.below hb7
  have x0 := hAx7.cell (k := 0) rfl
  have x1 := hAx7.cell (k := 1) rfl
  have x2 := hAx7.cell (k := 2) rfl
  have x3 := hAx7.cell (k := 3) rfl
  have y0 := hAy7.cell (k := 0) rfl
  have y1 := hAy7.cell (k := 1) rfl
  have y2 := hAy7.cell (k := 2) rfl
  have y3 := hAy7.cell (k := 3) rfl
  have hgx := HGX.out
  have hSS := SameStore_ok Ax Ay Bx By cx cy dx dy (cln s).blobs (cln s).blobs s.ents s.ents (s.room : Int) (s.clock : Int) w7 (by omega) (by omega) (fun b hb => by have := (hgx.b.one b hb).2.1; omega) (fun b hb => by have := (hgx.b.one b hb).2.1; omega) (by omega) (by omega) (fun x hx => by have := (chk_zero (hgx.e.one x hx).2.1).1; omega) (fun x hx => by have := (chk_zero (hgx.e.one x hx).2.1).1; omega) hrdx7.b hrdy7.b hrdx7.e hrdy7.e
  rw [sameBL_rfl, sameEL_rfl] at hSS
  have HSS := Lib.hid hSS
  have hwd : IntKind.i64.wrap ((s.blobs.length : Int) - ((cln s).blobs.length : Int)) = (s.blobs.length : Int) - ((cln s).blobs.length : Int) := IntWalk.i64_in _ (by omega)
  clear hSS hAs6 hAx6 hAy hrd6 hrdx6 hrdy6 hb16 hb7 hgx
  repeat' ((fail_if_success at_builtin); (fail_if_success at_make); (first | go_values | go_skip | go_guarded | go_step | go_upon | go_back))
  clear x0 x1 x2 x3 y0 y1 y2 y3
  refine ((HSS.out)).mono ?_; rintro e_ w8 ⟨rfl, hb8⟩; dsimp only
  have hb18 := hb17.trans (hb8.mono hb17.size)
  have hAs8 := hAs7.below hb8
  have hAx8 := hAx7.below hb8
  have hrd8 := hrd7.below hb8
  have hrdx8 := hrdx7.below hb8
  have x0 := hAx8.cell (k := 0) rfl
  have x1 := hAx8.cell (k := 1) rfl
  have x2 := hAx8.cell (k := 2) rfl
  have x3 := hAx8.cell (k := 3) rfl
  have y0 := hAs8.cell (k := 0) rfl
  have HCK := Lib.hid (CheckS_ok Ax cx Bx dx (cln s) w8 HGX.out hrdx8)
  clear hAs7 hAx7 hAy7 hrd7 hrdx7 hrdy7 hb17 hb8
  repeat' ((fail_if_success at_builtin); (fail_if_success at_make); (first | go_values | go_skip | go_guarded | go_step | go_upon | go_back))
  clear x0 x1 x2 x3 y0
  refine ((HCK.out)).mono ?_; rintro e_ wA ⟨rfl, hbA⟩; dsimp only
  have HBA := Lib.hid (hb18.trans (hbA.mono hb18.size))
  have hAs := hAs8.below hbA
  have hAx := hAx8.below hbA
  have HRS := Lib.hid (hrd8.below hbA)
  have HRX := Lib.hid (hrdx8.below hbA)
  have HSB := Lib.hid (show ∀ w', Below wA.heap.size wA w' → (w'.cell? ⟨gs, 0, none⟩ = some (.slice Ab s.blobs.length cb) ∧ w'.cell? ⟨gs, 1, none⟩ = some (.slice Ae s.ents.length ce) ∧ w'.cell? ⟨gs, 2, none⟩ = some (.int .i64 (s.room : Int)) ∧ w'.cell? ⟨gs, 3, none⟩ = some (.int .i64 (s.clock : Int))) ∧ (w'.cell? ⟨gx, 0, none⟩ = some (.slice Ax (cln s).blobs.length cx) ∧ w'.cell? ⟨gx, 1, none⟩ = some (.slice Bx s.ents.length dx) ∧ w'.cell? ⟨gx, 2, none⟩ = some (.int .i64 (s.room : Int)) ∧ w'.cell? ⟨gx, 3, none⟩ = some (.int .i64 (s.clock : Int))) from fun w' h => ⟨⟨(hAs.below h).cell (k := 0) rfl, (hAs.below h).cell (k := 1) rfl, (hAs.below h).cell (k := 2) rfl, (hAs.below h).cell (k := 3) rfl⟩, (hAx.below h).cell (k := 0) rfl, (hAx.below h).cell (k := 1) rfl, (hAx.below h).cell (k := 2) rfl, (hAx.below h).cell (k := 3) rfl⟩)
  clear hAs hAx hAs8 hAx8 hrd8 hrdx8 hb18 hbA HCK HSS
  repeat' ((fail_if_success (with_reducible refine at_reg_ 6 ?_)); (fail_if_success (with_reducible refine at_sreg_ 6 ?_)); (fail_if_success (with_reducible refine at_ssreg_ 6 ?_)); (fail_if_success at_builtin); (fail_if_success at_make); (first | go_values | go_skip | go_guarded | go_step | go_upon | go_back))
  --HELD
  refine wp_region_held_drew (S := (fun w' => (w'.cell? ⟨gs, 0, none⟩ = some (.slice Ab s.blobs.length cb) ∧ w'.cell? ⟨gs, 1, none⟩ = some (.slice Ae s.ents.length ce) ∧ w'.cell? ⟨gs, 2, none⟩ = some (.int .i64 (s.room : Int)) ∧ w'.cell? ⟨gs, 3, none⟩ = some (.int .i64 (s.clock : Int))) ∧ (w'.cell? ⟨gx, 0, none⟩ = some (.slice Ax (cln s).blobs.length cx) ∧ w'.cell? ⟨gx, 1, none⟩ = some (.slice Bx s.ents.length dx) ∧ w'.cell? ⟨gx, 2, none⟩ = some (.int .i64 (s.room : Int)) ∧ w'.cell? ⟨gx, 3, none⟩ = some (.int .i64 (s.clock : Int))))) (by kernel_rfl) ?_ (fun hHeld => ?_)
  · exact HSB.out _ (Below.refl _ wA).drew
  have hB := (Below.refl wA.heap.size wA).drew
  generalize wA.drew = wn0 at *
  refine wpAnyH_take (i := 0) (oi := _) (v := ?_) rfl (by kernel_rfl) (by kernel_rfl) (by kernel_rfl) (fun _ _ _ h => h) (Or.inl ⟨by rfl, ?_⟩) (by assumption) ?_
  rotate_left
  · (intro w hSw; (try dsimp only at hSw); go_simp; try (with_reducible rfl))
  try simp only [List.getElem_toArray, List.getElem_cons_zero, List.getElem_cons_succ, Act.put, List.setIfInBounds_toArray, List.set_cons_zero, List.set_cons_succ]
  refine wpAnyH_take (i := 2) (oi := _) (v := ?_) rfl (by kernel_rfl) (by kernel_rfl) (by kernel_rfl) (fun _ _ _ h => h) (Or.inl ⟨by rfl, ?_⟩) (by assumption) ?_
  rotate_left
  · (intro w hSw; (try dsimp only at hSw); go_simp; try (with_reducible rfl))
  try simp only [List.getElem_toArray, List.getElem_cons_zero, List.getElem_cons_succ, Act.put, List.setIfInBounds_toArray, List.set_cons_zero, List.set_cons_succ]
  refine wpAnyH_ready (rs := [1]) (by kernel_rfl) (by simp) ?_
  refine AllReadyH.cons (o := _) rfl (fun K hK => ?_) ?_
  ·
    go_simp
    refine (All_ok Ab Ae cb ce s (s.room : Int) (s.clock : Int) wn0 HGS.out.rts (HRS.out.below hB)).mono ?_
    rintro e5 w5 ⟨v5, L1, rfl, hL1, hl1, ho5, hb5⟩
    obtain ⟨A1, c1, rfl, hc1, hr5⟩ := Rd.of_own' ho5
    have HL1 := Lib.hid hL1
    clear hL1 ho5
    dsimp only
    refine outG hK ?_ (Below wn0.heap.size wn0) (fun W => Rd W 1 A1 L1.length (strs L1)) ?_ ?_ (fun wn1 hHeld hst hnew => ?_)
    · (exact HSB.out _ (hB.trans (Below.mono (show Below wn0.heap.size wn0 _ from by (first | exact hb5 | exact Below.refl _ _)) hB.size)))
    · (first | exact hb5 | exact Below.refl _ _)
    · (exact hr5)
    have hB := hB.trans (hst.mono hB.size)
    have k1 := hnew
    clear hst
    clear hK K
    try simp only [List.getElem_toArray, List.getElem_cons_zero, List.getElem_cons_succ, Act.put, List.setIfInBounds_toArray, List.set_cons_zero, List.set_cons_succ]
    refine wpAnyH_ready (rs := [3]) (by kernel_rfl) (by simp) ?_
    refine AllReadyH.cons (o := _) rfl (fun K hK => ?_) ?_
    ·
      go_simp
      refine (All_ok Ax Bx cx dx (cln s) (s.room : Int) (s.clock : Int) wn1 HGX.out.rts (HRX.out.below hB)).mono ?_
      rintro e5 w5 ⟨v5, L2, rfl, hL2, hl2, ho5, hb5⟩
      rw [HRF.out] at hL2
      obtain rfl : L1 = L2 := StrL.uniq HL1.out hL2
      obtain ⟨A2, c2, rfl, hc2, hr5⟩ := Rd.of_own' ho5
      clear ho5 hL2
      dsimp only
      refine outG hK ?_ (Below wn1.heap.size wn1) (fun W => Rd W 1 A2 L1.length (strs L1)) ?_ ?_ (fun wn2 hHeld hst hnew => ?_)
      · (exact HSB.out _ (hB.trans (Below.mono (show Below wn1.heap.size wn1 _ from by (first | exact hb5 | exact Below.refl _ _)) hB.size)))
      · (first | exact hb5 | exact Below.refl _ _)
      · (exact hr5)
      have hB := hB.trans (hst.mono hB.size)
      have k1 := k1.below hst
      have k2 := hnew
      clear hst
      clear hK K
      try simp only [List.getElem_toArray, List.getElem_cons_zero, List.getElem_cons_succ, Act.put, List.setIfInBounds_toArray, List.set_cons_zero, List.set_cons_succ]
      refine wpAnyH_ready (rs := [4]) (by kernel_rfl) (by simp) ?_
      refine AllReadyH.cons (o := _) rfl (fun K hK => ?_) ?_
      ·
        go_simp
        refine (Eq_str A1 A2 c1 c2 L1 L1 wn2 (by omega) (by omega) k1 k2).mono ?_
        rintro e5 w5 ⟨rfl, hb5⟩
        rw [decide_eq_true rfl]
        clear k1 k2
        dsimp only
        refine outG hK ?_ (Below wn2.heap.size wn2) (fun W => True) ?_ ?_ (fun wn3 hHeld hst hnew => ?_)
        · (exact HSB.out _ (hB.trans (Below.mono (show Below wn2.heap.size wn2 _ from by (first | exact hb5 | exact Below.refl _ _)) hB.size)))
        · (first | exact hb5 | exact Below.refl _ _)
        · (trivial)
        have hB := hB.trans (hst.mono hB.size)
        clear hst
        clear hK K
        try simp only [List.getElem_toArray, List.getElem_cons_zero, List.getElem_cons_succ, Act.put, List.setIfInBounds_toArray, List.set_cons_zero, List.set_cons_succ]
        refine wpAnyH_take (i := 5) (oi := _) (v := ?_) rfl (by kernel_rfl) (by kernel_rfl) (by kernel_rfl) (fun _ _ _ h => h) (Or.inl ⟨by rfl, ?_⟩) (by assumption) ?_
        rotate_left
        · (intro w hSw; (try dsimp only at hSw); go_simp; try (with_reducible rfl))
        try simp only [List.getElem_toArray, List.getElem_cons_zero, List.getElem_cons_succ, Act.put, List.setIfInBounds_toArray, List.set_cons_zero, List.set_cons_succ]
        refine wpAnyH_take (i := 6) (oi := _) (v := ?_) rfl (by kernel_rfl) (by kernel_rfl) (by kernel_rfl) (fun _ _ _ h => h) (Or.inl ⟨by rfl, ?_⟩) (by assumption) ?_
        rotate_left
        · (intro w hSw; (try dsimp only at hSw); go_simp; try (with_reducible rfl))
        try simp only [List.getElem_toArray, List.getElem_cons_zero, List.getElem_cons_succ, Act.put, List.setIfInBounds_toArray, List.set_cons_zero, List.set_cons_succ]
        refine wpAnyH_take (i := 9) (oi := _) (v := ?_) rfl (by kernel_rfl) (by kernel_rfl) (by kernel_rfl) (fun _ _ _ h => h) (Or.inl ⟨by rfl, ?_⟩) (by assumption) ?_
        rotate_left
        · (intro w hSw; (try dsimp only at hSw); go_simp; try (with_reducible rfl))
        try simp only [List.getElem_toArray, List.getElem_cons_zero, List.getElem_cons_succ, Act.put, List.setIfInBounds_toArray, List.set_cons_zero, List.set_cons_succ]
        refine wpAnyH_take (i := 10) (oi := _) (v := ?_) rfl (by kernel_rfl) (by kernel_rfl) (by kernel_rfl) (fun _ _ _ h => h) (Or.inl ⟨by rfl, ?_⟩) (by assumption) ?_
        rotate_left
        · (intro w hSw; (try dsimp only at hSw); go_simp; try (with_reducible rfl))
        try simp only [List.getElem_toArray, List.getElem_cons_zero, List.getElem_cons_succ, Act.put, List.setIfInBounds_toArray, List.set_cons_zero, List.set_cons_succ]
        refine wpAnyH_take (i := 11) (oi := _) (v := ?_) rfl (by kernel_rfl) (by kernel_rfl) (by kernel_rfl) (fun _ _ _ h => h) (Or.inl ⟨by rfl, ?_⟩) (by assumption) ?_
        rotate_left
        · (intro w hSw; (try dsimp only at hSw); go_simp; try (with_reducible rfl))
        try simp only [List.getElem_toArray, List.getElem_cons_zero, List.getElem_cons_succ, Act.put, List.setIfInBounds_toArray, List.set_cons_zero, List.set_cons_succ]
        refine wpAnyH_ready (rs := [7]) (by kernel_rfl) (by simp) ?_
        refine AllReadyH.cons (o := _) rfl (fun K hK => ?_) ?_
        ·
          go_simp
          refine (All_ok Ax Bx cx dx (cln s) (s.room : Int) (s.clock : Int) wn3 HGX.out.rts (HRX.out.below hB)).mono ?_
          rintro e5 w5 ⟨v5, L3, rfl, hL3, hl3, ho5, hb5⟩
          have hlen : L3.length = (cln s).blobs.length := HLN.out L3 hL3
          obtain ⟨A3, c3, rfl, hc3, hr5⟩ := Rd.of_own' ho5
          rw [hlen]
          clear ho5 hL3 hr5 hlen hc3 hl3
          dsimp only
          refine outG hK ?_ (Below wn3.heap.size wn3) (fun W => True) ?_ ?_ (fun wn4 hHeld hst hnew => ?_)
          · (exact HSB.out _ (hB.trans (Below.mono (show Below wn3.heap.size wn3 _ from by (first | exact hb5 | exact Below.refl _ _)) hB.size)))
          · (first | exact hb5 | exact Below.refl _ _)
          · (trivial)
          have hB := hB.trans (hst.mono hB.size)
          clear hst
          clear hK K
          try simp only [List.getElem_toArray, List.getElem_cons_zero, List.getElem_cons_succ, Act.put, List.setIfInBounds_toArray, List.set_cons_zero, List.set_cons_succ]
          refine wpAnyH_take (i := 8) (oi := _) (v := ?_) rfl (by kernel_rfl) (by kernel_rfl) (by kernel_rfl) (fun _ _ _ h => h) (Or.inl ⟨by rfl, ?_⟩) (by assumption) ?_
          rotate_left
          · (intro w hSw; (try dsimp only at hSw); go_simp; try (with_reducible rfl))
          try simp only [List.getElem_toArray, List.getElem_cons_zero, List.getElem_cons_succ, Act.put, List.setIfInBounds_toArray, List.set_cons_zero, List.set_cons_succ]
          refine wpAnyH_take (i := 12) (oi := _) (v := ?_) rfl (by kernel_rfl) (by kernel_rfl) (by kernel_rfl) (fun _ _ _ h => h) (Or.inl ⟨by rfl, ?_⟩) (by assumption) ?_
          rotate_left
          · (intro w hSw; (try dsimp only at hSw); go_simp; try (with_reducible rfl))
          try simp only [List.getElem_toArray, List.getElem_cons_zero, List.getElem_cons_succ, Act.put, List.setIfInBounds_toArray, List.set_cons_zero, List.set_cons_succ]
          refine wpAnyH_take (i := 13) (oi := _) (v := ?_) rfl (by kernel_rfl) (by kernel_rfl) (by kernel_rfl) (fun _ _ _ h => h) (Or.inl ⟨by rfl, ?_⟩) (by assumption) ?_
          rotate_left
          · (intro w hSw; (try dsimp only at hSw); go_simp; try (with_reducible rfl))
          try simp only [List.getElem_toArray, List.getElem_cons_zero, List.getElem_cons_succ, Act.put, List.setIfInBounds_toArray, List.set_cons_zero, List.set_cons_succ]
          refine wpAnyH_take (i := 14) (oi := _) (v := ?_) rfl (by kernel_rfl) (by kernel_rfl) (by kernel_rfl) (fun _ _ _ h => h) (Or.inl ⟨by rfl, ?_⟩) (by assumption) ?_
          rotate_left
          · (intro w hSw; (try dsimp only at hSw); go_simp; try (with_reducible rfl))
          try simp only [List.getElem_toArray, List.getElem_cons_zero, List.getElem_cons_succ, Act.put, List.setIfInBounds_toArray, List.set_cons_zero, List.set_cons_succ]
          refine wpAnyH_take (i := 15) (oi := _) (v := ?_) rfl (by kernel_rfl) (by kernel_rfl) (by kernel_rfl) (fun _ _ _ h => h) (Or.inl ⟨by rfl, ?_⟩) (by assumption) ?_
          rotate_left
          · (intro w hSw; (try dsimp only at hSw); go_simp; try (with_reducible rfl))
          try simp only [List.getElem_toArray, List.getElem_cons_zero, List.getElem_cons_succ, Act.put, List.setIfInBounds_toArray, List.set_cons_zero, List.set_cons_succ]
          refine wpAnyH_take (i := 16) (oi := _) (v := ?_) rfl (by kernel_rfl) (by kernel_rfl) (by kernel_rfl) (fun _ _ _ h => h) (Or.inl ⟨by rfl, ?_⟩) (by assumption) ?_
          rotate_left
          · (intro w hSw; (try dsimp only at hSw); go_simp; try (with_reducible rfl))
          try simp only [List.getElem_toArray, List.getElem_cons_zero, List.getElem_cons_succ, Act.put, List.setIfInBounds_toArray, List.set_cons_zero, List.set_cons_succ]
          refine wpAnyH_take (i := 17) (oi := _) (v := ?_) rfl (by kernel_rfl) (by kernel_rfl) (by kernel_rfl) (fun _ _ _ h => h) (Or.inl ⟨by rfl, ?_⟩) (by assumption) ?_
          rotate_left
          · (intro w hSw; (try dsimp only at hSw); go_simp; try (with_reducible rfl))
          try simp only [List.getElem_toArray, List.getElem_cons_zero, List.getElem_cons_succ, Act.put, List.setIfInBounds_toArray, List.set_cons_zero, List.set_cons_succ]
          refine wpAnyH_take (i := 18) (oi := _) (v := ?_) rfl (by kernel_rfl) (by kernel_rfl) (by kernel_rfl) (fun _ _ _ h => h) (Or.inl ⟨by rfl, ?_⟩) (by assumption) ?_
          rotate_left
          · (intro w hSw; (try dsimp only at hSw); go_simp; try (with_reducible rfl))
          try simp only [List.getElem_toArray, List.getElem_cons_zero, List.getElem_cons_succ, Act.put, List.setIfInBounds_toArray, List.set_cons_zero, List.set_cons_succ]
          refine wpAnyH_take (i := 19) (oi := _) (v := ?_) rfl (by kernel_rfl) (by kernel_rfl) (by kernel_rfl) (fun _ _ _ h => h) (Or.inl ⟨by rfl, ?_⟩) (by assumption) ?_
          rotate_left
          · (intro w hSw; (try dsimp only at hSw); go_simp; try (with_reducible rfl))
          try simp only [List.getElem_toArray, List.getElem_cons_zero, List.getElem_cons_succ, Act.put, List.setIfInBounds_toArray, List.set_cons_zero, List.set_cons_succ]
          refine wpAnyH_take (i := 20) (oi := _) (v := ?_) rfl (by kernel_rfl) (by kernel_rfl) (by kernel_rfl) (fun _ _ _ h => h) (Or.inl ⟨by rfl, ?_⟩) (by assumption) ?_
          rotate_left
          · (intro w hSw; (try dsimp only at hSw); go_simp; try (with_reducible rfl))
          try simp only [List.getElem_toArray, List.getElem_cons_zero, List.getElem_cons_succ, Act.put, List.setIfInBounds_toArray, List.set_cons_zero, List.set_cons_succ]
          refine wpAnyH_take (i := 21) (oi := _) (v := ?_) rfl (by kernel_rfl) (by kernel_rfl) (by kernel_rfl) (fun _ _ _ h => h) (Or.inl ⟨by rfl, ?_⟩) (by assumption) ?_
          rotate_left
          · (intro w hSw; (try dsimp only at hSw); go_simp; try (with_reducible rfl))
          try simp only [List.getElem_toArray, List.getElem_cons_zero, List.getElem_cons_succ, Act.put, List.setIfInBounds_toArray, List.set_cons_zero, List.set_cons_succ]
          refine wpAnyH_take (i := 22) (oi := _) (v := ?_) rfl (by kernel_rfl) (by kernel_rfl) (by kernel_rfl) (fun _ _ _ h => h) (Or.inl ⟨by rfl, ?_⟩) (by assumption) ?_
          rotate_left
          · (intro w hSw; (try dsimp only at hSw); go_simp; try (with_reducible rfl))
          try simp only [List.getElem_toArray, List.getElem_cons_zero, List.getElem_cons_succ, Act.put, List.setIfInBounds_toArray, List.set_cons_zero, List.set_cons_succ]
          refine wpAnyH_take (i := 23) (oi := _) (v := ?_) rfl (by kernel_rfl) (by kernel_rfl) (by kernel_rfl) (fun _ _ _ h => h) (Or.inl ⟨by rfl, ?_⟩) (by assumption) ?_
          rotate_left
          · (intro w hSw; (try dsimp only at hSw); go_simp; try (with_reducible rfl))
          try simp only [List.getElem_toArray, List.getElem_cons_zero, List.getElem_cons_succ, Act.put, List.setIfInBounds_toArray, List.set_cons_zero, List.set_cons_succ]
          refine wpAnyH_done (by kernel_rfl) ?_ _
          try dsimp only [Exit.then]
          clear hHeld
          have hBz := HBA.out.trans (hB.mono HBA.out.size)
          clear hB
          repeat' ((fail_if_success at_builtin); (fail_if_success at_make); (first | go_values | go_skip | go_guarded | go_step | go_upon | go_back))
          go_ret
          exact ⟨by simp, hBz⟩
        exact AllReadyH.nil
      exact AllReadyH.nil
    exact AllReadyH.nil
  exact AllReadyH.nil
  --HELDEND
end Go.Proofs.YtmjcoebfldmgnaaGreat
