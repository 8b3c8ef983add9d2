/- What store's functions refuse. Conditions: stores that may be. -/
import Derived.Test.YtjldpfijekpddaaGreatSWh
namespace Go.Proofs.YtjldpfijekpddaaGreat
open Go.RowKit
set_option linter.unusedVariables false
set_option linter.unusedSimpArgs false
set_option maxRecDepth 100000

theorem idx4q (q : Nat) (k : Int) (h : k = 0 ∨ k = 1 ∨ k = 2) (w : World) : (Instr.index 112 (.agg #[.int .i64 0, .int .i64 0, .int .i64 0, .int .i64 (q : Int)]) (.int .i64 k)).run Tryz.prog w = .ok (.int .i64 0) w := by
  rcases h with rfl | rfl | rfl <;> kernel_rfl
theorem idx4r (q : Nat) (w : World) : (Instr.index 112 (.agg #[.int .i64 0, .int .i64 0, .int .i64 0, .int .i64 (q : Int)]) (.int .i64 3)).run Tryz.prog w = .ok (.int .i64 (q : Int)) w := by kernel_rfl
set_option maxHeartbeats 4000000 in
theorem PutS_refuse (A : Option Addr) (c : Nat) (B : Option Addr) (d : Nat) (s : StoP) (key : List UInt8) (ps : List PartP) (PA : Option Addr) (pc q : Nat) (w : World) (hg : GoodS s) (hr : RdSt w A c B d s) (hk : hexC key = 0) (hpz : chk ps = 0) (hhv : haveC s.blobs ps = q) (hq : q ≠ 0) (hP : Sl w 3 PA ps.length pc (pcs ps)) :
    Calls Tryz.prog 25 #[.agg #[.slice A s.blobs.length c, .slice B s.ents.length d, .int .i64 (s.room : Int), .int .i64 (s.clock : Int)], .string ⟨key.toArray⟩, .slice PA ps.length pc] w fun e w' => e = .returned (.tuple #[.agg #[.slice none 0 0, .slice none 0 0, .int .i64 0, .int .i64 0], .int .i64 (q : Int)]) ∧ Below w.heap.size w w' := by
  have hlb : s.blobs.length ≤ 24 := hg.b.len
  have hq0 : ((q : Int) != 0) = true := by rw [bne_iff_ne]; omega
  have HHX := Lib.hid hhv
  clear hhv hq
  obtain ⟨w0, hw0, hS, hR, hb0⟩ := two_new w 28 [.slice A s.blobs.length c, .slice B s.ents.length d, .int .i64 (s.room : Int), .int .i64 (s.clock : Int)] [.slice none 0 0, .slice none 0 0, .int .i64 0, .int .i64 0]
  have hr0 := hr.below hb0
  have hP0 := hP.below hb0
  obtain ⟨H, hH⟩ : ∃ H, H = w.heap.size := ⟨_, rfl⟩
  have HCK := Lib.hid (fun W (h : Below w0.heap.size w0 W) => CheckS_ok A c B d s W hg (hr0.below h))
  have hkl := hexC_len hk
  have HKX := Lib.hid (show ∀ W, Below w0.heap.size w0 W → Calls Tryz.prog 70 #[.string ⟨key.toArray⟩] W fun e w' => e = .returned (.int .i64 0) ∧ Below W.heap.size W w' from fun W _ => by
    have := hCheck_ok ⟨key.toArray⟩ W (by show (key.toArray).size ≤ _; rw [List.size_toArray]; omega)
    rw [show (⟨key.toArray⟩ : ByteArray).data.toList = key from rfl, hk] at this
    exact this)
  have HPC := Lib.hid (show ∀ W, Below w0.heap.size w0 W → Calls Tryz.prog 71 #[.slice PA ps.length pc] W fun e w' => e = .returned (.int .i64 0) ∧ Below W.heap.size W w' from fun W h => by
    have := Check_ok PA ps.length pc ps W rfl hP0.cap (by have := (chk_zero hpz).1; omega) (parts_ok hpz) (hP0.below h).rd
    rwa [hpz] at this)
  have hpl8 := (chk_zero hpz).1
  have HHV := Lib.hid (fun W (h : Below w0.heap.size w0 W) => Have_ok A c s.blobs PA pc ps W (by omega) (by omega) (hr0.b.below h) (hP0.below h).rd)
  have HGX := Lib.hid hg
  have HPL := Lib.hid (show ∀ b ∈ s.blobs, b.data.length ≤ 1000000 from fun b hb => by have := (hg.b.one b hb).2.1; omega)
  have HQL := Lib.hid (show ∀ x ∈ s.ents, x.parts.length ≤ 1000000 from fun x hx => by have := (chk_zero (hg.e.one x hx).2.1).1; omega)
  have HSB := Lib.hid (show ∀ W, Below w0.heap.size w0 W → W.cell? ⟨H, 0, none⟩ = some (.slice A s.blobs.length c) ∧ W.cell? ⟨H, 1, none⟩ = some (.slice B s.ents.length d) ∧ W.cell? ⟨H, 2, none⟩ = some (.int .i64 (s.room : Int)) ∧ W.cell? ⟨H, 3, none⟩ = some (.int .i64 (s.clock : Int)) from fun W h => by
    rw [hH]; exact ⟨(hS.below h).cell (k := 0) rfl, (hS.below h).cell (k := 1) rfl, (hS.below h).cell (k := 2) rfl, (hS.below h).cell (k := 3) rfl⟩)
  have HKK := Lib.hid hk
  have HPZ := Lib.hid hpz
  rw [← hH] at hS hR hb0 ⊢
  have hHl : H < w0.heap.size := hS.lt
  have hHr : H + 1 < w0.heap.size := hR.lt
  obtain ⟨sk, hsk⟩ : ∃ x : ByteArray, x = ⟨key.toArray⟩ := ⟨_, rfl⟩
  rw [← hsk] at HKX ⊢
  have HSK := Lib.hid hsk
  clear hg hr hk hP hpz hsk
  go_enter Tryz.func25, Tryz.ntmps25
  repeat' ((fail_if_success at_builtin); (fail_if_success at_make); (first | go_values | go_skip | go_guarded | go_step | go_upon | go_back))
  rw [← hw0, ← hH]
  have HH := Lib.hid hH
  clear hw0 hH
  rw [HHX.out] at HHV
  --HELD1
  refine wp_region_held_drew (S := (fun w' => w'.cell? ⟨H, 0, none⟩ = some (.slice A s.blobs.length c) ∧ w'.cell? ⟨H, 1, none⟩ = some (.slice B s.ents.length d) ∧ w'.cell? ⟨H, 2, none⟩ = some (.int .i64 (s.room : Int)) ∧ w'.cell? ⟨H, 3, none⟩ = some (.int .i64 (s.clock : Int)))) (by kernel_rfl) ?_ (fun hHeld => ?_)
  · exact HSB.out _ (Below.refl _ w0).drew
  have hB := (Below.refl w0.heap.size w0).drew
  generalize w0.drew = wn0 at *
  refine wpAnyH_take (i := 0) (oi := _) (v := ?_) rfl (by kernel_rfl) (by kernel_rfl) (by kernel_rfl) (fun _ _ _ h => h) (Or.inl ⟨by rfl, ?_⟩) (by assumption) ?_
  rotate_left
  · (intro w hSw; (try dsimp only at hSw); go_simp; try (with_reducible rfl))
  try simp only [List.getElem_toArray, List.getElem_cons_zero, List.getElem_cons_succ, Act.put, List.setIfInBounds_toArray, List.set_cons_zero, List.set_cons_succ]
  refine wpAnyH_take (i := 2) (oi := _) (v := ?_) rfl (by kernel_rfl) (by kernel_rfl) (by kernel_rfl) (fun _ _ _ h => h) (Or.inl ⟨by rfl, ?_⟩) (by assumption) ?_
  rotate_left
  · (intro w hSw; (try dsimp only at hSw); go_simp; try (with_reducible rfl))
  try simp only [List.getElem_toArray, List.getElem_cons_zero, List.getElem_cons_succ, Act.put, List.setIfInBounds_toArray, List.set_cons_zero, List.set_cons_succ]
  refine wpAnyH_take (i := 4) (oi := _) (v := ?_) rfl (by kernel_rfl) (by kernel_rfl) (by kernel_rfl) (fun _ _ _ h => h) (Or.inl ⟨by rfl, ?_⟩) (by assumption) ?_
  rotate_left
  · (intro w hSw; (try dsimp only at hSw); go_simp; try (with_reducible rfl))
  try simp only [List.getElem_toArray, List.getElem_cons_zero, List.getElem_cons_succ, Act.put, List.setIfInBounds_toArray, List.set_cons_zero, List.set_cons_succ]
  refine wpAnyH_take (i := 6) (oi := _) (v := ?_) rfl (by kernel_rfl) (by kernel_rfl) (by kernel_rfl) (fun _ _ _ h => h) (Or.inl ⟨by rfl, ?_⟩) (by assumption) ?_
  rotate_left
  · (intro w hSw; (try dsimp only at hSw); go_simp; try (with_reducible rfl))
  try simp only [List.getElem_toArray, List.getElem_cons_zero, List.getElem_cons_succ, Act.put, List.setIfInBounds_toArray, List.set_cons_zero, List.set_cons_succ]
  refine wpAnyH_take (i := 7) (oi := _) (v := ?_) rfl (by kernel_rfl) (by kernel_rfl) (by kernel_rfl) (fun _ _ _ h => h) (Or.inl ⟨by rfl, ?_⟩) (by assumption) ?_
  rotate_left
  · (intro w hSw; (try dsimp only at hSw); go_simp; try (with_reducible rfl))
  try simp only [List.getElem_toArray, List.getElem_cons_zero, List.getElem_cons_succ, Act.put, List.setIfInBounds_toArray, List.set_cons_zero, List.set_cons_succ]
  refine wpAnyH_take (i := 8) (oi := _) (v := ?_) rfl (by kernel_rfl) (by kernel_rfl) (by kernel_rfl) (fun _ _ _ h => h) (Or.inl ⟨by rfl, ?_⟩) (by assumption) ?_
  rotate_left
  · (intro w hSw; (try dsimp only at hSw); go_simp; try (with_reducible rfl))
  try simp only [List.getElem_toArray, List.getElem_cons_zero, List.getElem_cons_succ, Act.put, List.setIfInBounds_toArray, List.set_cons_zero, List.set_cons_succ]
  refine wpAnyH_take (i := 11) (oi := _) (v := ?_) rfl (by kernel_rfl) (by kernel_rfl) (by kernel_rfl) (fun _ _ _ h => h) (Or.inl ⟨by rfl, ?_⟩) (by assumption) ?_
  rotate_left
  · (intro w hSw; (try dsimp only at hSw); go_simp; try (with_reducible rfl))
  try simp only [List.getElem_toArray, List.getElem_cons_zero, List.getElem_cons_succ, Act.put, List.setIfInBounds_toArray, List.set_cons_zero, List.set_cons_succ]
  refine wpAnyH_ready (rs := [1]) (by kernel_rfl) (by simp) ?_
  refine AllReadyH.cons (o := _) rfl (fun K hK => ?_) ?_
  ·
    go_simp
    refine (HCK.out wn0 hB).mono ?_
    rintro e5 w5 ⟨rfl, hb5⟩
    dsimp only
    refine outG hK ?_ (Below wn0.heap.size wn0) (fun W => True) ?_ ?_ (fun wn1 hHeld hst hnew => ?_)
    · (exact HSB.out _ (hB.trans (hb5.mono hB.size)))
    · (exact hb5)
    · (trivial)
    have hB := hB.trans (hst.mono hB.size)
    clear hst
    clear hK K
    try simp only [List.getElem_toArray, List.getElem_cons_zero, List.getElem_cons_succ, Act.put, List.setIfInBounds_toArray, List.set_cons_zero, List.set_cons_succ]
    refine wpAnyH_ready (rs := [3]) (by kernel_rfl) (by simp) ?_
    refine AllReadyH.cons (o := _) rfl (fun K hK => ?_) ?_
    ·
      go_simp
      refine (HKX.out wn1 hB).mono ?_
      rintro e5 w5 ⟨rfl, hb5⟩
      dsimp only
      refine outG hK ?_ (Below wn1.heap.size wn1) (fun W => True) ?_ ?_ (fun wn2 hHeld hst hnew => ?_)
      · (exact HSB.out _ (hB.trans (hb5.mono hB.size)))
      · (exact hb5)
      · (trivial)
      have hB := hB.trans (hst.mono hB.size)
      clear hst
      clear hK K
      try simp only [List.getElem_toArray, List.getElem_cons_zero, List.getElem_cons_succ, Act.put, List.setIfInBounds_toArray, List.set_cons_zero, List.set_cons_succ]
      refine wpAnyH_ready (rs := [5]) (by kernel_rfl) (by simp) ?_
      refine AllReadyH.cons (o := _) rfl (fun K hK => ?_) ?_
      ·
        go_simp
        refine (HPC.out wn2 hB).mono ?_
        rintro e5 w5 ⟨rfl, hb5⟩
        dsimp only
        refine outG hK ?_ (Below wn2.heap.size wn2) (fun W => True) ?_ ?_ (fun wn3 hHeld hst hnew => ?_)
        · (exact HSB.out _ (hB.trans (hb5.mono hB.size)))
        · (exact hb5)
        · (trivial)
        have hB := hB.trans (hst.mono hB.size)
        clear hst
        clear hK K
        try simp only [List.getElem_toArray, List.getElem_cons_zero, List.getElem_cons_succ, Act.put, List.setIfInBounds_toArray, List.set_cons_zero, List.set_cons_succ]
        refine wpAnyH_ready (rs := [9]) (by kernel_rfl) (by simp) ?_
        refine AllReadyH.cons (o := _) rfl (fun K hK => ?_) ?_
        ·
          go_simp
          refine (HHV.out wn3 hB).mono ?_
          rintro e5 w5 ⟨rfl, hb5⟩
          dsimp only
          refine outG hK ?_ (Below wn3.heap.size wn3) (fun W => True) ?_ ?_ (fun wn4 hHeld hst hnew => ?_)
          · (exact HSB.out _ (hB.trans (hb5.mono hB.size)))
          · (exact hb5)
          · (trivial)
          have hB := hB.trans (hst.mono hB.size)
          clear hst
          clear hK K
          try simp only [List.getElem_toArray, List.getElem_cons_zero, List.getElem_cons_succ, Act.put, List.setIfInBounds_toArray, List.set_cons_zero, List.set_cons_succ]
          refine wpAnyH_take (i := 10) (oi := _) (v := ?_) rfl (by kernel_rfl) (by kernel_rfl) (by kernel_rfl) (fun _ _ _ h => h) (Or.inl ⟨by rfl, ?_⟩) (by assumption) ?_
          rotate_left
          · (intro w hSw; (try dsimp only at hSw); go_simp; try (with_reducible rfl))
          try simp only [List.getElem_toArray, List.getElem_cons_zero, List.getElem_cons_succ, Act.put, List.setIfInBounds_toArray, List.set_cons_zero, List.set_cons_succ]
          refine wpAnyH_done (by kernel_rfl) ?_ _
          dsimp only [Exit.then]
          clear hHeld
          generalize wn4 = w1 at *
          repeat' ((fail_if_success at_builtin); (fail_if_success at_make); (first | go_values | go_skip | go_guarded | go_step | go_upon | go_back))
          go_loopg [25] 4 (fun gn i wr => ∃ j : Int, i = .int .i64 j ∧ (j = 0 ∨ j = 1 ∨ j = 2 ∨ j = 3) ∧ gn = (4 - j).toNat ∧ wr = w1)
          case atStart => exact ⟨0, rfl, by omega, rfl, rfl⟩
          case round =>
            obtain ⟨j, rfl, hj, hgn, hwr⟩ := hrel
            subst hwr
            have ix0 := idx4q q 0 (by omega) wr
            have ix1 := idx4q q 1 (by omega) wr
            have ix2 := idx4q q 2 (by omega) wr
            have ix3 := idx4r q wr
            rcases hj with rfl | rfl | rfl | rfl
            · repeat' ((fail_if_success at_builtin); (fail_if_success at_make); (first | go_values | go_skip | go_guarded | go_step | go_upon | go_back))
              go_roundg 3
              case measure => omega
              case rel => exact ⟨1, rfl, by omega, rfl, rfl⟩
            · repeat' ((fail_if_success at_builtin); (fail_if_success at_make); (first | go_values | go_skip | go_guarded | go_step | go_upon | go_back))
              go_roundg 2
              case measure => omega
              case rel => exact ⟨2, rfl, by omega, rfl, rfl⟩
            · repeat' ((fail_if_success at_builtin); (fail_if_success at_make); (first | go_values | go_skip | go_guarded | go_step | go_upon | go_back))
              go_roundg 1
              case measure => omega
              case rel => exact ⟨3, rfl, by omega, rfl, rfl⟩
            · clear hgn
              have hR1 := hR.below hB
              have hb := hb0.trans (hB.mono (Nat.le_of_lt hHl))
              clear hR
              have hR := hR1
              clear hR1
              have f0 := hR.frozen 0
              have f1 := hR.frozen 1
              have f2 := hR.frozen 2
              have f3 := hR.frozen 3
              have y0 := hR.cell (k := 0) rfl
              have y1 := hR.cell (k := 1) rfl
              have y2 := hR.cell (k := 2) rfl
              have y3 := hR.cell (k := 3) rfl
              have hfin := hR.all4 (.slice none 0 0) (.slice none 0 0) (.int .i64 0) (.int .i64 0)
              have hbF := (((hb.setCell (p := ⟨H + 1, 0, none⟩) (by simp only; omega) (.slice none 0 0)).setCell (p := ⟨H + 1, 1, none⟩) (by simp only; omega) (.slice none 0 0)).setCell (p := ⟨H + 1, 2, none⟩) (by simp only; omega) (.int .i64 0)).setCell (p := ⟨H + 1, 3, none⟩) (by simp only; omega) (.int .i64 0)
              clear hR hb
              repeat' ((fail_if_success at_builtin); (fail_if_success at_make); (first | go_values | go_skip | go_guarded | go_step | go_upon | go_back))
              refine bodyPost_ret (res_cell_tmp1 rfl _ _ (H + 1) _ _ _ _ (by rfl) hfin Tryz.underlying28 rfl (by kernel_rfl)) rfl ?_
              exact ⟨rfl, hbF⟩
        exact AllReadyH.nil
      exact AllReadyH.nil
    exact AllReadyH.nil
  exact AllReadyH.nil
  --HELDEND1
set_option maxHeartbeats 4000000 in
theorem HoldB_none (A : Option Addr) (c : Nat) (B : Option Addr) (d : Nat) (s : StoP) (key : List UInt8) (up : Bool) (w : World) (hg : GoodS s) (hr : RdSt w A c B d s) (hn : ∀ b ∈ s.blobs, b.dig ≠ key) :
    Calls Tryz.prog 20 #[.agg #[.slice A s.blobs.length c, .slice B s.ents.length d, .int .i64 (s.room : Int), .int .i64 (s.clock : Int)], .string ⟨key.toArray⟩, .bool up] w fun e w' => e = .returned (.tuple #[.agg #[.slice none 0 0, .slice none 0 0, .int .i64 0, .int .i64 0], .int .i64 5]) ∧ Below w.heap.size w w' := by
  have hlb : s.blobs.length ≤ 24 := hg.b.len
  have hle : s.ents.length ≤ 10 := hg.e.len
  have HFX := Lib.hid (show s.blobs.findIdx? (fun x => x.dig == key) = none by rw [List.findIdx?_eq_none_iff]; intro x hx; simp [hn x hx])
  obtain ⟨sk, hsk⟩ : ∃ x : ByteArray, x = ⟨key.toArray⟩ := ⟨_, rfl⟩
  rw [← hsk]
  have HSK := Lib.hid hsk
  clear hn hsk
  obtain ⟨w0, hw0, hS, hR, hb0⟩ := two_new w 28 [.slice A s.blobs.length c, .slice B s.ents.length d, .int .i64 (s.room : Int), .int .i64 (s.clock : Int)] [.slice none 0 0, .slice none 0 0, .int .i64 0, .int .i64 0]
  have hr0 := hr.below hb0
  obtain ⟨H, hH⟩ : ∃ H, H = w.heap.size := ⟨_, rfl⟩
  have HCK := Lib.hid (CheckS_ok A c B d s w0 hg hr0)
  rw [← hH] at hS hR hb0 ⊢
  have hHl : H < w0.heap.size := hS.lt
  have hHr : H + 1 < w0.heap.size := hR.lt
  have x0 := hS.cell (k := 0) rfl
  have x1 := hS.cell (k := 1) rfl
  have x2 := hS.cell (k := 2) rfl
  have x3 := hS.cell (k := 3) rfl
  rw [hw0, hH] at x0 x1 x2 x3
  have HPL := Lib.hid (show ∀ b ∈ s.blobs, b.data.length ≤ 1000000 from fun b hb => by have := (hg.b.one b hb).2.1; omega)
  have HQL := Lib.hid (show ∀ x ∈ s.ents, x.parts.length ≤ 1000000 from fun x hx => by have := (chk_zero (hg.e.one x hx).2.1).1; omega)
  have HG := Lib.hid hg
  clear hg hr
  go_enter Tryz.func20, Tryz.ntmps20
  repeat' ((fail_if_success at_builtin); (fail_if_success at_make); (first | go_values | go_skip | go_guarded | go_step | go_upon | go_back))
  rw [← hw0, ← hH]
  have HH := Lib.hid hH
  clear hw0 hH x0 x1 x2 x3
  refine ((HCK.out)).mono ?_; rintro e_ w1 ⟨rfl, hb1⟩; dsimp only
  have hr1 := hr0.below hb1
  have hS1 := hS.below hb1
  have y0 := hS1.cell (k := 0) rfl
  have HFN := FindB_ok A c s.blobs key w1 (by omega) hr1.b
  rw [HFX.out, fndR, ← HSK.out] at HFN
  have HFN := Lib.hid HFN
  clear hr0 hS
  repeat' ((fail_if_success at_builtin); (fail_if_success at_make); (first | go_values | go_skip | go_guarded | go_step | go_upon | go_back))
  clear y0
  refine ((HFN.out)).mono ?_; rintro e_ w2 ⟨rfl, hb2⟩; dsimp only
  have hc2 := hb1.trans (hb2.mono hb1.size)
  have hb := hb0.trans (hc2.mono (Nat.le_of_lt hHl))
  have hR2 := hR.below hc2
  clear hR
  have hR := hR2
  clear hR2 hr1 hS1 hb1 hb2 hc2
  have f0 := hR.frozen 0
  have f1 := hR.frozen 1
  have f2 := hR.frozen 2
  have f3 := hR.frozen 3
  have y0 := hR.cell (k := 0) rfl
  have y1 := hR.cell (k := 1) rfl
  have y2 := hR.cell (k := 2) rfl
  have y3 := hR.cell (k := 3) rfl
  have hfin := hR.all4 (.slice none 0 0) (.slice none 0 0) (.int .i64 0) (.int .i64 0)
  have hbF := (((hb.setCell (p := ⟨H + 1, 0, none⟩) (by simp only; omega) (.slice none 0 0)).setCell (p := ⟨H + 1, 1, none⟩) (by simp only; omega) (.slice none 0 0)).setCell (p := ⟨H + 1, 2, none⟩) (by simp only; omega) (.int .i64 0)).setCell (p := ⟨H + 1, 3, none⟩) (by simp only; omega) (.int .i64 0)
  clear hR hb
  repeat' ((fail_if_success at_builtin); (fail_if_success at_make); (first | go_values | go_skip | go_guarded | go_step | go_upon | go_back))
  refine bodyPost_ret (res_cell_tmp1 rfl _ _ (H + 1) _ _ _ _ (by rfl) hfin Tryz.underlying28 rfl (by kernel_rfl)) rfl ?_
  exact ⟨rfl, hbF⟩
set_option maxHeartbeats 4000000 in
theorem HoldE_none (A : Option Addr) (c : Nat) (B : Option Addr) (d : Nat) (s : StoP) (key : List UInt8) (up : Bool) (w : World) (hg : GoodS s) (hr : RdSt w A c B d s) (hn : ∀ b ∈ s.ents, b.key ≠ key) :
    Calls Tryz.prog 22 #[.agg #[.slice A s.blobs.length c, .slice B s.ents.length d, .int .i64 (s.room : Int), .int .i64 (s.clock : Int)], .string ⟨key.toArray⟩, .bool up] w fun e w' => e = .returned (.tuple #[.agg #[.slice none 0 0, .slice none 0 0, .int .i64 0, .int .i64 0], .int .i64 5]) ∧ Below w.heap.size w w' := by
  have hlb : s.blobs.length ≤ 24 := hg.b.len
  have hle : s.ents.length ≤ 10 := hg.e.len
  have HFX := Lib.hid (show s.ents.findIdx? (fun x => x.key == key) = none by rw [List.findIdx?_eq_none_iff]; intro x hx; simp [hn x hx])
  obtain ⟨sk, hsk⟩ : ∃ x : ByteArray, x = ⟨key.toArray⟩ := ⟨_, rfl⟩
  rw [← hsk]
  have HSK := Lib.hid hsk
  clear hn hsk
  obtain ⟨w0, hw0, hS, hR, hb0⟩ := two_new w 28 [.slice A s.blobs.length c, .slice B s.ents.length d, .int .i64 (s.room : Int), .int .i64 (s.clock : Int)] [.slice none 0 0, .slice none 0 0, .int .i64 0, .int .i64 0]
  have hr0 := hr.below hb0
  obtain ⟨H, hH⟩ : ∃ H, H = w.heap.size := ⟨_, rfl⟩
  have HCK := Lib.hid (CheckS_ok A c B d s w0 hg hr0)
  rw [← hH] at hS hR hb0 ⊢
  have hHl : H < w0.heap.size := hS.lt
  have hHr : H + 1 < w0.heap.size := hR.lt
  have x0 := hS.cell (k := 0) rfl
  have x1 := hS.cell (k := 1) rfl
  have x2 := hS.cell (k := 2) rfl
  have x3 := hS.cell (k := 3) rfl
  rw [hw0, hH] at x0 x1 x2 x3
  have HPL := Lib.hid (show ∀ b ∈ s.blobs, b.data.length ≤ 1000000 from fun b hb => by have := (hg.b.one b hb).2.1; omega)
  have HQL := Lib.hid (show ∀ x ∈ s.ents, x.parts.length ≤ 1000000 from fun x hx => by have := (chk_zero (hg.e.one x hx).2.1).1; omega)
  have HG := Lib.hid hg
  clear hg hr
  go_enter Tryz.func22, Tryz.ntmps22
  repeat' ((fail_if_success at_builtin); (fail_if_success at_make); (first | go_values | go_skip | go_guarded | go_step | go_upon | go_back))
  rw [← hw0, ← hH]
  have HH := Lib.hid hH
  clear hw0 hH x0 x1 x2 x3
  refine ((HCK.out)).mono ?_; rintro e_ w1 ⟨rfl, hb1⟩; dsimp only
  have hr1 := hr0.below hb1
  have hS1 := hS.below hb1
  have y0 := hS1.cell (k := 1) rfl
  have HFN := FindE_ok B d s.ents key w1 (by omega) hr1.e
  rw [HFX.out, fndR, ← HSK.out] at HFN
  have HFN := Lib.hid HFN
  clear hr0 hS
  repeat' ((fail_if_success at_builtin); (fail_if_success at_make); (first | go_values | go_skip | go_guarded | go_step | go_upon | go_back))
  clear y0
  refine ((HFN.out)).mono ?_; rintro e_ w2 ⟨rfl, hb2⟩; dsimp only
  have hc2 := hb1.trans (hb2.mono hb1.size)
  have hb := hb0.trans (hc2.mono (Nat.le_of_lt hHl))
  have hR2 := hR.below hc2
  clear hR
  have hR := hR2
  clear hR2 hr1 hS1 hb1 hb2 hc2
  have f0 := hR.frozen 0
  have f1 := hR.frozen 1
  have f2 := hR.frozen 2
  have f3 := hR.frozen 3
  have y0 := hR.cell (k := 0) rfl
  have y1 := hR.cell (k := 1) rfl
  have y2 := hR.cell (k := 2) rfl
  have y3 := hR.cell (k := 3) rfl
  have hfin := hR.all4 (.slice none 0 0) (.slice none 0 0) (.int .i64 0) (.int .i64 0)
  have hbF := (((hb.setCell (p := ⟨H + 1, 0, none⟩) (by simp only; omega) (.slice none 0 0)).setCell (p := ⟨H + 1, 1, none⟩) (by simp only; omega) (.slice none 0 0)).setCell (p := ⟨H + 1, 2, none⟩) (by simp only; omega) (.int .i64 0)).setCell (p := ⟨H + 1, 3, none⟩) (by simp only; omega) (.int .i64 0)
  clear hR hb
  repeat' ((fail_if_success at_builtin); (fail_if_success at_make); (first | go_values | go_skip | go_guarded | go_step | go_upon | go_back))
  refine bodyPost_ret (res_cell_tmp1 rfl _ _ (H + 1) _ _ _ _ (by rfl) hfin Tryz.underlying28 rfl (by kernel_rfl)) rfl ?_
  exact ⟨rfl, hbF⟩
theorem res_cell_none {P : Program} {fn : Func} {p u z : Tmp} {ty : TypeId} (h : fn.results = #[.cell p ty, .tmp u, .tmp z]) (tmps : Array Value) (w : World) (g : Nat) (t : TypeId) (cs : Array Value) (fr : Nat × Nat) (d : TypeDesc)
    (hp : tmps.getD p undef = .pointer (some ⟨g, 0, none⟩)) (hg : w.heap[g]? = some (.cells cs t fr))
    (hu : P.underlying ty = some d) (hd : (match d with | .struct _ | .array _ _ => true | _ => false) = true) (hi : (P.info? ty).map (·.size) = some cs.size) :
    (results fn tmps).run P w = .ok (.tuple #[.agg cs, tmps.getD u undef, tmps.getD z undef]) w := res_cell_tmp2 h tmps w g t cs fr d hp hg hu hd hi
set_option maxHeartbeats 4000000 in
theorem GetS_none (A : Option Addr) (c : Nat) (B : Option Addr) (d : Nat) (s : StoP) (key : List UInt8) (w : World) (hg : GoodS s) (hr : RdSt w A c B d s) (hn : ∀ b ∈ s.ents, b.key ≠ key) :
    Calls Tryz.prog 29 #[.agg #[.slice A s.blobs.length c, .slice B s.ents.length d, .int .i64 (s.room : Int), .int .i64 (s.clock : Int)], .string ⟨key.toArray⟩] w fun e w' => e = .returned (.tuple #[.agg #[.slice none 0 0, .slice none 0 0, .int .i64 0, .int .i64 0], .slice none 0 0, .int .i64 5]) ∧ Below w.heap.size w w' := by
  have hlb : s.blobs.length ≤ 24 := hg.b.len
  have hle : s.ents.length ≤ 10 := hg.e.len
  have HFX := Lib.hid (show s.ents.findIdx? (fun x => x.key == key) = none by rw [List.findIdx?_eq_none_iff]; intro x hx; simp [hn x hx])
  obtain ⟨sk, hsk⟩ : ∃ x : ByteArray, x = ⟨key.toArray⟩ := ⟨_, rfl⟩
  rw [← hsk]
  have HSK := Lib.hid hsk
  clear hn hsk
  obtain ⟨w0, hw0, hS, hR, hb0⟩ := two_new w 28 [.slice A s.blobs.length c, .slice B s.ents.length d, .int .i64 (s.room : Int), .int .i64 (s.clock : Int)] [.slice none 0 0, .slice none 0 0, .int .i64 0, .int .i64 0]
  have hr0 := hr.below hb0
  obtain ⟨H, hH⟩ : ∃ H, H = w.heap.size := ⟨_, rfl⟩
  have HCK := Lib.hid (CheckS_ok A c B d s w0 hg hr0)
  rw [← hH] at hS hR hb0 ⊢
  have hHl : H < w0.heap.size := hS.lt
  have hHr : H + 1 < w0.heap.size := hR.lt
  have x0 := hS.cell (k := 0) rfl
  have x1 := hS.cell (k := 1) rfl
  have x2 := hS.cell (k := 2) rfl
  have x3 := hS.cell (k := 3) rfl
  rw [hw0, hH] at x0 x1 x2 x3
  have HPL := Lib.hid (show ∀ b ∈ s.blobs, b.data.length ≤ 1000000 from fun b hb => by have := (hg.b.one b hb).2.1; omega)
  have HQL := Lib.hid (show ∀ x ∈ s.ents, x.parts.length ≤ 1000000 from fun x hx => by have := (chk_zero (hg.e.one x hx).2.1).1; omega)
  have HG := Lib.hid hg
  clear hg hr
  go_enter Tryz.func29, Tryz.ntmps29
  repeat' ((fail_if_success at_builtin); (fail_if_success at_make); (first | go_values | go_skip | go_guarded | go_step | go_upon | go_back))
  rw [← hw0, ← hH]
  have HH := Lib.hid hH
  clear hw0 hH x0 x1 x2 x3
  refine ((HCK.out)).mono ?_; rintro e_ w1 ⟨rfl, hb1⟩; dsimp only
  have hr1 := hr0.below hb1
  have hS1 := hS.below hb1
  have y0 := hS1.cell (k := 1) rfl
  have HFN := FindE_ok B d s.ents key w1 (by omega) hr1.e
  rw [HFX.out, fndR, ← HSK.out] at HFN
  have HFN := Lib.hid HFN
  clear hr0 hS
  repeat' ((fail_if_success at_builtin); (fail_if_success at_make); (first | go_values | go_skip | go_guarded | go_step | go_upon | go_back))
  clear y0
  refine ((HFN.out)).mono ?_; rintro e_ w2 ⟨rfl, hb2⟩; dsimp only
  have hc2 := hb1.trans (hb2.mono hb1.size)
  have hb := hb0.trans (hc2.mono (Nat.le_of_lt hHl))
  have hR2 := hR.below hc2
  clear hR
  have hR := hR2
  clear hR2 hr1 hS1 hb1 hb2 hc2
  have f0 := hR.frozen 0
  have f1 := hR.frozen 1
  have f2 := hR.frozen 2
  have f3 := hR.frozen 3
  have y0 := hR.cell (k := 0) rfl
  have y1 := hR.cell (k := 1) rfl
  have y2 := hR.cell (k := 2) rfl
  have y3 := hR.cell (k := 3) rfl
  have hfin := hR.all4 (.slice none 0 0) (.slice none 0 0) (.int .i64 0) (.int .i64 0)
  have hbF := (((hb.setCell (p := ⟨H + 1, 0, none⟩) (by simp only; omega) (.slice none 0 0)).setCell (p := ⟨H + 1, 1, none⟩) (by simp only; omega) (.slice none 0 0)).setCell (p := ⟨H + 1, 2, none⟩) (by simp only; omega) (.int .i64 0)).setCell (p := ⟨H + 1, 3, none⟩) (by simp only; omega) (.int .i64 0)
  clear hR hb
  repeat' ((fail_if_success at_builtin); (fail_if_success at_make); (first | go_values | go_skip | go_guarded | go_step | go_upon | go_back))
  refine bodyPost_ret (res_cell_none rfl _ _ (H + 1) _ _ _ _ (by rfl) hfin Tryz.underlying28 rfl (by kernel_rfl)) rfl ?_
  exact ⟨rfl, hbF⟩
theorem Move_no (n : Nat) (up : Bool) (w : World) (h : if up then n = 5 else n = 0) : Calls Tryz.prog 64 #[.int .i64 (n : Int), .bool up] w fun e w' => e = .returned (.tuple #[.int .i64 0, .int .i64 (if up then 7 else 11)]) ∧ w' = w := by
  cases up with
  | true =>
    have h' : n = 5 := h
    subst h'
    have HC2 := Lib.hid (PinIn_ok 5 (by omega) (by omega) w)
    rw [show ((5 : Nat) : Int) = 5 from rfl]
    clear h
    go_enter Tryz.func64, Tryz.ntmps64
    repeat' ((fail_if_success at_builtin); (fail_if_success at_make); (first | go_values | go_skip | go_guarded | go_step | go_upon | go_back))
    refine ((HC2.out)).mono ?_; rintro e_ _ ⟨rfl, rfl⟩; dsimp only
    repeat' ((fail_if_success at_builtin); (fail_if_success at_make); (first | go_values | go_skip | go_guarded | go_step | go_upon | go_back))
    go_ret2
    exact ⟨rfl, rfl⟩
  | false =>
    have h' : n = 0 := h
    subst h'
    have HC2 := Lib.hid (PinIn_ok 0 (by omega) (by omega) w)
    rw [show ((0 : Nat) : Int) = 0 from rfl]
    clear h
    go_enter Tryz.func64, Tryz.ntmps64
    repeat' ((fail_if_success at_builtin); (fail_if_success at_make); (first | go_values | go_skip | go_guarded | go_step | go_upon | go_back))
    refine ((HC2.out)).mono ?_; rintro e_ _ ⟨rfl, rfl⟩; dsimp only
    repeat' ((fail_if_success at_builtin); (fail_if_success at_make); (first | go_values | go_skip | go_guarded | go_step | go_upon | go_back))
    go_ret2
    exact ⟨rfl, rfl⟩
def noE (up : Bool) : Nat := if up then 7 else 11
theorem noE_ne (up : Bool) : ((noE up : Int) != 0) = true := by cases up <;> rfl
theorem Move_noE (n : Nat) (up : Bool) (w : World) (h : if up then n = 5 else n = 0) : Calls Tryz.prog 64 #[.int .i64 (n : Int), .bool up] w fun e w' => e = .returned (.tuple #[.int .i64 0, .int .i64 (noE up : Int)]) ∧ w' = w :=
  (Move_no n up w h).mono fun e w' ⟨h1, h2⟩ => ⟨by rw [h1]; cases up <;> rfl, h2⟩
set_option maxHeartbeats 4000000 in
theorem HoldB_no (A : Option Addr) (c : Nat) (B : Option Addr) (d : Nat) (s : StoP) (key : List UInt8) (up : Bool) (i : Nat) (w : World) (hg : GoodS s) (hr : RdSt w A c B d s) (hi : i < s.blobs.length) (hk : s.blobs[i].dig = key) (hmv : if up then s.blobs[i].pins = 5 else s.blobs[i].pins = 0) :
    Calls Tryz.prog 20 #[.agg #[.slice A s.blobs.length c, .slice B s.ents.length d, .int .i64 (s.room : Int), .int .i64 (s.clock : Int)], .string ⟨key.toArray⟩, .bool up] w fun e w' => e = .returned (.tuple #[.agg #[.slice none 0 0, .slice none 0 0, .int .i64 0, .int .i64 0], .int .i64 (noE up : Int)]) ∧ Below w.heap.size w w' := by
  have hlb : s.blobs.length ≤ 24 := hg.b.len
  have hle : s.ents.length ≤ 10 := hg.e.len
  have HFX := Lib.hid (fB_at hg.b.ris hi hk)
  obtain ⟨p, hp⟩ : ∃ p, p = s.blobs[i].pins := ⟨_, rfl⟩
  rw [← hp] at hmv
  have HPI := Lib.hid hp.symm
  have HMV := Lib.hid (fun W => Move_noE p up W hmv)
  have hne := noE_ne up
  generalize noE up = q at *
  obtain ⟨sk, hsk⟩ : ∃ x : ByteArray, x = ⟨key.toArray⟩ := ⟨_, rfl⟩
  rw [← hsk]
  have HSK := Lib.hid hsk
  clear hk hsk hp hmv
  obtain ⟨w0, hw0, hS, hR, hb0⟩ := two_new w 28 [.slice A s.blobs.length c, .slice B s.ents.length d, .int .i64 (s.room : Int), .int .i64 (s.clock : Int)] [.slice none 0 0, .slice none 0 0, .int .i64 0, .int .i64 0]
  have hr0 := hr.below hb0
  obtain ⟨H, hH⟩ : ∃ H, H = w.heap.size := ⟨_, rfl⟩
  have HCK := Lib.hid (CheckS_ok A c B d s w0 hg hr0)
  rw [← hH] at hS hR hb0 ⊢
  have hHl : H < w0.heap.size := hS.lt
  have hHr : H + 1 < w0.heap.size := hR.lt
  have x0 := hS.cell (k := 0) rfl
  have x1 := hS.cell (k := 1) rfl
  have x2 := hS.cell (k := 2) rfl
  have x3 := hS.cell (k := 3) rfl
  rw [hw0, hH] at x0 x1 x2 x3
  have HPL := Lib.hid (show ∀ b ∈ s.blobs, b.data.length ≤ 1000000 from fun b hb => by have := (hg.b.one b hb).2.1; omega)
  have HQL := Lib.hid (show ∀ x ∈ s.ents, x.parts.length ≤ 1000000 from fun x hx => by have := (chk_zero (hg.e.one x hx).2.1).1; omega)
  have HG := Lib.hid hg
  clear hg hr
  go_enter Tryz.func20, Tryz.ntmps20
  repeat' ((fail_if_success at_builtin); (fail_if_success at_make); (first | go_values | go_skip | go_guarded | go_step | go_upon | go_back))
  rw [← hw0, ← hH]
  have HH := Lib.hid hH
  clear hw0 hH x0 x1 x2 x3
  refine ((HCK.out)).mono ?_; rintro e_ w1 ⟨rfl, hb1⟩; dsimp only
  have hr1 := hr0.below hb1
  have hS1 := hS.below hb1
  have y0 := hS1.cell (k := 0) rfl
  have HFN := FindB_ok A c s.blobs key w1 (by omega) hr1.b
  rw [HFX.out, fndR, ← HSK.out] at HFN
  have HFN := Lib.hid HFN
  clear hr0 hS
  repeat' ((fail_if_success at_builtin); (fail_if_success at_make); (first | go_values | go_skip | go_guarded | go_step | go_upon | go_back))
  clear y0
  refine ((HFN.out)).mono ?_; rintro e_ w2 ⟨rfl, hb2⟩; dsimp only
  have hc2 := hb1.trans (hb2.mono hb1.size)
  have hr2 := hr1.below hb2
  have hS2 := hS1.below hb2
  obtain ⟨b, off, XB, xc, e1, hbb, d0, d1, d2, d3, _⟩ := hr2.b.blob_at i hi
  have hi0 : (0 : Int) ≤ (i : Int) := by omega
  have hi1 : (i : Int) < (s.blobs.length : Int) := by omega
  have y0 := hS2.cell (k := 0) rfl
  rw [HPI.out] at d2
  rw [e1] at y0
  clear hr1 hS1 hb1 hb2 d0 d1 d3
  repeat' ((fail_if_success at_builtin); (fail_if_success at_make); (first | go_values | go_skip | go_guarded | go_step | go_upon | go_back))
  clear y0 d2
  refine ((HMV.out w2)).mono ?_; rintro e_ wq ⟨rfl, hwq⟩; dsimp only
  replace hwq := hwq.symm
  subst hwq
  have hb := hb0.trans (hc2.mono (Nat.le_of_lt hHl))
  have hR2 := hR.below hc2
  clear hR
  have hR := hR2
  clear hR2 hr2 hS2 hc2 e1
  have f0 := hR.frozen 0
  have f1 := hR.frozen 1
  have f2 := hR.frozen 2
  have f3 := hR.frozen 3
  have y0 := hR.cell (k := 0) rfl
  have y1 := hR.cell (k := 1) rfl
  have y2 := hR.cell (k := 2) rfl
  have y3 := hR.cell (k := 3) rfl
  have hfin := hR.all4 (.slice none 0 0) (.slice none 0 0) (.int .i64 0) (.int .i64 0)
  have hbF := (((hb.setCell (p := ⟨H + 1, 0, none⟩) (by simp only; omega) (.slice none 0 0)).setCell (p := ⟨H + 1, 1, none⟩) (by simp only; omega) (.slice none 0 0)).setCell (p := ⟨H + 1, 2, none⟩) (by simp only; omega) (.int .i64 0)).setCell (p := ⟨H + 1, 3, none⟩) (by simp only; omega) (.int .i64 0)
  clear hR hb
  repeat' ((fail_if_success at_builtin); (fail_if_success at_make); (first | go_values | go_skip | go_guarded | go_step | go_upon | go_back))
  refine bodyPost_ret (res_cell_tmp1 rfl _ _ (H + 1) _ _ _ _ (by rfl) hfin Tryz.underlying28 rfl (by kernel_rfl)) rfl ?_
  exact ⟨rfl, hbF⟩
set_option maxHeartbeats 4000000 in
theorem HoldE_no (A : Option Addr) (c : Nat) (B : Option Addr) (d : Nat) (s : StoP) (key : List UInt8) (up : Bool) (i : Nat) (w : World) (hg : GoodS s) (hr : RdSt w A c B d s) (hi : i < s.ents.length) (hk : s.ents[i].key = key) (hmv : if up then s.ents[i].pins = 5 else s.ents[i].pins = 0) :
    Calls Tryz.prog 22 #[.agg #[.slice A s.blobs.length c, .slice B s.ents.length d, .int .i64 (s.room : Int), .int .i64 (s.clock : Int)], .string ⟨key.toArray⟩, .bool up] w fun e w' => e = .returned (.tuple #[.agg #[.slice none 0 0, .slice none 0 0, .int .i64 0, .int .i64 0], .int .i64 (noE up : Int)]) ∧ Below w.heap.size w w' := by
  have hlb : s.blobs.length ≤ 24 := hg.b.len
  have hle : s.ents.length ≤ 10 := hg.e.len
  have HFX := Lib.hid (fE_at hg.e.ris hi hk)
  obtain ⟨p, hp⟩ : ∃ p, p = s.ents[i].pins := ⟨_, rfl⟩
  rw [← hp] at hmv
  have HPI := Lib.hid hp.symm
  have HMV := Lib.hid (fun W => Move_noE p up W hmv)
  have hne := noE_ne up
  generalize noE up = q at *
  obtain ⟨sk, hsk⟩ : ∃ x : ByteArray, x = ⟨key.toArray⟩ := ⟨_, rfl⟩
  rw [← hsk]
  have HSK := Lib.hid hsk
  clear hk hsk hp hmv
  obtain ⟨w0, hw0, hS, hR, hb0⟩ := two_new w 28 [.slice A s.blobs.length c, .slice B s.ents.length d, .int .i64 (s.room : Int), .int .i64 (s.clock : Int)] [.slice none 0 0, .slice none 0 0, .int .i64 0, .int .i64 0]
  have hr0 := hr.below hb0
  obtain ⟨H, hH⟩ : ∃ H, H = w.heap.size := ⟨_, rfl⟩
  have HCK := Lib.hid (CheckS_ok A c B d s w0 hg hr0)
  rw [← hH] at hS hR hb0 ⊢
  have hHl : H < w0.heap.size := hS.lt
  have hHr : H + 1 < w0.heap.size := hR.lt
  have x0 := hS.cell (k := 0) rfl
  have x1 := hS.cell (k := 1) rfl
  have x2 := hS.cell (k := 2) rfl
  have x3 := hS.cell (k := 3) rfl
  rw [hw0, hH] at x0 x1 x2 x3
  have HPL := Lib.hid (show ∀ b ∈ s.blobs, b.data.length ≤ 1000000 from fun b hb => by have := (hg.b.one b hb).2.1; omega)
  have HQL := Lib.hid (show ∀ x ∈ s.ents, x.parts.length ≤ 1000000 from fun x hx => by have := (chk_zero (hg.e.one x hx).2.1).1; omega)
  have HG := Lib.hid hg
  clear hg hr
  go_enter Tryz.func22, Tryz.ntmps22
  repeat' ((fail_if_success at_builtin); (fail_if_success at_make); (first | go_values | go_skip | go_guarded | go_step | go_upon | go_back))
  rw [← hw0, ← hH]
  have HH := Lib.hid hH
  clear hw0 hH x0 x1 x2 x3
  refine ((HCK.out)).mono ?_; rintro e_ w1 ⟨rfl, hb1⟩; dsimp only
  have hr1 := hr0.below hb1
  have hS1 := hS.below hb1
  have y0 := hS1.cell (k := 1) rfl
  have HFN := FindE_ok B d s.ents key w1 (by omega) hr1.e
  rw [HFX.out, fndR, ← HSK.out] at HFN
  have HFN := Lib.hid HFN
  clear hr0 hS
  repeat' ((fail_if_success at_builtin); (fail_if_success at_make); (first | go_values | go_skip | go_guarded | go_step | go_upon | go_back))
  clear y0
  refine ((HFN.out)).mono ?_; rintro e_ w2 ⟨rfl, hb2⟩; dsimp only
  have hc2 := hb1.trans (hb2.mono hb1.size)
  have hr2 := hr1.below hb2
  have hS2 := hS1.below hb2
  obtain ⟨b, off, XB, xc, e1, hbb, d0, d1, d2, d3, _⟩ := hr2.e.ent_at i hi
  have hi0 : (0 : Int) ≤ (i : Int) := by omega
  have hi1 : (i : Int) < (s.ents.length : Int) := by omega
  have y0 := hS2.cell (k := 1) rfl
  rw [HPI.out] at d2
  rw [e1] at y0
  clear hr1 hS1 hb1 hb2 d0 d1 d3
  repeat' ((fail_if_success at_builtin); (fail_if_success at_make); (first | go_values | go_skip | go_guarded | go_step | go_upon | go_back))
  clear y0 d2
  refine ((HMV.out w2)).mono ?_; rintro e_ wq ⟨rfl, hwq⟩; dsimp only
  replace hwq := hwq.symm
  subst hwq
  have hb := hb0.trans (hc2.mono (Nat.le_of_lt hHl))
  have hR2 := hR.below hc2
  clear hR
  have hR := hR2
  clear hR2 hr2 hS2 hc2 e1
  have f0 := hR.frozen 0
  have f1 := hR.frozen 1
  have f2 := hR.frozen 2
  have f3 := hR.frozen 3
  have y0 := hR.cell (k := 0) rfl
  have y1 := hR.cell (k := 1) rfl
  have y2 := hR.cell (k := 2) rfl
  have y3 := hR.cell (k := 3) rfl
  have hfin := hR.all4 (.slice none 0 0) (.slice none 0 0) (.int .i64 0) (.int .i64 0)
  have hbF := (((hb.setCell (p := ⟨H + 1, 0, none⟩) (by simp only; omega) (.slice none 0 0)).setCell (p := ⟨H + 1, 1, none⟩) (by simp only; omega) (.slice none 0 0)).setCell (p := ⟨H + 1, 2, none⟩) (by simp only; omega) (.int .i64 0)).setCell (p := ⟨H + 1, 3, none⟩) (by simp only; omega) (.int .i64 0)
  clear hR hb
  repeat' ((fail_if_success at_builtin); (fail_if_success at_make); (first | go_values | go_skip | go_guarded | go_step | go_upon | go_back))
  refine bodyPost_ret (res_cell_tmp1 rfl _ _ (H + 1) _ _ _ _ (by rfl) hfin Tryz.underlying28 rfl (by kernel_rfl)) rfl ?_
  exact ⟨rfl, hbF⟩
end Go.Proofs.YtjldpfijekpddaaGreat
