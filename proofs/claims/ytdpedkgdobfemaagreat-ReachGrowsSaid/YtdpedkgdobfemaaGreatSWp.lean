/- store.Put, Get, HoldBlob, Hold, of stores that may be. Conditions: that it may be done. -/
import Derived.Test.YtdpedkgdobfemaaGreatSWk
namespace Go.Proofs.YtdpedkgdobfemaaGreat
open Go.RowKit
set_option linter.unusedVariables false
set_option linter.unusedSimpArgs false
set_option maxRecDepth 100000

theorem idx4 (k : Int) (h : k = 0 ∨ k = 1 ∨ k = 2 ∨ k = 3) (w : World) : (Instr.index 104 (.agg #[.int .i64 0, .int .i64 0, .int .i64 0, .int .i64 0]) (.int .i64 k)).run Tryz.prog w = .ok (.int .i64 0) w := by
  rcases h with rfl | rfl | rfl | rfl <;> kernel_rfl
set_option maxHeartbeats 16000000 in
theorem PutS_ok (A : Option Addr) (c : Nat) (B : Option Addr) (d : Nat) (s : StoP) (key : List UInt8) (ps : List PartP) (PA : Option Addr) (pc : Nat) (w : World) (hg : GoodS s) (hr : RdSt w A c B d s) (hk : hexC key = 0) (hpz : chk ps = 0) (hhv : haveC s.blobs ps = 0) (hclk : s.clock < 1099511627776) (hlen : s.ents.length < 10) (hP : Sl w 3 PA ps.length pc (pcs ps)) :
    Calls Tryz.prog 23 #[.agg #[.slice A s.blobs.length c, .slice B s.ents.length d, .int .i64 (s.room : Int), .int .i64 (s.clock : Int)], .string ⟨key.toArray⟩, .slice PA ps.length pc] w fun e w' =>
      ∃ v1 v2, e = .returned (.tuple #[.agg #[v1, v2, .int .i64 (s.room : Int), .int .i64 ((s.clock + 1 : Nat) : Int)], .int .i64 0]) ∧ OwSt w' w.heap.size v1 v2 (putES s key ps) (fun b => b < w.heap.size) ∧ Below w.heap.size w w' := by
  have hlb : s.blobs.length ≤ 24 := hg.b.len
  obtain ⟨w0, hw0, hS, hR, hb0⟩ := two_new w 26 [.slice A s.blobs.length c, .slice B s.ents.length d, .int .i64 (s.room : Int), .int .i64 (s.clock : Int)] [.slice none 0 0, .slice none 0 0, .int .i64 0, .int .i64 0]
  have hr0 := hr.below hb0
  have hP0 := hP.below hb0
  obtain ⟨H, hH⟩ : ∃ H, H = w.heap.size := ⟨_, rfl⟩
  have HCK := Lib.hid (fun W (h : Below w0.heap.size w0 W) => CheckS_ok A c B d s W hg (hr0.below h))
  have hkl := hexC_len hk
  have HKX := Lib.hid (show ∀ W, Below w0.heap.size w0 W → Calls Tryz.prog 55 #[.string ⟨key.toArray⟩] W fun e w' => e = .returned (.int .i64 0) ∧ Below W.heap.size W w' from fun W _ => by
    have := hCheck_ok ⟨key.toArray⟩ W (by show (key.toArray).size ≤ _; rw [List.size_toArray]; omega)
    rw [show (⟨key.toArray⟩ : ByteArray).data.toList = key from rfl, hk] at this
    exact this)
  have HPC := Lib.hid (show ∀ W, Below w0.heap.size w0 W → Calls Tryz.prog 56 #[.slice PA ps.length pc] W fun e w' => e = .returned (.int .i64 0) ∧ Below W.heap.size W w' from fun W h => by
    have := Check_ok PA ps.length pc ps W rfl hP0.cap (by have := (chk_zero hpz).1; omega) (parts_ok hpz) (hP0.below h).rd
    rwa [hpz] at this)
  have hpl8 := (chk_zero hpz).1
  have HHV := Lib.hid (fun W (h : Below w0.heap.size w0 W) => Have_ok A c s.blobs PA pc ps W (by omega) (by omega) (hr0.b.below h) (hP0.below h).rd)
  have HGX := Lib.hid hg
  have HPL := Lib.hid (show ∀ b ∈ s.blobs, b.data.length ≤ 1000000 from fun b hb => by have := (hg.b.one b hb).2.1; omega)
  have HQL := Lib.hid (show ∀ x ∈ s.ents, x.parts.length ≤ 1000000 from fun x hx => by have := (chk_zero (hg.e.one x hx).2.1).1; omega)
  have HSB := Lib.hid (show ∀ W, Below w0.heap.size w0 W → W.cell? ⟨H, 0, none⟩ = some (.slice A s.blobs.length c) ∧ W.cell? ⟨H, 1, none⟩ = some (.slice B s.ents.length d) ∧ W.cell? ⟨H, 2, none⟩ = some (.int .i64 (s.room : Int)) ∧ W.cell? ⟨H, 3, none⟩ = some (.int .i64 (s.clock : Int)) from fun W h => by
    rw [hH]; exact ⟨(hS.below h).cell (k := 0) rfl, (hS.below h).cell (k := 1) rfl, (hS.below h).cell (k := 2) rfl, (hS.below h).cell (k := 3) rfl⟩)
  have HKK := Lib.hid hk
  have HPZ := Lib.hid hpz
  rw [← hH] at hS hR hb0 ⊢
  have hHl : H < w0.heap.size := hS.lt
  have hHr : H + 1 < w0.heap.size := hR.lt
  obtain ⟨sk, hsk⟩ : ∃ x : ByteArray, x = ⟨key.toArray⟩ := ⟨_, rfl⟩
  rw [← hsk] at HKX ⊢
  have HSK := Lib.hid hsk
  clear hg hr hk hP hpz hsk
  go_enter Tryz.func23, Tryz.ntmps23
  repeat' ((fail_if_success at_builtin); (fail_if_success at_make); (first | go_values | go_skip | go_guarded | go_step | go_upon | go_back))
  rw [← hw0, ← hH]
  have HH := Lib.hid hH
  clear hw0 hH
  rw [hhv] at HHV
  --HELD1
  refine wp_region_held_drew (S := (fun w' => w'.cell? ⟨H, 0, none⟩ = some (.slice A s.blobs.length c) ∧ w'.cell? ⟨H, 1, none⟩ = some (.slice B s.ents.length d) ∧ w'.cell? ⟨H, 2, none⟩ = some (.int .i64 (s.room : Int)) ∧ w'.cell? ⟨H, 3, none⟩ = some (.int .i64 (s.clock : Int)))) (by kernel_rfl) ?_ (fun hHeld => ?_)
  · exact HSB.out _ (Below.refl _ w0).drew
  have hB := (Below.refl w0.heap.size w0).drew
  generalize w0.drew = wn0 at *
  refine wpAnyH_take (i := 0) (oi := _) (v := ?_) rfl (by kernel_rfl) (by kernel_rfl) (by kernel_rfl) (fun _ _ _ h => h) (Or.inl ⟨by rfl, ?_⟩) (by assumption) ?_
  rotate_left
  · (intro w hSw; (try dsimp only at hSw); go_simp; try (with_reducible rfl))
  try simp only [List.getElem_toArray, List.getElem_cons_zero, List.getElem_cons_succ, Act.put, List.setIfInBounds_toArray, List.set_cons_zero, List.set_cons_succ]
  refine wpAnyH_take (i := 2) (oi := _) (v := ?_) rfl (by kernel_rfl) (by kernel_rfl) (by kernel_rfl) (fun _ _ _ h => h) (Or.inl ⟨by rfl, ?_⟩) (by assumption) ?_
  rotate_left
  · (intro w hSw; (try dsimp only at hSw); go_simp; try (with_reducible rfl))
  try simp only [List.getElem_toArray, List.getElem_cons_zero, List.getElem_cons_succ, Act.put, List.setIfInBounds_toArray, List.set_cons_zero, List.set_cons_succ]
  refine wpAnyH_take (i := 4) (oi := _) (v := ?_) rfl (by kernel_rfl) (by kernel_rfl) (by kernel_rfl) (fun _ _ _ h => h) (Or.inl ⟨by rfl, ?_⟩) (by assumption) ?_
  rotate_left
  · (intro w hSw; (try dsimp only at hSw); go_simp; try (with_reducible rfl))
  try simp only [List.getElem_toArray, List.getElem_cons_zero, List.getElem_cons_succ, Act.put, List.setIfInBounds_toArray, List.set_cons_zero, List.set_cons_succ]
  refine wpAnyH_take (i := 6) (oi := _) (v := ?_) rfl (by kernel_rfl) (by kernel_rfl) (by kernel_rfl) (fun _ _ _ h => h) (Or.inl ⟨by rfl, ?_⟩) (by assumption) ?_
  rotate_left
  · (intro w hSw; (try dsimp only at hSw); go_simp; try (with_reducible rfl))
  try simp only [List.getElem_toArray, List.getElem_cons_zero, List.getElem_cons_succ, Act.put, List.setIfInBounds_toArray, List.set_cons_zero, List.set_cons_succ]
  refine wpAnyH_take (i := 7) (oi := _) (v := ?_) rfl (by kernel_rfl) (by kernel_rfl) (by kernel_rfl) (fun _ _ _ h => h) (Or.inl ⟨by rfl, ?_⟩) (by assumption) ?_
  rotate_left
  · (intro w hSw; (try dsimp only at hSw); go_simp; try (with_reducible rfl))
  try simp only [List.getElem_toArray, List.getElem_cons_zero, List.getElem_cons_succ, Act.put, List.setIfInBounds_toArray, List.set_cons_zero, List.set_cons_succ]
  refine wpAnyH_take (i := 8) (oi := _) (v := ?_) rfl (by kernel_rfl) (by kernel_rfl) (by kernel_rfl) (fun _ _ _ h => h) (Or.inl ⟨by rfl, ?_⟩) (by assumption) ?_
  rotate_left
  · (intro w hSw; (try dsimp only at hSw); go_simp; try (with_reducible rfl))
  try simp only [List.getElem_toArray, List.getElem_cons_zero, List.getElem_cons_succ, Act.put, List.setIfInBounds_toArray, List.set_cons_zero, List.set_cons_succ]
  refine wpAnyH_take (i := 11) (oi := _) (v := ?_) rfl (by kernel_rfl) (by kernel_rfl) (by kernel_rfl) (fun _ _ _ h => h) (Or.inl ⟨by rfl, ?_⟩) (by assumption) ?_
  rotate_left
  · (intro w hSw; (try dsimp only at hSw); go_simp; try (with_reducible rfl))
  try simp only [List.getElem_toArray, List.getElem_cons_zero, List.getElem_cons_succ, Act.put, List.setIfInBounds_toArray, List.set_cons_zero, List.set_cons_succ]
  refine wpAnyH_ready (rs := [1]) (by kernel_rfl) (by simp) ?_
  refine AllReadyH.cons (o := _) rfl (fun K hK => ?_) ?_
  ·
    go_simp
    refine (HCK.out wn0 hB).mono ?_
    rintro e5 w5 ⟨rfl, hb5⟩
    dsimp only
    refine outG hK ?_ (Below wn0.heap.size wn0) (fun W => True) ?_ ?_ (fun wn1 hHeld hst hnew => ?_)
    · (exact HSB.out _ (hB.trans (hb5.mono hB.size)))
    · (exact hb5)
    · (trivial)
    have hB := hB.trans (hst.mono hB.size)
    clear hst
    clear hK K
    try simp only [List.getElem_toArray, List.getElem_cons_zero, List.getElem_cons_succ, Act.put, List.setIfInBounds_toArray, List.set_cons_zero, List.set_cons_succ]
    refine wpAnyH_ready (rs := [3]) (by kernel_rfl) (by simp) ?_
    refine AllReadyH.cons (o := _) rfl (fun K hK => ?_) ?_
    ·
      go_simp
      refine (HKX.out wn1 hB).mono ?_
      rintro e5 w5 ⟨rfl, hb5⟩
      dsimp only
      refine outG hK ?_ (Below wn1.heap.size wn1) (fun W => True) ?_ ?_ (fun wn2 hHeld hst hnew => ?_)
      · (exact HSB.out _ (hB.trans (hb5.mono hB.size)))
      · (exact hb5)
      · (trivial)
      have hB := hB.trans (hst.mono hB.size)
      clear hst
      clear hK K
      try simp only [List.getElem_toArray, List.getElem_cons_zero, List.getElem_cons_succ, Act.put, List.setIfInBounds_toArray, List.set_cons_zero, List.set_cons_succ]
      refine wpAnyH_ready (rs := [5]) (by kernel_rfl) (by simp) ?_
      refine AllReadyH.cons (o := _) rfl (fun K hK => ?_) ?_
      ·
        go_simp
        refine (HPC.out wn2 hB).mono ?_
        rintro e5 w5 ⟨rfl, hb5⟩
        dsimp only
        refine outG hK ?_ (Below wn2.heap.size wn2) (fun W => True) ?_ ?_ (fun wn3 hHeld hst hnew => ?_)
        · (exact HSB.out _ (hB.trans (hb5.mono hB.size)))
        · (exact hb5)
        · (trivial)
        have hB := hB.trans (hst.mono hB.size)
        clear hst
        clear hK K
        try simp only [List.getElem_toArray, List.getElem_cons_zero, List.getElem_cons_succ, Act.put, List.setIfInBounds_toArray, List.set_cons_zero, List.set_cons_succ]
        refine wpAnyH_ready (rs := [9]) (by kernel_rfl) (by simp) ?_
        refine AllReadyH.cons (o := _) rfl (fun K hK => ?_) ?_
        ·
          go_simp
          refine (HHV.out wn3 hB).mono ?_
          rintro e5 w5 ⟨rfl, hb5⟩
          dsimp only
          refine outG hK ?_ (Below wn3.heap.size wn3) (fun W => True) ?_ ?_ (fun wn4 hHeld hst hnew => ?_)
          · (exact HSB.out _ (hB.trans (hb5.mono hB.size)))
          · (exact hb5)
          · (trivial)
          have hB := hB.trans (hst.mono hB.size)
          clear hst
          clear hK K
          try simp only [List.getElem_toArray, List.getElem_cons_zero, List.getElem_cons_succ, Act.put, List.setIfInBounds_toArray, List.set_cons_zero, List.set_cons_succ]
          refine wpAnyH_take (i := 10) (oi := _) (v := ?_) rfl (by kernel_rfl) (by kernel_rfl) (by kernel_rfl) (fun _ _ _ h => h) (Or.inl ⟨by rfl, ?_⟩) (by assumption) ?_
          rotate_left
          · (intro w hSw; (try dsimp only at hSw); go_simp; try (with_reducible rfl))
          try simp only [List.getElem_toArray, List.getElem_cons_zero, List.getElem_cons_succ, Act.put, List.setIfInBounds_toArray, List.set_cons_zero, List.set_cons_succ]
          refine wpAnyH_done (by kernel_rfl) ?_ _
          dsimp only [Exit.then]
          clear hHeld
          generalize wn4 = w1 at *
          repeat' ((fail_if_success at_builtin); (fail_if_success at_make); (first | go_values | go_skip | go_guarded | go_step | go_upon | go_back))
          go_loopg [25] 4 (fun gn i wr => ∃ j : Int, i = .int .i64 j ∧ (j = 0 ∨ j = 1 ∨ j = 2 ∨ j = 3 ∨ j = 4) ∧ gn = (4 - j).toNat ∧ wr = w1)
          case atStart => exact ⟨0, rfl, by omega, rfl, rfl⟩
          case round =>
            obtain ⟨j, rfl, hj, hgn, hwr⟩ := hrel
            subst hwr
            have ix0 := idx4 0 (by omega) wr
            have ix1 := idx4 1 (by omega) wr
            have ix2 := idx4 2 (by omega) wr
            have ix3 := idx4 3 (by omega) wr
            rcases hj with rfl | rfl | rfl | rfl | rfl
            · repeat' ((fail_if_success at_builtin); (fail_if_success at_make); (first | go_values | go_skip | go_guarded | go_step | go_upon | go_back))
              go_roundg 3
              case measure => omega
              case rel => exact ⟨1, rfl, by omega, rfl, rfl⟩
            · repeat' ((fail_if_success at_builtin); (fail_if_success at_make); (first | go_values | go_skip | go_guarded | go_step | go_upon | go_back))
              go_roundg 2
              case measure => omega
              case rel => exact ⟨2, rfl, by omega, rfl, rfl⟩
            · repeat' ((fail_if_success at_builtin); (fail_if_success at_make); (first | go_values | go_skip | go_guarded | go_step | go_upon | go_back))
              go_roundg 1
              case measure => omega
              case rel => exact ⟨3, rfl, by omega, rfl, rfl⟩
            · repeat' ((fail_if_success at_builtin); (fail_if_success at_make); (first | go_values | go_skip | go_guarded | go_step | go_upon | go_back))
              go_roundg 0
              case measure => omega
              case rel => exact ⟨4, rfl, by omega, rfl, rfl⟩
            · clear hgn ix0 ix1 ix2 ix3
              generalize wr = wr0 at *
              obtain ⟨z0, z1, z2, z3⟩ := HSB.out wr0 hB
              have hr1 := hr0.below hB
              have HCP := Lib.hid (CopyS_ok A c B d s wr0 (by omega) (by omega) HPL.out HQL.out hr1)
              have hP1 := hP0.below hB
              clear hr0 hP0 hS
              repeat' ((fail_if_success at_builtin); (fail_if_success at_make); (first | go_values | go_skip | go_guarded | go_step | go_upon | go_back))
              clear z0 z1 z2 z3
              refine ((HCP.out)).mono ?_; rintro e_ w4 ⟨q1, q2, rfl, ho4', hb4⟩; dsimp only
              have hc4 := hB.trans (hb4.mono hB.size)
              have hP4 := hP1.below hb4
              have ho4 := (ho4'.lower hB.size).wider (N' := fun b => b < w0.heap.size) (fun b hb => .inl (Nat.lt_of_lt_of_le hb hB.size))
              have hPl := hP4.live
              clear ho4' hB hb4 hP1
              have h41 : ∀ b, (Value.slice (some ⟨q1, 0, none⟩) s.blobs.length s.blobs.length).ownBlock = some b → b < w4.heap.size := fun b e => (ho4.b.rwo.blk e).2
              have h42 : ∀ b, (Value.slice (some ⟨q2, 0, none⟩) s.ents.length s.ents.length).ownBlock = some b → b < w4.heap.size := fun b e => (ho4.e.rwo.blk e).2
              have hG : w0.heap.size ≤ w4.heap.size := hc4.size
              obtain ⟨G, hGe⟩ : ∃ G, G = w4.heap.size := ⟨_, rfl⟩
              rw [← hGe] at h41 h42 hG
              have hba := (Below.refl w4.heap.size w4).alloc (Nat.le_refl _) (.cells #[(Value.slice (some ⟨q1, 0, none⟩) s.blobs.length s.blobs.length), (Value.slice (some ⟨q2, 0, none⟩) s.ents.length s.ents.length), .int .i64 (s.room : Int), .int .i64 (s.clock : Int)] 26)
              have hX : Arr (w4.alloc (.cells #[(Value.slice (some ⟨q1, 0, none⟩) s.blobs.length s.blobs.length), (Value.slice (some ⟨q2, 0, none⟩) s.ents.length s.ents.length), .int .i64 (s.room : Int), .int .i64 (s.clock : Int)] 26)) G 26 [(Value.slice (some ⟨q1, 0, none⟩) s.blobs.length s.blobs.length), (Value.slice (some ⟨q2, 0, none⟩) s.ents.length s.ents.length), .int .i64 (s.room : Int), .int .i64 (s.clock : Int)] := by rw [hGe]; exact Arr.new w4 26 _
              have ho := (ho4.wider (N' := fun b => b < w0.heap.size ∨ b = G) (fun b hb => hb.imp id (fun e => by omega))).below hba
              have hR5 := (hR.below hc4).below hba
              have hb5 := (hb0.trans (hc4.mono (Nat.le_of_lt hHl))).alloc (by omega) (.cells #[(Value.slice (some ⟨q1, 0, none⟩) s.blobs.length s.blobs.length), (Value.slice (some ⟨q2, 0, none⟩) s.ents.length s.ents.length), .int .i64 (s.room : Int), .int .i64 (s.clock : Int)] 26)
              clear hR ho4 hc4 hba hb0
              have hR := hR5
              clear hR5
              have hb := hb5
              clear hb5
              have hP5 := hP4.below ((Below.refl w4.heap.size w4).alloc (Nat.le_refl _) (.cells #[(Value.slice (some ⟨q1, 0, none⟩) s.blobs.length s.blobs.length), (Value.slice (some ⟨q2, 0, none⟩) s.ents.length s.ents.length), .int .i64 (s.room : Int), .int .i64 (s.clock : Int)] 26))
              have HTK := Lib.hid (Tick_ok G (Value.slice (some ⟨q1, 0, none⟩) s.blobs.length s.blobs.length) (Value.slice (some ⟨q2, 0, none⟩) s.ents.length s.ents.length) (.int .i64 (s.room : Int)) s.clock _ hclk hX)
              have hPG : ∀ a, PA = some a → a.block ≠ G := fun a ha => by have := hPl a ha; omega
              clear hP4 hPl
              repeat' ((fail_if_success at_builtin); (fail_if_success at_make); (first | go_values | go_skip | go_guarded | go_step | go_upon | go_back))
              rw [← hGe]
              clear hGe
              generalize w4.alloc (.cells #[(Value.slice (some ⟨q1, 0, none⟩) s.blobs.length s.blobs.length), (Value.slice (some ⟨q2, 0, none⟩) s.ents.length s.ents.length), .int .i64 (s.room : Int), .int .i64 (s.clock : Int)] 26) = w5 at *
              refine ((HTK.out)).mono ?_; rintro e_ _ ⟨rfl, rfl⟩; dsimp only
              have hX6 : Arr (w5.setCell ⟨G, 3, none⟩ (.int .i64 ((s.clock + 1 : Nat) : Int))) G 26 [(Value.slice (some ⟨q1, 0, none⟩) s.blobs.length s.blobs.length), (Value.slice (some ⟨q2, 0, none⟩) s.ents.length s.ents.length), .int .i64 (s.room : Int), .int .i64 ((s.clock + 1 : Nat) : Int)] := hX.set (k := 3) (by simp) (.int .i64 ((s.clock + 1 : Nat) : Int))
              have hR6 := hR.other (g' := G) (k := 3) (by omega) (.int .i64 ((s.clock + 1 : Nat) : Int))
              have ho6 := ho.setX (g := G) (k := 3) (.inr rfl) (fun e => by have := h41 _ e; omega) (fun e => by have := h42 _ e; omega) (.int .i64 ((s.clock + 1 : Nat) : Int))
              have hb6 := hb.setCell (p := ⟨G, 3, none⟩) (by simp only; omega) (.int .i64 ((s.clock + 1 : Nat) : Int))
              have hP6 := hP5.other (g := G) (k := 3) hPG (.int .i64 ((s.clock + 1 : Nat) : Int))
              have hGl : G < (w5.setCell ⟨G, 3, none⟩ (.int .i64 ((s.clock + 1 : Nat) : Int))).heap.size := hX6.lt
              clear hX hR ho hb hP5 HTK
              generalize w5.setCell ⟨G, 3, none⟩ (.int .i64 ((s.clock + 1 : Nat) : Int)) = w6 at *
              obtain ⟨A', c', e1, _, _, hRe6⟩ := ho6.e.rwo.rows
              cases e1
              have hgx : GoodE1 ⟨key, ps, 0, s.clock + 1⟩ := ⟨HKK.out, HPZ.out, by show 0 ≤ 5; omega, by show s.clock + 1 ≤ _; omega⟩
              have HPT := PutE_ok (some ⟨q2, 0, none⟩) s.ents.length s.ents ⟨key, ps, 0, s.clock + 1⟩ PA pc w6 HGX.out.e hgx hlen hRe6 hP6
              dsimp only at HPT
              rw [← HSK.out] at HPT
              have HPT := Lib.hid HPT
              have x1 := hX6.cell (k := 1) rfl
              have x3 := hX6.cell (k := 3) rfl
              clear hRe6 hP6 hgx
              repeat' ((fail_if_success at_builtin); (fail_if_success at_make); (first | go_values | go_skip | go_guarded | go_step | go_upon | go_back))
              clear x1 x3
              refine ((HPT.out)).mono ?_; rintro e_ w7 ⟨v3, rfl, hx7, hb7⟩; dsimp only
              have hN6 : ∀ b, (b < w0.heap.size ∨ b = G) → b < w6.heap.size := fun b hb => by omega
              have ho7 := ((OwSt.mixE ho6 hN6 hx7 (by omega) hb7).clk s.room (s.clock + 1))
              have hX7 := hX6.below hb7
              have hR7 := hR6.below hb7
              have hb7' := hb6.trans (hb7.mono (by omega))
              have h43 : ∀ b, v3.ownBlock = some b → w6.heap.size ≤ b := fun b e => (hx7.rwo.blk e).1
              obtain ⟨A3, c3, e3, _, _, _⟩ := hx7.rwo.rows
              subst e3
              clear hX6 hR6 ho6 hb6 hx7 hb7
              have f1 := hX7.frozen 1
              have x1 := hX7.cell (k := 1) rfl
              have hX : Arr (w7.setCell ⟨G, 1, none⟩ (.slice A3 (putE s.ents ⟨key, ps, 0, s.clock + 1⟩).length c3)) G 26 [(Value.slice (some ⟨q1, 0, none⟩) s.blobs.length s.blobs.length), .slice A3 (putE s.ents ⟨key, ps, 0, s.clock + 1⟩).length c3, .int .i64 (s.room : Int), .int .i64 ((s.clock + 1 : Nat) : Int)] := hX7.set (k := 1) (by simp) _
              have hR := hR7.other (g' := G) (k := 1) (by omega) (.slice A3 (putE s.ents ⟨key, ps, 0, s.clock + 1⟩).length c3)
              have ho := ho7.setX (g := G) (k := 1) (.inr rfl) (fun e => by have := h41 _ e; omega) (fun e => by have := h43 _ e; omega) (.slice A3 (putE s.ents ⟨key, ps, 0, s.clock + 1⟩).length c3)
              have hb := hb7'.setCell (p := ⟨G, 1, none⟩) (by simp only; omega) (.slice A3 (putE s.ents ⟨key, ps, 0, s.clock + 1⟩).length c3)
              clear hX7 hR7 ho7 hb7'
              have z0 := hX.cell (k := 0) rfl
              have z1 := hX.cell (k := 1) rfl
              have z2 := hX.cell (k := 2) rfl
              have z3 := hX.cell (k := 3) rfl
              have f0 := hR.frozen 0
              have f1 := hR.frozen 1
              have f2 := hR.frozen 2
              have f3 := hR.frozen 3
              have y0 := hR.cell (k := 0) rfl
              have y1 := hR.cell (k := 1) rfl
              have y2 := hR.cell (k := 2) rfl
              have y3 := hR.cell (k := 3) rfl
              have hfin := hR.all4 (Value.slice (some ⟨q1, 0, none⟩) s.blobs.length s.blobs.length) (.slice A3 (putE s.ents ⟨key, ps, 0, s.clock + 1⟩).length c3) (.int .i64 (s.room : Int)) (.int .i64 ((s.clock + 1 : Nat) : Int))
              have hoF := (((ho.set (g := H + 1) (k := 0) hHr (.inl hHr) (Value.slice (some ⟨q1, 0, none⟩) s.blobs.length s.blobs.length)).set (g := H + 1) (k := 1) hHr (.inl hHr) (.slice A3 (putE s.ents ⟨key, ps, 0, s.clock + 1⟩).length c3)).set (g := H + 1) (k := 2) hHr (.inl hHr) (.int .i64 (s.room : Int))).set (g := H + 1) (k := 3) hHr (.inl hHr) (.int .i64 ((s.clock + 1 : Nat) : Int))
              have hbF := (((hb.setCell (p := ⟨H + 1, 0, none⟩) (by simp only; omega) (Value.slice (some ⟨q1, 0, none⟩) s.blobs.length s.blobs.length)).setCell (p := ⟨H + 1, 1, none⟩) (by simp only; omega) (.slice A3 (putE s.ents ⟨key, ps, 0, s.clock + 1⟩).length c3)).setCell (p := ⟨H + 1, 2, none⟩) (by simp only; omega) (.int .i64 (s.room : Int))).setCell (p := ⟨H + 1, 3, none⟩) (by simp only; omega) (.int .i64 ((s.clock + 1 : Nat) : Int))
              clear hR ho hb hX
              repeat' ((fail_if_success at_builtin); (fail_if_success at_make); (first | go_values | go_skip | go_guarded | go_step | go_upon | go_back))
              refine bodyPost_ret (res_cell_tmp1 rfl _ _ (H + 1) _ _ _ _ (by rfl) hfin Tryz.underlying26 rfl (by kernel_rfl)) rfl ?_
              exact ⟨_, _, rfl, (hoF.lower (base' := H) (by omega)).wider (N' := fun b => b < H) (fun b hb => .inl (.inl (by omega))), hbF⟩
        exact AllReadyH.nil
      exact AllReadyH.nil
    exact AllReadyH.nil
  exact AllReadyH.nil
  --HELDEND1
end Go.Proofs.YtdpedkgdobfemaaGreat
