/- The walk of ReachGrows. Conditions: the sizes. -/
import Derived.Test.YtdpedkgdobfemaaGreatRrt
import Derived.Test.YtdpedkgdobfemaaGreatStr
namespace Go.Proofs.YtdpedkgdobfemaaGreat
open Go.RowKit Go.Maps
set_option linter.unusedVariables false
set_option linter.unusedSimpArgs false
set_option maxRecDepth 100000

theorem share_g {P Q : Prop} (h : Hid P → Q) (p : P) : Q := h (Lib.hid p)
theorem Rch.two {bl : List BlobP} {a b x : List UInt8} : Rch bl [a, b] x ↔ Rch bl [a] x ∨ Rch bl [b] x := by
  constructor
  · intro h
    induction h with
    | root h1 h2 =>
      simp only [List.mem_cons, List.not_mem_nil, or_false] at h1
      rcases h1 with rfl | rfl
      · exact .inl (.root (by simp) h2)
      · exact .inr (.root (by simp) h2)
    | step _ h2 h3 ih => exact ih.imp (fun h => .step h h2 h3) (fun h => .step h h2 h3)
  · rintro (h | h)
    · exact h.mono fun y hy hi => .root (by simp [List.mem_singleton.1 hy]) hi
    · exact h.mono fun y hy hi => .root (by simp [List.mem_singleton.1 hy]) hi
set_option maxHeartbeats 16000000 in
theorem ReachGrows_walk (A : Option Addr) (n c : Nat) (l : List RawP) (a m : Int) (w : World) (hl : l.length = n) (hc : n ≤ c) (hm : c ≤ maxLen) (hok : ∀ r ∈ l, RawOk r) (hr : Rd w 4 A n (rcs l))
    (a0 : -9223372036854775808 ≤ a) (a1 : a ≤ 9223372036854775807) (m0 : -9223372036854775808 ≤ m) (m1 : m ≤ 9223372036854775807) :
    Calls Tryz.prog 5 #[.slice A n c, .int .i64 a, .int .i64 m] w fun e w' => e = .returned (.bool true) ∧ Below w.heap.size w w' := by
  have HS := Lib.hid (Store_ok A n c l w hl hc hm hok hr)
  have HGS := Lib.hid (sto_good l)
  clear hok hl hr hc hm
  generalize sto l = s at *
  have hbl := HGS.out.b.len
  have hel := HGS.out.e.len
  go_enter Tryz.func5, Tryz.ntmps5
  repeat' ((fail_if_success at_builtin); (fail_if_success at_make); (first | go_values | go_skip | go_guarded | go_step | go_upon | go_back))
  refine ((HS.out)).mono ?_; rintro e_ w1 ⟨v1, v2, rfl, hb, he, hb1⟩; dsimp only
  obtain ⟨Ab, cb, rfl, hcb1, hcb2, hRb⟩ := hb.rows
  obtain ⟨Ae, ce, rfl, hce1, hce2, hRe⟩ := he.rows
  have hrd1 : RdSt w1 Ab cb Ae ce s := ⟨hRb, hRe, hcb1, hcb2, hce1, hce2⟩
  have hA2 : Arr (w1.alloc (.cells #[.slice Ab s.blobs.length cb, .slice Ae s.ents.length ce, .int .i64 (s.room : Int), .int .i64 (s.clock : Int)] 26)) w1.heap.size 26 [.slice Ab s.blobs.length cb, .slice Ae s.ents.length ce, .int .i64 (s.room : Int), .int .i64 (s.clock : Int)] := Arr.new w1 26 _
  have hb2 := (Below.refl w1.heap.size w1).alloc (Nat.le_refl _) (.cells #[.slice Ab s.blobs.length cb, .slice Ae s.ents.length ce, .int .i64 (s.room : Int), .int .i64 (s.clock : Int)] 26)
  have hb12 := hb1.trans (hb2.mono hb1.size)
  have hrd2 := hrd1.below hb2
  clear hb he hRb hRe hrd1 hb2 hb1
  repeat' ((fail_if_success at_builtin); (fail_if_success at_make); (first | go_values | go_skip | go_guarded | go_step | go_upon | go_back))
  generalize w1.alloc (.cells #[.slice Ab s.blobs.length cb, .slice Ae s.ents.length ce, .int .i64 (s.room : Int), .int .i64 (s.clock : Int)] 26) = w2 at *
  generalize w1.heap.size = gs at *
  refine ((comes_ok w2)).mono ?_; rintro e_ w4 ⟨rfl, hb4⟩; dsimp only
  have hb14 := hb12.trans (hb4.mono hb12.size)
  have hA4 := hA2.below hb4
  have HRD4 := Lib.hid (hrd2.below hb4)
  have q0 := hA4.cell (k := 0) rfl
  clear hA2 hrd2 hb4 hb12
  by_cases hz : s.blobs.length = 0
  · have e0 : ((s.blobs.length : Int) == 0) = true := by rw [beq_iff_eq]; omega
    have e0' : (s.blobs.length == 0) = true := by rw [beq_iff_eq]; omega
    have HZ := Lib.hid hz
    clear hz
    repeat' ((fail_if_success at_builtin); (fail_if_success at_make); (first | go_values | go_skip | go_guarded | go_step | go_upon | go_back))
    refine ((comes_ok w4)).mono ?_; rintro e_ w5 ⟨rfl, hb5⟩; dsimp only
    repeat' ((fail_if_success at_builtin); (fail_if_success at_make); (first | go_values | go_skip | go_guarded | go_step | go_upon | go_back))
    go_ret
    exact ⟨rfl, hb14.trans (hb5.mono hb14.size)⟩
  have e0 : ((s.blobs.length : Int) == 0) = false := by rw [beq_eq_false_iff_ne]; omega
  have e0' : (s.blobs.length == 0) = false := by rw [beq_eq_false_iff_ne]; omega
  have HPA := Lib.hid (fun w' => Picked_ok a s.blobs.length (s.blobs.length : Int) rfl w' a0 a1 (by omega) (by omega))
  have HPB := Lib.hid (fun w' => Picked_ok m s.blobs.length (s.blobs.length : Int) rfl w' m0 m1 (by omega) (by omega))
  have hpa := pk_lt a (m := s.blobs.length) (by omega)
  have hpb := pk_lt m (m := s.blobs.length) (by omega)
  generalize pk a s.blobs.length = pa at *
  generalize pk m s.blobs.length = pb at *
  have i0 : (0 : Int) ≤ (pa : Int) := by omega
  have i1 : (pa : Int) < (s.blobs.length : Int) := by omega
  have j0 : (0 : Int) ≤ (pb : Int) := by omega
  have j1 : (pb : Int) < (s.blobs.length : Int) := by omega
  obtain ⟨bq, oq, Ba, ca, hAq, hbq, d0, _, _, _, _⟩ := HRD4.out.b.blob_at pa hpa
  obtain ⟨bq', oq', Bb, cc, hAq', _, d0', _, _, _, _⟩ := HRD4.out.b.blob_at pb hpb
  subst hAq
  cases hAq'
  have HIN := Lib.hid (show InB s.blobs s.blobs[pa].dig from ⟨_, List.getElem_mem hpa, rfl⟩)
  obtain ⟨da, hda⟩ : ∃ d, d = s.blobs[pa].dig := ⟨_, rfl⟩
  obtain ⟨db, hdb⟩ : ∃ d, d = s.blobs[pb].dig := ⟨_, rfl⟩
  rw [← hda] at d0 HIN
  rw [← hdb] at d0'
  obtain ⟨sa, hsa⟩ : ∃ x : ByteArray, (⟨da.toArray⟩ : ByteArray) = x := ⟨_, rfl⟩
  obtain ⟨sb, hsb⟩ : ∃ x : ByteArray, (⟨db.toArray⟩ : ByteArray) = x := ⟨_, rfl⟩
  rw [hsa] at d0
  rw [hsb] at d0'
  have HDA := Lib.hid hsa
  have HDB := Lib.hid hsb
  have HSB := Lib.hid (show ∀ w', Below w4.heap.size w4 w' → (w'.cell? ⟨gs, 0, none⟩ = some (.slice (some ⟨bq, oq, none⟩) s.blobs.length cb) ∧ w'.cell? ⟨bq, oq + pa * 4, none⟩ = some (.string sa) ∧ w'.cell? ⟨bq, oq + pb * 4, none⟩ = some (.string sb)) from
    fun w' h => ⟨(hA4.below h).cell (k := 0) rfl, ((bcell h).1 bq _ hbq).trans d0, ((bcell h).1 bq _ hbq).trans d0'⟩)
  clear hsa hsb hda hdb d0 d0' hz hA4 hbq a0 a1 m0 m1
  repeat' ((fail_if_success at_builtin); (fail_if_success at_make); (first | go_values | go_skip | go_guarded | go_step | go_upon | go_back))
  clear q0
  --HELD4
  refine wp_region_held_drew (S := (fun w' => w'.cell? ⟨gs, 0, none⟩ = some (.slice (some ⟨bq, oq, none⟩) s.blobs.length cb) ∧ w'.cell? ⟨bq, oq + pa * 4, none⟩ = some (.string sa) ∧ w'.cell? ⟨bq, oq + pb * 4, none⟩ = some (.string sb))) (by kernel_rfl) ?_ (fun hHeld => ?_)
  · exact HSB.out _ (Below.refl _ w4).drew
  have hB := (Below.refl w4.heap.size w4).drew
  generalize w4.drew = wn0 at *
  refine wpAnyH_take (i := 0) (oi := _) (v := ?_) rfl (by kernel_rfl) (by kernel_rfl) (by kernel_rfl) (fun _ _ _ h => h) (Or.inl ⟨by rfl, ?_⟩) (by assumption) ?_
  rotate_left
  · (intro w hSw; (try dsimp only at hSw); go_simp; try (with_reducible rfl))
  try simp only [List.getElem_toArray, List.getElem_cons_zero, List.getElem_cons_succ, Act.put, List.setIfInBounds_toArray, List.set_cons_zero, List.set_cons_succ]
  refine wpAnyH_take (i := 1) (oi := _) (v := ?_) rfl (by kernel_rfl) (by kernel_rfl) (by kernel_rfl) (fun _ _ _ h => h) (Or.inl ⟨by rfl, ?_⟩) (by assumption) ?_
  rotate_left
  · (intro w hSw; (try dsimp only at hSw); go_simp; try (with_reducible rfl))
  try simp only [List.getElem_toArray, List.getElem_cons_zero, List.getElem_cons_succ, Act.put, List.setIfInBounds_toArray, List.set_cons_zero, List.set_cons_succ]
  refine wpAnyH_take (i := 2) (oi := _) (v := ?_) rfl (by kernel_rfl) (by kernel_rfl) (by kernel_rfl) (fun _ _ _ h => h) (Or.inl ⟨by rfl, ?_⟩) (by assumption) ?_
  rotate_left
  · (intro w hSw; (try dsimp only at hSw); go_simp; try (with_reducible rfl))
  try simp only [List.getElem_toArray, List.getElem_cons_zero, List.getElem_cons_succ, Act.put, List.setIfInBounds_toArray, List.set_cons_zero, List.set_cons_succ]
  refine wpAnyH_take (i := 3) (oi := _) (v := ?_) rfl (by kernel_rfl) (by kernel_rfl) (by kernel_rfl) (fun _ _ _ h => h) (Or.inl ⟨by rfl, ?_⟩) (by assumption) ?_
  rotate_left
  · (intro w hSw; (try dsimp only at hSw); go_simp; try (with_reducible rfl))
  try simp only [List.getElem_toArray, List.getElem_cons_zero, List.getElem_cons_succ, Act.put, List.setIfInBounds_toArray, List.set_cons_zero, List.set_cons_succ]
  refine wpAnyH_take (i := 4) (oi := _) (v := ?_) rfl (by kernel_rfl) (by kernel_rfl) (by kernel_rfl) (fun _ _ _ h => h) (Or.inl ⟨by rfl, ?_⟩) (by assumption) ?_
  rotate_left
  · (intro w hSw; (try dsimp only at hSw); go_simp; try (with_reducible rfl))
  try simp only [List.getElem_toArray, List.getElem_cons_zero, List.getElem_cons_succ, Act.put, List.setIfInBounds_toArray, List.set_cons_zero, List.set_cons_succ]
  refine wpAnyH_take (i := 5) (oi := _) (v := ?_) rfl (by kernel_rfl) (by kernel_rfl) (by kernel_rfl) (fun _ _ _ h => h) (Or.inl ⟨by rfl, ?_⟩) (by assumption) ?_
  rotate_left
  · (intro w hSw; (try dsimp only at hSw); go_simp; try (with_reducible rfl))
  try simp only [List.getElem_toArray, List.getElem_cons_zero, List.getElem_cons_succ, Act.put, List.setIfInBounds_toArray, List.set_cons_zero, List.set_cons_succ]
  refine wpAnyH_take (i := 10) (oi := _) (v := ?_) rfl (by kernel_rfl) (by kernel_rfl) (by kernel_rfl) (fun _ _ _ h => h) (Or.inl ⟨by rfl, ?_⟩) (by assumption) ?_
  rotate_left
  · (intro w hSw; (try dsimp only at hSw); go_simp; try (with_reducible rfl))
  try simp only [List.getElem_toArray, List.getElem_cons_zero, List.getElem_cons_succ, Act.put, List.setIfInBounds_toArray, List.set_cons_zero, List.set_cons_succ]
  refine wpAnyH_take (i := 11) (oi := _) (v := ?_) rfl (by kernel_rfl) (by kernel_rfl) (by kernel_rfl) (fun _ _ _ h => h) (Or.inl ⟨by rfl, ?_⟩) (by assumption) ?_
  rotate_left
  · (intro w hSw; (try dsimp only at hSw); go_simp; try (with_reducible rfl))
  try simp only [List.getElem_toArray, List.getElem_cons_zero, List.getElem_cons_succ, Act.put, List.setIfInBounds_toArray, List.set_cons_zero, List.set_cons_succ]
  refine wpAnyH_take (i := 12) (oi := _) (v := ?_) rfl (by kernel_rfl) (by kernel_rfl) (by kernel_rfl) (fun _ _ _ h => h) (Or.inl ⟨by rfl, ?_⟩) (by assumption) ?_
  rotate_left
  · (intro w hSw; (try dsimp only at hSw); go_simp; try (with_reducible rfl))
  try simp only [List.getElem_toArray, List.getElem_cons_zero, List.getElem_cons_succ, Act.put, List.setIfInBounds_toArray, List.set_cons_zero, List.set_cons_succ]
  refine wpAnyH_take (i := 13) (oi := _) (v := ?_) rfl (by kernel_rfl) (by kernel_rfl) (by kernel_rfl) (fun _ _ _ h => h) (Or.inl ⟨by rfl, ?_⟩) (by assumption) ?_
  rotate_left
  · (intro w hSw; (try dsimp only at hSw); go_simp; try (with_reducible rfl))
  try simp only [List.getElem_toArray, List.getElem_cons_zero, List.getElem_cons_succ, Act.put, List.setIfInBounds_toArray, List.set_cons_zero, List.set_cons_succ]
  refine wpAnyH_take (i := 14) (oi := _) (v := ?_) rfl (by kernel_rfl) (by kernel_rfl) (by kernel_rfl) (fun _ _ _ h => h) (Or.inl ⟨by rfl, ?_⟩) (by assumption) ?_
  rotate_left
  · (intro w hSw; (try dsimp only at hSw); go_simp; try (with_reducible rfl))
  try simp only [List.getElem_toArray, List.getElem_cons_zero, List.getElem_cons_succ, Act.put, List.setIfInBounds_toArray, List.set_cons_zero, List.set_cons_succ]
  refine wpAnyH_take (i := 15) (oi := _) (v := ?_) rfl (by kernel_rfl) (by kernel_rfl) (by kernel_rfl) (fun _ _ _ h => h) (Or.inl ⟨by rfl, ?_⟩) (by assumption) ?_
  rotate_left
  · (intro w hSw; (try dsimp only at hSw); go_simp; try (with_reducible rfl))
  try simp only [List.getElem_toArray, List.getElem_cons_zero, List.getElem_cons_succ, Act.put, List.setIfInBounds_toArray, List.set_cons_zero, List.set_cons_succ]
  refine wpAnyH_ready (rs := [6]) (by kernel_rfl) (by simp) ?_
  refine AllReadyH.cons (o := _) rfl (fun K hK => ?_) ?_
  ·
    go_simp
    refine (HPA.out wn0).mono ?_
    rintro e6 wp6 ⟨rfl, rfl⟩
    dsimp only
    refine outG hK ?_ (Below wn0.heap.size wn0) (fun W => True) ?_ ?_ (fun wn1 hHeld hst hnew => ?_)
    · (exact hHeld)
    · (exact Below.refl _ _)
    · (trivial)
    have hB := hB.trans (hst.mono hB.size)
    clear hst
    clear hK K
    try simp only [List.getElem_toArray, List.getElem_cons_zero, List.getElem_cons_succ, Act.put, List.setIfInBounds_toArray, List.set_cons_zero, List.set_cons_succ]
    refine wpAnyH_take (i := 7) (oi := _) (v := ?_) rfl (by kernel_rfl) (by kernel_rfl) (by kernel_rfl) (fun _ _ _ h => h) (Or.inl ⟨by rfl, ?_⟩) (by assumption) ?_
    rotate_left
    · (intro w hSw; (try dsimp only at hSw); go_simp; try (with_reducible rfl))
    try simp only [List.getElem_toArray, List.getElem_cons_zero, List.getElem_cons_succ, Act.put, List.setIfInBounds_toArray, List.set_cons_zero, List.set_cons_succ]
    refine wpAnyH_take (i := 8) (oi := _) (v := ?_) rfl (by kernel_rfl) (by kernel_rfl) (by kernel_rfl) (fun _ _ _ h => h) (Or.inl ⟨by rfl, ?_⟩) (by assumption) ?_
    rotate_left
    · (intro w hSw; (try dsimp only at hSw); go_simp; try (with_reducible rfl))
    try simp only [List.getElem_toArray, List.getElem_cons_zero, List.getElem_cons_succ, Act.put, List.setIfInBounds_toArray, List.set_cons_zero, List.set_cons_succ]
    refine wpAnyH_take (i := 9) (oi := _) (v := ?_) rfl (by kernel_rfl) (by kernel_rfl) (by kernel_rfl) (fun _ _ _ h => h) (Or.inl ⟨by rfl, ?_⟩) (by assumption) ?_
    rotate_left
    · (intro w hSw; (try dsimp only at hSw); go_simp; try (with_reducible rfl))
    try simp only [List.getElem_toArray, List.getElem_cons_zero, List.getElem_cons_succ, Act.put, List.setIfInBounds_toArray, List.set_cons_zero, List.set_cons_succ]
    refine wpAnyH_ready (rs := [16]) (by kernel_rfl) (by simp) ?_
    refine AllReadyH.cons (o := _) rfl (fun K hK => ?_) ?_
    ·
      go_simp
      refine (HPB.out wn1).mono ?_
      rintro e6 wp6 ⟨rfl, rfl⟩
      dsimp only
      refine outG hK ?_ (Below wn1.heap.size wn1) (fun W => True) ?_ ?_ (fun wn2 hHeld hst hnew => ?_)
      · (exact hHeld)
      · (exact Below.refl _ _)
      · (trivial)
      have hB := hB.trans (hst.mono hB.size)
      clear hst
      clear hK K
      try simp only [List.getElem_toArray, List.getElem_cons_zero, List.getElem_cons_succ, Act.put, List.setIfInBounds_toArray, List.set_cons_zero, List.set_cons_succ]
      refine wpAnyH_take (i := 17) (oi := _) (v := ?_) rfl (by kernel_rfl) (by kernel_rfl) (by kernel_rfl) (fun _ _ _ h => h) (Or.inl ⟨by rfl, ?_⟩) (by assumption) ?_
      rotate_left
      · (intro w hSw; (try dsimp only at hSw); go_simp; try (with_reducible rfl))
      try simp only [List.getElem_toArray, List.getElem_cons_zero, List.getElem_cons_succ, Act.put, List.setIfInBounds_toArray, List.set_cons_zero, List.set_cons_succ]
      refine wpAnyH_take (i := 18) (oi := _) (v := ?_) rfl (by kernel_rfl) (by kernel_rfl) (by kernel_rfl) (fun _ _ _ h => h) (Or.inl ⟨by rfl, ?_⟩) (by assumption) ?_
      rotate_left
      · (intro w hSw; (try dsimp only at hSw); go_simp; try (with_reducible rfl))
      try simp only [List.getElem_toArray, List.getElem_cons_zero, List.getElem_cons_succ, Act.put, List.setIfInBounds_toArray, List.set_cons_zero, List.set_cons_succ]
      refine wpAnyH_take (i := 19) (oi := _) (v := ?_) rfl (by kernel_rfl) (by kernel_rfl) (by kernel_rfl) (fun _ _ _ h => h) (Or.inl ⟨by rfl, ?_⟩) (by assumption) ?_
      rotate_left
      · (intro w hSw; (try dsimp only at hSw); go_simp; try (with_reducible rfl))
      try simp only [List.getElem_toArray, List.getElem_cons_zero, List.getElem_cons_succ, Act.put, List.setIfInBounds_toArray, List.set_cons_zero, List.set_cons_succ]
      refine wpAnyH_take (i := 20) (oi := _) (v := ?_) rfl (by kernel_rfl) (by kernel_rfl) (by kernel_rfl) (fun _ _ _ h => h) (Or.inl ⟨by rfl, ?_⟩) (by assumption) ?_
      rotate_left
      · (intro w hSw; (try dsimp only at hSw); go_simp; try (with_reducible rfl))
      try simp only [List.getElem_toArray, List.getElem_cons_zero, List.getElem_cons_succ, Act.put, List.setIfInBounds_toArray, List.set_cons_zero, List.set_cons_succ]
      refine wpAnyH_take (i := 21) (oi := _) (v := ?_) rfl (by kernel_rfl) (by kernel_rfl) (by kernel_rfl) (fun _ _ _ h => h) (Or.inl ⟨by rfl, ?_⟩) (by assumption) ?_
      rotate_left
      · (intro w hSw; (try dsimp only at hSw); go_simp; try (with_reducible rfl))
      try simp only [List.getElem_toArray, List.getElem_cons_zero, List.getElem_cons_succ, Act.put, List.setIfInBounds_toArray, List.set_cons_zero, List.set_cons_succ]
      refine wpAnyH_done (by kernel_rfl) ?_ _
      try dsimp only [Exit.then]
      clear hHeld
      generalize wn2 = w5 at *
      have HB5 := Lib.hid (hb14.trans (hB.mono hb14.size))
      have HRD5 := Lib.hid (HRD4.out.below hB)
      have HSC := Lib.hid (show ∀ w', Below w5.heap.size w5 w' → w'.cell? ⟨gs, 0, none⟩ = some (.slice (some ⟨bq, oq, none⟩) s.blobs.length cb) from fun w' h => (HSB.out w' (hB.trans (h.mono hB.size))).1)
      have HSA := Lib.hid (show [Value.string sa] = strs [da] from by rw [← HDA.out]; rfl)
      have HSBB := Lib.hid (show [Value.string sb] = strs [db] from by rw [← HDB.out]; rfl)
      have HSAB := Lib.hid (show [Value.string sa, Value.string sb] = strs [da, db] from by rw [← HDA.out, ← HDB.out]; rfl)
      clear hB hb14
      repeat' ((fail_if_success at_builtin); (fail_if_success at_make); (first | go_values | go_skip | go_guarded | go_step | go_upon | go_back))
      apply share_g
      intro REST
      refine wp_region_held_drew (S := (fun w' => w'.cell? ⟨gs, 0, none⟩ = some (.slice (some ⟨bq, oq, none⟩) s.blobs.length cb))) (by kernel_rfl) ?_ (fun hHeld => ?_)
      · exact HSC.out _ (Below.refl _ w5).drew
      have hB := (Below.refl w5.heap.size w5).drew
      generalize w5.drew = wn0 at *
      refine wpAnyH_take (i := 0) (oi := _) (v := ?_) rfl (by kernel_rfl) (by kernel_rfl) (by kernel_rfl) (fun _ _ _ h => h) (Or.inl ⟨by rfl, ?_⟩) (by assumption) ?_
      rotate_left
      · (intro w hSw; (try dsimp only at hSw); go_simp; try (with_reducible rfl))
      try simp only [List.getElem_toArray, List.getElem_cons_zero, List.getElem_cons_succ, Act.put, List.setIfInBounds_toArray, List.set_cons_zero, List.set_cons_succ]
      refine wpAnyH_take (i := 1) (oi := _) (v := ?_) rfl (by kernel_rfl) (by kernel_rfl) (by kernel_rfl) (fun _ _ _ h => h) (Or.inl ⟨by rfl, ?_⟩) (by assumption) ?_
      rotate_left
      · (intro w hSw; (try dsimp only at hSw); go_simp; try (with_reducible rfl))
      try simp only [List.getElem_toArray, List.getElem_cons_zero, List.getElem_cons_succ, Act.put, List.setIfInBounds_toArray, List.set_cons_zero, List.set_cons_succ]
      refine wpAnyH_take (i := 2) (oi := _) (v := ?_) rfl (by kernel_rfl) (by kernel_rfl) (by kernel_rfl) (fun _ _ _ h => h) (Or.inl ⟨by rfl, ?_⟩) (by assumption) ?_
      rotate_left
      · (intro w hSw; (try dsimp only at hSw); go_simp; try (with_reducible rfl))
      try simp only [List.getElem_toArray, List.getElem_cons_zero, List.getElem_cons_succ, Act.put, List.setIfInBounds_toArray, List.set_cons_zero, List.set_cons_succ]
      refine wpAnyH_take (i := 5) (oi := _) (v := ?_) rfl (by kernel_rfl) (by kernel_rfl) (by kernel_rfl) (fun _ _ _ h => h) (Or.inl ⟨by rfl, ?_⟩) (by assumption) ?_
      rotate_left
      · (intro w hSw; (try dsimp only at hSw); go_simp; try (with_reducible rfl))
      try simp only [List.getElem_toArray, List.getElem_cons_zero, List.getElem_cons_succ, Act.put, List.setIfInBounds_toArray, List.set_cons_zero, List.set_cons_succ]
      refine wpAnyH_take (i := 6) (oi := _) (v := ?_) rfl (by kernel_rfl) (by kernel_rfl) (by kernel_rfl) (fun _ _ _ h => h) (Or.inl ⟨by rfl, ?_⟩) (by assumption) ?_
      rotate_left
      · (intro w hSw; (try dsimp only at hSw); go_simp; try (with_reducible rfl))
      try simp only [List.getElem_toArray, List.getElem_cons_zero, List.getElem_cons_succ, Act.put, List.setIfInBounds_toArray, List.set_cons_zero, List.set_cons_succ]
      refine wpAnyH_take (i := 7) (oi := _) (v := ?_) rfl (by kernel_rfl) (by kernel_rfl) (by kernel_rfl) (fun _ _ _ h => h) (Or.inl ⟨by rfl, ?_⟩) (by assumption) ?_
      rotate_left
      · (intro w hSw; (try dsimp only at hSw); go_simp; try (with_reducible rfl))
      try simp only [List.getElem_toArray, List.getElem_cons_zero, List.getElem_cons_succ, Act.put, List.setIfInBounds_toArray, List.set_cons_zero, List.set_cons_succ]
      refine wpAnyH_take (i := 10) (oi := _) (v := ?_) rfl (by kernel_rfl) (by kernel_rfl) (by kernel_rfl) (fun _ _ _ h => h) (Or.inl ⟨by rfl, ?_⟩) (by assumption) ?_
      rotate_left
      · (intro w hSw; (try dsimp only at hSw); go_simp; try (with_reducible rfl))
      try simp only [List.getElem_toArray, List.getElem_cons_zero, List.getElem_cons_succ, Act.put, List.setIfInBounds_toArray, List.set_cons_zero, List.set_cons_succ]
      refine wpAnyH_take (i := 11) (oi := _) (v := ?_) rfl (by kernel_rfl) (by kernel_rfl) (by kernel_rfl) (fun _ _ _ h => h) (Or.inl ⟨by rfl, ?_⟩) (by assumption) ?_
      rotate_left
      · (intro w hSw; (try dsimp only at hSw); go_simp; try (with_reducible rfl))
      try simp only [List.getElem_toArray, List.getElem_cons_zero, List.getElem_cons_succ, Act.put, List.setIfInBounds_toArray, List.set_cons_zero, List.set_cons_succ]
      refine wpAnyH_take (i := 12) (oi := _) (v := ?_) rfl (by kernel_rfl) (by kernel_rfl) (by kernel_rfl) (fun _ _ _ h => h) (Or.inl ⟨by rfl, ?_⟩) (by assumption) ?_
      rotate_left
      · (intro w hSw; (try dsimp only at hSw); go_simp; try (with_reducible rfl))
      try simp only [List.getElem_toArray, List.getElem_cons_zero, List.getElem_cons_succ, Act.put, List.setIfInBounds_toArray, List.set_cons_zero, List.set_cons_succ]
      refine wpAnyH_take (i := 13) (oi := _) (v := ?_) rfl (by kernel_rfl) (by kernel_rfl) (by kernel_rfl) (fun _ _ _ h => h) (Or.inl ⟨by rfl, ?_⟩) (by assumption) ?_
      rotate_left
      · (intro w hSw; (try dsimp only at hSw); go_simp; try (with_reducible rfl))
      try simp only [List.getElem_toArray, List.getElem_cons_zero, List.getElem_cons_succ, Act.put, List.setIfInBounds_toArray, List.set_cons_zero, List.set_cons_succ]
      refine wpAnyH_ready (rs := [3, 8, 14]) (by kernel_rfl) (by simp) ?_
      refine AllReadyH.cons (o := _) rfl (fun K hK => ?_) ?_
      ·
        go_simp
        refine outG hK ?_ (Below wn0.heap.size wn0) (fun W => Rd W 1 (some ⟨wn0.heap.size, 0, none⟩) 1 (strs [da])) ?_ ?_ (fun wn1 hHeld hst hnew => ?_)
        · (exact HSC.out _ (hB.trans (Below.mono (show Below wn0.heap.size wn0 _ from by (first | exact (Below.refl _ _).alloc (Nat.le_refl _) _ | exact hb5 | exact Below.refl _ _)) hB.size)))
        · (first | exact (Below.refl _ _).alloc (Nat.le_refl _) _ | exact hb5 | exact Below.refl _ _)
        · (rw [← HSA.out]; exact Rd.newN [.string sa] rfl)
        have hB := hB.trans (hst.mono hB.size)
        obtain ⟨ga, hga⟩ : ∃ g, g = wn0.heap.size := ⟨_, rfl⟩
        rw [← hga] at hnew ⊢
        clear hga
        have h3 := hnew
        clear hst
        clear hK K
        try simp only [List.getElem_toArray, List.getElem_cons_zero, List.getElem_cons_succ, Act.put, List.setIfInBounds_toArray, List.set_cons_zero, List.set_cons_succ]
        refine wpAnyH_ready (rs := [4, 8, 14]) (by kernel_rfl) (by simp) ?_
        refine AllReadyH.cons (o := _) rfl (fun K hK => ?_) ?_
        ·
          go_simp
          refine (From_ok (some ⟨bq, oq, none⟩) (some ⟨ga, 0, none⟩) cb 1 s.blobs [da] wn1 (by omega) HRD5.out.bc HRD5.out.bm HGS.out.rts.g (HRD5.out.b.below hB) (by simp) h3).mono ?_
          rintro e5 w6 ⟨v5, L1, rfl, hL5, hl1, ho5, hb5⟩
          obtain ⟨A1, c1, rfl, hc1, _⟩ := Rd.of_own' ho5
          have HL1 := Lib.hid hL5
          clear hL5
          dsimp only
          refine outG hK ?_ (Below wn1.heap.size wn1) (fun W => W.ownsRow w5.heap.size 9 1 (.slice A1 L1.length c1) L1.length (strs L1)) ?_ ?_ (fun wn2 hHeld hst hnew => ?_)
          · (exact HSC.out _ (hB.trans (Below.mono (show Below wn1.heap.size wn1 _ from by (first | exact (Below.refl _ _).alloc (Nat.le_refl _) _ | exact hb5 | exact Below.refl _ _)) hB.size)))
          · (first | exact (Below.refl _ _).alloc (Nat.le_refl _) _ | exact hb5 | exact Below.refl _ _)
          · (exact own_lower ho5 hB.size)
          have hB := hB.trans (hst.mono hB.size)
          have k1 := hnew
          clear hst
          clear hK K
          try simp only [List.getElem_toArray, List.getElem_cons_zero, List.getElem_cons_succ, Act.put, List.setIfInBounds_toArray, List.set_cons_zero, List.set_cons_succ]
          refine wpAnyH_ready (rs := [8, 14]) (by kernel_rfl) (by simp) ?_
          refine AllReadyH.cons (o := _) rfl (fun K hK => ?_) ?_
          ·
            go_simp
            refine outG hK ?_ (Below wn2.heap.size wn2) (fun W => Rd W 1 (some ⟨wn2.heap.size, 0, none⟩) 1 (strs [db])) ?_ ?_ (fun wn3 hHeld hst hnew => ?_)
            · (exact HSC.out _ (hB.trans (Below.mono (show Below wn2.heap.size wn2 _ from by (first | exact (Below.refl _ _).alloc (Nat.le_refl _) _ | exact hb5 | exact Below.refl _ _)) hB.size)))
            · (first | exact (Below.refl _ _).alloc (Nat.le_refl _) _ | exact hb5 | exact Below.refl _ _)
            · (rw [← HSBB.out]; exact Rd.newN [.string sb] rfl)
            have hB := hB.trans (hst.mono hB.size)
            have k1 := own_below k1 hst
            obtain ⟨gb, hgb⟩ : ∃ g, g = wn2.heap.size := ⟨_, rfl⟩
            rw [← hgb] at hnew ⊢
            clear hgb
            have h8 := hnew
            clear hst
            clear hK K
            try simp only [List.getElem_toArray, List.getElem_cons_zero, List.getElem_cons_succ, Act.put, List.setIfInBounds_toArray, List.set_cons_zero, List.set_cons_succ]
            refine wpAnyH_ready (rs := [9, 14]) (by kernel_rfl) (by simp) ?_
            refine AllReadyH.cons (o := _) rfl (fun K hK => ?_) ?_
            ·
              go_simp
              refine (From_ok (some ⟨bq, oq, none⟩) (some ⟨gb, 0, none⟩) cb 1 s.blobs [db] wn3 (by omega) HRD5.out.bc HRD5.out.bm HGS.out.rts.g (HRD5.out.b.below hB) (by simp) h8).mono ?_
              rintro e5 w6 ⟨v5, L2, rfl, hL5, hl2, ho5, hb5⟩
              obtain ⟨A2, c2, rfl, hc2, _⟩ := Rd.of_own' ho5
              have HL2 := Lib.hid hL5
              clear hL5
              dsimp only
              refine outG hK ?_ (Below wn3.heap.size wn3) (fun W => W.ownsRow w5.heap.size 9 1 (.slice A2 L2.length c2) L2.length (strs L2)) ?_ ?_ (fun wn4 hHeld hst hnew => ?_)
              · (exact HSC.out _ (hB.trans (Below.mono (show Below wn3.heap.size wn3 _ from by (first | exact (Below.refl _ _).alloc (Nat.le_refl _) _ | exact hb5 | exact Below.refl _ _)) hB.size)))
              · (first | exact (Below.refl _ _).alloc (Nat.le_refl _) _ | exact hb5 | exact Below.refl _ _)
              · (exact own_lower ho5 hB.size)
              have hB := hB.trans (hst.mono hB.size)
              have k1 := own_below k1 hst
              have k2 := hnew
              clear hst
              clear hK K
              try simp only [List.getElem_toArray, List.getElem_cons_zero, List.getElem_cons_succ, Act.put, List.setIfInBounds_toArray, List.set_cons_zero, List.set_cons_succ]
              refine wpAnyH_ready (rs := [14]) (by kernel_rfl) (by simp) ?_
              refine AllReadyH.cons (o := _) rfl (fun K hK => ?_) ?_
              ·
                go_simp
                refine outG hK ?_ (Below wn4.heap.size wn4) (fun W => Rd W 1 (some ⟨wn4.heap.size, 0, none⟩) 2 (strs [da, db])) ?_ ?_ (fun wn5 hHeld hst hnew => ?_)
                · (exact HSC.out _ (hB.trans (Below.mono (show Below wn4.heap.size wn4 _ from by (first | exact (Below.refl _ _).alloc (Nat.le_refl _) _ | exact hb5 | exact Below.refl _ _)) hB.size)))
                · (first | exact (Below.refl _ _).alloc (Nat.le_refl _) _ | exact hb5 | exact Below.refl _ _)
                · (rw [← HSAB.out]; exact Rd.newN [.string sa, .string sb] rfl)
                have hB := hB.trans (hst.mono hB.size)
                have k1 := own_below k1 hst
                have k2 := own_below k2 hst
                obtain ⟨gc, hgc⟩ : ∃ g, g = wn4.heap.size := ⟨_, rfl⟩
                rw [← hgc] at hnew ⊢
                clear hgc
                have h14 := hnew
                clear hst
                clear hK K
                try simp only [List.getElem_toArray, List.getElem_cons_zero, List.getElem_cons_succ, Act.put, List.setIfInBounds_toArray, List.set_cons_zero, List.set_cons_succ]
                refine wpAnyH_ready (rs := [15]) (by kernel_rfl) (by simp) ?_
                refine AllReadyH.cons (o := _) rfl (fun K hK => ?_) ?_
                ·
                  go_simp
                  refine (From_ok (some ⟨bq, oq, none⟩) (some ⟨gc, 0, none⟩) cb 2 s.blobs [da, db] wn5 (by omega) HRD5.out.bc HRD5.out.bm HGS.out.rts.g (HRD5.out.b.below hB) (by simp) h14).mono ?_
                  rintro e5 w6 ⟨v5, L3, rfl, hL5, hl3, ho5, hb5⟩
                  obtain ⟨A3, c3, rfl, hc3, _⟩ := Rd.of_own' ho5
                  have HL3 := Lib.hid hL5
                  clear hL5
                  dsimp only
                  refine outG hK ?_ (Below wn5.heap.size wn5) (fun W => W.ownsRow w5.heap.size 9 1 (.slice A3 L3.length c3) L3.length (strs L3)) ?_ ?_ (fun wn6 hHeld hst hnew => ?_)
                  · (exact HSC.out _ (hB.trans (Below.mono (show Below wn5.heap.size wn5 _ from by (first | exact (Below.refl _ _).alloc (Nat.le_refl _) _ | exact hb5 | exact Below.refl _ _)) hB.size)))
                  · (first | exact (Below.refl _ _).alloc (Nat.le_refl _) _ | exact hb5 | exact Below.refl _ _)
                  · (exact own_lower ho5 hB.size)
                  have hB := hB.trans (hst.mono hB.size)
                  have k1 := own_below k1 hst
                  have k2 := own_below k2 hst
                  have k3 := hnew
                  clear hst
                  clear hK K
                  try simp only [List.getElem_toArray, List.getElem_cons_zero, List.getElem_cons_succ, Act.put, List.setIfInBounds_toArray, List.set_cons_zero, List.set_cons_succ]
                  refine wpAnyH_take (i := 16) (oi := _) (v := ?_) rfl (by kernel_rfl) (by kernel_rfl) (by kernel_rfl) (fun _ _ _ h => h) (Or.inl ⟨by rfl, ?_⟩) (by assumption) ?_
                  rotate_left
                  · (intro w hSw; (try dsimp only at hSw); go_simp; try (with_reducible rfl))
                  try simp only [List.getElem_toArray, List.getElem_cons_zero, List.getElem_cons_succ, Act.put, List.setIfInBounds_toArray, List.set_cons_zero, List.set_cons_succ]
                  refine wpAnyH_take (i := 17) (oi := _) (v := ?_) rfl (by kernel_rfl) (by kernel_rfl) (by kernel_rfl) (fun _ _ _ h => h) (Or.inl ⟨by rfl, ?_⟩) (by assumption) ?_
                  rotate_left
                  · (intro w hSw; (try dsimp only at hSw); go_simp; try (with_reducible rfl))
                  try simp only [List.getElem_toArray, List.getElem_cons_zero, List.getElem_cons_succ, Act.put, List.setIfInBounds_toArray, List.set_cons_zero, List.set_cons_succ]
                  refine wpAnyH_take (i := 18) (oi := _) (v := ?_) rfl (by kernel_rfl) (by kernel_rfl) (by kernel_rfl) (fun _ _ _ h => h) (Or.inl ⟨by rfl, ?_⟩) (by assumption) ?_
                  rotate_left
                  · (intro w hSw; (try dsimp only at hSw); go_simp; try (with_reducible rfl))
                  try simp only [List.getElem_toArray, List.getElem_cons_zero, List.getElem_cons_succ, Act.put, List.setIfInBounds_toArray, List.set_cons_zero, List.set_cons_succ]
                  refine wpAnyH_done (by kernel_rfl) ?_ _
                  try dsimp only [Exit.then]
                  clear hHeld
                  have hall := And.intro hB (And.intro k1 (And.intro k2 (And.intro k3 (And.intro (And.intro HL1 (And.intro HL2 HL3)) (And.intro (And.intro hl1 (And.intro hl2 hl3)) (And.intro hc1 (And.intro hc2 hc3)))))))
                  clear hB k1 k2 k3 HL1 HL2 HL3 hl1 hl2 hl3 hc1 hc2 hc3
                  try clear h3
                  try clear h8
                  try clear h14
                  generalize wn6 = wz at hall ⊢
                  generalize ga = ya at hall ⊢
                  generalize gb = yb at hall ⊢
                  generalize gc = yc at hall ⊢
                  generalize A1 = B1 at hall ⊢
                  generalize c1 = e1 at hall ⊢
                  generalize A2 = B2 at hall ⊢
                  generalize c2 = e2 at hall ⊢
                  generalize A3 = B3 at hall ⊢
                  generalize c3 = e3 at hall ⊢
                  generalize L1 = M1 at hall ⊢
                  generalize L2 = M2 at hall ⊢
                  generalize L3 = M3 at hall ⊢
                  revert wz ya yb yc B1 e1 B2 e2 B3 e3 M1 M2 M3
                  exact REST.out
                exact AllReadyH.nil
              exact AllReadyH.nil
            refine AllReadyH.cons (o := _) rfl (fun K hK => ?_) ?_
            ·
              go_simp
              refine outG hK ?_ (Below wn3.heap.size wn3) (fun W => Rd W 1 (some ⟨wn3.heap.size, 0, none⟩) 2 (strs [da, db])) ?_ ?_ (fun wn7 hHeld hst hnew => ?_)
              · (exact HSC.out _ (hB.trans (Below.mono (show Below wn3.heap.size wn3 _ from by (first | exact (Below.refl _ _).alloc (Nat.le_refl _) _ | exact hb5 | exact Below.refl _ _)) hB.size)))
              · (first | exact (Below.refl _ _).alloc (Nat.le_refl _) _ | exact hb5 | exact Below.refl _ _)
              · (rw [← HSAB.out]; exact Rd.newN [.string sa, .string sb] rfl)
              have hB := hB.trans (hst.mono hB.size)
              have h8 := h8.below hst
              have k1 := own_below k1 hst
              obtain ⟨gc, hgc⟩ : ∃ g, g = wn3.heap.size := ⟨_, rfl⟩
              rw [← hgc] at hnew ⊢
              clear hgc
              have h14 := hnew
              clear hst
              clear hK K
              try simp only [List.getElem_toArray, List.getElem_cons_zero, List.getElem_cons_succ, Act.put, List.setIfInBounds_toArray, List.set_cons_zero, List.set_cons_succ]
              refine wpAnyH_ready (rs := [9]) (by kernel_rfl) (by simp) ?_
              refine AllReadyH.cons (o := _) rfl (fun K hK => ?_) ?_
              ·
                go_simp
                refine (From_ok (some ⟨bq, oq, none⟩) (some ⟨gb, 0, none⟩) cb 1 s.blobs [db] wn7 (by omega) HRD5.out.bc HRD5.out.bm HGS.out.rts.g (HRD5.out.b.below hB) (by simp) h8).mono ?_
                rintro e5 w6 ⟨v5, L2, rfl, hL5, hl2, ho5, hb5⟩
                obtain ⟨A2, c2, rfl, hc2, _⟩ := Rd.of_own' ho5
                have HL2 := Lib.hid hL5
                clear hL5
                dsimp only
                refine outG hK ?_ (Below wn7.heap.size wn7) (fun W => W.ownsRow w5.heap.size 9 1 (.slice A2 L2.length c2) L2.length (strs L2)) ?_ ?_ (fun wn8 hHeld hst hnew => ?_)
                · (exact HSC.out _ (hB.trans (Below.mono (show Below wn7.heap.size wn7 _ from by (first | exact (Below.refl _ _).alloc (Nat.le_refl _) _ | exact hb5 | exact Below.refl _ _)) hB.size)))
                · (first | exact (Below.refl _ _).alloc (Nat.le_refl _) _ | exact hb5 | exact Below.refl _ _)
                · (exact own_lower ho5 hB.size)
                have hB := hB.trans (hst.mono hB.size)
                have h14 := h14.below hst
                have k1 := own_below k1 hst
                have k2 := hnew
                clear hst
                clear hK K
                try simp only [List.getElem_toArray, List.getElem_cons_zero, List.getElem_cons_succ, Act.put, List.setIfInBounds_toArray, List.set_cons_zero, List.set_cons_succ]
                refine wpAnyH_ready (rs := [15]) (by kernel_rfl) (by simp) ?_
                refine AllReadyH.cons (o := _) rfl (fun K hK => ?_) ?_
                ·
                  go_simp
                  refine (From_ok (some ⟨bq, oq, none⟩) (some ⟨gc, 0, none⟩) cb 2 s.blobs [da, db] wn8 (by omega) HRD5.out.bc HRD5.out.bm HGS.out.rts.g (HRD5.out.b.below hB) (by simp) h14).mono ?_
                  rintro e5 w6 ⟨v5, L3, rfl, hL5, hl3, ho5, hb5⟩
                  obtain ⟨A3, c3, rfl, hc3, _⟩ := Rd.of_own' ho5
                  have HL3 := Lib.hid hL5
                  clear hL5
                  dsimp only
                  refine outG hK ?_ (Below wn8.heap.size wn8) (fun W => W.ownsRow w5.heap.size 9 1 (.slice A3 L3.length c3) L3.length (strs L3)) ?_ ?_ (fun wn9 hHeld hst hnew => ?_)
                  · (exact HSC.out _ (hB.trans (Below.mono (show Below wn8.heap.size wn8 _ from by (first | exact (Below.refl _ _).alloc (Nat.le_refl _) _ | exact hb5 | exact Below.refl _ _)) hB.size)))
                  · (first | exact (Below.refl _ _).alloc (Nat.le_refl _) _ | exact hb5 | exact Below.refl _ _)
                  · (exact own_lower ho5 hB.size)
                  have hB := hB.trans (hst.mono hB.size)
                  have k1 := own_below k1 hst
                  have k2 := own_below k2 hst
                  have k3 := hnew
                  clear hst
                  clear hK K
                  try simp only [List.getElem_toArray, List.getElem_cons_zero, List.getElem_cons_succ, Act.put, List.setIfInBounds_toArray, List.set_cons_zero, List.set_cons_succ]
                  refine wpAnyH_take (i := 16) (oi := _) (v := ?_) rfl (by kernel_rfl) (by kernel_rfl) (by kernel_rfl) (fun _ _ _ h => h) (Or.inl ⟨by rfl, ?_⟩) (by assumption) ?_
                  rotate_left
                  · (intro w hSw; (try dsimp only at hSw); go_simp; try (with_reducible rfl))
                  try simp only [List.getElem_toArray, List.getElem_cons_zero, List.getElem_cons_succ, Act.put, List.setIfInBounds_toArray, List.set_cons_zero, List.set_cons_succ]
                  refine wpAnyH_take (i := 17) (oi := _) (v := ?_) rfl (by kernel_rfl) (by kernel_rfl) (by kernel_rfl) (fun _ _ _ h => h) (Or.inl ⟨by rfl, ?_⟩) (by assumption) ?_
                  rotate_left
                  · (intro w hSw; (try dsimp only at hSw); go_simp; try (with_reducible rfl))
                  try simp only [List.getElem_toArray, List.getElem_cons_zero, List.getElem_cons_succ, Act.put, List.setIfInBounds_toArray, List.set_cons_zero, List.set_cons_succ]
                  refine wpAnyH_take (i := 18) (oi := _) (v := ?_) rfl (by kernel_rfl) (by kernel_rfl) (by kernel_rfl) (fun _ _ _ h => h) (Or.inl ⟨by rfl, ?_⟩) (by assumption) ?_
                  rotate_left
                  · (intro w hSw; (try dsimp only at hSw); go_simp; try (with_reducible rfl))
                  try simp only [List.getElem_toArray, List.getElem_cons_zero, List.getElem_cons_succ, Act.put, List.setIfInBounds_toArray, List.set_cons_zero, List.set_cons_succ]
                  refine wpAnyH_done (by kernel_rfl) ?_ _
                  try dsimp only [Exit.then]
                  clear hHeld
                  have hall := And.intro hB (And.intro k1 (And.intro k2 (And.intro k3 (And.intro (And.intro HL1 (And.intro HL2 HL3)) (And.intro (And.intro hl1 (And.intro hl2 hl3)) (And.intro hc1 (And.intro hc2 hc3)))))))
                  clear hB k1 k2 k3 HL1 HL2 HL3 hl1 hl2 hl3 hc1 hc2 hc3
                  try clear h3
                  try clear h8
                  try clear h14
                  generalize wn9 = wz at hall ⊢
                  generalize ga = ya at hall ⊢
                  generalize gb = yb at hall ⊢
                  generalize gc = yc at hall ⊢
                  generalize A1 = B1 at hall ⊢
                  generalize c1 = e1 at hall ⊢
                  generalize A2 = B2 at hall ⊢
                  generalize c2 = e2 at hall ⊢
                  generalize A3 = B3 at hall ⊢
                  generalize c3 = e3 at hall ⊢
                  generalize L1 = M1 at hall ⊢
                  generalize L2 = M2 at hall ⊢
                  generalize L3 = M3 at hall ⊢
                  revert wz ya yb yc B1 e1 B2 e2 B3 e3 M1 M2 M3
                  exact REST.out
                exact AllReadyH.nil
              exact AllReadyH.nil
            exact AllReadyH.nil
          refine AllReadyH.cons (o := _) rfl (fun K hK => ?_) ?_
          ·
            go_simp
            refine outG hK ?_ (Below wn2.heap.size wn2) (fun W => Rd W 1 (some ⟨wn2.heap.size, 0, none⟩) 2 (strs [da, db])) ?_ ?_ (fun wn10 hHeld hst hnew => ?_)
            · (exact HSC.out _ (hB.trans (Below.mono (show Below wn2.heap.size wn2 _ from by (first | exact (Below.refl _ _).alloc (Nat.le_refl _) _ | exact hb5 | exact Below.refl _ _)) hB.size)))
            · (first | exact (Below.refl _ _).alloc (Nat.le_refl _) _ | exact hb5 | exact Below.refl _ _)
            · (rw [← HSAB.out]; exact Rd.newN [.string sa, .string sb] rfl)
            have hB := hB.trans (hst.mono hB.size)
            have k1 := own_below k1 hst
            obtain ⟨gc, hgc⟩ : ∃ g, g = wn2.heap.size := ⟨_, rfl⟩
            rw [← hgc] at hnew ⊢
            clear hgc
            have h14 := hnew
            clear hst
            clear hK K
            try simp only [List.getElem_toArray, List.getElem_cons_zero, List.getElem_cons_succ, Act.put, List.setIfInBounds_toArray, List.set_cons_zero, List.set_cons_succ]
            refine wpAnyH_ready (rs := [8]) (by kernel_rfl) (by simp) ?_
            refine AllReadyH.cons (o := _) rfl (fun K hK => ?_) ?_
            ·
              go_simp
              refine outG hK ?_ (Below wn10.heap.size wn10) (fun W => Rd W 1 (some ⟨wn10.heap.size, 0, none⟩) 1 (strs [db])) ?_ ?_ (fun wn11 hHeld hst hnew => ?_)
              · (exact HSC.out _ (hB.trans (Below.mono (show Below wn10.heap.size wn10 _ from by (first | exact (Below.refl _ _).alloc (Nat.le_refl _) _ | exact hb5 | exact Below.refl _ _)) hB.size)))
              · (first | exact (Below.refl _ _).alloc (Nat.le_refl _) _ | exact hb5 | exact Below.refl _ _)
              · (rw [← HSBB.out]; exact Rd.newN [.string sb] rfl)
              have hB := hB.trans (hst.mono hB.size)
              have h14 := h14.below hst
              have k1 := own_below k1 hst
              obtain ⟨gb, hgb⟩ : ∃ g, g = wn10.heap.size := ⟨_, rfl⟩
              rw [← hgb] at hnew ⊢
              clear hgb
              have h8 := hnew
              clear hst
              clear hK K
              try simp only [List.getElem_toArray, List.getElem_cons_zero, List.getElem_cons_succ, Act.put, List.setIfInBounds_toArray, List.set_cons_zero, List.set_cons_succ]
              refine wpAnyH_ready (rs := [9]) (by kernel_rfl) (by simp) ?_
              refine AllReadyH.cons (o := _) rfl (fun K hK => ?_) ?_
              ·
                go_simp
                refine (From_ok (some ⟨bq, oq, none⟩) (some ⟨gb, 0, none⟩) cb 1 s.blobs [db] wn11 (by omega) HRD5.out.bc HRD5.out.bm HGS.out.rts.g (HRD5.out.b.below hB) (by simp) h8).mono ?_
                rintro e5 w6 ⟨v5, L2, rfl, hL5, hl2, ho5, hb5⟩
                obtain ⟨A2, c2, rfl, hc2, _⟩ := Rd.of_own' ho5
                have HL2 := Lib.hid hL5
                clear hL5
                dsimp only
                refine outG hK ?_ (Below wn11.heap.size wn11) (fun W => W.ownsRow w5.heap.size 9 1 (.slice A2 L2.length c2) L2.length (strs L2)) ?_ ?_ (fun wn12 hHeld hst hnew => ?_)
                · (exact HSC.out _ (hB.trans (Below.mono (show Below wn11.heap.size wn11 _ from by (first | exact (Below.refl _ _).alloc (Nat.le_refl _) _ | exact hb5 | exact Below.refl _ _)) hB.size)))
                · (first | exact (Below.refl _ _).alloc (Nat.le_refl _) _ | exact hb5 | exact Below.refl _ _)
                · (exact own_lower ho5 hB.size)
                have hB := hB.trans (hst.mono hB.size)
                have h14 := h14.below hst
                have k1 := own_below k1 hst
                have k2 := hnew
                clear hst
                clear hK K
                try simp only [List.getElem_toArray, List.getElem_cons_zero, List.getElem_cons_succ, Act.put, List.setIfInBounds_toArray, List.set_cons_zero, List.set_cons_succ]
                refine wpAnyH_ready (rs := [15]) (by kernel_rfl) (by simp) ?_
                refine AllReadyH.cons (o := _) rfl (fun K hK => ?_) ?_
                ·
                  go_simp
                  refine (From_ok (some ⟨bq, oq, none⟩) (some ⟨gc, 0, none⟩) cb 2 s.blobs [da, db] wn12 (by omega) HRD5.out.bc HRD5.out.bm HGS.out.rts.g (HRD5.out.b.below hB) (by simp) h14).mono ?_
                  rintro e5 w6 ⟨v5, L3, rfl, hL5, hl3, ho5, hb5⟩
                  obtain ⟨A3, c3, rfl, hc3, _⟩ := Rd.of_own' ho5
                  have HL3 := Lib.hid hL5
                  clear hL5
                  dsimp only
                  refine outG hK ?_ (Below wn12.heap.size wn12) (fun W => W.ownsRow w5.heap.size 9 1 (.slice A3 L3.length c3) L3.length (strs L3)) ?_ ?_ (fun wn13 hHeld hst hnew => ?_)
                  · (exact HSC.out _ (hB.trans (Below.mono (show Below wn12.heap.size wn12 _ from by (first | exact (Below.refl _ _).alloc (Nat.le_refl _) _ | exact hb5 | exact Below.refl _ _)) hB.size)))
                  · (first | exact (Below.refl _ _).alloc (Nat.le_refl _) _ | exact hb5 | exact Below.refl _ _)
                  · (exact own_lower ho5 hB.size)
                  have hB := hB.trans (hst.mono hB.size)
                  have k1 := own_below k1 hst
                  have k2 := own_below k2 hst
                  have k3 := hnew
                  clear hst
                  clear hK K
                  try simp only [List.getElem_toArray, List.getElem_cons_zero, List.getElem_cons_succ, Act.put, List.setIfInBounds_toArray, List.set_cons_zero, List.set_cons_succ]
                  refine wpAnyH_take (i := 16) (oi := _) (v := ?_) rfl (by kernel_rfl) (by kernel_rfl) (by kernel_rfl) (fun _ _ _ h => h) (Or.inl ⟨by rfl, ?_⟩) (by assumption) ?_
                  rotate_left
                  · (intro w hSw; (try dsimp only at hSw); go_simp; try (with_reducible rfl))
                  try simp only [List.getElem_toArray, List.getElem_cons_zero, List.getElem_cons_succ, Act.put, List.setIfInBounds_toArray, List.set_cons_zero, List.set_cons_succ]
                  refine wpAnyH_take (i := 17) (oi := _) (v := ?_) rfl (by kernel_rfl) (by kernel_rfl) (by kernel_rfl) (fun _ _ _ h => h) (Or.inl ⟨by rfl, ?_⟩) (by assumption) ?_
                  rotate_left
                  · (intro w hSw; (try dsimp only at hSw); go_simp; try (with_reducible rfl))
                  try simp only [List.getElem_toArray, List.getElem_cons_zero, List.getElem_cons_succ, Act.put, List.setIfInBounds_toArray, List.set_cons_zero, List.set_cons_succ]
                  refine wpAnyH_take (i := 18) (oi := _) (v := ?_) rfl (by kernel_rfl) (by kernel_rfl) (by kernel_rfl) (fun _ _ _ h => h) (Or.inl ⟨by rfl, ?_⟩) (by assumption) ?_
                  rotate_left
                  · (intro w hSw; (try dsimp only at hSw); go_simp; try (with_reducible rfl))
                  try simp only [List.getElem_toArray, List.getElem_cons_zero, List.getElem_cons_succ, Act.put, List.setIfInBounds_toArray, List.set_cons_zero, List.set_cons_succ]
                  refine wpAnyH_done (by kernel_rfl) ?_ _
                  try dsimp only [Exit.then]
                  clear hHeld
                  have hall := And.intro hB (And.intro k1 (And.intro k2 (And.intro k3 (And.intro (And.intro HL1 (And.intro HL2 HL3)) (And.intro (And.intro hl1 (And.intro hl2 hl3)) (And.intro hc1 (And.intro hc2 hc3)))))))
                  clear hB k1 k2 k3 HL1 HL2 HL3 hl1 hl2 hl3 hc1 hc2 hc3
                  try clear h3
                  try clear h8
                  try clear h14
                  generalize wn13 = wz at hall ⊢
                  generalize ga = ya at hall ⊢
                  generalize gb = yb at hall ⊢
                  generalize gc = yc at hall ⊢
                  generalize A1 = B1 at hall ⊢
                  generalize c1 = e1 at hall ⊢
                  generalize A2 = B2 at hall ⊢
                  generalize c2 = e2 at hall ⊢
                  generalize A3 = B3 at hall ⊢
                  generalize c3 = e3 at hall ⊢
                  generalize L1 = M1 at hall ⊢
                  generalize L2 = M2 at hall ⊢
                  generalize L3 = M3 at hall ⊢
                  revert wz ya yb yc B1 e1 B2 e2 B3 e3 M1 M2 M3
                  exact REST.out
                exact AllReadyH.nil
              exact AllReadyH.nil
            exact AllReadyH.nil
          exact AllReadyH.nil
        refine AllReadyH.cons (o := _) rfl (fun K hK => ?_) ?_
        ·
          go_simp
          refine outG hK ?_ (Below wn1.heap.size wn1) (fun W => Rd W 1 (some ⟨wn1.heap.size, 0, none⟩) 1 (strs [db])) ?_ ?_ (fun wn14 hHeld hst hnew => ?_)
          · (exact HSC.out _ (hB.trans (Below.mono (show Below wn1.heap.size wn1 _ from by (first | exact (Below.refl _ _).alloc (Nat.le_refl _) _ | exact hb5 | exact Below.refl _ _)) hB.size)))
          · (first | exact (Below.refl _ _).alloc (Nat.le_refl _) _ | exact hb5 | exact Below.refl _ _)
          · (rw [← HSBB.out]; exact Rd.newN [.string sb] rfl)
          have hB := hB.trans (hst.mono hB.size)
          have h3 := h3.below hst
          obtain ⟨gb, hgb⟩ : ∃ g, g = wn1.heap.size := ⟨_, rfl⟩
          rw [← hgb] at hnew ⊢
          clear hgb
          have h8 := hnew
          clear hst
          clear hK K
          try simp only [List.getElem_toArray, List.getElem_cons_zero, List.getElem_cons_succ, Act.put, List.setIfInBounds_toArray, List.set_cons_zero, List.set_cons_succ]
          refine wpAnyH_ready (rs := [4, 14]) (by kernel_rfl) (by simp) ?_
          refine AllReadyH.cons (o := _) rfl (fun K hK => ?_) ?_
          ·
            go_simp
            refine (From_ok (some ⟨bq, oq, none⟩) (some ⟨ga, 0, none⟩) cb 1 s.blobs [da] wn14 (by omega) HRD5.out.bc HRD5.out.bm HGS.out.rts.g (HRD5.out.b.below hB) (by simp) h3).mono ?_
            rintro e5 w6 ⟨v5, L1, rfl, hL5, hl1, ho5, hb5⟩
            obtain ⟨A1, c1, rfl, hc1, _⟩ := Rd.of_own' ho5
            have HL1 := Lib.hid hL5
            clear hL5
            dsimp only
            refine outG hK ?_ (Below wn14.heap.size wn14) (fun W => W.ownsRow w5.heap.size 9 1 (.slice A1 L1.length c1) L1.length (strs L1)) ?_ ?_ (fun wn15 hHeld hst hnew => ?_)
            · (exact HSC.out _ (hB.trans (Below.mono (show Below wn14.heap.size wn14 _ from by (first | exact (Below.refl _ _).alloc (Nat.le_refl _) _ | exact hb5 | exact Below.refl _ _)) hB.size)))
            · (first | exact (Below.refl _ _).alloc (Nat.le_refl _) _ | exact hb5 | exact Below.refl _ _)
            · (exact own_lower ho5 hB.size)
            have hB := hB.trans (hst.mono hB.size)
            have h8 := h8.below hst
            have k1 := hnew
            clear hst
            clear hK K
            try simp only [List.getElem_toArray, List.getElem_cons_zero, List.getElem_cons_succ, Act.put, List.setIfInBounds_toArray, List.set_cons_zero, List.set_cons_succ]
            refine wpAnyH_ready (rs := [9, 14]) (by kernel_rfl) (by simp) ?_
            refine AllReadyH.cons (o := _) rfl (fun K hK => ?_) ?_
            ·
              go_simp
              refine (From_ok (some ⟨bq, oq, none⟩) (some ⟨gb, 0, none⟩) cb 1 s.blobs [db] wn15 (by omega) HRD5.out.bc HRD5.out.bm HGS.out.rts.g (HRD5.out.b.below hB) (by simp) h8).mono ?_
              rintro e5 w6 ⟨v5, L2, rfl, hL5, hl2, ho5, hb5⟩
              obtain ⟨A2, c2, rfl, hc2, _⟩ := Rd.of_own' ho5
              have HL2 := Lib.hid hL5
              clear hL5
              dsimp only
              refine outG hK ?_ (Below wn15.heap.size wn15) (fun W => W.ownsRow w5.heap.size 9 1 (.slice A2 L2.length c2) L2.length (strs L2)) ?_ ?_ (fun wn16 hHeld hst hnew => ?_)
              · (exact HSC.out _ (hB.trans (Below.mono (show Below wn15.heap.size wn15 _ from by (first | exact (Below.refl _ _).alloc (Nat.le_refl _) _ | exact hb5 | exact Below.refl _ _)) hB.size)))
              · (first | exact (Below.refl _ _).alloc (Nat.le_refl _) _ | exact hb5 | exact Below.refl _ _)
              · (exact own_lower ho5 hB.size)
              have hB := hB.trans (hst.mono hB.size)
              have k1 := own_below k1 hst
              have k2 := hnew
              clear hst
              clear hK K
              try simp only [List.getElem_toArray, List.getElem_cons_zero, List.getElem_cons_succ, Act.put, List.setIfInBounds_toArray, List.set_cons_zero, List.set_cons_succ]
              refine wpAnyH_ready (rs := [14]) (by kernel_rfl) (by simp) ?_
              refine AllReadyH.cons (o := _) rfl (fun K hK => ?_) ?_
              ·
                go_simp
                refine outG hK ?_ (Below wn16.heap.size wn16) (fun W => Rd W 1 (some ⟨wn16.heap.size, 0, none⟩) 2 (strs [da, db])) ?_ ?_ (fun wn17 hHeld hst hnew => ?_)
                · (exact HSC.out _ (hB.trans (Below.mono (show Below wn16.heap.size wn16 _ from by (first | exact (Below.refl _ _).alloc (Nat.le_refl _) _ | exact hb5 | exact Below.refl _ _)) hB.size)))
                · (first | exact (Below.refl _ _).alloc (Nat.le_refl _) _ | exact hb5 | exact Below.refl _ _)
                · (rw [← HSAB.out]; exact Rd.newN [.string sa, .string sb] rfl)
                have hB := hB.trans (hst.mono hB.size)
                have k1 := own_below k1 hst
                have k2 := own_below k2 hst
                obtain ⟨gc, hgc⟩ : ∃ g, g = wn16.heap.size := ⟨_, rfl⟩
                rw [← hgc] at hnew ⊢
                clear hgc
                have h14 := hnew
                clear hst
                clear hK K
                try simp only [List.getElem_toArray, List.getElem_cons_zero, List.getElem_cons_succ, Act.put, List.setIfInBounds_toArray, List.set_cons_zero, List.set_cons_succ]
                refine wpAnyH_ready (rs := [15]) (by kernel_rfl) (by simp) ?_
                refine AllReadyH.cons (o := _) rfl (fun K hK => ?_) ?_
                ·
                  go_simp
                  refine (From_ok (some ⟨bq, oq, none⟩) (some ⟨gc, 0, none⟩) cb 2 s.blobs [da, db] wn17 (by omega) HRD5.out.bc HRD5.out.bm HGS.out.rts.g (HRD5.out.b.below hB) (by simp) h14).mono ?_
                  rintro e5 w6 ⟨v5, L3, rfl, hL5, hl3, ho5, hb5⟩
                  obtain ⟨A3, c3, rfl, hc3, _⟩ := Rd.of_own' ho5
                  have HL3 := Lib.hid hL5
                  clear hL5
                  dsimp only
                  refine outG hK ?_ (Below wn17.heap.size wn17) (fun W => W.ownsRow w5.heap.size 9 1 (.slice A3 L3.length c3) L3.length (strs L3)) ?_ ?_ (fun wn18 hHeld hst hnew => ?_)
                  · (exact HSC.out _ (hB.trans (Below.mono (show Below wn17.heap.size wn17 _ from by (first | exact (Below.refl _ _).alloc (Nat.le_refl _) _ | exact hb5 | exact Below.refl _ _)) hB.size)))
                  · (first | exact (Below.refl _ _).alloc (Nat.le_refl _) _ | exact hb5 | exact Below.refl _ _)
                  · (exact own_lower ho5 hB.size)
                  have hB := hB.trans (hst.mono hB.size)
                  have k1 := own_below k1 hst
                  have k2 := own_below k2 hst
                  have k3 := hnew
                  clear hst
                  clear hK K
                  try simp only [List.getElem_toArray, List.getElem_cons_zero, List.getElem_cons_succ, Act.put, List.setIfInBounds_toArray, List.set_cons_zero, List.set_cons_succ]
                  refine wpAnyH_take (i := 16) (oi := _) (v := ?_) rfl (by kernel_rfl) (by kernel_rfl) (by kernel_rfl) (fun _ _ _ h => h) (Or.inl ⟨by rfl, ?_⟩) (by assumption) ?_
                  rotate_left
                  · (intro w hSw; (try dsimp only at hSw); go_simp; try (with_reducible rfl))
                  try simp only [List.getElem_toArray, List.getElem_cons_zero, List.getElem_cons_succ, Act.put, List.setIfInBounds_toArray, List.set_cons_zero, List.set_cons_succ]
                  refine wpAnyH_take (i := 17) (oi := _) (v := ?_) rfl (by kernel_rfl) (by kernel_rfl) (by kernel_rfl) (fun _ _ _ h => h) (Or.inl ⟨by rfl, ?_⟩) (by assumption) ?_
                  rotate_left
                  · (intro w hSw; (try dsimp only at hSw); go_simp; try (with_reducible rfl))
                  try simp only [List.getElem_toArray, List.getElem_cons_zero, List.getElem_cons_succ, Act.put, List.setIfInBounds_toArray, List.set_cons_zero, List.set_cons_succ]
                  refine wpAnyH_take (i := 18) (oi := _) (v := ?_) rfl (by kernel_rfl) (by kernel_rfl) (by kernel_rfl) (fun _ _ _ h => h) (Or.inl ⟨by rfl, ?_⟩) (by assumption) ?_
                  rotate_left
                  · (intro w hSw; (try dsimp only at hSw); go_simp; try (with_reducible rfl))
                  try simp only [List.getElem_toArray, List.getElem_cons_zero, List.getElem_cons_succ, Act.put, List.setIfInBounds_toArray, List.set_cons_zero, List.set_cons_succ]
                  refine wpAnyH_done (by kernel_rfl) ?_ _
                  try dsimp only [Exit.then]
                  clear hHeld
                  have hall := And.intro hB (And.intro k1 (And.intro k2 (And.intro k3 (And.intro (And.intro HL1 (And.intro HL2 HL3)) (And.intro (And.intro hl1 (And.intro hl2 hl3)) (And.intro hc1 (And.intro hc2 hc3)))))))
                  clear hB k1 k2 k3 HL1 HL2 HL3 hl1 hl2 hl3 hc1 hc2 hc3
                  try clear h3
                  try clear h8
                  try clear h14
                  generalize wn18 = wz at hall ⊢
                  generalize ga = ya at hall ⊢
                  generalize gb = yb at hall ⊢
                  generalize gc = yc at hall ⊢
                  generalize A1 = B1 at hall ⊢
                  generalize c1 = e1 at hall ⊢
                  generalize A2 = B2 at hall ⊢
                  generalize c2 = e2 at hall ⊢
                  generalize A3 = B3 at hall ⊢
                  generalize c3 = e3 at hall ⊢
                  generalize L1 = M1 at hall ⊢
                  generalize L2 = M2 at hall ⊢
                  generalize L3 = M3 at hall ⊢
                  revert wz ya yb yc B1 e1 B2 e2 B3 e3 M1 M2 M3
                  exact REST.out
                exact AllReadyH.nil
              exact AllReadyH.nil
            refine AllReadyH.cons (o := _) rfl (fun K hK => ?_) ?_
            ·
              go_simp
              refine outG hK ?_ (Below wn15.heap.size wn15) (fun W => Rd W 1 (some ⟨wn15.heap.size, 0, none⟩) 2 (strs [da, db])) ?_ ?_ (fun wn19 hHeld hst hnew => ?_)
              · (exact HSC.out _ (hB.trans (Below.mono (show Below wn15.heap.size wn15 _ from by (first | exact (Below.refl _ _).alloc (Nat.le_refl _) _ | exact hb5 | exact Below.refl _ _)) hB.size)))
              · (first | exact (Below.refl _ _).alloc (Nat.le_refl _) _ | exact hb5 | exact Below.refl _ _)
              · (rw [← HSAB.out]; exact Rd.newN [.string sa, .string sb] rfl)
              have hB := hB.trans (hst.mono hB.size)
              have h8 := h8.below hst
              have k1 := own_below k1 hst
              obtain ⟨gc, hgc⟩ : ∃ g, g = wn15.heap.size := ⟨_, rfl⟩
              rw [← hgc] at hnew ⊢
              clear hgc
              have h14 := hnew
              clear hst
              clear hK K
              try simp only [List.getElem_toArray, List.getElem_cons_zero, List.getElem_cons_succ, Act.put, List.setIfInBounds_toArray, List.set_cons_zero, List.set_cons_succ]
              refine wpAnyH_ready (rs := [9]) (by kernel_rfl) (by simp) ?_
              refine AllReadyH.cons (o := _) rfl (fun K hK => ?_) ?_
              ·
                go_simp
                refine (From_ok (some ⟨bq, oq, none⟩) (some ⟨gb, 0, none⟩) cb 1 s.blobs [db] wn19 (by omega) HRD5.out.bc HRD5.out.bm HGS.out.rts.g (HRD5.out.b.below hB) (by simp) h8).mono ?_
                rintro e5 w6 ⟨v5, L2, rfl, hL5, hl2, ho5, hb5⟩
                obtain ⟨A2, c2, rfl, hc2, _⟩ := Rd.of_own' ho5
                have HL2 := Lib.hid hL5
                clear hL5
                dsimp only
                refine outG hK ?_ (Below wn19.heap.size wn19) (fun W => W.ownsRow w5.heap.size 9 1 (.slice A2 L2.length c2) L2.length (strs L2)) ?_ ?_ (fun wn20 hHeld hst hnew => ?_)
                · (exact HSC.out _ (hB.trans (Below.mono (show Below wn19.heap.size wn19 _ from by (first | exact (Below.refl _ _).alloc (Nat.le_refl _) _ | exact hb5 | exact Below.refl _ _)) hB.size)))
                · (first | exact (Below.refl _ _).alloc (Nat.le_refl _) _ | exact hb5 | exact Below.refl _ _)
                · (exact own_lower ho5 hB.size)
                have hB := hB.trans (hst.mono hB.size)
                have h14 := h14.below hst
                have k1 := own_below k1 hst
                have k2 := hnew
                clear hst
                clear hK K
                try simp only [List.getElem_toArray, List.getElem_cons_zero, List.getElem_cons_succ, Act.put, List.setIfInBounds_toArray, List.set_cons_zero, List.set_cons_succ]
                refine wpAnyH_ready (rs := [15]) (by kernel_rfl) (by simp) ?_
                refine AllReadyH.cons (o := _) rfl (fun K hK => ?_) ?_
                ·
                  go_simp
                  refine (From_ok (some ⟨bq, oq, none⟩) (some ⟨gc, 0, none⟩) cb 2 s.blobs [da, db] wn20 (by omega) HRD5.out.bc HRD5.out.bm HGS.out.rts.g (HRD5.out.b.below hB) (by simp) h14).mono ?_
                  rintro e5 w6 ⟨v5, L3, rfl, hL5, hl3, ho5, hb5⟩
                  obtain ⟨A3, c3, rfl, hc3, _⟩ := Rd.of_own' ho5
                  have HL3 := Lib.hid hL5
                  clear hL5
                  dsimp only
                  refine outG hK ?_ (Below wn20.heap.size wn20) (fun W => W.ownsRow w5.heap.size 9 1 (.slice A3 L3.length c3) L3.length (strs L3)) ?_ ?_ (fun wn21 hHeld hst hnew => ?_)
                  · (exact HSC.out _ (hB.trans (Below.mono (show Below wn20.heap.size wn20 _ from by (first | exact (Below.refl _ _).alloc (Nat.le_refl _) _ | exact hb5 | exact Below.refl _ _)) hB.size)))
                  · (first | exact (Below.refl _ _).alloc (Nat.le_refl _) _ | exact hb5 | exact Below.refl _ _)
                  · (exact own_lower ho5 hB.size)
                  have hB := hB.trans (hst.mono hB.size)
                  have k1 := own_below k1 hst
                  have k2 := own_below k2 hst
                  have k3 := hnew
                  clear hst
                  clear hK K
                  try simp only [List.getElem_toArray, List.getElem_cons_zero, List.getElem_cons_succ, Act.put, List.setIfInBounds_toArray, List.set_cons_zero, List.set_cons_succ]
                  refine wpAnyH_take (i := 16) (oi := _) (v := ?_) rfl (by kernel_rfl) (by kernel_rfl) (by kernel_rfl) (fun _ _ _ h => h) (Or.inl ⟨by rfl, ?_⟩) (by assumption) ?_
                  rotate_left
                  · (intro w hSw; (try dsimp only at hSw); go_simp; try (with_reducible rfl))
                  try simp only [List.getElem_toArray, List.getElem_cons_zero, List.getElem_cons_succ, Act.put, List.setIfInBounds_toArray, List.set_cons_zero, List.set_cons_succ]
                  refine wpAnyH_take (i := 17) (oi := _) (v := ?_) rfl (by kernel_rfl) (by kernel_rfl) (by kernel_rfl) (fun _ _ _ h => h) (Or.inl ⟨by rfl, ?_⟩) (by assumption) ?_
                  rotate_left
                  · (intro w hSw; (try dsimp only at hSw); go_simp; try (with_reducible rfl))
                  try simp only [List.getElem_toArray, List.getElem_cons_zero, List.getElem_cons_succ, Act.put, List.setIfInBounds_toArray, List.set_cons_zero, List.set_cons_succ]
                  refine wpAnyH_take (i := 18) (oi := _) (v := ?_) rfl (by kernel_rfl) (by kernel_rfl) (by kernel_rfl) (fun _ _ _ h => h) (Or.inl ⟨by rfl, ?_⟩) (by assumption) ?_
                  rotate_left
                  · (intro w hSw; (try dsimp only at hSw); go_simp; try (with_reducible rfl))
                  try simp only [List.getElem_toArray, List.getElem_cons_zero, List.getElem_cons_succ, Act.put, List.setIfInBounds_toArray, List.set_cons_zero, List.set_cons_succ]
                  refine wpAnyH_done (by kernel_rfl) ?_ _
                  try dsimp only [Exit.then]
                  clear hHeld
                  have hall := And.intro hB (And.intro k1 (And.intro k2 (And.intro k3 (And.intro (And.intro HL1 (And.intro HL2 HL3)) (And.intro (And.intro hl1 (And.intro hl2 hl3)) (And.intro hc1 (And.intro hc2 hc3)))))))
                  clear hB k1 k2 k3 HL1 HL2 HL3 hl1 hl2 hl3 hc1 hc2 hc3
                  try clear h3
                  try clear h8
                  try clear h14
                  generalize wn21 = wz at hall ⊢
                  generalize ga = ya at hall ⊢
                  generalize gb = yb at hall ⊢
                  generalize gc = yc at hall ⊢
                  generalize A1 = B1 at hall ⊢
                  generalize c1 = e1 at hall ⊢
                  generalize A2 = B2 at hall ⊢
                  generalize c2 = e2 at hall ⊢
                  generalize A3 = B3 at hall ⊢
                  generalize c3 = e3 at hall ⊢
                  generalize L1 = M1 at hall ⊢
                  generalize L2 = M2 at hall ⊢
                  generalize L3 = M3 at hall ⊢
                  revert wz ya yb yc B1 e1 B2 e2 B3 e3 M1 M2 M3
                  exact REST.out
                exact AllReadyH.nil
              exact AllReadyH.nil
            exact AllReadyH.nil
          refine AllReadyH.cons (o := _) rfl (fun K hK => ?_) ?_
          ·
            go_simp
            refine outG hK ?_ (Below wn14.heap.size wn14) (fun W => Rd W 1 (some ⟨wn14.heap.size, 0, none⟩) 2 (strs [da, db])) ?_ ?_ (fun wn22 hHeld hst hnew => ?_)
            · (exact HSC.out _ (hB.trans (Below.mono (show Below wn14.heap.size wn14 _ from by (first | exact (Below.refl _ _).alloc (Nat.le_refl _) _ | exact hb5 | exact Below.refl _ _)) hB.size)))
            · (first | exact (Below.refl _ _).alloc (Nat.le_refl _) _ | exact hb5 | exact Below.refl _ _)
            · (rw [← HSAB.out]; exact Rd.newN [.string sa, .string sb] rfl)
            have hB := hB.trans (hst.mono hB.size)
            have h3 := h3.below hst
            have h8 := h8.below hst
            obtain ⟨gc, hgc⟩ : ∃ g, g = wn14.heap.size := ⟨_, rfl⟩
            rw [← hgc] at hnew ⊢
            clear hgc
            have h14 := hnew
            clear hst
            clear hK K
            try simp only [List.getElem_toArray, List.getElem_cons_zero, List.getElem_cons_succ, Act.put, List.setIfInBounds_toArray, List.set_cons_zero, List.set_cons_succ]
            refine wpAnyH_ready (rs := [4]) (by kernel_rfl) (by simp) ?_
            refine AllReadyH.cons (o := _) rfl (fun K hK => ?_) ?_
            ·
              go_simp
              refine (From_ok (some ⟨bq, oq, none⟩) (some ⟨ga, 0, none⟩) cb 1 s.blobs [da] wn22 (by omega) HRD5.out.bc HRD5.out.bm HGS.out.rts.g (HRD5.out.b.below hB) (by simp) h3).mono ?_
              rintro e5 w6 ⟨v5, L1, rfl, hL5, hl1, ho5, hb5⟩
              obtain ⟨A1, c1, rfl, hc1, _⟩ := Rd.of_own' ho5
              have HL1 := Lib.hid hL5
              clear hL5
              dsimp only
              refine outG hK ?_ (Below wn22.heap.size wn22) (fun W => W.ownsRow w5.heap.size 9 1 (.slice A1 L1.length c1) L1.length (strs L1)) ?_ ?_ (fun wn23 hHeld hst hnew => ?_)
              · (exact HSC.out _ (hB.trans (Below.mono (show Below wn22.heap.size wn22 _ from by (first | exact (Below.refl _ _).alloc (Nat.le_refl _) _ | exact hb5 | exact Below.refl _ _)) hB.size)))
              · (first | exact (Below.refl _ _).alloc (Nat.le_refl _) _ | exact hb5 | exact Below.refl _ _)
              · (exact own_lower ho5 hB.size)
              have hB := hB.trans (hst.mono hB.size)
              have h8 := h8.below hst
              have h14 := h14.below hst
              have k1 := hnew
              clear hst
              clear hK K
              try simp only [List.getElem_toArray, List.getElem_cons_zero, List.getElem_cons_succ, Act.put, List.setIfInBounds_toArray, List.set_cons_zero, List.set_cons_succ]
              refine wpAnyH_ready (rs := [9]) (by kernel_rfl) (by simp) ?_
              refine AllReadyH.cons (o := _) rfl (fun K hK => ?_) ?_
              ·
                go_simp
                refine (From_ok (some ⟨bq, oq, none⟩) (some ⟨gb, 0, none⟩) cb 1 s.blobs [db] wn23 (by omega) HRD5.out.bc HRD5.out.bm HGS.out.rts.g (HRD5.out.b.below hB) (by simp) h8).mono ?_
                rintro e5 w6 ⟨v5, L2, rfl, hL5, hl2, ho5, hb5⟩
                obtain ⟨A2, c2, rfl, hc2, _⟩ := Rd.of_own' ho5
                have HL2 := Lib.hid hL5
                clear hL5
                dsimp only
                refine outG hK ?_ (Below wn23.heap.size wn23) (fun W => W.ownsRow w5.heap.size 9 1 (.slice A2 L2.length c2) L2.length (strs L2)) ?_ ?_ (fun wn24 hHeld hst hnew => ?_)
                · (exact HSC.out _ (hB.trans (Below.mono (show Below wn23.heap.size wn23 _ from by (first | exact (Below.refl _ _).alloc (Nat.le_refl _) _ | exact hb5 | exact Below.refl _ _)) hB.size)))
                · (first | exact (Below.refl _ _).alloc (Nat.le_refl _) _ | exact hb5 | exact Below.refl _ _)
                · (exact own_lower ho5 hB.size)
                have hB := hB.trans (hst.mono hB.size)
                have h14 := h14.below hst
                have k1 := own_below k1 hst
                have k2 := hnew
                clear hst
                clear hK K
                try simp only [List.getElem_toArray, List.getElem_cons_zero, List.getElem_cons_succ, Act.put, List.setIfInBounds_toArray, List.set_cons_zero, List.set_cons_succ]
                refine wpAnyH_ready (rs := [15]) (by kernel_rfl) (by simp) ?_
                refine AllReadyH.cons (o := _) rfl (fun K hK => ?_) ?_
                ·
                  go_simp
                  refine (From_ok (some ⟨bq, oq, none⟩) (some ⟨gc, 0, none⟩) cb 2 s.blobs [da, db] wn24 (by omega) HRD5.out.bc HRD5.out.bm HGS.out.rts.g (HRD5.out.b.below hB) (by simp) h14).mono ?_
                  rintro e5 w6 ⟨v5, L3, rfl, hL5, hl3, ho5, hb5⟩
                  obtain ⟨A3, c3, rfl, hc3, _⟩ := Rd.of_own' ho5
                  have HL3 := Lib.hid hL5
                  clear hL5
                  dsimp only
                  refine outG hK ?_ (Below wn24.heap.size wn24) (fun W => W.ownsRow w5.heap.size 9 1 (.slice A3 L3.length c3) L3.length (strs L3)) ?_ ?_ (fun wn25 hHeld hst hnew => ?_)
                  · (exact HSC.out _ (hB.trans (Below.mono (show Below wn24.heap.size wn24 _ from by (first | exact (Below.refl _ _).alloc (Nat.le_refl _) _ | exact hb5 | exact Below.refl _ _)) hB.size)))
                  · (first | exact (Below.refl _ _).alloc (Nat.le_refl _) _ | exact hb5 | exact Below.refl _ _)
                  · (exact own_lower ho5 hB.size)
                  have hB := hB.trans (hst.mono hB.size)
                  have k1 := own_below k1 hst
                  have k2 := own_below k2 hst
                  have k3 := hnew
                  clear hst
                  clear hK K
                  try simp only [List.getElem_toArray, List.getElem_cons_zero, List.getElem_cons_succ, Act.put, List.setIfInBounds_toArray, List.set_cons_zero, List.set_cons_succ]
                  refine wpAnyH_take (i := 16) (oi := _) (v := ?_) rfl (by kernel_rfl) (by kernel_rfl) (by kernel_rfl) (fun _ _ _ h => h) (Or.inl ⟨by rfl, ?_⟩) (by assumption) ?_
                  rotate_left
                  · (intro w hSw; (try dsimp only at hSw); go_simp; try (with_reducible rfl))
                  try simp only [List.getElem_toArray, List.getElem_cons_zero, List.getElem_cons_succ, Act.put, List.setIfInBounds_toArray, List.set_cons_zero, List.set_cons_succ]
                  refine wpAnyH_take (i := 17) (oi := _) (v := ?_) rfl (by kernel_rfl) (by kernel_rfl) (by kernel_rfl) (fun _ _ _ h => h) (Or.inl ⟨by rfl, ?_⟩) (by assumption) ?_
                  rotate_left
                  · (intro w hSw; (try dsimp only at hSw); go_simp; try (with_reducible rfl))
                  try simp only [List.getElem_toArray, List.getElem_cons_zero, List.getElem_cons_succ, Act.put, List.setIfInBounds_toArray, List.set_cons_zero, List.set_cons_succ]
                  refine wpAnyH_take (i := 18) (oi := _) (v := ?_) rfl (by kernel_rfl) (by kernel_rfl) (by kernel_rfl) (fun _ _ _ h => h) (Or.inl ⟨by rfl, ?_⟩) (by assumption) ?_
                  rotate_left
                  · (intro w hSw; (try dsimp only at hSw); go_simp; try (with_reducible rfl))
                  try simp only [List.getElem_toArray, List.getElem_cons_zero, List.getElem_cons_succ, Act.put, List.setIfInBounds_toArray, List.set_cons_zero, List.set_cons_succ]
                  refine wpAnyH_done (by kernel_rfl) ?_ _
                  try dsimp only [Exit.then]
                  clear hHeld
                  have hall := And.intro hB (And.intro k1 (And.intro k2 (And.intro k3 (And.intro (And.intro HL1 (And.intro HL2 HL3)) (And.intro (And.intro hl1 (And.intro hl2 hl3)) (And.intro hc1 (And.intro hc2 hc3)))))))
                  clear hB k1 k2 k3 HL1 HL2 HL3 hl1 hl2 hl3 hc1 hc2 hc3
                  try clear h3
                  try clear h8
                  try clear h14
                  generalize wn25 = wz at hall ⊢
                  generalize ga = ya at hall ⊢
                  generalize gb = yb at hall ⊢
                  generalize gc = yc at hall ⊢
                  generalize A1 = B1 at hall ⊢
                  generalize c1 = e1 at hall ⊢
                  generalize A2 = B2 at hall ⊢
                  generalize c2 = e2 at hall ⊢
                  generalize A3 = B3 at hall ⊢
                  generalize c3 = e3 at hall ⊢
                  generalize L1 = M1 at hall ⊢
                  generalize L2 = M2 at hall ⊢
                  generalize L3 = M3 at hall ⊢
                  revert wz ya yb yc B1 e1 B2 e2 B3 e3 M1 M2 M3
                  exact REST.out
                exact AllReadyH.nil
              exact AllReadyH.nil
            exact AllReadyH.nil
          exact AllReadyH.nil
        refine AllReadyH.cons (o := _) rfl (fun K hK => ?_) ?_
        ·
          go_simp
          refine outG hK ?_ (Below wn1.heap.size wn1) (fun W => Rd W 1 (some ⟨wn1.heap.size, 0, none⟩) 2 (strs [da, db])) ?_ ?_ (fun wn26 hHeld hst hnew => ?_)
          · (exact HSC.out _ (hB.trans (Below.mono (show Below wn1.heap.size wn1 _ from by (first | exact (Below.refl _ _).alloc (Nat.le_refl _) _ | exact hb5 | exact Below.refl _ _)) hB.size)))
          · (first | exact (Below.refl _ _).alloc (Nat.le_refl _) _ | exact hb5 | exact Below.refl _ _)
          · (rw [← HSAB.out]; exact Rd.newN [.string sa, .string sb] rfl)
          have hB := hB.trans (hst.mono hB.size)
          have h3 := h3.below hst
          obtain ⟨gc, hgc⟩ : ∃ g, g = wn1.heap.size := ⟨_, rfl⟩
          rw [← hgc] at hnew ⊢
          clear hgc
          have h14 := hnew
          clear hst
          clear hK K
          try simp only [List.getElem_toArray, List.getElem_cons_zero, List.getElem_cons_succ, Act.put, List.setIfInBounds_toArray, List.set_cons_zero, List.set_cons_succ]
          refine wpAnyH_ready (rs := [4, 8]) (by kernel_rfl) (by simp) ?_
          refine AllReadyH.cons (o := _) rfl (fun K hK => ?_) ?_
          ·
            go_simp
            refine (From_ok (some ⟨bq, oq, none⟩) (some ⟨ga, 0, none⟩) cb 1 s.blobs [da] wn26 (by omega) HRD5.out.bc HRD5.out.bm HGS.out.rts.g (HRD5.out.b.below hB) (by simp) h3).mono ?_
            rintro e5 w6 ⟨v5, L1, rfl, hL5, hl1, ho5, hb5⟩
            obtain ⟨A1, c1, rfl, hc1, _⟩ := Rd.of_own' ho5
            have HL1 := Lib.hid hL5
            clear hL5
            dsimp only
            refine outG hK ?_ (Below wn26.heap.size wn26) (fun W => W.ownsRow w5.heap.size 9 1 (.slice A1 L1.length c1) L1.length (strs L1)) ?_ ?_ (fun wn27 hHeld hst hnew => ?_)
            · (exact HSC.out _ (hB.trans (Below.mono (show Below wn26.heap.size wn26 _ from by (first | exact (Below.refl _ _).alloc (Nat.le_refl _) _ | exact hb5 | exact Below.refl _ _)) hB.size)))
            · (first | exact (Below.refl _ _).alloc (Nat.le_refl _) _ | exact hb5 | exact Below.refl _ _)
            · (exact own_lower ho5 hB.size)
            have hB := hB.trans (hst.mono hB.size)
            have h14 := h14.below hst
            have k1 := hnew
            clear hst
            clear hK K
            try simp only [List.getElem_toArray, List.getElem_cons_zero, List.getElem_cons_succ, Act.put, List.setIfInBounds_toArray, List.set_cons_zero, List.set_cons_succ]
            refine wpAnyH_ready (rs := [8]) (by kernel_rfl) (by simp) ?_
            refine AllReadyH.cons (o := _) rfl (fun K hK => ?_) ?_
            ·
              go_simp
              refine outG hK ?_ (Below wn27.heap.size wn27) (fun W => Rd W 1 (some ⟨wn27.heap.size, 0, none⟩) 1 (strs [db])) ?_ ?_ (fun wn28 hHeld hst hnew => ?_)
              · (exact HSC.out _ (hB.trans (Below.mono (show Below wn27.heap.size wn27 _ from by (first | exact (Below.refl _ _).alloc (Nat.le_refl _) _ | exact hb5 | exact Below.refl _ _)) hB.size)))
              · (first | exact (Below.refl _ _).alloc (Nat.le_refl _) _ | exact hb5 | exact Below.refl _ _)
              · (rw [← HSBB.out]; exact Rd.newN [.string sb] rfl)
              have hB := hB.trans (hst.mono hB.size)
              have h14 := h14.below hst
              have k1 := own_below k1 hst
              obtain ⟨gb, hgb⟩ : ∃ g, g = wn27.heap.size := ⟨_, rfl⟩
              rw [← hgb] at hnew ⊢
              clear hgb
              have h8 := hnew
              clear hst
              clear hK K
              try simp only [List.getElem_toArray, List.getElem_cons_zero, List.getElem_cons_succ, Act.put, List.setIfInBounds_toArray, List.set_cons_zero, List.set_cons_succ]
              refine wpAnyH_ready (rs := [9]) (by kernel_rfl) (by simp) ?_
              refine AllReadyH.cons (o := _) rfl (fun K hK => ?_) ?_
              ·
                go_simp
                refine (From_ok (some ⟨bq, oq, none⟩) (some ⟨gb, 0, none⟩) cb 1 s.blobs [db] wn28 (by omega) HRD5.out.bc HRD5.out.bm HGS.out.rts.g (HRD5.out.b.below hB) (by simp) h8).mono ?_
                rintro e5 w6 ⟨v5, L2, rfl, hL5, hl2, ho5, hb5⟩
                obtain ⟨A2, c2, rfl, hc2, _⟩ := Rd.of_own' ho5
                have HL2 := Lib.hid hL5
                clear hL5
                dsimp only
                refine outG hK ?_ (Below wn28.heap.size wn28) (fun W => W.ownsRow w5.heap.size 9 1 (.slice A2 L2.length c2) L2.length (strs L2)) ?_ ?_ (fun wn29 hHeld hst hnew => ?_)
                · (exact HSC.out _ (hB.trans (Below.mono (show Below wn28.heap.size wn28 _ from by (first | exact (Below.refl _ _).alloc (Nat.le_refl _) _ | exact hb5 | exact Below.refl _ _)) hB.size)))
                · (first | exact (Below.refl _ _).alloc (Nat.le_refl _) _ | exact hb5 | exact Below.refl _ _)
                · (exact own_lower ho5 hB.size)
                have hB := hB.trans (hst.mono hB.size)
                have h14 := h14.below hst
                have k1 := own_below k1 hst
                have k2 := hnew
                clear hst
                clear hK K
                try simp only [List.getElem_toArray, List.getElem_cons_zero, List.getElem_cons_succ, Act.put, List.setIfInBounds_toArray, List.set_cons_zero, List.set_cons_succ]
                refine wpAnyH_ready (rs := [15]) (by kernel_rfl) (by simp) ?_
                refine AllReadyH.cons (o := _) rfl (fun K hK => ?_) ?_
                ·
                  go_simp
                  refine (From_ok (some ⟨bq, oq, none⟩) (some ⟨gc, 0, none⟩) cb 2 s.blobs [da, db] wn29 (by omega) HRD5.out.bc HRD5.out.bm HGS.out.rts.g (HRD5.out.b.below hB) (by simp) h14).mono ?_
                  rintro e5 w6 ⟨v5, L3, rfl, hL5, hl3, ho5, hb5⟩
                  obtain ⟨A3, c3, rfl, hc3, _⟩ := Rd.of_own' ho5
                  have HL3 := Lib.hid hL5
                  clear hL5
                  dsimp only
                  refine outG hK ?_ (Below wn29.heap.size wn29) (fun W => W.ownsRow w5.heap.size 9 1 (.slice A3 L3.length c3) L3.length (strs L3)) ?_ ?_ (fun wn30 hHeld hst hnew => ?_)
                  · (exact HSC.out _ (hB.trans (Below.mono (show Below wn29.heap.size wn29 _ from by (first | exact (Below.refl _ _).alloc (Nat.le_refl _) _ | exact hb5 | exact Below.refl _ _)) hB.size)))
                  · (first | exact (Below.refl _ _).alloc (Nat.le_refl _) _ | exact hb5 | exact Below.refl _ _)
                  · (exact own_lower ho5 hB.size)
                  have hB := hB.trans (hst.mono hB.size)
                  have k1 := own_below k1 hst
                  have k2 := own_below k2 hst
                  have k3 := hnew
                  clear hst
                  clear hK K
                  try simp only [List.getElem_toArray, List.getElem_cons_zero, List.getElem_cons_succ, Act.put, List.setIfInBounds_toArray, List.set_cons_zero, List.set_cons_succ]
                  refine wpAnyH_take (i := 16) (oi := _) (v := ?_) rfl (by kernel_rfl) (by kernel_rfl) (by kernel_rfl) (fun _ _ _ h => h) (Or.inl ⟨by rfl, ?_⟩) (by assumption) ?_
                  rotate_left
                  · (intro w hSw; (try dsimp only at hSw); go_simp; try (with_reducible rfl))
                  try simp only [List.getElem_toArray, List.getElem_cons_zero, List.getElem_cons_succ, Act.put, List.setIfInBounds_toArray, List.set_cons_zero, List.set_cons_succ]
                  refine wpAnyH_take (i := 17) (oi := _) (v := ?_) rfl (by kernel_rfl) (by kernel_rfl) (by kernel_rfl) (fun _ _ _ h => h) (Or.inl ⟨by rfl, ?_⟩) (by assumption) ?_
                  rotate_left
                  · (intro w hSw; (try dsimp only at hSw); go_simp; try (with_reducible rfl))
                  try simp only [List.getElem_toArray, List.getElem_cons_zero, List.getElem_cons_succ, Act.put, List.setIfInBounds_toArray, List.set_cons_zero, List.set_cons_succ]
                  refine wpAnyH_take (i := 18) (oi := _) (v := ?_) rfl (by kernel_rfl) (by kernel_rfl) (by kernel_rfl) (fun _ _ _ h => h) (Or.inl ⟨by rfl, ?_⟩) (by assumption) ?_
                  rotate_left
                  · (intro w hSw; (try dsimp only at hSw); go_simp; try (with_reducible rfl))
                  try simp only [List.getElem_toArray, List.getElem_cons_zero, List.getElem_cons_succ, Act.put, List.setIfInBounds_toArray, List.set_cons_zero, List.set_cons_succ]
                  refine wpAnyH_done (by kernel_rfl) ?_ _
                  try dsimp only [Exit.then]
                  clear hHeld
                  have hall := And.intro hB (And.intro k1 (And.intro k2 (And.intro k3 (And.intro (And.intro HL1 (And.intro HL2 HL3)) (And.intro (And.intro hl1 (And.intro hl2 hl3)) (And.intro hc1 (And.intro hc2 hc3)))))))
                  clear hB k1 k2 k3 HL1 HL2 HL3 hl1 hl2 hl3 hc1 hc2 hc3
                  try clear h3
                  try clear h8
                  try clear h14
                  generalize wn30 = wz at hall ⊢
                  generalize ga = ya at hall ⊢
                  generalize gb = yb at hall ⊢
                  generalize gc = yc at hall ⊢
                  generalize A1 = B1 at hall ⊢
                  generalize c1 = e1 at hall ⊢
                  generalize A2 = B2 at hall ⊢
                  generalize c2 = e2 at hall ⊢
                  generalize A3 = B3 at hall ⊢
                  generalize c3 = e3 at hall ⊢
                  generalize L1 = M1 at hall ⊢
                  generalize L2 = M2 at hall ⊢
                  generalize L3 = M3 at hall ⊢
                  revert wz ya yb yc B1 e1 B2 e2 B3 e3 M1 M2 M3
                  exact REST.out
                exact AllReadyH.nil
              exact AllReadyH.nil
            exact AllReadyH.nil
          refine AllReadyH.cons (o := _) rfl (fun K hK => ?_) ?_
          ·
            go_simp
            refine outG hK ?_ (Below wn26.heap.size wn26) (fun W => Rd W 1 (some ⟨wn26.heap.size, 0, none⟩) 1 (strs [db])) ?_ ?_ (fun wn31 hHeld hst hnew => ?_)
            · (exact HSC.out _ (hB.trans (Below.mono (show Below wn26.heap.size wn26 _ from by (first | exact (Below.refl _ _).alloc (Nat.le_refl _) _ | exact hb5 | exact Below.refl _ _)) hB.size)))
            · (first | exact (Below.refl _ _).alloc (Nat.le_refl _) _ | exact hb5 | exact Below.refl _ _)
            · (rw [← HSBB.out]; exact Rd.newN [.string sb] rfl)
            have hB := hB.trans (hst.mono hB.size)
            have h3 := h3.below hst
            have h14 := h14.below hst
            obtain ⟨gb, hgb⟩ : ∃ g, g = wn26.heap.size := ⟨_, rfl⟩
            rw [← hgb] at hnew ⊢
            clear hgb
            have h8 := hnew
            clear hst
            clear hK K
            try simp only [List.getElem_toArray, List.getElem_cons_zero, List.getElem_cons_succ, Act.put, List.setIfInBounds_toArray, List.set_cons_zero, List.set_cons_succ]
            refine wpAnyH_ready (rs := [4]) (by kernel_rfl) (by simp) ?_
            refine AllReadyH.cons (o := _) rfl (fun K hK => ?_) ?_
            ·
              go_simp
              refine (From_ok (some ⟨bq, oq, none⟩) (some ⟨ga, 0, none⟩) cb 1 s.blobs [da] wn31 (by omega) HRD5.out.bc HRD5.out.bm HGS.out.rts.g (HRD5.out.b.below hB) (by simp) h3).mono ?_
              rintro e5 w6 ⟨v5, L1, rfl, hL5, hl1, ho5, hb5⟩
              obtain ⟨A1, c1, rfl, hc1, _⟩ := Rd.of_own' ho5
              have HL1 := Lib.hid hL5
              clear hL5
              dsimp only
              refine outG hK ?_ (Below wn31.heap.size wn31) (fun W => W.ownsRow w5.heap.size 9 1 (.slice A1 L1.length c1) L1.length (strs L1)) ?_ ?_ (fun wn32 hHeld hst hnew => ?_)
              · (exact HSC.out _ (hB.trans (Below.mono (show Below wn31.heap.size wn31 _ from by (first | exact (Below.refl _ _).alloc (Nat.le_refl _) _ | exact hb5 | exact Below.refl _ _)) hB.size)))
              · (first | exact (Below.refl _ _).alloc (Nat.le_refl _) _ | exact hb5 | exact Below.refl _ _)
              · (exact own_lower ho5 hB.size)
              have hB := hB.trans (hst.mono hB.size)
              have h8 := h8.below hst
              have h14 := h14.below hst
              have k1 := hnew
              clear hst
              clear hK K
              try simp only [List.getElem_toArray, List.getElem_cons_zero, List.getElem_cons_succ, Act.put, List.setIfInBounds_toArray, List.set_cons_zero, List.set_cons_succ]
              refine wpAnyH_ready (rs := [9]) (by kernel_rfl) (by simp) ?_
              refine AllReadyH.cons (o := _) rfl (fun K hK => ?_) ?_
              ·
                go_simp
                refine (From_ok (some ⟨bq, oq, none⟩) (some ⟨gb, 0, none⟩) cb 1 s.blobs [db] wn32 (by omega) HRD5.out.bc HRD5.out.bm HGS.out.rts.g (HRD5.out.b.below hB) (by simp) h8).mono ?_
                rintro e5 w6 ⟨v5, L2, rfl, hL5, hl2, ho5, hb5⟩
                obtain ⟨A2, c2, rfl, hc2, _⟩ := Rd.of_own' ho5
                have HL2 := Lib.hid hL5
                clear hL5
                dsimp only
                refine outG hK ?_ (Below wn32.heap.size wn32) (fun W => W.ownsRow w5.heap.size 9 1 (.slice A2 L2.length c2) L2.length (strs L2)) ?_ ?_ (fun wn33 hHeld hst hnew => ?_)
                · (exact HSC.out _ (hB.trans (Below.mono (show Below wn32.heap.size wn32 _ from by (first | exact (Below.refl _ _).alloc (Nat.le_refl _) _ | exact hb5 | exact Below.refl _ _)) hB.size)))
                · (first | exact (Below.refl _ _).alloc (Nat.le_refl _) _ | exact hb5 | exact Below.refl _ _)
                · (exact own_lower ho5 hB.size)
                have hB := hB.trans (hst.mono hB.size)
                have h14 := h14.below hst
                have k1 := own_below k1 hst
                have k2 := hnew
                clear hst
                clear hK K
                try simp only [List.getElem_toArray, List.getElem_cons_zero, List.getElem_cons_succ, Act.put, List.setIfInBounds_toArray, List.set_cons_zero, List.set_cons_succ]
                refine wpAnyH_ready (rs := [15]) (by kernel_rfl) (by simp) ?_
                refine AllReadyH.cons (o := _) rfl (fun K hK => ?_) ?_
                ·
                  go_simp
                  refine (From_ok (some ⟨bq, oq, none⟩) (some ⟨gc, 0, none⟩) cb 2 s.blobs [da, db] wn33 (by omega) HRD5.out.bc HRD5.out.bm HGS.out.rts.g (HRD5.out.b.below hB) (by simp) h14).mono ?_
                  rintro e5 w6 ⟨v5, L3, rfl, hL5, hl3, ho5, hb5⟩
                  obtain ⟨A3, c3, rfl, hc3, _⟩ := Rd.of_own' ho5
                  have HL3 := Lib.hid hL5
                  clear hL5
                  dsimp only
                  refine outG hK ?_ (Below wn33.heap.size wn33) (fun W => W.ownsRow w5.heap.size 9 1 (.slice A3 L3.length c3) L3.length (strs L3)) ?_ ?_ (fun wn34 hHeld hst hnew => ?_)
                  · (exact HSC.out _ (hB.trans (Below.mono (show Below wn33.heap.size wn33 _ from by (first | exact (Below.refl _ _).alloc (Nat.le_refl _) _ | exact hb5 | exact Below.refl _ _)) hB.size)))
                  · (first | exact (Below.refl _ _).alloc (Nat.le_refl _) _ | exact hb5 | exact Below.refl _ _)
                  · (exact own_lower ho5 hB.size)
                  have hB := hB.trans (hst.mono hB.size)
                  have k1 := own_below k1 hst
                  have k2 := own_below k2 hst
                  have k3 := hnew
                  clear hst
                  clear hK K
                  try simp only [List.getElem_toArray, List.getElem_cons_zero, List.getElem_cons_succ, Act.put, List.setIfInBounds_toArray, List.set_cons_zero, List.set_cons_succ]
                  refine wpAnyH_take (i := 16) (oi := _) (v := ?_) rfl (by kernel_rfl) (by kernel_rfl) (by kernel_rfl) (fun _ _ _ h => h) (Or.inl ⟨by rfl, ?_⟩) (by assumption) ?_
                  rotate_left
                  · (intro w hSw; (try dsimp only at hSw); go_simp; try (with_reducible rfl))
                  try simp only [List.getElem_toArray, List.getElem_cons_zero, List.getElem_cons_succ, Act.put, List.setIfInBounds_toArray, List.set_cons_zero, List.set_cons_succ]
                  refine wpAnyH_take (i := 17) (oi := _) (v := ?_) rfl (by kernel_rfl) (by kernel_rfl) (by kernel_rfl) (fun _ _ _ h => h) (Or.inl ⟨by rfl, ?_⟩) (by assumption) ?_
                  rotate_left
                  · (intro w hSw; (try dsimp only at hSw); go_simp; try (with_reducible rfl))
                  try simp only [List.getElem_toArray, List.getElem_cons_zero, List.getElem_cons_succ, Act.put, List.setIfInBounds_toArray, List.set_cons_zero, List.set_cons_succ]
                  refine wpAnyH_take (i := 18) (oi := _) (v := ?_) rfl (by kernel_rfl) (by kernel_rfl) (by kernel_rfl) (fun _ _ _ h => h) (Or.inl ⟨by rfl, ?_⟩) (by assumption) ?_
                  rotate_left
                  · (intro w hSw; (try dsimp only at hSw); go_simp; try (with_reducible rfl))
                  try simp only [List.getElem_toArray, List.getElem_cons_zero, List.getElem_cons_succ, Act.put, List.setIfInBounds_toArray, List.set_cons_zero, List.set_cons_succ]
                  refine wpAnyH_done (by kernel_rfl) ?_ _
                  try dsimp only [Exit.then]
                  clear hHeld
                  have hall := And.intro hB (And.intro k1 (And.intro k2 (And.intro k3 (And.intro (And.intro HL1 (And.intro HL2 HL3)) (And.intro (And.intro hl1 (And.intro hl2 hl3)) (And.intro hc1 (And.intro hc2 hc3)))))))
                  clear hB k1 k2 k3 HL1 HL2 HL3 hl1 hl2 hl3 hc1 hc2 hc3
                  try clear h3
                  try clear h8
                  try clear h14
                  generalize wn34 = wz at hall ⊢
                  generalize ga = ya at hall ⊢
                  generalize gb = yb at hall ⊢
                  generalize gc = yc at hall ⊢
                  generalize A1 = B1 at hall ⊢
                  generalize c1 = e1 at hall ⊢
                  generalize A2 = B2 at hall ⊢
                  generalize c2 = e2 at hall ⊢
                  generalize A3 = B3 at hall ⊢
                  generalize c3 = e3 at hall ⊢
                  generalize L1 = M1 at hall ⊢
                  generalize L2 = M2 at hall ⊢
                  generalize L3 = M3 at hall ⊢
                  revert wz ya yb yc B1 e1 B2 e2 B3 e3 M1 M2 M3
                  exact REST.out
                exact AllReadyH.nil
              exact AllReadyH.nil
            exact AllReadyH.nil
          exact AllReadyH.nil
        exact AllReadyH.nil
      refine AllReadyH.cons (o := _) rfl (fun K hK => ?_) ?_
      ·
        go_simp
        refine outG hK ?_ (Below wn0.heap.size wn0) (fun W => Rd W 1 (some ⟨wn0.heap.size, 0, none⟩) 1 (strs [db])) ?_ ?_ (fun wn35 hHeld hst hnew => ?_)
        · (exact HSC.out _ (hB.trans (Below.mono (show Below wn0.heap.size wn0 _ from by (first | exact (Below.refl _ _).alloc (Nat.le_refl _) _ | exact hb5 | exact Below.refl _ _)) hB.size)))
        · (first | exact (Below.refl _ _).alloc (Nat.le_refl _) _ | exact hb5 | exact Below.refl _ _)
        · (rw [← HSBB.out]; exact Rd.newN [.string sb] rfl)
        have hB := hB.trans (hst.mono hB.size)
        obtain ⟨gb, hgb⟩ : ∃ g, g = wn0.heap.size := ⟨_, rfl⟩
        rw [← hgb] at hnew ⊢
        clear hgb
        have h8 := hnew
        clear hst
        clear hK K
        try simp only [List.getElem_toArray, List.getElem_cons_zero, List.getElem_cons_succ, Act.put, List.setIfInBounds_toArray, List.set_cons_zero, List.set_cons_succ]
        refine wpAnyH_ready (rs := [3, 14]) (by kernel_rfl) (by simp) ?_
        refine AllReadyH.cons (o := _) rfl (fun K hK => ?_) ?_
        ·
          go_simp
          refine outG hK ?_ (Below wn35.heap.size wn35) (fun W => Rd W 1 (some ⟨wn35.heap.size, 0, none⟩) 1 (strs [da])) ?_ ?_ (fun wn36 hHeld hst hnew => ?_)
          · (exact HSC.out _ (hB.trans (Below.mono (show Below wn35.heap.size wn35 _ from by (first | exact (Below.refl _ _).alloc (Nat.le_refl _) _ | exact hb5 | exact Below.refl _ _)) hB.size)))
          · (first | exact (Below.refl _ _).alloc (Nat.le_refl _) _ | exact hb5 | exact Below.refl _ _)
          · (rw [← HSA.out]; exact Rd.newN [.string sa] rfl)
          have hB := hB.trans (hst.mono hB.size)
          have h8 := h8.below hst
          obtain ⟨ga, hga⟩ : ∃ g, g = wn35.heap.size := ⟨_, rfl⟩
          rw [← hga] at hnew ⊢
          clear hga
          have h3 := hnew
          clear hst
          clear hK K
          try simp only [List.getElem_toArray, List.getElem_cons_zero, List.getElem_cons_succ, Act.put, List.setIfInBounds_toArray, List.set_cons_zero, List.set_cons_succ]
          refine wpAnyH_ready (rs := [4, 14]) (by kernel_rfl) (by simp) ?_
          refine AllReadyH.cons (o := _) rfl (fun K hK => ?_) ?_
          ·
            go_simp
            refine (From_ok (some ⟨bq, oq, none⟩) (some ⟨ga, 0, none⟩) cb 1 s.blobs [da] wn36 (by omega) HRD5.out.bc HRD5.out.bm HGS.out.rts.g (HRD5.out.b.below hB) (by simp) h3).mono ?_
            rintro e5 w6 ⟨v5, L1, rfl, hL5, hl1, ho5, hb5⟩
            obtain ⟨A1, c1, rfl, hc1, _⟩ := Rd.of_own' ho5
            have HL1 := Lib.hid hL5
            clear hL5
            dsimp only
            refine outG hK ?_ (Below wn36.heap.size wn36) (fun W => W.ownsRow w5.heap.size 9 1 (.slice A1 L1.length c1) L1.length (strs L1)) ?_ ?_ (fun wn37 hHeld hst hnew => ?_)
            · (exact HSC.out _ (hB.trans (Below.mono (show Below wn36.heap.size wn36 _ from by (first | exact (Below.refl _ _).alloc (Nat.le_refl _) _ | exact hb5 | exact Below.refl _ _)) hB.size)))
            · (first | exact (Below.refl _ _).alloc (Nat.le_refl _) _ | exact hb5 | exact Below.refl _ _)
            · (exact own_lower ho5 hB.size)
            have hB := hB.trans (hst.mono hB.size)
            have h8 := h8.below hst
            have k1 := hnew
            clear hst
            clear hK K
            try simp only [List.getElem_toArray, List.getElem_cons_zero, List.getElem_cons_succ, Act.put, List.setIfInBounds_toArray, List.set_cons_zero, List.set_cons_succ]
            refine wpAnyH_ready (rs := [9, 14]) (by kernel_rfl) (by simp) ?_
            refine AllReadyH.cons (o := _) rfl (fun K hK => ?_) ?_
            ·
              go_simp
              refine (From_ok (some ⟨bq, oq, none⟩) (some ⟨gb, 0, none⟩) cb 1 s.blobs [db] wn37 (by omega) HRD5.out.bc HRD5.out.bm HGS.out.rts.g (HRD5.out.b.below hB) (by simp) h8).mono ?_
              rintro e5 w6 ⟨v5, L2, rfl, hL5, hl2, ho5, hb5⟩
              obtain ⟨A2, c2, rfl, hc2, _⟩ := Rd.of_own' ho5
              have HL2 := Lib.hid hL5
              clear hL5
              dsimp only
              refine outG hK ?_ (Below wn37.heap.size wn37) (fun W => W.ownsRow w5.heap.size 9 1 (.slice A2 L2.length c2) L2.length (strs L2)) ?_ ?_ (fun wn38 hHeld hst hnew => ?_)
              · (exact HSC.out _ (hB.trans (Below.mono (show Below wn37.heap.size wn37 _ from by (first | exact (Below.refl _ _).alloc (Nat.le_refl _) _ | exact hb5 | exact Below.refl _ _)) hB.size)))
              · (first | exact (Below.refl _ _).alloc (Nat.le_refl _) _ | exact hb5 | exact Below.refl _ _)
              · (exact own_lower ho5 hB.size)
              have hB := hB.trans (hst.mono hB.size)
              have k1 := own_below k1 hst
              have k2 := hnew
              clear hst
              clear hK K
              try simp only [List.getElem_toArray, List.getElem_cons_zero, List.getElem_cons_succ, Act.put, List.setIfInBounds_toArray, List.set_cons_zero, List.set_cons_succ]
              refine wpAnyH_ready (rs := [14]) (by kernel_rfl) (by simp) ?_
              refine AllReadyH.cons (o := _) rfl (fun K hK => ?_) ?_
              ·
                go_simp
                refine outG hK ?_ (Below wn38.heap.size wn38) (fun W => Rd W 1 (some ⟨wn38.heap.size, 0, none⟩) 2 (strs [da, db])) ?_ ?_ (fun wn39 hHeld hst hnew => ?_)
                · (exact HSC.out _ (hB.trans (Below.mono (show Below wn38.heap.size wn38 _ from by (first | exact (Below.refl _ _).alloc (Nat.le_refl _) _ | exact hb5 | exact Below.refl _ _)) hB.size)))
                · (first | exact (Below.refl _ _).alloc (Nat.le_refl _) _ | exact hb5 | exact Below.refl _ _)
                · (rw [← HSAB.out]; exact Rd.newN [.string sa, .string sb] rfl)
                have hB := hB.trans (hst.mono hB.size)
                have k1 := own_below k1 hst
                have k2 := own_below k2 hst
                obtain ⟨gc, hgc⟩ : ∃ g, g = wn38.heap.size := ⟨_, rfl⟩
                rw [← hgc] at hnew ⊢
                clear hgc
                have h14 := hnew
                clear hst
                clear hK K
                try simp only [List.getElem_toArray, List.getElem_cons_zero, List.getElem_cons_succ, Act.put, List.setIfInBounds_toArray, List.set_cons_zero, List.set_cons_succ]
                refine wpAnyH_ready (rs := [15]) (by kernel_rfl) (by simp) ?_
                refine AllReadyH.cons (o := _) rfl (fun K hK => ?_) ?_
                ·
                  go_simp
                  refine (From_ok (some ⟨bq, oq, none⟩) (some ⟨gc, 0, none⟩) cb 2 s.blobs [da, db] wn39 (by omega) HRD5.out.bc HRD5.out.bm HGS.out.rts.g (HRD5.out.b.below hB) (by simp) h14).mono ?_
                  rintro e5 w6 ⟨v5, L3, rfl, hL5, hl3, ho5, hb5⟩
                  obtain ⟨A3, c3, rfl, hc3, _⟩ := Rd.of_own' ho5
                  have HL3 := Lib.hid hL5
                  clear hL5
                  dsimp only
                  refine outG hK ?_ (Below wn39.heap.size wn39) (fun W => W.ownsRow w5.heap.size 9 1 (.slice A3 L3.length c3) L3.length (strs L3)) ?_ ?_ (fun wn40 hHeld hst hnew => ?_)
                  · (exact HSC.out _ (hB.trans (Below.mono (show Below wn39.heap.size wn39 _ from by (first | exact (Below.refl _ _).alloc (Nat.le_refl _) _ | exact hb5 | exact Below.refl _ _)) hB.size)))
                  · (first | exact (Below.refl _ _).alloc (Nat.le_refl _) _ | exact hb5 | exact Below.refl _ _)
                  · (exact own_lower ho5 hB.size)
                  have hB := hB.trans (hst.mono hB.size)
                  have k1 := own_below k1 hst
                  have k2 := own_below k2 hst
                  have k3 := hnew
                  clear hst
                  clear hK K
                  try simp only [List.getElem_toArray, List.getElem_cons_zero, List.getElem_cons_succ, Act.put, List.setIfInBounds_toArray, List.set_cons_zero, List.set_cons_succ]
                  refine wpAnyH_take (i := 16) (oi := _) (v := ?_) rfl (by kernel_rfl) (by kernel_rfl) (by kernel_rfl) (fun _ _ _ h => h) (Or.inl ⟨by rfl, ?_⟩) (by assumption) ?_
                  rotate_left
                  · (intro w hSw; (try dsimp only at hSw); go_simp; try (with_reducible rfl))
                  try simp only [List.getElem_toArray, List.getElem_cons_zero, List.getElem_cons_succ, Act.put, List.setIfInBounds_toArray, List.set_cons_zero, List.set_cons_succ]
                  refine wpAnyH_take (i := 17) (oi := _) (v := ?_) rfl (by kernel_rfl) (by kernel_rfl) (by kernel_rfl) (fun _ _ _ h => h) (Or.inl ⟨by rfl, ?_⟩) (by assumption) ?_
                  rotate_left
                  · (intro w hSw; (try dsimp only at hSw); go_simp; try (with_reducible rfl))
                  try simp only [List.getElem_toArray, List.getElem_cons_zero, List.getElem_cons_succ, Act.put, List.setIfInBounds_toArray, List.set_cons_zero, List.set_cons_succ]
                  refine wpAnyH_take (i := 18) (oi := _) (v := ?_) rfl (by kernel_rfl) (by kernel_rfl) (by kernel_rfl) (fun _ _ _ h => h) (Or.inl ⟨by rfl, ?_⟩) (by assumption) ?_
                  rotate_left
                  · (intro w hSw; (try dsimp only at hSw); go_simp; try (with_reducible rfl))
                  try simp only [List.getElem_toArray, List.getElem_cons_zero, List.getElem_cons_succ, Act.put, List.setIfInBounds_toArray, List.set_cons_zero, List.set_cons_succ]
                  refine wpAnyH_done (by kernel_rfl) ?_ _
                  try dsimp only [Exit.then]
                  clear hHeld
                  have hall := And.intro hB (And.intro k1 (And.intro k2 (And.intro k3 (And.intro (And.intro HL1 (And.intro HL2 HL3)) (And.intro (And.intro hl1 (And.intro hl2 hl3)) (And.intro hc1 (And.intro hc2 hc3)))))))
                  clear hB k1 k2 k3 HL1 HL2 HL3 hl1 hl2 hl3 hc1 hc2 hc3
                  try clear h3
                  try clear h8
                  try clear h14
                  generalize wn40 = wz at hall ⊢
                  generalize ga = ya at hall ⊢
                  generalize gb = yb at hall ⊢
                  generalize gc = yc at hall ⊢
                  generalize A1 = B1 at hall ⊢
                  generalize c1 = e1 at hall ⊢
                  generalize A2 = B2 at hall ⊢
                  generalize c2 = e2 at hall ⊢
                  generalize A3 = B3 at hall ⊢
                  generalize c3 = e3 at hall ⊢
                  generalize L1 = M1 at hall ⊢
                  generalize L2 = M2 at hall ⊢
                  generalize L3 = M3 at hall ⊢
                  revert wz ya yb yc B1 e1 B2 e2 B3 e3 M1 M2 M3
                  exact REST.out
                exact AllReadyH.nil
              exact AllReadyH.nil
            refine AllReadyH.cons (o := _) rfl (fun K hK => ?_) ?_
            ·
              go_simp
              refine outG hK ?_ (Below wn37.heap.size wn37) (fun W => Rd W 1 (some ⟨wn37.heap.size, 0, none⟩) 2 (strs [da, db])) ?_ ?_ (fun wn41 hHeld hst hnew => ?_)
              · (exact HSC.out _ (hB.trans (Below.mono (show Below wn37.heap.size wn37 _ from by (first | exact (Below.refl _ _).alloc (Nat.le_refl _) _ | exact hb5 | exact Below.refl _ _)) hB.size)))
              · (first | exact (Below.refl _ _).alloc (Nat.le_refl _) _ | exact hb5 | exact Below.refl _ _)
              · (rw [← HSAB.out]; exact Rd.newN [.string sa, .string sb] rfl)
              have hB := hB.trans (hst.mono hB.size)
              have h8 := h8.below hst
              have k1 := own_below k1 hst
              obtain ⟨gc, hgc⟩ : ∃ g, g = wn37.heap.size := ⟨_, rfl⟩
              rw [← hgc] at hnew ⊢
              clear hgc
              have h14 := hnew
              clear hst
              clear hK K
              try simp only [List.getElem_toArray, List.getElem_cons_zero, List.getElem_cons_succ, Act.put, List.setIfInBounds_toArray, List.set_cons_zero, List.set_cons_succ]
              refine wpAnyH_ready (rs := [9]) (by kernel_rfl) (by simp) ?_
              refine AllReadyH.cons (o := _) rfl (fun K hK => ?_) ?_
              ·
                go_simp
                refine (From_ok (some ⟨bq, oq, none⟩) (some ⟨gb, 0, none⟩) cb 1 s.blobs [db] wn41 (by omega) HRD5.out.bc HRD5.out.bm HGS.out.rts.g (HRD5.out.b.below hB) (by simp) h8).mono ?_
                rintro e5 w6 ⟨v5, L2, rfl, hL5, hl2, ho5, hb5⟩
                obtain ⟨A2, c2, rfl, hc2, _⟩ := Rd.of_own' ho5
                have HL2 := Lib.hid hL5
                clear hL5
                dsimp only
                refine outG hK ?_ (Below wn41.heap.size wn41) (fun W => W.ownsRow w5.heap.size 9 1 (.slice A2 L2.length c2) L2.length (strs L2)) ?_ ?_ (fun wn42 hHeld hst hnew => ?_)
                · (exact HSC.out _ (hB.trans (Below.mono (show Below wn41.heap.size wn41 _ from by (first | exact (Below.refl _ _).alloc (Nat.le_refl _) _ | exact hb5 | exact Below.refl _ _)) hB.size)))
                · (first | exact (Below.refl _ _).alloc (Nat.le_refl _) _ | exact hb5 | exact Below.refl _ _)
                · (exact own_lower ho5 hB.size)
                have hB := hB.trans (hst.mono hB.size)
                have h14 := h14.below hst
                have k1 := own_below k1 hst
                have k2 := hnew
                clear hst
                clear hK K
                try simp only [List.getElem_toArray, List.getElem_cons_zero, List.getElem_cons_succ, Act.put, List.setIfInBounds_toArray, List.set_cons_zero, List.set_cons_succ]
                refine wpAnyH_ready (rs := [15]) (by kernel_rfl) (by simp) ?_
                refine AllReadyH.cons (o := _) rfl (fun K hK => ?_) ?_
                ·
                  go_simp
                  refine (From_ok (some ⟨bq, oq, none⟩) (some ⟨gc, 0, none⟩) cb 2 s.blobs [da, db] wn42 (by omega) HRD5.out.bc HRD5.out.bm HGS.out.rts.g (HRD5.out.b.below hB) (by simp) h14).mono ?_
                  rintro e5 w6 ⟨v5, L3, rfl, hL5, hl3, ho5, hb5⟩
                  obtain ⟨A3, c3, rfl, hc3, _⟩ := Rd.of_own' ho5
                  have HL3 := Lib.hid hL5
                  clear hL5
                  dsimp only
                  refine outG hK ?_ (Below wn42.heap.size wn42) (fun W => W.ownsRow w5.heap.size 9 1 (.slice A3 L3.length c3) L3.length (strs L3)) ?_ ?_ (fun wn43 hHeld hst hnew => ?_)
                  · (exact HSC.out _ (hB.trans (Below.mono (show Below wn42.heap.size wn42 _ from by (first | exact (Below.refl _ _).alloc (Nat.le_refl _) _ | exact hb5 | exact Below.refl _ _)) hB.size)))
                  · (first | exact (Below.refl _ _).alloc (Nat.le_refl _) _ | exact hb5 | exact Below.refl _ _)
                  · (exact own_lower ho5 hB.size)
                  have hB := hB.trans (hst.mono hB.size)
                  have k1 := own_below k1 hst
                  have k2 := own_below k2 hst
                  have k3 := hnew
                  clear hst
                  clear hK K
                  try simp only [List.getElem_toArray, List.getElem_cons_zero, List.getElem_cons_succ, Act.put, List.setIfInBounds_toArray, List.set_cons_zero, List.set_cons_succ]
                  refine wpAnyH_take (i := 16) (oi := _) (v := ?_) rfl (by kernel_rfl) (by kernel_rfl) (by kernel_rfl) (fun _ _ _ h => h) (Or.inl ⟨by rfl, ?_⟩) (by assumption) ?_
                  rotate_left
                  · (intro w hSw; (try dsimp only at hSw); go_simp; try (with_reducible rfl))
                  try simp only [List.getElem_toArray, List.getElem_cons_zero, List.getElem_cons_succ, Act.put, List.setIfInBounds_toArray, List.set_cons_zero, List.set_cons_succ]
                  refine wpAnyH_take (i := 17) (oi := _) (v := ?_) rfl (by kernel_rfl) (by kernel_rfl) (by kernel_rfl) (fun _ _ _ h => h) (Or.inl ⟨by rfl, ?_⟩) (by assumption) ?_
                  rotate_left
                  · (intro w hSw; (try dsimp only at hSw); go_simp; try (with_reducible rfl))
                  try simp only [List.getElem_toArray, List.getElem_cons_zero, List.getElem_cons_succ, Act.put, List.setIfInBounds_toArray, List.set_cons_zero, List.set_cons_succ]
                  refine wpAnyH_take (i := 18) (oi := _) (v := ?_) rfl (by kernel_rfl) (by kernel_rfl) (by kernel_rfl) (fun _ _ _ h => h) (Or.inl ⟨by rfl, ?_⟩) (by assumption) ?_
                  rotate_left
                  · (intro w hSw; (try dsimp only at hSw); go_simp; try (with_reducible rfl))
                  try simp only [List.getElem_toArray, List.getElem_cons_zero, List.getElem_cons_succ, Act.put, List.setIfInBounds_toArray, List.set_cons_zero, List.set_cons_succ]
                  refine wpAnyH_done (by kernel_rfl) ?_ _
                  try dsimp only [Exit.then]
                  clear hHeld
                  have hall := And.intro hB (And.intro k1 (And.intro k2 (And.intro k3 (And.intro (And.intro HL1 (And.intro HL2 HL3)) (And.intro (And.intro hl1 (And.intro hl2 hl3)) (And.intro hc1 (And.intro hc2 hc3)))))))
                  clear hB k1 k2 k3 HL1 HL2 HL3 hl1 hl2 hl3 hc1 hc2 hc3
                  try clear h3
                  try clear h8
                  try clear h14
                  generalize wn43 = wz at hall ⊢
                  generalize ga = ya at hall ⊢
                  generalize gb = yb at hall ⊢
                  generalize gc = yc at hall ⊢
                  generalize A1 = B1 at hall ⊢
                  generalize c1 = e1 at hall ⊢
                  generalize A2 = B2 at hall ⊢
                  generalize c2 = e2 at hall ⊢
                  generalize A3 = B3 at hall ⊢
                  generalize c3 = e3 at hall ⊢
                  generalize L1 = M1 at hall ⊢
                  generalize L2 = M2 at hall ⊢
                  generalize L3 = M3 at hall ⊢
                  revert wz ya yb yc B1 e1 B2 e2 B3 e3 M1 M2 M3
                  exact REST.out
                exact AllReadyH.nil
              exact AllReadyH.nil
            exact AllReadyH.nil
          refine AllReadyH.cons (o := _) rfl (fun K hK => ?_) ?_
          ·
            go_simp
            refine outG hK ?_ (Below wn36.heap.size wn36) (fun W => Rd W 1 (some ⟨wn36.heap.size, 0, none⟩) 2 (strs [da, db])) ?_ ?_ (fun wn44 hHeld hst hnew => ?_)
            · (exact HSC.out _ (hB.trans (Below.mono (show Below wn36.heap.size wn36 _ from by (first | exact (Below.refl _ _).alloc (Nat.le_refl _) _ | exact hb5 | exact Below.refl _ _)) hB.size)))
            · (first | exact (Below.refl _ _).alloc (Nat.le_refl _) _ | exact hb5 | exact Below.refl _ _)
            · (rw [← HSAB.out]; exact Rd.newN [.string sa, .string sb] rfl)
            have hB := hB.trans (hst.mono hB.size)
            have h3 := h3.below hst
            have h8 := h8.below hst
            obtain ⟨gc, hgc⟩ : ∃ g, g = wn36.heap.size := ⟨_, rfl⟩
            rw [← hgc] at hnew ⊢
            clear hgc
            have h14 := hnew
            clear hst
            clear hK K
            try simp only [List.getElem_toArray, List.getElem_cons_zero, List.getElem_cons_succ, Act.put, List.setIfInBounds_toArray, List.set_cons_zero, List.set_cons_succ]
            refine wpAnyH_ready (rs := [4]) (by kernel_rfl) (by simp) ?_
            refine AllReadyH.cons (o := _) rfl (fun K hK => ?_) ?_
            ·
              go_simp
              refine (From_ok (some ⟨bq, oq, none⟩) (some ⟨ga, 0, none⟩) cb 1 s.blobs [da] wn44 (by omega) HRD5.out.bc HRD5.out.bm HGS.out.rts.g (HRD5.out.b.below hB) (by simp) h3).mono ?_
              rintro e5 w6 ⟨v5, L1, rfl, hL5, hl1, ho5, hb5⟩
              obtain ⟨A1, c1, rfl, hc1, _⟩ := Rd.of_own' ho5
              have HL1 := Lib.hid hL5
              clear hL5
              dsimp only
              refine outG hK ?_ (Below wn44.heap.size wn44) (fun W => W.ownsRow w5.heap.size 9 1 (.slice A1 L1.length c1) L1.length (strs L1)) ?_ ?_ (fun wn45 hHeld hst hnew => ?_)
              · (exact HSC.out _ (hB.trans (Below.mono (show Below wn44.heap.size wn44 _ from by (first | exact (Below.refl _ _).alloc (Nat.le_refl _) _ | exact hb5 | exact Below.refl _ _)) hB.size)))
              · (first | exact (Below.refl _ _).alloc (Nat.le_refl _) _ | exact hb5 | exact Below.refl _ _)
              · (exact own_lower ho5 hB.size)
              have hB := hB.trans (hst.mono hB.size)
              have h8 := h8.below hst
              have h14 := h14.below hst
              have k1 := hnew
              clear hst
              clear hK K
              try simp only [List.getElem_toArray, List.getElem_cons_zero, List.getElem_cons_succ, Act.put, List.setIfInBounds_toArray, List.set_cons_zero, List.set_cons_succ]
              refine wpAnyH_ready (rs := [9]) (by kernel_rfl) (by simp) ?_
              refine AllReadyH.cons (o := _) rfl (fun K hK => ?_) ?_
              ·
                go_simp
                refine (From_ok (some ⟨bq, oq, none⟩) (some ⟨gb, 0, none⟩) cb 1 s.blobs [db] wn45 (by omega) HRD5.out.bc HRD5.out.bm HGS.out.rts.g (HRD5.out.b.below hB) (by simp) h8).mono ?_
                rintro e5 w6 ⟨v5, L2, rfl, hL5, hl2, ho5, hb5⟩
                obtain ⟨A2, c2, rfl, hc2, _⟩ := Rd.of_own' ho5
                have HL2 := Lib.hid hL5
                clear hL5
                dsimp only
                refine outG hK ?_ (Below wn45.heap.size wn45) (fun W => W.ownsRow w5.heap.size 9 1 (.slice A2 L2.length c2) L2.length (strs L2)) ?_ ?_ (fun wn46 hHeld hst hnew => ?_)
                · (exact HSC.out _ (hB.trans (Below.mono (show Below wn45.heap.size wn45 _ from by (first | exact (Below.refl _ _).alloc (Nat.le_refl _) _ | exact hb5 | exact Below.refl _ _)) hB.size)))
                · (first | exact (Below.refl _ _).alloc (Nat.le_refl _) _ | exact hb5 | exact Below.refl _ _)
                · (exact own_lower ho5 hB.size)
                have hB := hB.trans (hst.mono hB.size)
                have h14 := h14.below hst
                have k1 := own_below k1 hst
                have k2 := hnew
                clear hst
                clear hK K
                try simp only [List.getElem_toArray, List.getElem_cons_zero, List.getElem_cons_succ, Act.put, List.setIfInBounds_toArray, List.set_cons_zero, List.set_cons_succ]
                refine wpAnyH_ready (rs := [15]) (by kernel_rfl) (by simp) ?_
                refine AllReadyH.cons (o := _) rfl (fun K hK => ?_) ?_
                ·
                  go_simp
                  refine (From_ok (some ⟨bq, oq, none⟩) (some ⟨gc, 0, none⟩) cb 2 s.blobs [da, db] wn46 (by omega) HRD5.out.bc HRD5.out.bm HGS.out.rts.g (HRD5.out.b.below hB) (by simp) h14).mono ?_
                  rintro e5 w6 ⟨v5, L3, rfl, hL5, hl3, ho5, hb5⟩
                  obtain ⟨A3, c3, rfl, hc3, _⟩ := Rd.of_own' ho5
                  have HL3 := Lib.hid hL5
                  clear hL5
                  dsimp only
                  refine outG hK ?_ (Below wn46.heap.size wn46) (fun W => W.ownsRow w5.heap.size 9 1 (.slice A3 L3.length c3) L3.length (strs L3)) ?_ ?_ (fun wn47 hHeld hst hnew => ?_)
                  · (exact HSC.out _ (hB.trans (Below.mono (show Below wn46.heap.size wn46 _ from by (first | exact (Below.refl _ _).alloc (Nat.le_refl _) _ | exact hb5 | exact Below.refl _ _)) hB.size)))
                  · (first | exact (Below.refl _ _).alloc (Nat.le_refl _) _ | exact hb5 | exact Below.refl _ _)
                  · (exact own_lower ho5 hB.size)
                  have hB := hB.trans (hst.mono hB.size)
                  have k1 := own_below k1 hst
                  have k2 := own_below k2 hst
                  have k3 := hnew
                  clear hst
                  clear hK K
                  try simp only [List.getElem_toArray, List.getElem_cons_zero, List.getElem_cons_succ, Act.put, List.setIfInBounds_toArray, List.set_cons_zero, List.set_cons_succ]
                  refine wpAnyH_take (i := 16) (oi := _) (v := ?_) rfl (by kernel_rfl) (by kernel_rfl) (by kernel_rfl) (fun _ _ _ h => h) (Or.inl ⟨by rfl, ?_⟩) (by assumption) ?_
                  rotate_left
                  · (intro w hSw; (try dsimp only at hSw); go_simp; try (with_reducible rfl))
                  try simp only [List.getElem_toArray, List.getElem_cons_zero, List.getElem_cons_succ, Act.put, List.setIfInBounds_toArray, List.set_cons_zero, List.set_cons_succ]
                  refine wpAnyH_take (i := 17) (oi := _) (v := ?_) rfl (by kernel_rfl) (by kernel_rfl) (by kernel_rfl) (fun _ _ _ h => h) (Or.inl ⟨by rfl, ?_⟩) (by assumption) ?_
                  rotate_left
                  · (intro w hSw; (try dsimp only at hSw); go_simp; try (with_reducible rfl))
                  try simp only [List.getElem_toArray, List.getElem_cons_zero, List.getElem_cons_succ, Act.put, List.setIfInBounds_toArray, List.set_cons_zero, List.set_cons_succ]
                  refine wpAnyH_take (i := 18) (oi := _) (v := ?_) rfl (by kernel_rfl) (by kernel_rfl) (by kernel_rfl) (fun _ _ _ h => h) (Or.inl ⟨by rfl, ?_⟩) (by assumption) ?_
                  rotate_left
                  · (intro w hSw; (try dsimp only at hSw); go_simp; try (with_reducible rfl))
                  try simp only [List.getElem_toArray, List.getElem_cons_zero, List.getElem_cons_succ, Act.put, List.setIfInBounds_toArray, List.set_cons_zero, List.set_cons_succ]
                  refine wpAnyH_done (by kernel_rfl) ?_ _
                  try dsimp only [Exit.then]
                  clear hHeld
                  have hall := And.intro hB (And.intro k1 (And.intro k2 (And.intro k3 (And.intro (And.intro HL1 (And.intro HL2 HL3)) (And.intro (And.intro hl1 (And.intro hl2 hl3)) (And.intro hc1 (And.intro hc2 hc3)))))))
                  clear hB k1 k2 k3 HL1 HL2 HL3 hl1 hl2 hl3 hc1 hc2 hc3
                  try clear h3
                  try clear h8
                  try clear h14
                  generalize wn47 = wz at hall ⊢
                  generalize ga = ya at hall ⊢
                  generalize gb = yb at hall ⊢
                  generalize gc = yc at hall ⊢
                  generalize A1 = B1 at hall ⊢
                  generalize c1 = e1 at hall ⊢
                  generalize A2 = B2 at hall ⊢
                  generalize c2 = e2 at hall ⊢
                  generalize A3 = B3 at hall ⊢
                  generalize c3 = e3 at hall ⊢
                  generalize L1 = M1 at hall ⊢
                  generalize L2 = M2 at hall ⊢
                  generalize L3 = M3 at hall ⊢
                  revert wz ya yb yc B1 e1 B2 e2 B3 e3 M1 M2 M3
                  exact REST.out
                exact AllReadyH.nil
              exact AllReadyH.nil
            exact AllReadyH.nil
          exact AllReadyH.nil
        refine AllReadyH.cons (o := _) rfl (fun K hK => ?_) ?_
        ·
          go_simp
          refine outG hK ?_ (Below wn35.heap.size wn35) (fun W => Rd W 1 (some ⟨wn35.heap.size, 0, none⟩) 2 (strs [da, db])) ?_ ?_ (fun wn48 hHeld hst hnew => ?_)
          · (exact HSC.out _ (hB.trans (Below.mono (show Below wn35.heap.size wn35 _ from by (first | exact (Below.refl _ _).alloc (Nat.le_refl _) _ | exact hb5 | exact Below.refl _ _)) hB.size)))
          · (first | exact (Below.refl _ _).alloc (Nat.le_refl _) _ | exact hb5 | exact Below.refl _ _)
          · (rw [← HSAB.out]; exact Rd.newN [.string sa, .string sb] rfl)
          have hB := hB.trans (hst.mono hB.size)
          have h8 := h8.below hst
          obtain ⟨gc, hgc⟩ : ∃ g, g = wn35.heap.size := ⟨_, rfl⟩
          rw [← hgc] at hnew ⊢
          clear hgc
          have h14 := hnew
          clear hst
          clear hK K
          try simp only [List.getElem_toArray, List.getElem_cons_zero, List.getElem_cons_succ, Act.put, List.setIfInBounds_toArray, List.set_cons_zero, List.set_cons_succ]
          refine wpAnyH_ready (rs := [3]) (by kernel_rfl) (by simp) ?_
          refine AllReadyH.cons (o := _) rfl (fun K hK => ?_) ?_
          ·
            go_simp
            refine outG hK ?_ (Below wn48.heap.size wn48) (fun W => Rd W 1 (some ⟨wn48.heap.size, 0, none⟩) 1 (strs [da])) ?_ ?_ (fun wn49 hHeld hst hnew => ?_)
            · (exact HSC.out _ (hB.trans (Below.mono (show Below wn48.heap.size wn48 _ from by (first | exact (Below.refl _ _).alloc (Nat.le_refl _) _ | exact hb5 | exact Below.refl _ _)) hB.size)))
            · (first | exact (Below.refl _ _).alloc (Nat.le_refl _) _ | exact hb5 | exact Below.refl _ _)
            · (rw [← HSA.out]; exact Rd.newN [.string sa] rfl)
            have hB := hB.trans (hst.mono hB.size)
            have h8 := h8.below hst
            have h14 := h14.below hst
            obtain ⟨ga, hga⟩ : ∃ g, g = wn48.heap.size := ⟨_, rfl⟩
            rw [← hga] at hnew ⊢
            clear hga
            have h3 := hnew
            clear hst
            clear hK K
            try simp only [List.getElem_toArray, List.getElem_cons_zero, List.getElem_cons_succ, Act.put, List.setIfInBounds_toArray, List.set_cons_zero, List.set_cons_succ]
            refine wpAnyH_ready (rs := [4]) (by kernel_rfl) (by simp) ?_
            refine AllReadyH.cons (o := _) rfl (fun K hK => ?_) ?_
            ·
              go_simp
              refine (From_ok (some ⟨bq, oq, none⟩) (some ⟨ga, 0, none⟩) cb 1 s.blobs [da] wn49 (by omega) HRD5.out.bc HRD5.out.bm HGS.out.rts.g (HRD5.out.b.below hB) (by simp) h3).mono ?_
              rintro e5 w6 ⟨v5, L1, rfl, hL5, hl1, ho5, hb5⟩
              obtain ⟨A1, c1, rfl, hc1, _⟩ := Rd.of_own' ho5
              have HL1 := Lib.hid hL5
              clear hL5
              dsimp only
              refine outG hK ?_ (Below wn49.heap.size wn49) (fun W => W.ownsRow w5.heap.size 9 1 (.slice A1 L1.length c1) L1.length (strs L1)) ?_ ?_ (fun wn50 hHeld hst hnew => ?_)
              · (exact HSC.out _ (hB.trans (Below.mono (show Below wn49.heap.size wn49 _ from by (first | exact (Below.refl _ _).alloc (Nat.le_refl _) _ | exact hb5 | exact Below.refl _ _)) hB.size)))
              · (first | exact (Below.refl _ _).alloc (Nat.le_refl _) _ | exact hb5 | exact Below.refl _ _)
              · (exact own_lower ho5 hB.size)
              have hB := hB.trans (hst.mono hB.size)
              have h8 := h8.below hst
              have h14 := h14.below hst
              have k1 := hnew
              clear hst
              clear hK K
              try simp only [List.getElem_toArray, List.getElem_cons_zero, List.getElem_cons_succ, Act.put, List.setIfInBounds_toArray, List.set_cons_zero, List.set_cons_succ]
              refine wpAnyH_ready (rs := [9]) (by kernel_rfl) (by simp) ?_
              refine AllReadyH.cons (o := _) rfl (fun K hK => ?_) ?_
              ·
                go_simp
                refine (From_ok (some ⟨bq, oq, none⟩) (some ⟨gb, 0, none⟩) cb 1 s.blobs [db] wn50 (by omega) HRD5.out.bc HRD5.out.bm HGS.out.rts.g (HRD5.out.b.below hB) (by simp) h8).mono ?_
                rintro e5 w6 ⟨v5, L2, rfl, hL5, hl2, ho5, hb5⟩
                obtain ⟨A2, c2, rfl, hc2, _⟩ := Rd.of_own' ho5
                have HL2 := Lib.hid hL5
                clear hL5
                dsimp only
                refine outG hK ?_ (Below wn50.heap.size wn50) (fun W => W.ownsRow w5.heap.size 9 1 (.slice A2 L2.length c2) L2.length (strs L2)) ?_ ?_ (fun wn51 hHeld hst hnew => ?_)
                · (exact HSC.out _ (hB.trans (Below.mono (show Below wn50.heap.size wn50 _ from by (first | exact (Below.refl _ _).alloc (Nat.le_refl _) _ | exact hb5 | exact Below.refl _ _)) hB.size)))
                · (first | exact (Below.refl _ _).alloc (Nat.le_refl _) _ | exact hb5 | exact Below.refl _ _)
                · (exact own_lower ho5 hB.size)
                have hB := hB.trans (hst.mono hB.size)
                have h14 := h14.below hst
                have k1 := own_below k1 hst
                have k2 := hnew
                clear hst
                clear hK K
                try simp only [List.getElem_toArray, List.getElem_cons_zero, List.getElem_cons_succ, Act.put, List.setIfInBounds_toArray, List.set_cons_zero, List.set_cons_succ]
                refine wpAnyH_ready (rs := [15]) (by kernel_rfl) (by simp) ?_
                refine AllReadyH.cons (o := _) rfl (fun K hK => ?_) ?_
                ·
                  go_simp
                  refine (From_ok (some ⟨bq, oq, none⟩) (some ⟨gc, 0, none⟩) cb 2 s.blobs [da, db] wn51 (by omega) HRD5.out.bc HRD5.out.bm HGS.out.rts.g (HRD5.out.b.below hB) (by simp) h14).mono ?_
                  rintro e5 w6 ⟨v5, L3, rfl, hL5, hl3, ho5, hb5⟩
                  obtain ⟨A3, c3, rfl, hc3, _⟩ := Rd.of_own' ho5
                  have HL3 := Lib.hid hL5
                  clear hL5
                  dsimp only
                  refine outG hK ?_ (Below wn51.heap.size wn51) (fun W => W.ownsRow w5.heap.size 9 1 (.slice A3 L3.length c3) L3.length (strs L3)) ?_ ?_ (fun wn52 hHeld hst hnew => ?_)
                  · (exact HSC.out _ (hB.trans (Below.mono (show Below wn51.heap.size wn51 _ from by (first | exact (Below.refl _ _).alloc (Nat.le_refl _) _ | exact hb5 | exact Below.refl _ _)) hB.size)))
                  · (first | exact (Below.refl _ _).alloc (Nat.le_refl _) _ | exact hb5 | exact Below.refl _ _)
                  · (exact own_lower ho5 hB.size)
                  have hB := hB.trans (hst.mono hB.size)
                  have k1 := own_below k1 hst
                  have k2 := own_below k2 hst
                  have k3 := hnew
                  clear hst
                  clear hK K
                  try simp only [List.getElem_toArray, List.getElem_cons_zero, List.getElem_cons_succ, Act.put, List.setIfInBounds_toArray, List.set_cons_zero, List.set_cons_succ]
                  refine wpAnyH_take (i := 16) (oi := _) (v := ?_) rfl (by kernel_rfl) (by kernel_rfl) (by kernel_rfl) (fun _ _ _ h => h) (Or.inl ⟨by rfl, ?_⟩) (by assumption) ?_
                  rotate_left
                  · (intro w hSw; (try dsimp only at hSw); go_simp; try (with_reducible rfl))
                  try simp only [List.getElem_toArray, List.getElem_cons_zero, List.getElem_cons_succ, Act.put, List.setIfInBounds_toArray, List.set_cons_zero, List.set_cons_succ]
                  refine wpAnyH_take (i := 17) (oi := _) (v := ?_) rfl (by kernel_rfl) (by kernel_rfl) (by kernel_rfl) (fun _ _ _ h => h) (Or.inl ⟨by rfl, ?_⟩) (by assumption) ?_
                  rotate_left
                  · (intro w hSw; (try dsimp only at hSw); go_simp; try (with_reducible rfl))
                  try simp only [List.getElem_toArray, List.getElem_cons_zero, List.getElem_cons_succ, Act.put, List.setIfInBounds_toArray, List.set_cons_zero, List.set_cons_succ]
                  refine wpAnyH_take (i := 18) (oi := _) (v := ?_) rfl (by kernel_rfl) (by kernel_rfl) (by kernel_rfl) (fun _ _ _ h => h) (Or.inl ⟨by rfl, ?_⟩) (by assumption) ?_
                  rotate_left
                  · (intro w hSw; (try dsimp only at hSw); go_simp; try (with_reducible rfl))
                  try simp only [List.getElem_toArray, List.getElem_cons_zero, List.getElem_cons_succ, Act.put, List.setIfInBounds_toArray, List.set_cons_zero, List.set_cons_succ]
                  refine wpAnyH_done (by kernel_rfl) ?_ _
                  try dsimp only [Exit.then]
                  clear hHeld
                  have hall := And.intro hB (And.intro k1 (And.intro k2 (And.intro k3 (And.intro (And.intro HL1 (And.intro HL2 HL3)) (And.intro (And.intro hl1 (And.intro hl2 hl3)) (And.intro hc1 (And.intro hc2 hc3)))))))
                  clear hB k1 k2 k3 HL1 HL2 HL3 hl1 hl2 hl3 hc1 hc2 hc3
                  try clear h3
                  try clear h8
                  try clear h14
                  generalize wn52 = wz at hall ⊢
                  generalize ga = ya at hall ⊢
                  generalize gb = yb at hall ⊢
                  generalize gc = yc at hall ⊢
                  generalize A1 = B1 at hall ⊢
                  generalize c1 = e1 at hall ⊢
                  generalize A2 = B2 at hall ⊢
                  generalize c2 = e2 at hall ⊢
                  generalize A3 = B3 at hall ⊢
                  generalize c3 = e3 at hall ⊢
                  generalize L1 = M1 at hall ⊢
                  generalize L2 = M2 at hall ⊢
                  generalize L3 = M3 at hall ⊢
                  revert wz ya yb yc B1 e1 B2 e2 B3 e3 M1 M2 M3
                  exact REST.out
                exact AllReadyH.nil
              exact AllReadyH.nil
            exact AllReadyH.nil
          exact AllReadyH.nil
        exact AllReadyH.nil
      refine AllReadyH.cons (o := _) rfl (fun K hK => ?_) ?_
      ·
        go_simp
        refine outG hK ?_ (Below wn0.heap.size wn0) (fun W => Rd W 1 (some ⟨wn0.heap.size, 0, none⟩) 2 (strs [da, db])) ?_ ?_ (fun wn53 hHeld hst hnew => ?_)
        · (exact HSC.out _ (hB.trans (Below.mono (show Below wn0.heap.size wn0 _ from by (first | exact (Below.refl _ _).alloc (Nat.le_refl _) _ | exact hb5 | exact Below.refl _ _)) hB.size)))
        · (first | exact (Below.refl _ _).alloc (Nat.le_refl _) _ | exact hb5 | exact Below.refl _ _)
        · (rw [← HSAB.out]; exact Rd.newN [.string sa, .string sb] rfl)
        have hB := hB.trans (hst.mono hB.size)
        obtain ⟨gc, hgc⟩ : ∃ g, g = wn0.heap.size := ⟨_, rfl⟩
        rw [← hgc] at hnew ⊢
        clear hgc
        have h14 := hnew
        clear hst
        clear hK K
        try simp only [List.getElem_toArray, List.getElem_cons_zero, List.getElem_cons_succ, Act.put, List.setIfInBounds_toArray, List.set_cons_zero, List.set_cons_succ]
        refine wpAnyH_ready (rs := [3, 8]) (by kernel_rfl) (by simp) ?_
        refine AllReadyH.cons (o := _) rfl (fun K hK => ?_) ?_
        ·
          go_simp
          refine outG hK ?_ (Below wn53.heap.size wn53) (fun W => Rd W 1 (some ⟨wn53.heap.size, 0, none⟩) 1 (strs [da])) ?_ ?_ (fun wn54 hHeld hst hnew => ?_)
          · (exact HSC.out _ (hB.trans (Below.mono (show Below wn53.heap.size wn53 _ from by (first | exact (Below.refl _ _).alloc (Nat.le_refl _) _ | exact hb5 | exact Below.refl _ _)) hB.size)))
          · (first | exact (Below.refl _ _).alloc (Nat.le_refl _) _ | exact hb5 | exact Below.refl _ _)
          · (rw [← HSA.out]; exact Rd.newN [.string sa] rfl)
          have hB := hB.trans (hst.mono hB.size)
          have h14 := h14.below hst
          obtain ⟨ga, hga⟩ : ∃ g, g = wn53.heap.size := ⟨_, rfl⟩
          rw [← hga] at hnew ⊢
          clear hga
          have h3 := hnew
          clear hst
          clear hK K
          try simp only [List.getElem_toArray, List.getElem_cons_zero, List.getElem_cons_succ, Act.put, List.setIfInBounds_toArray, List.set_cons_zero, List.set_cons_succ]
          refine wpAnyH_ready (rs := [4, 8]) (by kernel_rfl) (by simp) ?_
          refine AllReadyH.cons (o := _) rfl (fun K hK => ?_) ?_
          ·
            go_simp
            refine (From_ok (some ⟨bq, oq, none⟩) (some ⟨ga, 0, none⟩) cb 1 s.blobs [da] wn54 (by omega) HRD5.out.bc HRD5.out.bm HGS.out.rts.g (HRD5.out.b.below hB) (by simp) h3).mono ?_
            rintro e5 w6 ⟨v5, L1, rfl, hL5, hl1, ho5, hb5⟩
            obtain ⟨A1, c1, rfl, hc1, _⟩ := Rd.of_own' ho5
            have HL1 := Lib.hid hL5
            clear hL5
            dsimp only
            refine outG hK ?_ (Below wn54.heap.size wn54) (fun W => W.ownsRow w5.heap.size 9 1 (.slice A1 L1.length c1) L1.length (strs L1)) ?_ ?_ (fun wn55 hHeld hst hnew => ?_)
            · (exact HSC.out _ (hB.trans (Below.mono (show Below wn54.heap.size wn54 _ from by (first | exact (Below.refl _ _).alloc (Nat.le_refl _) _ | exact hb5 | exact Below.refl _ _)) hB.size)))
            · (first | exact (Below.refl _ _).alloc (Nat.le_refl _) _ | exact hb5 | exact Below.refl _ _)
            · (exact own_lower ho5 hB.size)
            have hB := hB.trans (hst.mono hB.size)
            have h14 := h14.below hst
            have k1 := hnew
            clear hst
            clear hK K
            try simp only [List.getElem_toArray, List.getElem_cons_zero, List.getElem_cons_succ, Act.put, List.setIfInBounds_toArray, List.set_cons_zero, List.set_cons_succ]
            refine wpAnyH_ready (rs := [8]) (by kernel_rfl) (by simp) ?_
            refine AllReadyH.cons (o := _) rfl (fun K hK => ?_) ?_
            ·
              go_simp
              refine outG hK ?_ (Below wn55.heap.size wn55) (fun W => Rd W 1 (some ⟨wn55.heap.size, 0, none⟩) 1 (strs [db])) ?_ ?_ (fun wn56 hHeld hst hnew => ?_)
              · (exact HSC.out _ (hB.trans (Below.mono (show Below wn55.heap.size wn55 _ from by (first | exact (Below.refl _ _).alloc (Nat.le_refl _) _ | exact hb5 | exact Below.refl _ _)) hB.size)))
              · (first | exact (Below.refl _ _).alloc (Nat.le_refl _) _ | exact hb5 | exact Below.refl _ _)
              · (rw [← HSBB.out]; exact Rd.newN [.string sb] rfl)
              have hB := hB.trans (hst.mono hB.size)
              have h14 := h14.below hst
              have k1 := own_below k1 hst
              obtain ⟨gb, hgb⟩ : ∃ g, g = wn55.heap.size := ⟨_, rfl⟩
              rw [← hgb] at hnew ⊢
              clear hgb
              have h8 := hnew
              clear hst
              clear hK K
              try simp only [List.getElem_toArray, List.getElem_cons_zero, List.getElem_cons_succ, Act.put, List.setIfInBounds_toArray, List.set_cons_zero, List.set_cons_succ]
              refine wpAnyH_ready (rs := [9]) (by kernel_rfl) (by simp) ?_
              refine AllReadyH.cons (o := _) rfl (fun K hK => ?_) ?_
              ·
                go_simp
                refine (From_ok (some ⟨bq, oq, none⟩) (some ⟨gb, 0, none⟩) cb 1 s.blobs [db] wn56 (by omega) HRD5.out.bc HRD5.out.bm HGS.out.rts.g (HRD5.out.b.below hB) (by simp) h8).mono ?_
                rintro e5 w6 ⟨v5, L2, rfl, hL5, hl2, ho5, hb5⟩
                obtain ⟨A2, c2, rfl, hc2, _⟩ := Rd.of_own' ho5
                have HL2 := Lib.hid hL5
                clear hL5
                dsimp only
                refine outG hK ?_ (Below wn56.heap.size wn56) (fun W => W.ownsRow w5.heap.size 9 1 (.slice A2 L2.length c2) L2.length (strs L2)) ?_ ?_ (fun wn57 hHeld hst hnew => ?_)
                · (exact HSC.out _ (hB.trans (Below.mono (show Below wn56.heap.size wn56 _ from by (first | exact (Below.refl _ _).alloc (Nat.le_refl _) _ | exact hb5 | exact Below.refl _ _)) hB.size)))
                · (first | exact (Below.refl _ _).alloc (Nat.le_refl _) _ | exact hb5 | exact Below.refl _ _)
                · (exact own_lower ho5 hB.size)
                have hB := hB.trans (hst.mono hB.size)
                have h14 := h14.below hst
                have k1 := own_below k1 hst
                have k2 := hnew
                clear hst
                clear hK K
                try simp only [List.getElem_toArray, List.getElem_cons_zero, List.getElem_cons_succ, Act.put, List.setIfInBounds_toArray, List.set_cons_zero, List.set_cons_succ]
                refine wpAnyH_ready (rs := [15]) (by kernel_rfl) (by simp) ?_
                refine AllReadyH.cons (o := _) rfl (fun K hK => ?_) ?_
                ·
                  go_simp
                  refine (From_ok (some ⟨bq, oq, none⟩) (some ⟨gc, 0, none⟩) cb 2 s.blobs [da, db] wn57 (by omega) HRD5.out.bc HRD5.out.bm HGS.out.rts.g (HRD5.out.b.below hB) (by simp) h14).mono ?_
                  rintro e5 w6 ⟨v5, L3, rfl, hL5, hl3, ho5, hb5⟩
                  obtain ⟨A3, c3, rfl, hc3, _⟩ := Rd.of_own' ho5
                  have HL3 := Lib.hid hL5
                  clear hL5
                  dsimp only
                  refine outG hK ?_ (Below wn57.heap.size wn57) (fun W => W.ownsRow w5.heap.size 9 1 (.slice A3 L3.length c3) L3.length (strs L3)) ?_ ?_ (fun wn58 hHeld hst hnew => ?_)
                  · (exact HSC.out _ (hB.trans (Below.mono (show Below wn57.heap.size wn57 _ from by (first | exact (Below.refl _ _).alloc (Nat.le_refl _) _ | exact hb5 | exact Below.refl _ _)) hB.size)))
                  · (first | exact (Below.refl _ _).alloc (Nat.le_refl _) _ | exact hb5 | exact Below.refl _ _)
                  · (exact own_lower ho5 hB.size)
                  have hB := hB.trans (hst.mono hB.size)
                  have k1 := own_below k1 hst
                  have k2 := own_below k2 hst
                  have k3 := hnew
                  clear hst
                  clear hK K
                  try simp only [List.getElem_toArray, List.getElem_cons_zero, List.getElem_cons_succ, Act.put, List.setIfInBounds_toArray, List.set_cons_zero, List.set_cons_succ]
                  refine wpAnyH_take (i := 16) (oi := _) (v := ?_) rfl (by kernel_rfl) (by kernel_rfl) (by kernel_rfl) (fun _ _ _ h => h) (Or.inl ⟨by rfl, ?_⟩) (by assumption) ?_
                  rotate_left
                  · (intro w hSw; (try dsimp only at hSw); go_simp; try (with_reducible rfl))
                  try simp only [List.getElem_toArray, List.getElem_cons_zero, List.getElem_cons_succ, Act.put, List.setIfInBounds_toArray, List.set_cons_zero, List.set_cons_succ]
                  refine wpAnyH_take (i := 17) (oi := _) (v := ?_) rfl (by kernel_rfl) (by kernel_rfl) (by kernel_rfl) (fun _ _ _ h => h) (Or.inl ⟨by rfl, ?_⟩) (by assumption) ?_
                  rotate_left
                  · (intro w hSw; (try dsimp only at hSw); go_simp; try (with_reducible rfl))
                  try simp only [List.getElem_toArray, List.getElem_cons_zero, List.getElem_cons_succ, Act.put, List.setIfInBounds_toArray, List.set_cons_zero, List.set_cons_succ]
                  refine wpAnyH_take (i := 18) (oi := _) (v := ?_) rfl (by kernel_rfl) (by kernel_rfl) (by kernel_rfl) (fun _ _ _ h => h) (Or.inl ⟨by rfl, ?_⟩) (by assumption) ?_
                  rotate_left
                  · (intro w hSw; (try dsimp only at hSw); go_simp; try (with_reducible rfl))
                  try simp only [List.getElem_toArray, List.getElem_cons_zero, List.getElem_cons_succ, Act.put, List.setIfInBounds_toArray, List.set_cons_zero, List.set_cons_succ]
                  refine wpAnyH_done (by kernel_rfl) ?_ _
                  try dsimp only [Exit.then]
                  clear hHeld
                  have hall := And.intro hB (And.intro k1 (And.intro k2 (And.intro k3 (And.intro (And.intro HL1 (And.intro HL2 HL3)) (And.intro (And.intro hl1 (And.intro hl2 hl3)) (And.intro hc1 (And.intro hc2 hc3)))))))
                  clear hB k1 k2 k3 HL1 HL2 HL3 hl1 hl2 hl3 hc1 hc2 hc3
                  try clear h3
                  try clear h8
                  try clear h14
                  generalize wn58 = wz at hall ⊢
                  generalize ga = ya at hall ⊢
                  generalize gb = yb at hall ⊢
                  generalize gc = yc at hall ⊢
                  generalize A1 = B1 at hall ⊢
                  generalize c1 = e1 at hall ⊢
                  generalize A2 = B2 at hall ⊢
                  generalize c2 = e2 at hall ⊢
                  generalize A3 = B3 at hall ⊢
                  generalize c3 = e3 at hall ⊢
                  generalize L1 = M1 at hall ⊢
                  generalize L2 = M2 at hall ⊢
                  generalize L3 = M3 at hall ⊢
                  revert wz ya yb yc B1 e1 B2 e2 B3 e3 M1 M2 M3
                  exact REST.out
                exact AllReadyH.nil
              exact AllReadyH.nil
            exact AllReadyH.nil
          refine AllReadyH.cons (o := _) rfl (fun K hK => ?_) ?_
          ·
            go_simp
            refine outG hK ?_ (Below wn54.heap.size wn54) (fun W => Rd W 1 (some ⟨wn54.heap.size, 0, none⟩) 1 (strs [db])) ?_ ?_ (fun wn59 hHeld hst hnew => ?_)
            · (exact HSC.out _ (hB.trans (Below.mono (show Below wn54.heap.size wn54 _ from by (first | exact (Below.refl _ _).alloc (Nat.le_refl _) _ | exact hb5 | exact Below.refl _ _)) hB.size)))
            · (first | exact (Below.refl _ _).alloc (Nat.le_refl _) _ | exact hb5 | exact Below.refl _ _)
            · (rw [← HSBB.out]; exact Rd.newN [.string sb] rfl)
            have hB := hB.trans (hst.mono hB.size)
            have h3 := h3.below hst
            have h14 := h14.below hst
            obtain ⟨gb, hgb⟩ : ∃ g, g = wn54.heap.size := ⟨_, rfl⟩
            rw [← hgb] at hnew ⊢
            clear hgb
            have h8 := hnew
            clear hst
            clear hK K
            try simp only [List.getElem_toArray, List.getElem_cons_zero, List.getElem_cons_succ, Act.put, List.setIfInBounds_toArray, List.set_cons_zero, List.set_cons_succ]
            refine wpAnyH_ready (rs := [4]) (by kernel_rfl) (by simp) ?_
            refine AllReadyH.cons (o := _) rfl (fun K hK => ?_) ?_
            ·
              go_simp
              refine (From_ok (some ⟨bq, oq, none⟩) (some ⟨ga, 0, none⟩) cb 1 s.blobs [da] wn59 (by omega) HRD5.out.bc HRD5.out.bm HGS.out.rts.g (HRD5.out.b.below hB) (by simp) h3).mono ?_
              rintro e5 w6 ⟨v5, L1, rfl, hL5, hl1, ho5, hb5⟩
              obtain ⟨A1, c1, rfl, hc1, _⟩ := Rd.of_own' ho5
              have HL1 := Lib.hid hL5
              clear hL5
              dsimp only
              refine outG hK ?_ (Below wn59.heap.size wn59) (fun W => W.ownsRow w5.heap.size 9 1 (.slice A1 L1.length c1) L1.length (strs L1)) ?_ ?_ (fun wn60 hHeld hst hnew => ?_)
              · (exact HSC.out _ (hB.trans (Below.mono (show Below wn59.heap.size wn59 _ from by (first | exact (Below.refl _ _).alloc (Nat.le_refl _) _ | exact hb5 | exact Below.refl _ _)) hB.size)))
              · (first | exact (Below.refl _ _).alloc (Nat.le_refl _) _ | exact hb5 | exact Below.refl _ _)
              · (exact own_lower ho5 hB.size)
              have hB := hB.trans (hst.mono hB.size)
              have h8 := h8.below hst
              have h14 := h14.below hst
              have k1 := hnew
              clear hst
              clear hK K
              try simp only [List.getElem_toArray, List.getElem_cons_zero, List.getElem_cons_succ, Act.put, List.setIfInBounds_toArray, List.set_cons_zero, List.set_cons_succ]
              refine wpAnyH_ready (rs := [9]) (by kernel_rfl) (by simp) ?_
              refine AllReadyH.cons (o := _) rfl (fun K hK => ?_) ?_
              ·
                go_simp
                refine (From_ok (some ⟨bq, oq, none⟩) (some ⟨gb, 0, none⟩) cb 1 s.blobs [db] wn60 (by omega) HRD5.out.bc HRD5.out.bm HGS.out.rts.g (HRD5.out.b.below hB) (by simp) h8).mono ?_
                rintro e5 w6 ⟨v5, L2, rfl, hL5, hl2, ho5, hb5⟩
                obtain ⟨A2, c2, rfl, hc2, _⟩ := Rd.of_own' ho5
                have HL2 := Lib.hid hL5
                clear hL5
                dsimp only
                refine outG hK ?_ (Below wn60.heap.size wn60) (fun W => W.ownsRow w5.heap.size 9 1 (.slice A2 L2.length c2) L2.length (strs L2)) ?_ ?_ (fun wn61 hHeld hst hnew => ?_)
                · (exact HSC.out _ (hB.trans (Below.mono (show Below wn60.heap.size wn60 _ from by (first | exact (Below.refl _ _).alloc (Nat.le_refl _) _ | exact hb5 | exact Below.refl _ _)) hB.size)))
                · (first | exact (Below.refl _ _).alloc (Nat.le_refl _) _ | exact hb5 | exact Below.refl _ _)
                · (exact own_lower ho5 hB.size)
                have hB := hB.trans (hst.mono hB.size)
                have h14 := h14.below hst
                have k1 := own_below k1 hst
                have k2 := hnew
                clear hst
                clear hK K
                try simp only [List.getElem_toArray, List.getElem_cons_zero, List.getElem_cons_succ, Act.put, List.setIfInBounds_toArray, List.set_cons_zero, List.set_cons_succ]
                refine wpAnyH_ready (rs := [15]) (by kernel_rfl) (by simp) ?_
                refine AllReadyH.cons (o := _) rfl (fun K hK => ?_) ?_
                ·
                  go_simp
                  refine (From_ok (some ⟨bq, oq, none⟩) (some ⟨gc, 0, none⟩) cb 2 s.blobs [da, db] wn61 (by omega) HRD5.out.bc HRD5.out.bm HGS.out.rts.g (HRD5.out.b.below hB) (by simp) h14).mono ?_
                  rintro e5 w6 ⟨v5, L3, rfl, hL5, hl3, ho5, hb5⟩
                  obtain ⟨A3, c3, rfl, hc3, _⟩ := Rd.of_own' ho5
                  have HL3 := Lib.hid hL5
                  clear hL5
                  dsimp only
                  refine outG hK ?_ (Below wn61.heap.size wn61) (fun W => W.ownsRow w5.heap.size 9 1 (.slice A3 L3.length c3) L3.length (strs L3)) ?_ ?_ (fun wn62 hHeld hst hnew => ?_)
                  · (exact HSC.out _ (hB.trans (Below.mono (show Below wn61.heap.size wn61 _ from by (first | exact (Below.refl _ _).alloc (Nat.le_refl _) _ | exact hb5 | exact Below.refl _ _)) hB.size)))
                  · (first | exact (Below.refl _ _).alloc (Nat.le_refl _) _ | exact hb5 | exact Below.refl _ _)
                  · (exact own_lower ho5 hB.size)
                  have hB := hB.trans (hst.mono hB.size)
                  have k1 := own_below k1 hst
                  have k2 := own_below k2 hst
                  have k3 := hnew
                  clear hst
                  clear hK K
                  try simp only [List.getElem_toArray, List.getElem_cons_zero, List.getElem_cons_succ, Act.put, List.setIfInBounds_toArray, List.set_cons_zero, List.set_cons_succ]
                  refine wpAnyH_take (i := 16) (oi := _) (v := ?_) rfl (by kernel_rfl) (by kernel_rfl) (by kernel_rfl) (fun _ _ _ h => h) (Or.inl ⟨by rfl, ?_⟩) (by assumption) ?_
                  rotate_left
                  · (intro w hSw; (try dsimp only at hSw); go_simp; try (with_reducible rfl))
                  try simp only [List.getElem_toArray, List.getElem_cons_zero, List.getElem_cons_succ, Act.put, List.setIfInBounds_toArray, List.set_cons_zero, List.set_cons_succ]
                  refine wpAnyH_take (i := 17) (oi := _) (v := ?_) rfl (by kernel_rfl) (by kernel_rfl) (by kernel_rfl) (fun _ _ _ h => h) (Or.inl ⟨by rfl, ?_⟩) (by assumption) ?_
                  rotate_left
                  · (intro w hSw; (try dsimp only at hSw); go_simp; try (with_reducible rfl))
                  try simp only [List.getElem_toArray, List.getElem_cons_zero, List.getElem_cons_succ, Act.put, List.setIfInBounds_toArray, List.set_cons_zero, List.set_cons_succ]
                  refine wpAnyH_take (i := 18) (oi := _) (v := ?_) rfl (by kernel_rfl) (by kernel_rfl) (by kernel_rfl) (fun _ _ _ h => h) (Or.inl ⟨by rfl, ?_⟩) (by assumption) ?_
                  rotate_left
                  · (intro w hSw; (try dsimp only at hSw); go_simp; try (with_reducible rfl))
                  try simp only [List.getElem_toArray, List.getElem_cons_zero, List.getElem_cons_succ, Act.put, List.setIfInBounds_toArray, List.set_cons_zero, List.set_cons_succ]
                  refine wpAnyH_done (by kernel_rfl) ?_ _
                  try dsimp only [Exit.then]
                  clear hHeld
                  have hall := And.intro hB (And.intro k1 (And.intro k2 (And.intro k3 (And.intro (And.intro HL1 (And.intro HL2 HL3)) (And.intro (And.intro hl1 (And.intro hl2 hl3)) (And.intro hc1 (And.intro hc2 hc3)))))))
                  clear hB k1 k2 k3 HL1 HL2 HL3 hl1 hl2 hl3 hc1 hc2 hc3
                  try clear h3
                  try clear h8
                  try clear h14
                  generalize wn62 = wz at hall ⊢
                  generalize ga = ya at hall ⊢
                  generalize gb = yb at hall ⊢
                  generalize gc = yc at hall ⊢
                  generalize A1 = B1 at hall ⊢
                  generalize c1 = e1 at hall ⊢
                  generalize A2 = B2 at hall ⊢
                  generalize c2 = e2 at hall ⊢
                  generalize A3 = B3 at hall ⊢
                  generalize c3 = e3 at hall ⊢
                  generalize L1 = M1 at hall ⊢
                  generalize L2 = M2 at hall ⊢
                  generalize L3 = M3 at hall ⊢
                  revert wz ya yb yc B1 e1 B2 e2 B3 e3 M1 M2 M3
                  exact REST.out
                exact AllReadyH.nil
              exact AllReadyH.nil
            exact AllReadyH.nil
          exact AllReadyH.nil
        refine AllReadyH.cons (o := _) rfl (fun K hK => ?_) ?_
        ·
          go_simp
          refine outG hK ?_ (Below wn53.heap.size wn53) (fun W => Rd W 1 (some ⟨wn53.heap.size, 0, none⟩) 1 (strs [db])) ?_ ?_ (fun wn63 hHeld hst hnew => ?_)
          · (exact HSC.out _ (hB.trans (Below.mono (show Below wn53.heap.size wn53 _ from by (first | exact (Below.refl _ _).alloc (Nat.le_refl _) _ | exact hb5 | exact Below.refl _ _)) hB.size)))
          · (first | exact (Below.refl _ _).alloc (Nat.le_refl _) _ | exact hb5 | exact Below.refl _ _)
          · (rw [← HSBB.out]; exact Rd.newN [.string sb] rfl)
          have hB := hB.trans (hst.mono hB.size)
          have h14 := h14.below hst
          obtain ⟨gb, hgb⟩ : ∃ g, g = wn53.heap.size := ⟨_, rfl⟩
          rw [← hgb] at hnew ⊢
          clear hgb
          have h8 := hnew
          clear hst
          clear hK K
          try simp only [List.getElem_toArray, List.getElem_cons_zero, List.getElem_cons_succ, Act.put, List.setIfInBounds_toArray, List.set_cons_zero, List.set_cons_succ]
          refine wpAnyH_ready (rs := [3]) (by kernel_rfl) (by simp) ?_
          refine AllReadyH.cons (o := _) rfl (fun K hK => ?_) ?_
          ·
            go_simp
            refine outG hK ?_ (Below wn63.heap.size wn63) (fun W => Rd W 1 (some ⟨wn63.heap.size, 0, none⟩) 1 (strs [da])) ?_ ?_ (fun wn64 hHeld hst hnew => ?_)
            · (exact HSC.out _ (hB.trans (Below.mono (show Below wn63.heap.size wn63 _ from by (first | exact (Below.refl _ _).alloc (Nat.le_refl _) _ | exact hb5 | exact Below.refl _ _)) hB.size)))
            · (first | exact (Below.refl _ _).alloc (Nat.le_refl _) _ | exact hb5 | exact Below.refl _ _)
            · (rw [← HSA.out]; exact Rd.newN [.string sa] rfl)
            have hB := hB.trans (hst.mono hB.size)
            have h8 := h8.below hst
            have h14 := h14.below hst
            obtain ⟨ga, hga⟩ : ∃ g, g = wn63.heap.size := ⟨_, rfl⟩
            rw [← hga] at hnew ⊢
            clear hga
            have h3 := hnew
            clear hst
            clear hK K
            try simp only [List.getElem_toArray, List.getElem_cons_zero, List.getElem_cons_succ, Act.put, List.setIfInBounds_toArray, List.set_cons_zero, List.set_cons_succ]
            refine wpAnyH_ready (rs := [4]) (by kernel_rfl) (by simp) ?_
            refine AllReadyH.cons (o := _) rfl (fun K hK => ?_) ?_
            ·
              go_simp
              refine (From_ok (some ⟨bq, oq, none⟩) (some ⟨ga, 0, none⟩) cb 1 s.blobs [da] wn64 (by omega) HRD5.out.bc HRD5.out.bm HGS.out.rts.g (HRD5.out.b.below hB) (by simp) h3).mono ?_
              rintro e5 w6 ⟨v5, L1, rfl, hL5, hl1, ho5, hb5⟩
              obtain ⟨A1, c1, rfl, hc1, _⟩ := Rd.of_own' ho5
              have HL1 := Lib.hid hL5
              clear hL5
              dsimp only
              refine outG hK ?_ (Below wn64.heap.size wn64) (fun W => W.ownsRow w5.heap.size 9 1 (.slice A1 L1.length c1) L1.length (strs L1)) ?_ ?_ (fun wn65 hHeld hst hnew => ?_)
              · (exact HSC.out _ (hB.trans (Below.mono (show Below wn64.heap.size wn64 _ from by (first | exact (Below.refl _ _).alloc (Nat.le_refl _) _ | exact hb5 | exact Below.refl _ _)) hB.size)))
              · (first | exact (Below.refl _ _).alloc (Nat.le_refl _) _ | exact hb5 | exact Below.refl _ _)
              · (exact own_lower ho5 hB.size)
              have hB := hB.trans (hst.mono hB.size)
              have h8 := h8.below hst
              have h14 := h14.below hst
              have k1 := hnew
              clear hst
              clear hK K
              try simp only [List.getElem_toArray, List.getElem_cons_zero, List.getElem_cons_succ, Act.put, List.setIfInBounds_toArray, List.set_cons_zero, List.set_cons_succ]
              refine wpAnyH_ready (rs := [9]) (by kernel_rfl) (by simp) ?_
              refine AllReadyH.cons (o := _) rfl (fun K hK => ?_) ?_
              ·
                go_simp
                refine (From_ok (some ⟨bq, oq, none⟩) (some ⟨gb, 0, none⟩) cb 1 s.blobs [db] wn65 (by omega) HRD5.out.bc HRD5.out.bm HGS.out.rts.g (HRD5.out.b.below hB) (by simp) h8).mono ?_
                rintro e5 w6 ⟨v5, L2, rfl, hL5, hl2, ho5, hb5⟩
                obtain ⟨A2, c2, rfl, hc2, _⟩ := Rd.of_own' ho5
                have HL2 := Lib.hid hL5
                clear hL5
                dsimp only
                refine outG hK ?_ (Below wn65.heap.size wn65) (fun W => W.ownsRow w5.heap.size 9 1 (.slice A2 L2.length c2) L2.length (strs L2)) ?_ ?_ (fun wn66 hHeld hst hnew => ?_)
                · (exact HSC.out _ (hB.trans (Below.mono (show Below wn65.heap.size wn65 _ from by (first | exact (Below.refl _ _).alloc (Nat.le_refl _) _ | exact hb5 | exact Below.refl _ _)) hB.size)))
                · (first | exact (Below.refl _ _).alloc (Nat.le_refl _) _ | exact hb5 | exact Below.refl _ _)
                · (exact own_lower ho5 hB.size)
                have hB := hB.trans (hst.mono hB.size)
                have h14 := h14.below hst
                have k1 := own_below k1 hst
                have k2 := hnew
                clear hst
                clear hK K
                try simp only [List.getElem_toArray, List.getElem_cons_zero, List.getElem_cons_succ, Act.put, List.setIfInBounds_toArray, List.set_cons_zero, List.set_cons_succ]
                refine wpAnyH_ready (rs := [15]) (by kernel_rfl) (by simp) ?_
                refine AllReadyH.cons (o := _) rfl (fun K hK => ?_) ?_
                ·
                  go_simp
                  refine (From_ok (some ⟨bq, oq, none⟩) (some ⟨gc, 0, none⟩) cb 2 s.blobs [da, db] wn66 (by omega) HRD5.out.bc HRD5.out.bm HGS.out.rts.g (HRD5.out.b.below hB) (by simp) h14).mono ?_
                  rintro e5 w6 ⟨v5, L3, rfl, hL5, hl3, ho5, hb5⟩
                  obtain ⟨A3, c3, rfl, hc3, _⟩ := Rd.of_own' ho5
                  have HL3 := Lib.hid hL5
                  clear hL5
                  dsimp only
                  refine outG hK ?_ (Below wn66.heap.size wn66) (fun W => W.ownsRow w5.heap.size 9 1 (.slice A3 L3.length c3) L3.length (strs L3)) ?_ ?_ (fun wn67 hHeld hst hnew => ?_)
                  · (exact HSC.out _ (hB.trans (Below.mono (show Below wn66.heap.size wn66 _ from by (first | exact (Below.refl _ _).alloc (Nat.le_refl _) _ | exact hb5 | exact Below.refl _ _)) hB.size)))
                  · (first | exact (Below.refl _ _).alloc (Nat.le_refl _) _ | exact hb5 | exact Below.refl _ _)
                  · (exact own_lower ho5 hB.size)
                  have hB := hB.trans (hst.mono hB.size)
                  have k1 := own_below k1 hst
                  have k2 := own_below k2 hst
                  have k3 := hnew
                  clear hst
                  clear hK K
                  try simp only [List.getElem_toArray, List.getElem_cons_zero, List.getElem_cons_succ, Act.put, List.setIfInBounds_toArray, List.set_cons_zero, List.set_cons_succ]
                  refine wpAnyH_take (i := 16) (oi := _) (v := ?_) rfl (by kernel_rfl) (by kernel_rfl) (by kernel_rfl) (fun _ _ _ h => h) (Or.inl ⟨by rfl, ?_⟩) (by assumption) ?_
                  rotate_left
                  · (intro w hSw; (try dsimp only at hSw); go_simp; try (with_reducible rfl))
                  try simp only [List.getElem_toArray, List.getElem_cons_zero, List.getElem_cons_succ, Act.put, List.setIfInBounds_toArray, List.set_cons_zero, List.set_cons_succ]
                  refine wpAnyH_take (i := 17) (oi := _) (v := ?_) rfl (by kernel_rfl) (by kernel_rfl) (by kernel_rfl) (fun _ _ _ h => h) (Or.inl ⟨by rfl, ?_⟩) (by assumption) ?_
                  rotate_left
                  · (intro w hSw; (try dsimp only at hSw); go_simp; try (with_reducible rfl))
                  try simp only [List.getElem_toArray, List.getElem_cons_zero, List.getElem_cons_succ, Act.put, List.setIfInBounds_toArray, List.set_cons_zero, List.set_cons_succ]
                  refine wpAnyH_take (i := 18) (oi := _) (v := ?_) rfl (by kernel_rfl) (by kernel_rfl) (by kernel_rfl) (fun _ _ _ h => h) (Or.inl ⟨by rfl, ?_⟩) (by assumption) ?_
                  rotate_left
                  · (intro w hSw; (try dsimp only at hSw); go_simp; try (with_reducible rfl))
                  try simp only [List.getElem_toArray, List.getElem_cons_zero, List.getElem_cons_succ, Act.put, List.setIfInBounds_toArray, List.set_cons_zero, List.set_cons_succ]
                  refine wpAnyH_done (by kernel_rfl) ?_ _
                  try dsimp only [Exit.then]
                  clear hHeld
                  have hall := And.intro hB (And.intro k1 (And.intro k2 (And.intro k3 (And.intro (And.intro HL1 (And.intro HL2 HL3)) (And.intro (And.intro hl1 (And.intro hl2 hl3)) (And.intro hc1 (And.intro hc2 hc3)))))))
                  clear hB k1 k2 k3 HL1 HL2 HL3 hl1 hl2 hl3 hc1 hc2 hc3
                  try clear h3
                  try clear h8
                  try clear h14
                  generalize wn67 = wz at hall ⊢
                  generalize ga = ya at hall ⊢
                  generalize gb = yb at hall ⊢
                  generalize gc = yc at hall ⊢
                  generalize A1 = B1 at hall ⊢
                  generalize c1 = e1 at hall ⊢
                  generalize A2 = B2 at hall ⊢
                  generalize c2 = e2 at hall ⊢
                  generalize A3 = B3 at hall ⊢
                  generalize c3 = e3 at hall ⊢
                  generalize L1 = M1 at hall ⊢
                  generalize L2 = M2 at hall ⊢
                  generalize L3 = M3 at hall ⊢
                  revert wz ya yb yc B1 e1 B2 e2 B3 e3 M1 M2 M3
                  exact REST.out
                exact AllReadyH.nil
              exact AllReadyH.nil
            exact AllReadyH.nil
          exact AllReadyH.nil
        exact AllReadyH.nil
      exact AllReadyH.nil
      intro wz ya yb yc B1 e1 B2 e2 B3 e3 M1 M2 M3 hall
      obtain ⟨hBz, k1, k2, k3, ⟨HL1, HL2, HL3⟩, ⟨hl1, hl2, hl3⟩, hc1, hc2, hc3⟩ := hall
      have hbz := HB5.out.trans (hBz.mono HB5.out.size)
      have hr1 := Rd.of_own k1
      have hr2 := Rd.of_own k2
      have hr3 := Rd.of_own k3
      have hbx : Arr (wz.alloc (.cells #[.slice B1 M1.length e1, .slice B2 M2.length e2] 28)) wz.heap.size 28 [.slice B1 M1.length e1, .slice B2 M2.length e2] := Arr.new wz 28 _
      have hba := (Below.refl wz.heap.size wz).alloc (Nat.le_refl _) (.cells #[.slice B1 M1.length e1, .slice B2 M2.length e2] 28)
      have HCC := Lib.hid (ConcatS_ok wz.heap.size B1 B2 e1 e2 M1 M2 _ hc1 hc2 (by omega) (by omega) (hbx.cell (k := 0) rfl) (hbx.cell (k := 1) rfl) (hr1.below hba) (hr2.below hba))
      have hbza := hbz.trans (hba.mono hbz.size)
      have hr1a := hr1.below hba
      have hr3a := hr3.below hba
      have hlm : (M1 ++ M2).length ≤ 48 := by rw [List.length_append]; omega
      have HMM := Lib.hid (fun x => show x ∈ M1 ++ M2 ↔ x ∈ M1 ∨ x ∈ M2 from List.mem_append)
      clear hbx hba hr1 hr2 hr3 k1 k2 k3 hBz hbz
      repeat' ((fail_if_success at_builtin); (fail_if_success at_make); (first | go_values | go_skip | go_guarded | go_step | go_upon | go_back))
      generalize (wz.alloc (.cells #[.slice B1 M1.length e1, .slice B2 M2.length e2] 28)) = wa at *
      refine ((HCC.out)).mono ?_; rintro e_ wb ⟨v2, rfl, ho2, hbb⟩; dsimp only
      have hbzb := hbza.trans (hbb.mono hbza.size)
      have hr1b := hr1a.below hbb
      have hr3b := hr3a.below hbb
      have hsa := hbza.size
      have HB1b : ∀ bb off, B1 = some ⟨bb, off, none⟩ → 0 < M1.length → bb < wa.heap.size := fun bb off e h0 => by
        obtain ⟨b', o', e', hb', _⟩ := hr1a.2 h0
        rw [e] at e'; cases e'; exact hb'
      have HB3b : ∀ bb off, B3 = some ⟨bb, off, none⟩ → 0 < M3.length → bb < wa.heap.size := fun bb off e h0 => by
        obtain ⟨b', o', e', hb', _⟩ := hr3a.2 h0
        rw [e] at e'; cases e'; exact hb'
      generalize M1 ++ M2 = K at *
      clear HCC hbza hbb hr1a hr3a
      have farS : ∀ (w1 w2 : World) (v : Value) (n : Nat) (xs : List Value) (B : Option Addr) (M : List (List UInt8)), w1.ownsRow wa.heap.size 9 1 v n xs → w1.grownBy w2 v.ownBlock → (∀ bb off, B = some ⟨bb, off, none⟩ → 0 < M.length → bb < wa.heap.size) → Rd w1 1 B M.length (strs M) → Rd w2 1 B M.length (strs M) := fun w1 w2 v n xs B M ho hg hB hr => by
        cases hv : v.ownBlock with
        | none => rw [hv] at hg; exact hr.below ⟨hg.os, hg.tape, hg.output, hg.size, fun k hk => hg.block k hk (by simp)⟩
        | some g =>
          rw [hv] at hg
          exact hr.far hg (fun bb off e h0 => by have := hB bb off e h0; have := (ho.lt g hv).1; omega)
      have HFS := Lib.hid farS
      clear farS
      repeat' ((fail_if_success at_builtin); (fail_if_success at_make); (first | go_values | go_skip | go_guarded | go_step | go_upon | go_back))
      refine ((Sort_own _ v2 K wb (by omega) ho2)).mono ?_; rintro e_ wc ⟨rfl, ho3, hg3⟩; dsimp only
      have hbzc := below_own hbzb ho2 hsa hg3
      have hr1c := HFS.out wb wc v2 _ _ B1 M1 ho2 hg3 HB1b hr1b
      have hr3c := HFS.out wb wc v2 _ _ B3 M3 ho2 hg3 HB3b hr3b
      have hp := sorted_pw K
      have hperm := List.mergeSort_perm K leB
      have hkl : (K.mergeSort leB).length = K.length := List.length_mergeSort K
      rw [← hkl] at ho3
      have HKP := Lib.hid (And.intro hp (And.intro hperm hkl))
      generalize K.mergeSort leB = Q at *
      clear ho2 hg3 hbzb hp hperm hr1b hr3b
      repeat' ((fail_if_success at_builtin); (fail_if_success at_make); (first | go_values | go_skip | go_guarded | go_step | go_upon | go_back))
      refine ((Compact_own _ v2 Q wc (by omega) ho3)).mono ?_; rintro e_ wd ⟨v4, rfl, ho4, hg4⟩; dsimp only
      have hbzd := below_own hbzc ho3 hsa hg4
      have hr1d := HFS.out wc wd v2 _ _ B1 M1 ho3 hg4 HB1b hr1c
      have hr3d := HFS.out wc wd v2 _ _ B3 M3 ho3 hg4 HB3b hr3c
      have hst := compact_strL HKP.out.1
      have hcl := Lib.compact_length_le Q
      have hNM : Lib.compact Q = M3 := StrL.uniq (p := Rch s.blobs [da, db]) ⟨hst.nd, hst.le, fun x => by
        rw [hst.mem, HKP.out.2.1.mem_iff, HMM.out, HL1.out.mem, HL2.out.mem, Rch.two]⟩ HL3.out
      rw [hNM] at ho4
      obtain ⟨A4, c4, rfl, _, hr4⟩ := Rd.of_own' ho4
      clear ho3 hg4 hbzc hst hr1c hr3c
      have HEQ := Eq_str A4 B3 c4 e3 M3 M3 wd (by omega) (by omega) hr4 hr3d
      rw [decide_eq_true rfl] at HEQ
      have HEQ' := Lib.hid HEQ
      clear HEQ ho4 hr4 hr3d
      repeat' ((fail_if_success at_builtin); (fail_if_success at_make); (first | go_values | go_skip | go_guarded | go_step | go_upon | go_back))
      refine ((HEQ'.out)).mono ?_; rintro e_ we ⟨rfl, hbe⟩; dsimp only
      have hbze := hbzd.trans (hbe.mono hbzd.size)
      have hin : da ∈ M1 := (HL1.out.mem _).2 (.root (by simp) HIN.out)
      have hct := Has_str B1 e1 M1 da we (by omega) (hr1d.below hbe)
      rw [decide_eq_true hin, HDA.out] at hct
      have HCT := Lib.hid hct
      clear hct hin hr1d hbe HEQ'
      repeat' ((fail_if_success at_builtin); (fail_if_success at_make); (first | go_values | go_skip | go_guarded | go_step | go_upon | go_back))
      refine ((HCT.out)).mono ?_; rintro e_ wx ⟨rfl, rfl⟩; dsimp only
      repeat' ((fail_if_success at_builtin); (fail_if_success at_make); (first | go_values | go_skip | go_guarded | go_step | go_upon | go_back))
      go_ret
      exact ⟨rfl, hbze⟩
    exact AllReadyH.nil
  exact AllReadyH.nil
  --HELDEND4
end Go.Proofs.YtdpedkgdobfemaaGreat
