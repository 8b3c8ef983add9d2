/- StoreTwice walked. Conditions: the slice's size. -/
import Derived.Test.YtjldpfijekpddaaGreatKpt
import Derived.Test.YtjldpfijekpddaaGreatRawV
namespace Go.Proofs.YtjldpfijekpddaaGreat
open Go.RowKit
set_option linter.unusedVariables false
set_option linter.unusedSimpArgs false
set_option maxRecDepth 100000

theorem share {P Q : Prop} (h : Hid P → Q) (p : P) : Q := h (Lib.hid p)
/-- bytes that there is room for -/
structure Fits (s : StoP) (D : List UInt8) : Prop where
  g : GoodS s
  d : D.length ≤ 300
  l : s.blobs.length < 24 ∨ (s.blobs.findIdx? (fun b => b.dig == shaS D)).isSome = true
  u : usd (putB s.blobs D) ≤ s.room
theorem Fits.good {s : StoP} {D : List UInt8} (h : Fits s D) : GoodS (putBS s D) := by
  rcases h.l with h1 | h1
  · exact putBS_good h.g h.d h1 h.u
  · obtain ⟨i, hi⟩ := Option.isSome_iff_exists.1 h1
    have : putBS s D = s := by unfold putBS putB; rw [hi]
    rw [this]; exact h.g
theorem PutBlobF_ok (A : Option Addr) (c : Nat) (B : Option Addr) (d : Nat) (s : StoP) (D : List UInt8) (DA : Option Addr) (dc : Nat) (w : World) (hf : Fits s D) (hr : RdSt w A c B d s) (hD : Sl w 1 DA D.length dc (bys D)) :
    Calls Tryz.prog 24 #[.agg #[.slice A s.blobs.length c, .slice B s.ents.length d, .int .i64 (s.room : Int), .int .i64 (s.clock : Int)], .slice DA D.length dc] w fun e w' =>
      ∃ A' c' B' d', e = .returned (.tuple #[.agg #[.slice A' (putBS s D).blobs.length c', .slice B' (putBS s D).ents.length d', .int .i64 (s.room : Int), .int .i64 (s.clock : Int)], .string ⟨(shaS D).toArray⟩, .int .i64 0]) ∧ OwSt w' w.heap.size (.slice A' (putBS s D).blobs.length c') (.slice B' (putBS s D).ents.length d') (putBS s D) (fun b => b < w.heap.size) ∧ Below w.heap.size w w' :=
  (PutBlob_ok A c B d s D DA dc w hf.g hr hf.d hf.l hf.u hD).mono fun e w' ⟨v1, v2, h1, h2, h3⟩ => by
    obtain ⟨A', c', B', d', e1, e2, _⟩ := h2.rows
    subst e1 e2
    exact ⟨A', c', B', d', h1, h2, h3⟩
/-- what Store makes has room for sixty bytes -/
theorem sto_fits (l : List RawP) {D : List UInt8} (hd : D.length ≤ 600) (h3 : D.length ≤ 300) : Fits (sto l) D := by
  have h := acc_ok l
  have pb : ((sto l).blobs).Perm (stAcc l).blobs := srt_perm _ _
  refine ⟨sto_good l, h3, .inl (by rw [pb.length_eq]; have := h.blen; omega), ?_⟩
  have := putB_usd (sto l).blobs D
  rw [sto_room]; omega
theorem putB_twice (l : List BlobP) (D : List UInt8) (hr : RisesBy (·.dig) (putB l D)) : ∃ i, (putB l D).findIdx? (fun b => b.dig == shaS D) = some i := by
  obtain ⟨b, hb, h1⟩ := putB_has l D
  obtain ⟨i, _, h2, _⟩ := ris_idx (f := fun b : BlobP => b.dig) hr hb h1
  exact ⟨i, h2⟩
theorem putB_some {l : List BlobP} {D : List UInt8} {i : Nat} (h : l.findIdx? (fun b => b.dig == shaS D) = some i) : putB l D = l := by unfold putB; rw [h]
theorem putBS_twice {s : StoP} {D : List UInt8} (h : GoodS (putBS s D)) : putBS (putBS s D) D = putBS s D := by
  obtain ⟨i, hi⟩ := putB_twice s.blobs D h.b.ris
  have : putB (putB s.blobs D) D = putB s.blobs D := putB_some hi
  show { s with blobs := putB (putB s.blobs D) D } = _
  rw [this]; rfl
theorem Fits.again {s : StoP} {D : List UInt8} (h : Fits s D) : Fits (putBS s D) D := by
  have hg := h.good
  obtain ⟨i, hi⟩ := putB_twice s.blobs D hg.b.ris
  refine ⟨hg, h.d, .inr (by rw [show (putBS s D).blobs = putB s.blobs D from rfl, hi]; rfl), ?_⟩
  have e : putB (putBS s D).blobs D = putB s.blobs D := congrArg StoP.blobs (putBS_twice hg)
  rw [e]; exact h.u
set_option maxHeartbeats 4000000 in
theorem StoreTwice_walk (A : Option Addr) (n c : Nat) (l : List RawP) (r : RawP) (w : World) (hl : l.length = n) (hc : n ≤ c) (hm : c ≤ maxLen) (hok : ∀ r ∈ l, RawOk r) (hr : Rd w 4 A n (rcs l)) (hro : RawOk r) :
    Calls Tryz.prog 5 #[.slice A n c, rval r] w fun e w' => e = .returned (.bool true) ∧ Below w.heap.size w w' := by
  obtain ⟨D, hD⟩ : ∃ D, D = datL r 60 := ⟨_, rfl⟩
  have hDl : D.length ≤ 60 := by rw [hD]; exact datL_len r 60
  have HF1 := Lib.hid (sto_fits l (D := D) (by omega) (by omega))
  have HDT := Data_ok r 60 60 rfl (by omega) hro
  rw [← hD] at HDT
  have HDT := Lib.hid HDT
  obtain ⟨rk, ra, rb, rt⟩ := r
  unfold rval at HDT ⊢
  obtain ⟨w0, hw0⟩ : ∃ w0, w0 = w.alloc (.cells #[.int .i64 rk, .int .i64 ra, .int .i64 rb, .string rt] 24) := ⟨_, rfl⟩
  have hb0 : Below w.heap.size w w0 := by rw [hw0]; exact (Below.refl _ _).alloc (Nat.le_refl _) _
  obtain ⟨gr, hgr⟩ : ∃ g, g = w.heap.size := ⟨_, rfl⟩
  have hRb : Arr w0 gr 24 [.int .i64 rk, .int .i64 ra, .int .i64 rb, .string rt] := by rw [hw0, hgr]; exact Arr.new w 24 _
  have HS := Lib.hid (Store_ok A n c l w0 hl hc hm hok (hr.below hb0))
  rw [← hgr] at hb0 ⊢
  have hgl : gr < w0.heap.size := hRb.lt
  clear hD hok hl hr hro
  generalize hs : sto l = s at *
  clear hs
  go_enter Tryz.func5, Tryz.ntmps5
  repeat' ((fail_if_success at_builtin); (fail_if_success at_make); (first | go_values | go_skip | go_guarded | go_step | go_upon | go_back))
  rw [← hw0, ← hgr]
  clear hw0 hgr
  refine ((HS.out)).mono ?_; rintro e_ w1 ⟨v1, v2, rfl, hb, he, hb1⟩; dsimp only
  obtain ⟨As, cs, rfl, hc1, hc2, hRs⟩ := hb.rows
  obtain ⟨Bs, ds, rfl, hd1, hd2, hEs⟩ := he.rows
  have hrd1 : RdSt w1 As cs Bs ds s := ⟨hRs, hEs, hc1, hc2, hd1, hd2⟩
  have hb01 := hb0.trans (hb1.mono (by omega))
  have hRb1 := hRb.below hb1
  have hX := Arr.new w1 28 [.slice As s.blobs.length cs, .slice Bs s.ents.length ds, .int .i64 (s.room : Int), .int .i64 (s.clock : Int)]
  have hba := (Below.refl w1.heap.size w1).alloc (Nat.le_refl _) (.cells #[.slice As s.blobs.length cs, .slice Bs s.ents.length ds, .int .i64 (s.room : Int), .int .i64 (s.clock : Int)] 28)
  have hX' : Arr (w1.alloc (.cells #[.slice As s.blobs.length cs, .slice Bs s.ents.length ds, .int .i64 (s.room : Int), .int .i64 (s.clock : Int)] 28)) w1.heap.size 28 [.slice As s.blobs.length cs, .slice Bs s.ents.length ds, .int .i64 (s.room : Int), .int .i64 (s.clock : Int)] := hX
  have hrd2 := hrd1.below hba
  have hRb2 := hRb1.below hba
  have hb02 := hb01.trans (hba.mono (by have := hb1.size; omega))
  clear hb he hRs hEs hX hba hrd1 hRb hRb1 hb0 hb1 hb01 hc1 hc2 hd1 hd2
  repeat' ((fail_if_success at_builtin); (fail_if_success at_make); (first | go_values | go_skip | go_guarded | go_step | go_upon | go_back))
  generalize w1.alloc (.cells #[.slice As s.blobs.length cs, .slice Bs s.ents.length ds, .int .i64 (s.room : Int), .int .i64 (s.clock : Int)] 28) = w2 at *
  generalize w1.heap.size = gs at *
  have hgs2 : gs < w2.heap.size := hX'.lt
  have hgr2 : gr < w2.heap.size := hRb2.lt
  have HSB := Lib.hid (show ∀ W, Below w2.heap.size w2 W → (W.cell? ⟨gs, 0, none⟩ = some (.slice As s.blobs.length cs) ∧ W.cell? ⟨gs, 1, none⟩ = some (.slice Bs s.ents.length ds) ∧ W.cell? ⟨gs, 2, none⟩ = some (.int .i64 (s.room : Int)) ∧ W.cell? ⟨gs, 3, none⟩ = some (.int .i64 (s.clock : Int))) ∧ (W.cell? ⟨gr, 0, none⟩ = some (.int .i64 rk) ∧ W.cell? ⟨gr, 1, none⟩ = some (.int .i64 ra) ∧ W.cell? ⟨gr, 2, none⟩ = some (.int .i64 rb) ∧ W.cell? ⟨gr, 3, none⟩ = some (.string rt)) from fun W h =>
    ⟨⟨(hX'.below h).cell (k := 0) rfl, (hX'.below h).cell (k := 1) rfl, (hX'.below h).cell (k := 2) rfl, (hX'.below h).cell (k := 3) rfl⟩, (hRb2.below h).cell (k := 0) rfl, (hRb2.below h).cell (k := 1) rfl, (hRb2.below h).cell (k := 2) rfl, (hRb2.below h).cell (k := 3) rfl⟩)
  obtain ⟨sd, hsd⟩ : ∃ x : ByteArray, x = ⟨(shaS D).toArray⟩ := ⟨_, rfl⟩
  have hpb := fun W A2 c2 (h : Below w2.heap.size w2 W) (hz : OwnZ W w2.heap.size A2 c2 D) => PutBlobF_ok As cs Bs ds s D A2 c2 W HF1.out (hrd2.below h) hz.sl.1
  rw [← hsd] at hpb
  have HPB := Lib.hid hpb
  have HSD := Lib.hid hsd
  have HRB := Lib.hid hRb2
  have HB2 := Lib.hid hb02
  clear hpb hsd hX' hrd2 hRb2 hb02
  apply share
  intro REST
  --HELD1
  refine wp_region_held_drew (S := (fun w' => (w'.cell? ⟨gs, 0, none⟩ = some (.slice As s.blobs.length cs) ∧ w'.cell? ⟨gs, 1, none⟩ = some (.slice Bs s.ents.length ds) ∧ w'.cell? ⟨gs, 2, none⟩ = some (.int .i64 (s.room : Int)) ∧ w'.cell? ⟨gs, 3, none⟩ = some (.int .i64 (s.clock : Int))) ∧ (w'.cell? ⟨gr, 0, none⟩ = some (.int .i64 rk) ∧ w'.cell? ⟨gr, 1, none⟩ = some (.int .i64 ra) ∧ w'.cell? ⟨gr, 2, none⟩ = some (.int .i64 rb) ∧ w'.cell? ⟨gr, 3, none⟩ = some (.string rt)))) (by kernel_rfl) ?_ (fun hHeld => ?_)
  · exact HSB.out _ (Below.refl _ w2).drew
  have hB := (Below.refl w2.heap.size w2).drew
  generalize w2.drew = wn0 at *
  refine wpAnyH_take (i := 0) (oi := _) (v := ?_) rfl (by kernel_rfl) (by kernel_rfl) (by kernel_rfl) (fun _ _ _ h => h) (Or.inl ⟨by rfl, ?_⟩) (by assumption) ?_
  rotate_left
  · (intro w hSw; (try dsimp only at hSw); go_simp; try (with_reducible rfl))
  try simp only [List.getElem_toArray, List.getElem_cons_zero, List.getElem_cons_succ, Act.put, List.setIfInBounds_toArray, List.set_cons_zero, List.set_cons_succ]
  refine wpAnyH_take (i := 1) (oi := _) (v := ?_) rfl (by kernel_rfl) (by kernel_rfl) (by kernel_rfl) (fun _ _ _ h => h) (Or.inl ⟨by rfl, ?_⟩) (by assumption) ?_
  rotate_left
  · (intro w hSw; (try dsimp only at hSw); go_simp; try (with_reducible rfl))
  try simp only [List.getElem_toArray, List.getElem_cons_zero, List.getElem_cons_succ, Act.put, List.setIfInBounds_toArray, List.set_cons_zero, List.set_cons_succ]
  refine wpAnyH_ready (rs := [2, 8]) (by kernel_rfl) (by simp) ?_
  refine AllReadyH.cons (o := _) rfl (fun K hK => ?_) ?_
  ·
    go_simp
    refine (HDT.out wn0).mono ?_
    rintro e5 w5 ⟨A2, c2, rfl, hz5, hb5⟩
    dsimp only
    refine outG hK ?_ (Below wn0.heap.size wn0) (fun W => OwnZ W w2.heap.size A2 c2 D) ?_ ?_ (fun wn1 hHeld hst hnew => ?_)
    · (exact HSB.out _ (hB.trans (Below.mono (show Below wn0.heap.size wn0 _ from by (first | exact (Below.refl _ _).alloc (Nat.le_refl _) _ | exact hb5 | exact Below.refl _ _)) hB.size)))
    · (first | exact (Below.refl _ _).alloc (Nat.le_refl _) _ | exact hb5 | exact Below.refl _ _)
    · (exact hz5.lower hB.size)
    have hB := hB.trans (hst.mono hB.size)
    have hD := hnew
    clear hnew
    clear hst
    clear hK K
    try simp only [List.getElem_toArray, List.getElem_cons_zero, List.getElem_cons_succ, Act.put, List.setIfInBounds_toArray, List.set_cons_zero, List.set_cons_succ]
    refine wpAnyH_ready (rs := [3, 8]) (by kernel_rfl) (by simp) ?_
    refine AllReadyH.cons (o := _) rfl (fun K hK => ?_) ?_
    ·
      try have hA8 := h8.lt
      go_simp
      refine (HPB.out wn1 A2 c2 hB hD).mono ?_
      rintro e5 w5 ⟨A', c', B', d', rfl, ho5, hb5⟩
      dsimp only
      refine outG hK ?_ (Below wn1.heap.size wn1) (fun W => OwSt W wn1.heap.size (Value.slice A' (putBS s D).blobs.length c') (Value.slice B' (putBS s D).ents.length d') (putBS s D) (fun b => b < wn1.heap.size)) ?_ ?_ (fun wn2 hHeld hst hnew => ?_)
      · (exact HSB.out _ (hB.trans (Below.mono (show Below wn1.heap.size wn1 _ from by (first | exact (Below.refl _ _).alloc (Nat.le_refl _) _ | exact hb5 | exact Below.refl _ _)) hB.size)))
      · (first | exact (Below.refl _ _).alloc (Nat.le_refl _) _ | exact hb5 | exact Below.refl _ _)
      · (exact ho5)
      have hB := hB.trans (hst.mono hB.size)
      have ho := hnew
      try (have hne1 : (Value.slice A' (putBS s D).blobs.length c').ownBlock ≠ some g6 := fun e => by have := (ho.b.rwo.blk e).1; omega)
      try (have hne2 : (Value.slice B' (putBS s D).ents.length d').ownBlock ≠ some g6 := fun e => by have := (ho.e.rwo.blk e).1; omega)
      try (have ho := ho.wider (N' := fun b => b = g6) (fun b hb => .inl (by omega)))
      try (have ho := ho.lower (base' := 0) (Nat.zero_le _))
      clear hst
      clear hK K
      try simp only [List.getElem_toArray, List.getElem_cons_zero, List.getElem_cons_succ, Act.put, List.setIfInBounds_toArray, List.set_cons_zero, List.set_cons_succ]
      refine wpAnyH_take (i := 4) (oi := _) (v := ?_) rfl (by kernel_rfl) (by kernel_rfl) (by kernel_rfl) (fun _ _ _ h => h) (Or.inl ⟨by rfl, ?_⟩) (by assumption) ?_
      rotate_left
      · (intro w hSw; (try dsimp only at hSw); go_simp; try (with_reducible rfl))
      try simp only [List.getElem_toArray, List.getElem_cons_zero, List.getElem_cons_succ, Act.put, List.setIfInBounds_toArray, List.set_cons_zero, List.set_cons_succ]
      refine wpAnyH_take (i := 5) (oi := _) (v := ?_) rfl (by kernel_rfl) (by kernel_rfl) (by kernel_rfl) (fun _ _ _ h => h) (Or.inl ⟨by rfl, ?_⟩) (by assumption) ?_
      rotate_left
      · (intro w hSw; (try dsimp only at hSw); go_simp; try (with_reducible rfl))
      try simp only [List.getElem_toArray, List.getElem_cons_zero, List.getElem_cons_succ, Act.put, List.setIfInBounds_toArray, List.set_cons_zero, List.set_cons_succ]
      refine wpAnyH_take (i := 6) (oi := _) (v := ?_) rfl (by kernel_rfl) (by kernel_rfl) (by kernel_rfl) (fun _ _ _ h => h) (Or.inl ⟨by rfl, ?_⟩) (by assumption) ?_
      rotate_left
      · (intro w hSw; (try dsimp only at hSw); go_simp; try (with_reducible rfl))
      try simp only [List.getElem_toArray, List.getElem_cons_zero, List.getElem_cons_succ, Act.put, List.setIfInBounds_toArray, List.set_cons_zero, List.set_cons_succ]
      refine wpAnyH_take (i := 7) (oi := _) (v := ?_) rfl (by kernel_rfl) (by kernel_rfl) (by kernel_rfl) (fun _ _ _ h => h) (Or.inl ⟨by rfl, ?_⟩) (by assumption) ?_
      rotate_left
      · (intro w hSw; (try dsimp only at hSw); go_simp; try (with_reducible rfl))
      try simp only [List.getElem_toArray, List.getElem_cons_zero, List.getElem_cons_succ, Act.put, List.setIfInBounds_toArray, List.set_cons_zero, List.set_cons_succ]
      refine wpAnyH_ready (rs := [8]) (by kernel_rfl) (by simp) ?_
      refine AllReadyH.cons (o := _) rfl (fun K hK => ?_) ?_
      ·
        try (have hA1 := fun b (e : (Value.slice A' (putBS s D).blobs.length c').ownBlock = some b) => (ho.b.rwo.blk e).2)
        try (have hA2 := fun b (e : (Value.slice B' (putBS s D).ents.length d').ownBlock = some b) => (ho.e.rwo.blk e).2)
        try (have ho := (ho.lower (base' := 0) (Nat.zero_le _)).wider (N' := fun b => b = wn2.heap.size) (fun b hb => .inr (by omega)))
        go_simp
        refine outG hK ?_ (Below wn2.heap.size wn2) (fun W => Arr W wn2.heap.size 28 [.slice none 0 0, .slice none 0 0, .int .i64 0, .int .i64 0] ∧ w2.heap.size ≤ wn2.heap.size) ?_ ?_ (fun wn3 hHeld hst hnew => ?_)
        · (exact HSB.out _ (hB.trans (Below.mono (show Below wn2.heap.size wn2 _ from by (first | exact (Below.refl _ _).alloc (Nat.le_refl _) _ | exact hb5 | exact Below.refl _ _)) hB.size)))
        · (first | exact (Below.refl _ _).alloc (Nat.le_refl _) _ | exact hb5 | exact Below.refl _ _)
        · (exact ⟨Arr.new _ _ _, hB.size⟩)
        have hB := hB.trans (hst.mono hB.size)
        have ho := ho.below hst
        obtain ⟨h8, hl8⟩ := hnew
        obtain ⟨g6, hg6⟩ : ∃ g, g = wn2.heap.size := ⟨_, rfl⟩
        rw [← hg6] at h8 hl8 ⊢
        try (rw [← hg6] at ho)
        try (have hne1 : (Value.slice A' (putBS s D).blobs.length c').ownBlock ≠ some g6 := fun e => by have := hA1 _ e; omega)
        try (have hne2 : (Value.slice B' (putBS s D).ents.length d').ownBlock ≠ some g6 := fun e => by have := hA2 _ e; omega)
        try clear hA1
        try clear hA2
        clear hg6
        clear hst
        clear hK K
        try simp only [List.getElem_toArray, List.getElem_cons_zero, List.getElem_cons_succ, Act.put, List.setIfInBounds_toArray, List.set_cons_zero, List.set_cons_succ]
        refine wpAnyH_ready (rs := [9]) (by kernel_rfl) (by simp) ?_
        refine AllReadyH.cons (o := _) rfl (fun K hK => ?_) ?_
        ·
          have z0 := h8.cell (k := 0) rfl
          have z1 := h8.cell (k := 1) rfl
          have z2 := h8.cell (k := 2) rfl
          have z3 := h8.cell (k := 3) rfl
          have f0 := h8.frozen 0
          have f1 := h8.frozen 1
          have f2 := h8.frozen 2
          have f3 := h8.frozen 3
          go_simp
          clear z0 z1 z2 z3 f0 f1 f2 f3
          refine outG hK ?_ (fun W => Arr W g6 28 [.slice A' (putBS s D).blobs.length c', .slice B' (putBS s D).ents.length d', .int .i64 (s.room : Int), .int .i64 (s.clock : Int)]) (fun W => Below w2.heap.size w2 W ∧ OwSt W 0 (Value.slice A' (putBS s D).blobs.length c') (Value.slice B' (putBS s D).ents.length d') (putBS s D) (fun b => b = g6)) ?_ ?_ (fun wn4 hHeld hF hG => ?_)
          · exact HSB.out _ ((((hB.setCell (p := ⟨g6, 0, none⟩) hl8 _).setCell (p := ⟨g6, 1, none⟩) hl8 _).setCell (p := ⟨g6, 2, none⟩) hl8 _).setCell (p := ⟨g6, 3, none⟩) hl8 _)
          · exact h8.all4 _ _ _ _
          · exact ⟨(((hB.setCell (p := ⟨g6, 0, none⟩) hl8 _).setCell (p := ⟨g6, 1, none⟩) hl8 _).setCell (p := ⟨g6, 2, none⟩) hl8 _).setCell (p := ⟨g6, 3, none⟩) hl8 _, (((ho.setX rfl hne1 hne2 _).setX rfl hne1 hne2 _).setX rfl hne1 hne2 _).setX rfl hne1 hne2 _⟩
          clear hB h8 ho
          clear hK K
          try simp only [List.getElem_toArray, List.getElem_cons_zero, List.getElem_cons_succ, Act.put, List.setIfInBounds_toArray, List.set_cons_zero, List.set_cons_succ]
          refine wpAnyH_take (i := 10) (oi := _) (v := ?_) rfl (by kernel_rfl) (by kernel_rfl) (by kernel_rfl) (fun _ _ _ h => h) (Or.inl ⟨by rfl, ?_⟩) (by assumption) ?_
          rotate_left
          · (intro w hSw; (try dsimp only at hSw); go_simp; try (with_reducible rfl))
          try simp only [List.getElem_toArray, List.getElem_cons_zero, List.getElem_cons_succ, Act.put, List.setIfInBounds_toArray, List.set_cons_zero, List.set_cons_succ]
          refine wpAnyH_take (i := 11) (oi := _) (v := ?_) rfl (by kernel_rfl) (by kernel_rfl) (by kernel_rfl) (fun _ _ _ h => h) (Or.inl ⟨by rfl, ?_⟩) (by assumption) ?_
          rotate_left
          · (intro w hSw; (try dsimp only at hSw); go_simp; try (with_reducible rfl))
          try simp only [List.getElem_toArray, List.getElem_cons_zero, List.getElem_cons_succ, Act.put, List.setIfInBounds_toArray, List.set_cons_zero, List.set_cons_succ]
          refine wpAnyH_done (by kernel_rfl) ?_ _
          dsimp only [Exit.then]
          clear hHeld
          obtain ⟨hBz, hoz⟩ := hG
          have hrz : RdSt wn4 A' c' B' d' (putBS s D) := by
            obtain ⟨A9, c9, B9, d9, e1, e2, h⟩ := hoz.rows
            cases e1; cases e2; exact h
          have hall := And.intro hBz (And.intro hrz hF)
          generalize wn4 = wz at hall ⊢
          generalize g6 = gz at hall ⊢
          generalize A' = Az at hall ⊢
          generalize c' = cz at hall ⊢
          generalize B' = Bz at hall ⊢
          generalize d' = dz at hall ⊢
          generalize A2 = A3
          generalize c2 = c3
          revert wz gz Az cz Bz dz A3 c3
          exact REST.out
        exact AllReadyH.nil
      exact AllReadyH.nil
    refine AllReadyH.cons (o := _) rfl (fun K hK => ?_) ?_
    ·
      try (have hA1 := fun b (e : (Value.slice A' (putBS s D).blobs.length c').ownBlock = some b) => (ho.b.rwo.blk e).2)
      try (have hA2 := fun b (e : (Value.slice B' (putBS s D).ents.length d').ownBlock = some b) => (ho.e.rwo.blk e).2)
      try (have ho := (ho.lower (base' := 0) (Nat.zero_le _)).wider (N' := fun b => b = wn1.heap.size) (fun b hb => .inr (by omega)))
      go_simp
      refine outG hK ?_ (Below wn1.heap.size wn1) (fun W => Arr W wn1.heap.size 28 [.slice none 0 0, .slice none 0 0, .int .i64 0, .int .i64 0] ∧ w2.heap.size ≤ wn1.heap.size) ?_ ?_ (fun wn5 hHeld hst hnew => ?_)
      · (exact HSB.out _ (hB.trans (Below.mono (show Below wn1.heap.size wn1 _ from by (first | exact (Below.refl _ _).alloc (Nat.le_refl _) _ | exact hb5 | exact Below.refl _ _)) hB.size)))
      · (first | exact (Below.refl _ _).alloc (Nat.le_refl _) _ | exact hb5 | exact Below.refl _ _)
      · (exact ⟨Arr.new _ _ _, hB.size⟩)
      have hB := hB.trans (hst.mono hB.size)
      have hD := hD.below hst
      obtain ⟨h8, hl8⟩ := hnew
      obtain ⟨g6, hg6⟩ : ∃ g, g = wn1.heap.size := ⟨_, rfl⟩
      rw [← hg6] at h8 hl8 ⊢
      try (rw [← hg6] at ho)
      try (have hne1 : (Value.slice A' (putBS s D).blobs.length c').ownBlock ≠ some g6 := fun e => by have := hA1 _ e; omega)
      try (have hne2 : (Value.slice B' (putBS s D).ents.length d').ownBlock ≠ some g6 := fun e => by have := hA2 _ e; omega)
      try clear hA1
      try clear hA2
      clear hg6
      clear hst
      clear hK K
      try simp only [List.getElem_toArray, List.getElem_cons_zero, List.getElem_cons_succ, Act.put, List.setIfInBounds_toArray, List.set_cons_zero, List.set_cons_succ]
      refine wpAnyH_ready (rs := [3]) (by kernel_rfl) (by simp) ?_
      refine AllReadyH.cons (o := _) rfl (fun K hK => ?_) ?_
      ·
        try have hA8 := h8.lt
        go_simp
        refine (HPB.out wn5 A2 c2 hB hD).mono ?_
        rintro e5 w5 ⟨A', c', B', d', rfl, ho5, hb5⟩
        dsimp only
        refine outG hK ?_ (Below wn5.heap.size wn5) (fun W => OwSt W wn5.heap.size (Value.slice A' (putBS s D).blobs.length c') (Value.slice B' (putBS s D).ents.length d') (putBS s D) (fun b => b < wn5.heap.size)) ?_ ?_ (fun wn6 hHeld hst hnew => ?_)
        · (exact HSB.out _ (hB.trans (Below.mono (show Below wn5.heap.size wn5 _ from by (first | exact (Below.refl _ _).alloc (Nat.le_refl _) _ | exact hb5 | exact Below.refl _ _)) hB.size)))
        · (first | exact (Below.refl _ _).alloc (Nat.le_refl _) _ | exact hb5 | exact Below.refl _ _)
        · (exact ho5)
        have hB := hB.trans (hst.mono hB.size)
        have h8 := h8.below hst
        have ho := hnew
        try (have hne1 : (Value.slice A' (putBS s D).blobs.length c').ownBlock ≠ some g6 := fun e => by have := (ho.b.rwo.blk e).1; omega)
        try (have hne2 : (Value.slice B' (putBS s D).ents.length d').ownBlock ≠ some g6 := fun e => by have := (ho.e.rwo.blk e).1; omega)
        try (have ho := ho.wider (N' := fun b => b = g6) (fun b hb => .inl (by omega)))
        try (have ho := ho.lower (base' := 0) (Nat.zero_le _))
        clear hst
        clear hK K
        try simp only [List.getElem_toArray, List.getElem_cons_zero, List.getElem_cons_succ, Act.put, List.setIfInBounds_toArray, List.set_cons_zero, List.set_cons_succ]
        refine wpAnyH_take (i := 4) (oi := _) (v := ?_) rfl (by kernel_rfl) (by kernel_rfl) (by kernel_rfl) (fun _ _ _ h => h) (Or.inl ⟨by rfl, ?_⟩) (by assumption) ?_
        rotate_left
        · (intro w hSw; (try dsimp only at hSw); go_simp; try (with_reducible rfl))
        try simp only [List.getElem_toArray, List.getElem_cons_zero, List.getElem_cons_succ, Act.put, List.setIfInBounds_toArray, List.set_cons_zero, List.set_cons_succ]
        refine wpAnyH_take (i := 5) (oi := _) (v := ?_) rfl (by kernel_rfl) (by kernel_rfl) (by kernel_rfl) (fun _ _ _ h => h) (Or.inl ⟨by rfl, ?_⟩) (by assumption) ?_
        rotate_left
        · (intro w hSw; (try dsimp only at hSw); go_simp; try (with_reducible rfl))
        try simp only [List.getElem_toArray, List.getElem_cons_zero, List.getElem_cons_succ, Act.put, List.setIfInBounds_toArray, List.set_cons_zero, List.set_cons_succ]
        refine wpAnyH_take (i := 6) (oi := _) (v := ?_) rfl (by kernel_rfl) (by kernel_rfl) (by kernel_rfl) (fun _ _ _ h => h) (Or.inl ⟨by rfl, ?_⟩) (by assumption) ?_
        rotate_left
        · (intro w hSw; (try dsimp only at hSw); go_simp; try (with_reducible rfl))
        try simp only [List.getElem_toArray, List.getElem_cons_zero, List.getElem_cons_succ, Act.put, List.setIfInBounds_toArray, List.set_cons_zero, List.set_cons_succ]
        refine wpAnyH_take (i := 7) (oi := _) (v := ?_) rfl (by kernel_rfl) (by kernel_rfl) (by kernel_rfl) (fun _ _ _ h => h) (Or.inl ⟨by rfl, ?_⟩) (by assumption) ?_
        rotate_left
        · (intro w hSw; (try dsimp only at hSw); go_simp; try (with_reducible rfl))
        try simp only [List.getElem_toArray, List.getElem_cons_zero, List.getElem_cons_succ, Act.put, List.setIfInBounds_toArray, List.set_cons_zero, List.set_cons_succ]
        refine wpAnyH_ready (rs := [9]) (by kernel_rfl) (by simp) ?_
        refine AllReadyH.cons (o := _) rfl (fun K hK => ?_) ?_
        ·
          have z0 := h8.cell (k := 0) rfl
          have z1 := h8.cell (k := 1) rfl
          have z2 := h8.cell (k := 2) rfl
          have z3 := h8.cell (k := 3) rfl
          have f0 := h8.frozen 0
          have f1 := h8.frozen 1
          have f2 := h8.frozen 2
          have f3 := h8.frozen 3
          go_simp
          clear z0 z1 z2 z3 f0 f1 f2 f3
          refine outG hK ?_ (fun W => Arr W g6 28 [.slice A' (putBS s D).blobs.length c', .slice B' (putBS s D).ents.length d', .int .i64 (s.room : Int), .int .i64 (s.clock : Int)]) (fun W => Below w2.heap.size w2 W ∧ OwSt W 0 (Value.slice A' (putBS s D).blobs.length c') (Value.slice B' (putBS s D).ents.length d') (putBS s D) (fun b => b = g6)) ?_ ?_ (fun wn7 hHeld hF hG => ?_)
          · exact HSB.out _ ((((hB.setCell (p := ⟨g6, 0, none⟩) hl8 _).setCell (p := ⟨g6, 1, none⟩) hl8 _).setCell (p := ⟨g6, 2, none⟩) hl8 _).setCell (p := ⟨g6, 3, none⟩) hl8 _)
          · exact h8.all4 _ _ _ _
          · exact ⟨(((hB.setCell (p := ⟨g6, 0, none⟩) hl8 _).setCell (p := ⟨g6, 1, none⟩) hl8 _).setCell (p := ⟨g6, 2, none⟩) hl8 _).setCell (p := ⟨g6, 3, none⟩) hl8 _, (((ho.setX rfl hne1 hne2 _).setX rfl hne1 hne2 _).setX rfl hne1 hne2 _).setX rfl hne1 hne2 _⟩
          clear hB h8 ho
          clear hK K
          try simp only [List.getElem_toArray, List.getElem_cons_zero, List.getElem_cons_succ, Act.put, List.setIfInBounds_toArray, List.set_cons_zero, List.set_cons_succ]
          refine wpAnyH_take (i := 10) (oi := _) (v := ?_) rfl (by kernel_rfl) (by kernel_rfl) (by kernel_rfl) (fun _ _ _ h => h) (Or.inl ⟨by rfl, ?_⟩) (by assumption) ?_
          rotate_left
          · (intro w hSw; (try dsimp only at hSw); go_simp; try (with_reducible rfl))
          try simp only [List.getElem_toArray, List.getElem_cons_zero, List.getElem_cons_succ, Act.put, List.setIfInBounds_toArray, List.set_cons_zero, List.set_cons_succ]
          refine wpAnyH_take (i := 11) (oi := _) (v := ?_) rfl (by kernel_rfl) (by kernel_rfl) (by kernel_rfl) (fun _ _ _ h => h) (Or.inl ⟨by rfl, ?_⟩) (by assumption) ?_
          rotate_left
          · (intro w hSw; (try dsimp only at hSw); go_simp; try (with_reducible rfl))
          try simp only [List.getElem_toArray, List.getElem_cons_zero, List.getElem_cons_succ, Act.put, List.setIfInBounds_toArray, List.set_cons_zero, List.set_cons_succ]
          refine wpAnyH_done (by kernel_rfl) ?_ _
          dsimp only [Exit.then]
          clear hHeld
          obtain ⟨hBz, hoz⟩ := hG
          have hrz : RdSt wn7 A' c' B' d' (putBS s D) := by
            obtain ⟨A9, c9, B9, d9, e1, e2, h⟩ := hoz.rows
            cases e1; cases e2; exact h
          have hall := And.intro hBz (And.intro hrz hF)
          generalize wn7 = wz at hall ⊢
          generalize g6 = gz at hall ⊢
          generalize A' = Az at hall ⊢
          generalize c' = cz at hall ⊢
          generalize B' = Bz at hall ⊢
          generalize d' = dz at hall ⊢
          generalize A2 = A3
          generalize c2 = c3
          revert wz gz Az cz Bz dz A3 c3
          exact REST.out
        exact AllReadyH.nil
      exact AllReadyH.nil
    exact AllReadyH.nil
  refine AllReadyH.cons (o := _) rfl (fun K hK => ?_) ?_
  ·
    try (have hA1 := fun b (e : (Value.slice A' (putBS s D).blobs.length c').ownBlock = some b) => (ho.b.rwo.blk e).2)
    try (have hA2 := fun b (e : (Value.slice B' (putBS s D).ents.length d').ownBlock = some b) => (ho.e.rwo.blk e).2)
    try (have ho := (ho.lower (base' := 0) (Nat.zero_le _)).wider (N' := fun b => b = wn0.heap.size) (fun b hb => .inr (by omega)))
    go_simp
    refine outG hK ?_ (Below wn0.heap.size wn0) (fun W => Arr W wn0.heap.size 28 [.slice none 0 0, .slice none 0 0, .int .i64 0, .int .i64 0] ∧ w2.heap.size ≤ wn0.heap.size) ?_ ?_ (fun wn8 hHeld hst hnew => ?_)
    · (exact HSB.out _ (hB.trans (Below.mono (show Below wn0.heap.size wn0 _ from by (first | exact (Below.refl _ _).alloc (Nat.le_refl _) _ | exact hb5 | exact Below.refl _ _)) hB.size)))
    · (first | exact (Below.refl _ _).alloc (Nat.le_refl _) _ | exact hb5 | exact Below.refl _ _)
    · (exact ⟨Arr.new _ _ _, hB.size⟩)
    have hB := hB.trans (hst.mono hB.size)
    obtain ⟨h8, hl8⟩ := hnew
    obtain ⟨g6, hg6⟩ : ∃ g, g = wn0.heap.size := ⟨_, rfl⟩
    rw [← hg6] at h8 hl8 ⊢
    try (rw [← hg6] at ho)
    try (have hne1 : (Value.slice A' (putBS s D).blobs.length c').ownBlock ≠ some g6 := fun e => by have := hA1 _ e; omega)
    try (have hne2 : (Value.slice B' (putBS s D).ents.length d').ownBlock ≠ some g6 := fun e => by have := hA2 _ e; omega)
    try clear hA1
    try clear hA2
    clear hg6
    clear hst
    clear hK K
    try simp only [List.getElem_toArray, List.getElem_cons_zero, List.getElem_cons_succ, Act.put, List.setIfInBounds_toArray, List.set_cons_zero, List.set_cons_succ]
    refine wpAnyH_ready (rs := [2]) (by kernel_rfl) (by simp) ?_
    refine AllReadyH.cons (o := _) rfl (fun K hK => ?_) ?_
    ·
      go_simp
      refine (HDT.out wn8).mono ?_
      rintro e5 w5 ⟨A2, c2, rfl, hz5, hb5⟩
      dsimp only
      refine outG hK ?_ (Below wn8.heap.size wn8) (fun W => OwnZ W w2.heap.size A2 c2 D) ?_ ?_ (fun wn9 hHeld hst hnew => ?_)
      · (exact HSB.out _ (hB.trans (Below.mono (show Below wn8.heap.size wn8 _ from by (first | exact (Below.refl _ _).alloc (Nat.le_refl _) _ | exact hb5 | exact Below.refl _ _)) hB.size)))
      · (first | exact (Below.refl _ _).alloc (Nat.le_refl _) _ | exact hb5 | exact Below.refl _ _)
      · (exact hz5.lower hB.size)
      have hB := hB.trans (hst.mono hB.size)
      have h8 := h8.below hst
      have hD := hnew
      clear hnew
      clear hst
      clear hK K
      try simp only [List.getElem_toArray, List.getElem_cons_zero, List.getElem_cons_succ, Act.put, List.setIfInBounds_toArray, List.set_cons_zero, List.set_cons_succ]
      refine wpAnyH_ready (rs := [3]) (by kernel_rfl) (by simp) ?_
      refine AllReadyH.cons (o := _) rfl (fun K hK => ?_) ?_
      ·
        try have hA8 := h8.lt
        go_simp
        refine (HPB.out wn9 A2 c2 hB hD).mono ?_
        rintro e5 w5 ⟨A', c', B', d', rfl, ho5, hb5⟩
        dsimp only
        refine outG hK ?_ (Below wn9.heap.size wn9) (fun W => OwSt W wn9.heap.size (Value.slice A' (putBS s D).blobs.length c') (Value.slice B' (putBS s D).ents.length d') (putBS s D) (fun b => b < wn9.heap.size)) ?_ ?_ (fun wn10 hHeld hst hnew => ?_)
        · (exact HSB.out _ (hB.trans (Below.mono (show Below wn9.heap.size wn9 _ from by (first | exact (Below.refl _ _).alloc (Nat.le_refl _) _ | exact hb5 | exact Below.refl _ _)) hB.size)))
        · (first | exact (Below.refl _ _).alloc (Nat.le_refl _) _ | exact hb5 | exact Below.refl _ _)
        · (exact ho5)
        have hB := hB.trans (hst.mono hB.size)
        have h8 := h8.below hst
        have ho := hnew
        try (have hne1 : (Value.slice A' (putBS s D).blobs.length c').ownBlock ≠ some g6 := fun e => by have := (ho.b.rwo.blk e).1; omega)
        try (have hne2 : (Value.slice B' (putBS s D).ents.length d').ownBlock ≠ some g6 := fun e => by have := (ho.e.rwo.blk e).1; omega)
        try (have ho := ho.wider (N' := fun b => b = g6) (fun b hb => .inl (by omega)))
        try (have ho := ho.lower (base' := 0) (Nat.zero_le _))
        clear hst
        clear hK K
        try simp only [List.getElem_toArray, List.getElem_cons_zero, List.getElem_cons_succ, Act.put, List.setIfInBounds_toArray, List.set_cons_zero, List.set_cons_succ]
        refine wpAnyH_take (i := 4) (oi := _) (v := ?_) rfl (by kernel_rfl) (by kernel_rfl) (by kernel_rfl) (fun _ _ _ h => h) (Or.inl ⟨by rfl, ?_⟩) (by assumption) ?_
        rotate_left
        · (intro w hSw; (try dsimp only at hSw); go_simp; try (with_reducible rfl))
        try simp only [List.getElem_toArray, List.getElem_cons_zero, List.getElem_cons_succ, Act.put, List.setIfInBounds_toArray, List.set_cons_zero, List.set_cons_succ]
        refine wpAnyH_take (i := 5) (oi := _) (v := ?_) rfl (by kernel_rfl) (by kernel_rfl) (by kernel_rfl) (fun _ _ _ h => h) (Or.inl ⟨by rfl, ?_⟩) (by assumption) ?_
        rotate_left
        · (intro w hSw; (try dsimp only at hSw); go_simp; try (with_reducible rfl))
        try simp only [List.getElem_toArray, List.getElem_cons_zero, List.getElem_cons_succ, Act.put, List.setIfInBounds_toArray, List.set_cons_zero, List.set_cons_succ]
        refine wpAnyH_take (i := 6) (oi := _) (v := ?_) rfl (by kernel_rfl) (by kernel_rfl) (by kernel_rfl) (fun _ _ _ h => h) (Or.inl ⟨by rfl, ?_⟩) (by assumption) ?_
        rotate_left
        · (intro w hSw; (try dsimp only at hSw); go_simp; try (with_reducible rfl))
        try simp only [List.getElem_toArray, List.getElem_cons_zero, List.getElem_cons_succ, Act.put, List.setIfInBounds_toArray, List.set_cons_zero, List.set_cons_succ]
        refine wpAnyH_take (i := 7) (oi := _) (v := ?_) rfl (by kernel_rfl) (by kernel_rfl) (by kernel_rfl) (fun _ _ _ h => h) (Or.inl ⟨by rfl, ?_⟩) (by assumption) ?_
        rotate_left
        · (intro w hSw; (try dsimp only at hSw); go_simp; try (with_reducible rfl))
        try simp only [List.getElem_toArray, List.getElem_cons_zero, List.getElem_cons_succ, Act.put, List.setIfInBounds_toArray, List.set_cons_zero, List.set_cons_succ]
        refine wpAnyH_ready (rs := [9]) (by kernel_rfl) (by simp) ?_
        refine AllReadyH.cons (o := _) rfl (fun K hK => ?_) ?_
        ·
          have z0 := h8.cell (k := 0) rfl
          have z1 := h8.cell (k := 1) rfl
          have z2 := h8.cell (k := 2) rfl
          have z3 := h8.cell (k := 3) rfl
          have f0 := h8.frozen 0
          have f1 := h8.frozen 1
          have f2 := h8.frozen 2
          have f3 := h8.frozen 3
          go_simp
          clear z0 z1 z2 z3 f0 f1 f2 f3
          refine outG hK ?_ (fun W => Arr W g6 28 [.slice A' (putBS s D).blobs.length c', .slice B' (putBS s D).ents.length d', .int .i64 (s.room : Int), .int .i64 (s.clock : Int)]) (fun W => Below w2.heap.size w2 W ∧ OwSt W 0 (Value.slice A' (putBS s D).blobs.length c') (Value.slice B' (putBS s D).ents.length d') (putBS s D) (fun b => b = g6)) ?_ ?_ (fun wn11 hHeld hF hG => ?_)
          · exact HSB.out _ ((((hB.setCell (p := ⟨g6, 0, none⟩) hl8 _).setCell (p := ⟨g6, 1, none⟩) hl8 _).setCell (p := ⟨g6, 2, none⟩) hl8 _).setCell (p := ⟨g6, 3, none⟩) hl8 _)
          · exact h8.all4 _ _ _ _
          · exact ⟨(((hB.setCell (p := ⟨g6, 0, none⟩) hl8 _).setCell (p := ⟨g6, 1, none⟩) hl8 _).setCell (p := ⟨g6, 2, none⟩) hl8 _).setCell (p := ⟨g6, 3, none⟩) hl8 _, (((ho.setX rfl hne1 hne2 _).setX rfl hne1 hne2 _).setX rfl hne1 hne2 _).setX rfl hne1 hne2 _⟩
          clear hB h8 ho
          clear hK K
          try simp only [List.getElem_toArray, List.getElem_cons_zero, List.getElem_cons_succ, Act.put, List.setIfInBounds_toArray, List.set_cons_zero, List.set_cons_succ]
          refine wpAnyH_take (i := 10) (oi := _) (v := ?_) rfl (by kernel_rfl) (by kernel_rfl) (by kernel_rfl) (fun _ _ _ h => h) (Or.inl ⟨by rfl, ?_⟩) (by assumption) ?_
          rotate_left
          · (intro w hSw; (try dsimp only at hSw); go_simp; try (with_reducible rfl))
          try simp only [List.getElem_toArray, List.getElem_cons_zero, List.getElem_cons_succ, Act.put, List.setIfInBounds_toArray, List.set_cons_zero, List.set_cons_succ]
          refine wpAnyH_take (i := 11) (oi := _) (v := ?_) rfl (by kernel_rfl) (by kernel_rfl) (by kernel_rfl) (fun _ _ _ h => h) (Or.inl ⟨by rfl, ?_⟩) (by assumption) ?_
          rotate_left
          · (intro w hSw; (try dsimp only at hSw); go_simp; try (with_reducible rfl))
          try simp only [List.getElem_toArray, List.getElem_cons_zero, List.getElem_cons_succ, Act.put, List.setIfInBounds_toArray, List.set_cons_zero, List.set_cons_succ]
          refine wpAnyH_done (by kernel_rfl) ?_ _
          dsimp only [Exit.then]
          clear hHeld
          obtain ⟨hBz, hoz⟩ := hG
          have hrz : RdSt wn11 A' c' B' d' (putBS s D) := by
            obtain ⟨A9, c9, B9, d9, e1, e2, h⟩ := hoz.rows
            cases e1; cases e2; exact h
          have hall := And.intro hBz (And.intro hrz hF)
          generalize wn11 = wz at hall ⊢
          generalize g6 = gz at hall ⊢
          generalize A' = Az at hall ⊢
          generalize c' = cz at hall ⊢
          generalize B' = Bz at hall ⊢
          generalize d' = dz at hall ⊢
          generalize A2 = A3
          generalize c2 = c3
          revert wz gz Az cz Bz dz A3 c3
          exact REST.out
        exact AllReadyH.nil
      exact AllReadyH.nil
    exact AllReadyH.nil
  exact AllReadyH.nil
  --HELDEND1
  intro w3 gz Az cz Bz dz ⟨hBz, hrz, hXz⟩ A3 c3
  have HF2 := Lib.hid HF1.out.again
  have hpt := putBS_twice HF1.out.good
  obtain ⟨t, ht⟩ : ∃ t, t = putBS s D := ⟨_, rfl⟩
  have hrm : t.room = s.room := by rw [ht]; rfl
  have hck : t.clock = s.clock := by rw [ht]; rfl
  rw [← ht] at hrz hXz HF2 hpt ⊢
  rw [← hrm, ← hck] at hXz
  have hXz' : Arr w3 gz 28 [.slice Az t.blobs.length cz, .slice Bz t.ents.length dz, .int .i64 (t.room : Int), .int .i64 (t.clock : Int)] := hXz
  have hb03 := HB2.out.trans (hBz.mono (by omega))
  have hRb3 := HRB.out.below hBz
  have hpb := fun W A2 c2 (h : Below w3.heap.size w3 W) (hz : OwnZ W w3.heap.size A2 c2 D) => PutBlobF_ok Az cz Bz dz t D A2 c2 W HF2.out (hrz.below h) hz.sl.1
  rw [hpt, ← HSD.out] at hpb
  have HPB2 := Lib.hid hpb
  have hgz3 : gz < w3.heap.size := hXz'.lt
  have hgr3 : gr < w3.heap.size := hRb3.lt
  have HSB3 := Lib.hid (show ∀ W, Below w3.heap.size w3 W → (W.cell? ⟨gz, 0, none⟩ = some (.slice Az t.blobs.length cz) ∧ W.cell? ⟨gz, 1, none⟩ = some (.slice Bz t.ents.length dz) ∧ W.cell? ⟨gz, 2, none⟩ = some (.int .i64 (t.room : Int)) ∧ W.cell? ⟨gz, 3, none⟩ = some (.int .i64 (t.clock : Int))) ∧ (W.cell? ⟨gr, 0, none⟩ = some (.int .i64 rk) ∧ W.cell? ⟨gr, 1, none⟩ = some (.int .i64 ra) ∧ W.cell? ⟨gr, 2, none⟩ = some (.int .i64 rb) ∧ W.cell? ⟨gr, 3, none⟩ = some (.string rt)) from fun W h =>
    ⟨⟨(hXz'.below h).cell (k := 0) rfl, (hXz'.below h).cell (k := 1) rfl, (hXz'.below h).cell (k := 2) rfl, (hXz'.below h).cell (k := 3) rfl⟩, (hRb3.below h).cell (k := 0) rfl, (hRb3.below h).cell (k := 1) rfl, (hRb3.below h).cell (k := 2) rfl, (hRb3.below h).cell (k := 3) rfl⟩)
  have HXZ := Lib.hid hXz'
  have HRZ := Lib.hid hrz
  have HB3 := Lib.hid hb03
  have HRO := Lib.hid (And.intro hrm hck)
  clear HSB
  have HSB := HSB3
  clear HSB3 hpb ht hXz hXz' hrz hb03 hRb3 hBz hpt HPB HRB HB2
  rw [← hrm, ← hck]
  clear hrm hck
  repeat' ((fail_if_success at_builtin); (fail_if_success at_make); (first | go_values | go_skip | go_guarded | go_step | go_upon | go_back))
  apply share
  intro REST2
  --HELD2
  refine wp_region_held_drew (S := (fun w' => (w'.cell? ⟨gz, 0, none⟩ = some (.slice Az t.blobs.length cz) ∧ w'.cell? ⟨gz, 1, none⟩ = some (.slice Bz t.ents.length dz) ∧ w'.cell? ⟨gz, 2, none⟩ = some (.int .i64 (t.room : Int)) ∧ w'.cell? ⟨gz, 3, none⟩ = some (.int .i64 (t.clock : Int))) ∧ (w'.cell? ⟨gr, 0, none⟩ = some (.int .i64 rk) ∧ w'.cell? ⟨gr, 1, none⟩ = some (.int .i64 ra) ∧ w'.cell? ⟨gr, 2, none⟩ = some (.int .i64 rb) ∧ w'.cell? ⟨gr, 3, none⟩ = some (.string rt)))) (by kernel_rfl) ?_ (fun hHeld => ?_)
  · exact HSB.out _ (Below.refl _ w3).drew
  have hB := (Below.refl w3.heap.size w3).drew
  generalize w3.drew = wn0 at *
  refine wpAnyH_take (i := 0) (oi := _) (v := ?_) rfl (by kernel_rfl) (by kernel_rfl) (by kernel_rfl) (fun _ _ _ h => h) (Or.inl ⟨by rfl, ?_⟩) (by assumption) ?_
  rotate_left
  · (intro w hSw; (try dsimp only at hSw); go_simp; try (with_reducible rfl))
  try simp only [List.getElem_toArray, List.getElem_cons_zero, List.getElem_cons_succ, Act.put, List.setIfInBounds_toArray, List.set_cons_zero, List.set_cons_succ]
  refine wpAnyH_take (i := 1) (oi := _) (v := ?_) rfl (by kernel_rfl) (by kernel_rfl) (by kernel_rfl) (fun _ _ _ h => h) (Or.inl ⟨by rfl, ?_⟩) (by assumption) ?_
  rotate_left
  · (intro w hSw; (try dsimp only at hSw); go_simp; try (with_reducible rfl))
  try simp only [List.getElem_toArray, List.getElem_cons_zero, List.getElem_cons_succ, Act.put, List.setIfInBounds_toArray, List.set_cons_zero, List.set_cons_succ]
  refine wpAnyH_ready (rs := [2, 8]) (by kernel_rfl) (by simp) ?_
  refine AllReadyH.cons (o := _) rfl (fun K hK => ?_) ?_
  ·
    go_simp
    refine (HDT.out wn0).mono ?_
    rintro e5 w5 ⟨A2, c2, rfl, hz5, hb5⟩
    dsimp only
    refine outG hK ?_ (Below wn0.heap.size wn0) (fun W => OwnZ W w3.heap.size A2 c2 D) ?_ ?_ (fun wn1 hHeld hst hnew => ?_)
    · (exact HSB.out _ (hB.trans (Below.mono (show Below wn0.heap.size wn0 _ from by (first | exact (Below.refl _ _).alloc (Nat.le_refl _) _ | exact hb5 | exact Below.refl _ _)) hB.size)))
    · (first | exact (Below.refl _ _).alloc (Nat.le_refl _) _ | exact hb5 | exact Below.refl _ _)
    · (exact hz5.lower hB.size)
    have hB := hB.trans (hst.mono hB.size)
    have hD := hnew
    clear hnew
    clear hst
    clear hK K
    try simp only [List.getElem_toArray, List.getElem_cons_zero, List.getElem_cons_succ, Act.put, List.setIfInBounds_toArray, List.set_cons_zero, List.set_cons_succ]
    refine wpAnyH_ready (rs := [3, 8]) (by kernel_rfl) (by simp) ?_
    refine AllReadyH.cons (o := _) rfl (fun K hK => ?_) ?_
    ·
      try have hA8 := h8.lt
      go_simp
      refine (HPB2.out wn1 A2 c2 hB hD).mono ?_
      rintro e5 w5 ⟨A', c', B', d', rfl, ho5, hb5⟩
      dsimp only
      refine outG hK ?_ (Below wn1.heap.size wn1) (fun W => OwSt W wn1.heap.size (Value.slice A' t.blobs.length c') (Value.slice B' t.ents.length d') t (fun b => b < wn1.heap.size)) ?_ ?_ (fun wn2 hHeld hst hnew => ?_)
      · (exact HSB.out _ (hB.trans (Below.mono (show Below wn1.heap.size wn1 _ from by (first | exact (Below.refl _ _).alloc (Nat.le_refl _) _ | exact hb5 | exact Below.refl _ _)) hB.size)))
      · (first | exact (Below.refl _ _).alloc (Nat.le_refl _) _ | exact hb5 | exact Below.refl _ _)
      · (exact ho5)
      have hB := hB.trans (hst.mono hB.size)
      have ho := hnew
      try (have hne1 : (Value.slice A' t.blobs.length c').ownBlock ≠ some g6 := fun e => by have := (ho.b.rwo.blk e).1; omega)
      try (have hne2 : (Value.slice B' t.ents.length d').ownBlock ≠ some g6 := fun e => by have := (ho.e.rwo.blk e).1; omega)
      try (have ho := ho.wider (N' := fun b => b = g6) (fun b hb => .inl (by omega)))
      try (have ho := ho.lower (base' := 0) (Nat.zero_le _))
      clear hst
      clear hK K
      try simp only [List.getElem_toArray, List.getElem_cons_zero, List.getElem_cons_succ, Act.put, List.setIfInBounds_toArray, List.set_cons_zero, List.set_cons_succ]
      refine wpAnyH_take (i := 4) (oi := _) (v := ?_) rfl (by kernel_rfl) (by kernel_rfl) (by kernel_rfl) (fun _ _ _ h => h) (Or.inl ⟨by rfl, ?_⟩) (by assumption) ?_
      rotate_left
      · (intro w hSw; (try dsimp only at hSw); go_simp; try (with_reducible rfl))
      try simp only [List.getElem_toArray, List.getElem_cons_zero, List.getElem_cons_succ, Act.put, List.setIfInBounds_toArray, List.set_cons_zero, List.set_cons_succ]
      refine wpAnyH_take (i := 5) (oi := _) (v := ?_) rfl (by kernel_rfl) (by kernel_rfl) (by kernel_rfl) (fun _ _ _ h => h) (Or.inl ⟨by rfl, ?_⟩) (by assumption) ?_
      rotate_left
      · (intro w hSw; (try dsimp only at hSw); go_simp; try (with_reducible rfl))
      try simp only [List.getElem_toArray, List.getElem_cons_zero, List.getElem_cons_succ, Act.put, List.setIfInBounds_toArray, List.set_cons_zero, List.set_cons_succ]
      refine wpAnyH_take (i := 6) (oi := _) (v := ?_) rfl (by kernel_rfl) (by kernel_rfl) (by kernel_rfl) (fun _ _ _ h => h) (Or.inl ⟨by rfl, ?_⟩) (by assumption) ?_
      rotate_left
      · (intro w hSw; (try dsimp only at hSw); go_simp; try (with_reducible rfl))
      try simp only [List.getElem_toArray, List.getElem_cons_zero, List.getElem_cons_succ, Act.put, List.setIfInBounds_toArray, List.set_cons_zero, List.set_cons_succ]
      refine wpAnyH_take (i := 7) (oi := _) (v := ?_) rfl (by kernel_rfl) (by kernel_rfl) (by kernel_rfl) (fun _ _ _ h => h) (Or.inl ⟨by rfl, ?_⟩) (by assumption) ?_
      rotate_left
      · (intro w hSw; (try dsimp only at hSw); go_simp; try (with_reducible rfl))
      try simp only [List.getElem_toArray, List.getElem_cons_zero, List.getElem_cons_succ, Act.put, List.setIfInBounds_toArray, List.set_cons_zero, List.set_cons_succ]
      refine wpAnyH_ready (rs := [8]) (by kernel_rfl) (by simp) ?_
      refine AllReadyH.cons (o := _) rfl (fun K hK => ?_) ?_
      ·
        try (have hA1 := fun b (e : (Value.slice A' t.blobs.length c').ownBlock = some b) => (ho.b.rwo.blk e).2)
        try (have hA2 := fun b (e : (Value.slice B' t.ents.length d').ownBlock = some b) => (ho.e.rwo.blk e).2)
        try (have ho := (ho.lower (base' := 0) (Nat.zero_le _)).wider (N' := fun b => b = wn2.heap.size) (fun b hb => .inr (by omega)))
        go_simp
        refine outG hK ?_ (Below wn2.heap.size wn2) (fun W => Arr W wn2.heap.size 28 [.slice none 0 0, .slice none 0 0, .int .i64 0, .int .i64 0] ∧ w3.heap.size ≤ wn2.heap.size) ?_ ?_ (fun wn3 hHeld hst hnew => ?_)
        · (exact HSB.out _ (hB.trans (Below.mono (show Below wn2.heap.size wn2 _ from by (first | exact (Below.refl _ _).alloc (Nat.le_refl _) _ | exact hb5 | exact Below.refl _ _)) hB.size)))
        · (first | exact (Below.refl _ _).alloc (Nat.le_refl _) _ | exact hb5 | exact Below.refl _ _)
        · (exact ⟨Arr.new _ _ _, hB.size⟩)
        have hB := hB.trans (hst.mono hB.size)
        have ho := ho.below hst
        obtain ⟨h8, hl8⟩ := hnew
        obtain ⟨g6, hg6⟩ : ∃ g, g = wn2.heap.size := ⟨_, rfl⟩
        rw [← hg6] at h8 hl8 ⊢
        try (rw [← hg6] at ho)
        try (have hne1 : (Value.slice A' t.blobs.length c').ownBlock ≠ some g6 := fun e => by have := hA1 _ e; omega)
        try (have hne2 : (Value.slice B' t.ents.length d').ownBlock ≠ some g6 := fun e => by have := hA2 _ e; omega)
        try clear hA1
        try clear hA2
        clear hg6
        clear hst
        clear hK K
        try simp only [List.getElem_toArray, List.getElem_cons_zero, List.getElem_cons_succ, Act.put, List.setIfInBounds_toArray, List.set_cons_zero, List.set_cons_succ]
        refine wpAnyH_ready (rs := [9]) (by kernel_rfl) (by simp) ?_
        refine AllReadyH.cons (o := _) rfl (fun K hK => ?_) ?_
        ·
          have z0 := h8.cell (k := 0) rfl
          have z1 := h8.cell (k := 1) rfl
          have z2 := h8.cell (k := 2) rfl
          have z3 := h8.cell (k := 3) rfl
          have f0 := h8.frozen 0
          have f1 := h8.frozen 1
          have f2 := h8.frozen 2
          have f3 := h8.frozen 3
          go_simp
          clear z0 z1 z2 z3 f0 f1 f2 f3
          refine outG hK ?_ (fun W => Arr W g6 28 [.slice A' t.blobs.length c', .slice B' t.ents.length d', .int .i64 (t.room : Int), .int .i64 (t.clock : Int)]) (fun W => Below w3.heap.size w3 W ∧ OwSt W 0 (Value.slice A' t.blobs.length c') (Value.slice B' t.ents.length d') t (fun b => b = g6)) ?_ ?_ (fun wn4 hHeld hF hG => ?_)
          · exact HSB.out _ ((((hB.setCell (p := ⟨g6, 0, none⟩) hl8 _).setCell (p := ⟨g6, 1, none⟩) hl8 _).setCell (p := ⟨g6, 2, none⟩) hl8 _).setCell (p := ⟨g6, 3, none⟩) hl8 _)
          · exact h8.all4 _ _ _ _
          · exact ⟨(((hB.setCell (p := ⟨g6, 0, none⟩) hl8 _).setCell (p := ⟨g6, 1, none⟩) hl8 _).setCell (p := ⟨g6, 2, none⟩) hl8 _).setCell (p := ⟨g6, 3, none⟩) hl8 _, (((ho.setX rfl hne1 hne2 _).setX rfl hne1 hne2 _).setX rfl hne1 hne2 _).setX rfl hne1 hne2 _⟩
          clear hB h8 ho
          clear hK K
          try simp only [List.getElem_toArray, List.getElem_cons_zero, List.getElem_cons_succ, Act.put, List.setIfInBounds_toArray, List.set_cons_zero, List.set_cons_succ]
          refine wpAnyH_take (i := 10) (oi := _) (v := ?_) rfl (by kernel_rfl) (by kernel_rfl) (by kernel_rfl) (fun _ _ _ h => h) (Or.inl ⟨by rfl, ?_⟩) (by assumption) ?_
          rotate_left
          · (intro w hSw; (try dsimp only at hSw); go_simp; try (with_reducible rfl))
          try simp only [List.getElem_toArray, List.getElem_cons_zero, List.getElem_cons_succ, Act.put, List.setIfInBounds_toArray, List.set_cons_zero, List.set_cons_succ]
          refine wpAnyH_take (i := 11) (oi := _) (v := ?_) rfl (by kernel_rfl) (by kernel_rfl) (by kernel_rfl) (fun _ _ _ h => h) (Or.inl ⟨by rfl, ?_⟩) (by assumption) ?_
          rotate_left
          · (intro w hSw; (try dsimp only at hSw); go_simp; try (with_reducible rfl))
          try simp only [List.getElem_toArray, List.getElem_cons_zero, List.getElem_cons_succ, Act.put, List.setIfInBounds_toArray, List.set_cons_zero, List.set_cons_succ]
          refine wpAnyH_done (by kernel_rfl) ?_ _
          dsimp only [Exit.then]
          clear hHeld
          obtain ⟨hBz, hoz⟩ := hG
          have hrz : RdSt wn4 A' c' B' d' t := by
            obtain ⟨A9, c9, B9, d9, e1, e2, h⟩ := hoz.rows
            cases e1; cases e2; exact h
          have hall := And.intro hBz (And.intro hrz hF)
          generalize wn4 = wz at hall ⊢
          generalize g6 = gy at hall ⊢
          generalize A' = Ay at hall ⊢
          generalize c' = cy at hall ⊢
          generalize B' = By at hall ⊢
          generalize d' = dy at hall ⊢
          generalize A2 = A4
          generalize c2 = c4
          revert wz gy Ay cy By dy A4 c4
          exact REST2.out
        exact AllReadyH.nil
      exact AllReadyH.nil
    refine AllReadyH.cons (o := _) rfl (fun K hK => ?_) ?_
    ·
      try (have hA1 := fun b (e : (Value.slice A' t.blobs.length c').ownBlock = some b) => (ho.b.rwo.blk e).2)
      try (have hA2 := fun b (e : (Value.slice B' t.ents.length d').ownBlock = some b) => (ho.e.rwo.blk e).2)
      try (have ho := (ho.lower (base' := 0) (Nat.zero_le _)).wider (N' := fun b => b = wn1.heap.size) (fun b hb => .inr (by omega)))
      go_simp
      refine outG hK ?_ (Below wn1.heap.size wn1) (fun W => Arr W wn1.heap.size 28 [.slice none 0 0, .slice none 0 0, .int .i64 0, .int .i64 0] ∧ w3.heap.size ≤ wn1.heap.size) ?_ ?_ (fun wn5 hHeld hst hnew => ?_)
      · (exact HSB.out _ (hB.trans (Below.mono (show Below wn1.heap.size wn1 _ from by (first | exact (Below.refl _ _).alloc (Nat.le_refl _) _ | exact hb5 | exact Below.refl _ _)) hB.size)))
      · (first | exact (Below.refl _ _).alloc (Nat.le_refl _) _ | exact hb5 | exact Below.refl _ _)
      · (exact ⟨Arr.new _ _ _, hB.size⟩)
      have hB := hB.trans (hst.mono hB.size)
      have hD := hD.below hst
      obtain ⟨h8, hl8⟩ := hnew
      obtain ⟨g6, hg6⟩ : ∃ g, g = wn1.heap.size := ⟨_, rfl⟩
      rw [← hg6] at h8 hl8 ⊢
      try (rw [← hg6] at ho)
      try (have hne1 : (Value.slice A' t.blobs.length c').ownBlock ≠ some g6 := fun e => by have := hA1 _ e; omega)
      try (have hne2 : (Value.slice B' t.ents.length d').ownBlock ≠ some g6 := fun e => by have := hA2 _ e; omega)
      try clear hA1
      try clear hA2
      clear hg6
      clear hst
      clear hK K
      try simp only [List.getElem_toArray, List.getElem_cons_zero, List.getElem_cons_succ, Act.put, List.setIfInBounds_toArray, List.set_cons_zero, List.set_cons_succ]
      refine wpAnyH_ready (rs := [3]) (by kernel_rfl) (by simp) ?_
      refine AllReadyH.cons (o := _) rfl (fun K hK => ?_) ?_
      ·
        try have hA8 := h8.lt
        go_simp
        refine (HPB2.out wn5 A2 c2 hB hD).mono ?_
        rintro e5 w5 ⟨A', c', B', d', rfl, ho5, hb5⟩
        dsimp only
        refine outG hK ?_ (Below wn5.heap.size wn5) (fun W => OwSt W wn5.heap.size (Value.slice A' t.blobs.length c') (Value.slice B' t.ents.length d') t (fun b => b < wn5.heap.size)) ?_ ?_ (fun wn6 hHeld hst hnew => ?_)
        · (exact HSB.out _ (hB.trans (Below.mono (show Below wn5.heap.size wn5 _ from by (first | exact (Below.refl _ _).alloc (Nat.le_refl _) _ | exact hb5 | exact Below.refl _ _)) hB.size)))
        · (first | exact (Below.refl _ _).alloc (Nat.le_refl _) _ | exact hb5 | exact Below.refl _ _)
        · (exact ho5)
        have hB := hB.trans (hst.mono hB.size)
        have h8 := h8.below hst
        have ho := hnew
        try (have hne1 : (Value.slice A' t.blobs.length c').ownBlock ≠ some g6 := fun e => by have := (ho.b.rwo.blk e).1; omega)
        try (have hne2 : (Value.slice B' t.ents.length d').ownBlock ≠ some g6 := fun e => by have := (ho.e.rwo.blk e).1; omega)
        try (have ho := ho.wider (N' := fun b => b = g6) (fun b hb => .inl (by omega)))
        try (have ho := ho.lower (base' := 0) (Nat.zero_le _))
        clear hst
        clear hK K
        try simp only [List.getElem_toArray, List.getElem_cons_zero, List.getElem_cons_succ, Act.put, List.setIfInBounds_toArray, List.set_cons_zero, List.set_cons_succ]
        refine wpAnyH_take (i := 4) (oi := _) (v := ?_) rfl (by kernel_rfl) (by kernel_rfl) (by kernel_rfl) (fun _ _ _ h => h) (Or.inl ⟨by rfl, ?_⟩) (by assumption) ?_
        rotate_left
        · (intro w hSw; (try dsimp only at hSw); go_simp; try (with_reducible rfl))
        try simp only [List.getElem_toArray, List.getElem_cons_zero, List.getElem_cons_succ, Act.put, List.setIfInBounds_toArray, List.set_cons_zero, List.set_cons_succ]
        refine wpAnyH_take (i := 5) (oi := _) (v := ?_) rfl (by kernel_rfl) (by kernel_rfl) (by kernel_rfl) (fun _ _ _ h => h) (Or.inl ⟨by rfl, ?_⟩) (by assumption) ?_
        rotate_left
        · (intro w hSw; (try dsimp only at hSw); go_simp; try (with_reducible rfl))
        try simp only [List.getElem_toArray, List.getElem_cons_zero, List.getElem_cons_succ, Act.put, List.setIfInBounds_toArray, List.set_cons_zero, List.set_cons_succ]
        refine wpAnyH_take (i := 6) (oi := _) (v := ?_) rfl (by kernel_rfl) (by kernel_rfl) (by kernel_rfl) (fun _ _ _ h => h) (Or.inl ⟨by rfl, ?_⟩) (by assumption) ?_
        rotate_left
        · (intro w hSw; (try dsimp only at hSw); go_simp; try (with_reducible rfl))
        try simp only [List.getElem_toArray, List.getElem_cons_zero, List.getElem_cons_succ, Act.put, List.setIfInBounds_toArray, List.set_cons_zero, List.set_cons_succ]
        refine wpAnyH_take (i := 7) (oi := _) (v := ?_) rfl (by kernel_rfl) (by kernel_rfl) (by kernel_rfl) (fun _ _ _ h => h) (Or.inl ⟨by rfl, ?_⟩) (by assumption) ?_
        rotate_left
        · (intro w hSw; (try dsimp only at hSw); go_simp; try (with_reducible rfl))
        try simp only [List.getElem_toArray, List.getElem_cons_zero, List.getElem_cons_succ, Act.put, List.setIfInBounds_toArray, List.set_cons_zero, List.set_cons_succ]
        refine wpAnyH_ready (rs := [9]) (by kernel_rfl) (by simp) ?_
        refine AllReadyH.cons (o := _) rfl (fun K hK => ?_) ?_
        ·
          have z0 := h8.cell (k := 0) rfl
          have z1 := h8.cell (k := 1) rfl
          have z2 := h8.cell (k := 2) rfl
          have z3 := h8.cell (k := 3) rfl
          have f0 := h8.frozen 0
          have f1 := h8.frozen 1
          have f2 := h8.frozen 2
          have f3 := h8.frozen 3
          go_simp
          clear z0 z1 z2 z3 f0 f1 f2 f3
          refine outG hK ?_ (fun W => Arr W g6 28 [.slice A' t.blobs.length c', .slice B' t.ents.length d', .int .i64 (t.room : Int), .int .i64 (t.clock : Int)]) (fun W => Below w3.heap.size w3 W ∧ OwSt W 0 (Value.slice A' t.blobs.length c') (Value.slice B' t.ents.length d') t (fun b => b = g6)) ?_ ?_ (fun wn7 hHeld hF hG => ?_)
          · exact HSB.out _ ((((hB.setCell (p := ⟨g6, 0, none⟩) hl8 _).setCell (p := ⟨g6, 1, none⟩) hl8 _).setCell (p := ⟨g6, 2, none⟩) hl8 _).setCell (p := ⟨g6, 3, none⟩) hl8 _)
          · exact h8.all4 _ _ _ _
          · exact ⟨(((hB.setCell (p := ⟨g6, 0, none⟩) hl8 _).setCell (p := ⟨g6, 1, none⟩) hl8 _).setCell (p := ⟨g6, 2, none⟩) hl8 _).setCell (p := ⟨g6, 3, none⟩) hl8 _, (((ho.setX rfl hne1 hne2 _).setX rfl hne1 hne2 _).setX rfl hne1 hne2 _).setX rfl hne1 hne2 _⟩
          clear hB h8 ho
          clear hK K
          try simp only [List.getElem_toArray, List.getElem_cons_zero, List.getElem_cons_succ, Act.put, List.setIfInBounds_toArray, List.set_cons_zero, List.set_cons_succ]
          refine wpAnyH_take (i := 10) (oi := _) (v := ?_) rfl (by kernel_rfl) (by kernel_rfl) (by kernel_rfl) (fun _ _ _ h => h) (Or.inl ⟨by rfl, ?_⟩) (by assumption) ?_
          rotate_left
          · (intro w hSw; (try dsimp only at hSw); go_simp; try (with_reducible rfl))
          try simp only [List.getElem_toArray, List.getElem_cons_zero, List.getElem_cons_succ, Act.put, List.setIfInBounds_toArray, List.set_cons_zero, List.set_cons_succ]
          refine wpAnyH_take (i := 11) (oi := _) (v := ?_) rfl (by kernel_rfl) (by kernel_rfl) (by kernel_rfl) (fun _ _ _ h => h) (Or.inl ⟨by rfl, ?_⟩) (by assumption) ?_
          rotate_left
          · (intro w hSw; (try dsimp only at hSw); go_simp; try (with_reducible rfl))
          try simp only [List.getElem_toArray, List.getElem_cons_zero, List.getElem_cons_succ, Act.put, List.setIfInBounds_toArray, List.set_cons_zero, List.set_cons_succ]
          refine wpAnyH_done (by kernel_rfl) ?_ _
          dsimp only [Exit.then]
          clear hHeld
          obtain ⟨hBz, hoz⟩ := hG
          have hrz : RdSt wn7 A' c' B' d' t := by
            obtain ⟨A9, c9, B9, d9, e1, e2, h⟩ := hoz.rows
            cases e1; cases e2; exact h
          have hall := And.intro hBz (And.intro hrz hF)
          generalize wn7 = wz at hall ⊢
          generalize g6 = gy at hall ⊢
          generalize A' = Ay at hall ⊢
          generalize c' = cy at hall ⊢
          generalize B' = By at hall ⊢
          generalize d' = dy at hall ⊢
          generalize A2 = A4
          generalize c2 = c4
          revert wz gy Ay cy By dy A4 c4
          exact REST2.out
        exact AllReadyH.nil
      exact AllReadyH.nil
    exact AllReadyH.nil
  refine AllReadyH.cons (o := _) rfl (fun K hK => ?_) ?_
  ·
    try (have hA1 := fun b (e : (Value.slice A' t.blobs.length c').ownBlock = some b) => (ho.b.rwo.blk e).2)
    try (have hA2 := fun b (e : (Value.slice B' t.ents.length d').ownBlock = some b) => (ho.e.rwo.blk e).2)
    try (have ho := (ho.lower (base' := 0) (Nat.zero_le _)).wider (N' := fun b => b = wn0.heap.size) (fun b hb => .inr (by omega)))
    go_simp
    refine outG hK ?_ (Below wn0.heap.size wn0) (fun W => Arr W wn0.heap.size 28 [.slice none 0 0, .slice none 0 0, .int .i64 0, .int .i64 0] ∧ w3.heap.size ≤ wn0.heap.size) ?_ ?_ (fun wn8 hHeld hst hnew => ?_)
    · (exact HSB.out _ (hB.trans (Below.mono (show Below wn0.heap.size wn0 _ from by (first | exact (Below.refl _ _).alloc (Nat.le_refl _) _ | exact hb5 | exact Below.refl _ _)) hB.size)))
    · (first | exact (Below.refl _ _).alloc (Nat.le_refl _) _ | exact hb5 | exact Below.refl _ _)
    · (exact ⟨Arr.new _ _ _, hB.size⟩)
    have hB := hB.trans (hst.mono hB.size)
    obtain ⟨h8, hl8⟩ := hnew
    obtain ⟨g6, hg6⟩ : ∃ g, g = wn0.heap.size := ⟨_, rfl⟩
    rw [← hg6] at h8 hl8 ⊢
    try (rw [← hg6] at ho)
    try (have hne1 : (Value.slice A' t.blobs.length c').ownBlock ≠ some g6 := fun e => by have := hA1 _ e; omega)
    try (have hne2 : (Value.slice B' t.ents.length d').ownBlock ≠ some g6 := fun e => by have := hA2 _ e; omega)
    try clear hA1
    try clear hA2
    clear hg6
    clear hst
    clear hK K
    try simp only [List.getElem_toArray, List.getElem_cons_zero, List.getElem_cons_succ, Act.put, List.setIfInBounds_toArray, List.set_cons_zero, List.set_cons_succ]
    refine wpAnyH_ready (rs := [2]) (by kernel_rfl) (by simp) ?_
    refine AllReadyH.cons (o := _) rfl (fun K hK => ?_) ?_
    ·
      go_simp
      refine (HDT.out wn8).mono ?_
      rintro e5 w5 ⟨A2, c2, rfl, hz5, hb5⟩
      dsimp only
      refine outG hK ?_ (Below wn8.heap.size wn8) (fun W => OwnZ W w3.heap.size A2 c2 D) ?_ ?_ (fun wn9 hHeld hst hnew => ?_)
      · (exact HSB.out _ (hB.trans (Below.mono (show Below wn8.heap.size wn8 _ from by (first | exact (Below.refl _ _).alloc (Nat.le_refl _) _ | exact hb5 | exact Below.refl _ _)) hB.size)))
      · (first | exact (Below.refl _ _).alloc (Nat.le_refl _) _ | exact hb5 | exact Below.refl _ _)
      · (exact hz5.lower hB.size)
      have hB := hB.trans (hst.mono hB.size)
      have h8 := h8.below hst
      have hD := hnew
      clear hnew
      clear hst
      clear hK K
      try simp only [List.getElem_toArray, List.getElem_cons_zero, List.getElem_cons_succ, Act.put, List.setIfInBounds_toArray, List.set_cons_zero, List.set_cons_succ]
      refine wpAnyH_ready (rs := [3]) (by kernel_rfl) (by simp) ?_
      refine AllReadyH.cons (o := _) rfl (fun K hK => ?_) ?_
      ·
        try have hA8 := h8.lt
        go_simp
        refine (HPB2.out wn9 A2 c2 hB hD).mono ?_
        rintro e5 w5 ⟨A', c', B', d', rfl, ho5, hb5⟩
        dsimp only
        refine outG hK ?_ (Below wn9.heap.size wn9) (fun W => OwSt W wn9.heap.size (Value.slice A' t.blobs.length c') (Value.slice B' t.ents.length d') t (fun b => b < wn9.heap.size)) ?_ ?_ (fun wn10 hHeld hst hnew => ?_)
        · (exact HSB.out _ (hB.trans (Below.mono (show Below wn9.heap.size wn9 _ from by (first | exact (Below.refl _ _).alloc (Nat.le_refl _) _ | exact hb5 | exact Below.refl _ _)) hB.size)))
        · (first | exact (Below.refl _ _).alloc (Nat.le_refl _) _ | exact hb5 | exact Below.refl _ _)
        · (exact ho5)
        have hB := hB.trans (hst.mono hB.size)
        have h8 := h8.below hst
        have ho := hnew
        try (have hne1 : (Value.slice A' t.blobs.length c').ownBlock ≠ some g6 := fun e => by have := (ho.b.rwo.blk e).1; omega)
        try (have hne2 : (Value.slice B' t.ents.length d').ownBlock ≠ some g6 := fun e => by have := (ho.e.rwo.blk e).1; omega)
        try (have ho := ho.wider (N' := fun b => b = g6) (fun b hb => .inl (by omega)))
        try (have ho := ho.lower (base' := 0) (Nat.zero_le _))
        clear hst
        clear hK K
        try simp only [List.getElem_toArray, List.getElem_cons_zero, List.getElem_cons_succ, Act.put, List.setIfInBounds_toArray, List.set_cons_zero, List.set_cons_succ]
        refine wpAnyH_take (i := 4) (oi := _) (v := ?_) rfl (by kernel_rfl) (by kernel_rfl) (by kernel_rfl) (fun _ _ _ h => h) (Or.inl ⟨by rfl, ?_⟩) (by assumption) ?_
        rotate_left
        · (intro w hSw; (try dsimp only at hSw); go_simp; try (with_reducible rfl))
        try simp only [List.getElem_toArray, List.getElem_cons_zero, List.getElem_cons_succ, Act.put, List.setIfInBounds_toArray, List.set_cons_zero, List.set_cons_succ]
        refine wpAnyH_take (i := 5) (oi := _) (v := ?_) rfl (by kernel_rfl) (by kernel_rfl) (by kernel_rfl) (fun _ _ _ h => h) (Or.inl ⟨by rfl, ?_⟩) (by assumption) ?_
        rotate_left
        · (intro w hSw; (try dsimp only at hSw); go_simp; try (with_reducible rfl))
        try simp only [List.getElem_toArray, List.getElem_cons_zero, List.getElem_cons_succ, Act.put, List.setIfInBounds_toArray, List.set_cons_zero, List.set_cons_succ]
        refine wpAnyH_take (i := 6) (oi := _) (v := ?_) rfl (by kernel_rfl) (by kernel_rfl) (by kernel_rfl) (fun _ _ _ h => h) (Or.inl ⟨by rfl, ?_⟩) (by assumption) ?_
        rotate_left
        · (intro w hSw; (try dsimp only at hSw); go_simp; try (with_reducible rfl))
        try simp only [List.getElem_toArray, List.getElem_cons_zero, List.getElem_cons_succ, Act.put, List.setIfInBounds_toArray, List.set_cons_zero, List.set_cons_succ]
        refine wpAnyH_take (i := 7) (oi := _) (v := ?_) rfl (by kernel_rfl) (by kernel_rfl) (by kernel_rfl) (fun _ _ _ h => h) (Or.inl ⟨by rfl, ?_⟩) (by assumption) ?_
        rotate_left
        · (intro w hSw; (try dsimp only at hSw); go_simp; try (with_reducible rfl))
        try simp only [List.getElem_toArray, List.getElem_cons_zero, List.getElem_cons_succ, Act.put, List.setIfInBounds_toArray, List.set_cons_zero, List.set_cons_succ]
        refine wpAnyH_ready (rs := [9]) (by kernel_rfl) (by simp) ?_
        refine AllReadyH.cons (o := _) rfl (fun K hK => ?_) ?_
        ·
          have z0 := h8.cell (k := 0) rfl
          have z1 := h8.cell (k := 1) rfl
          have z2 := h8.cell (k := 2) rfl
          have z3 := h8.cell (k := 3) rfl
          have f0 := h8.frozen 0
          have f1 := h8.frozen 1
          have f2 := h8.frozen 2
          have f3 := h8.frozen 3
          go_simp
          clear z0 z1 z2 z3 f0 f1 f2 f3
          refine outG hK ?_ (fun W => Arr W g6 28 [.slice A' t.blobs.length c', .slice B' t.ents.length d', .int .i64 (t.room : Int), .int .i64 (t.clock : Int)]) (fun W => Below w3.heap.size w3 W ∧ OwSt W 0 (Value.slice A' t.blobs.length c') (Value.slice B' t.ents.length d') t (fun b => b = g6)) ?_ ?_ (fun wn11 hHeld hF hG => ?_)
          · exact HSB.out _ ((((hB.setCell (p := ⟨g6, 0, none⟩) hl8 _).setCell (p := ⟨g6, 1, none⟩) hl8 _).setCell (p := ⟨g6, 2, none⟩) hl8 _).setCell (p := ⟨g6, 3, none⟩) hl8 _)
          · exact h8.all4 _ _ _ _
          · exact ⟨(((hB.setCell (p := ⟨g6, 0, none⟩) hl8 _).setCell (p := ⟨g6, 1, none⟩) hl8 _).setCell (p := ⟨g6, 2, none⟩) hl8 _).setCell (p := ⟨g6, 3, none⟩) hl8 _, (((ho.setX rfl hne1 hne2 _).setX rfl hne1 hne2 _).setX rfl hne1 hne2 _).setX rfl hne1 hne2 _⟩
          clear hB h8 ho
          clear hK K
          try simp only [List.getElem_toArray, List.getElem_cons_zero, List.getElem_cons_succ, Act.put, List.setIfInBounds_toArray, List.set_cons_zero, List.set_cons_succ]
          refine wpAnyH_take (i := 10) (oi := _) (v := ?_) rfl (by kernel_rfl) (by kernel_rfl) (by kernel_rfl) (fun _ _ _ h => h) (Or.inl ⟨by rfl, ?_⟩) (by assumption) ?_
          rotate_left
          · (intro w hSw; (try dsimp only at hSw); go_simp; try (with_reducible rfl))
          try simp only [List.getElem_toArray, List.getElem_cons_zero, List.getElem_cons_succ, Act.put, List.setIfInBounds_toArray, List.set_cons_zero, List.set_cons_succ]
          refine wpAnyH_take (i := 11) (oi := _) (v := ?_) rfl (by kernel_rfl) (by kernel_rfl) (by kernel_rfl) (fun _ _ _ h => h) (Or.inl ⟨by rfl, ?_⟩) (by assumption) ?_
          rotate_left
          · (intro w hSw; (try dsimp only at hSw); go_simp; try (with_reducible rfl))
          try simp only [List.getElem_toArray, List.getElem_cons_zero, List.getElem_cons_succ, Act.put, List.setIfInBounds_toArray, List.set_cons_zero, List.set_cons_succ]
          refine wpAnyH_done (by kernel_rfl) ?_ _
          dsimp only [Exit.then]
          clear hHeld
          obtain ⟨hBz, hoz⟩ := hG
          have hrz : RdSt wn11 A' c' B' d' t := by
            obtain ⟨A9, c9, B9, d9, e1, e2, h⟩ := hoz.rows
            cases e1; cases e2; exact h
          have hall := And.intro hBz (And.intro hrz hF)
          generalize wn11 = wz at hall ⊢
          generalize g6 = gy at hall ⊢
          generalize A' = Ay at hall ⊢
          generalize c' = cy at hall ⊢
          generalize B' = By at hall ⊢
          generalize d' = dy at hall ⊢
          generalize A2 = A4
          generalize c2 = c4
          revert wz gy Ay cy By dy A4 c4
          exact REST2.out
        exact AllReadyH.nil
      exact AllReadyH.nil
    exact AllReadyH.nil
  exact AllReadyH.nil
  --HELDEND2
  intro w4 gy Ay cy By dy ⟨hBy, hry, hXy⟩ A4 c4
  have hXy' : Arr w4 gy 28 [.slice Ay t.blobs.length cy, .slice By t.ents.length dy, .int .i64 (t.room : Int), .int .i64 (t.clock : Int)] := hXy
  have hXz4 := HXZ.out.below hBy
  have hrz4 := HRZ.out.below hBy
  have hb04 := HB3.out.trans (hBy.mono (by omega))
  have hss : (sd.toList == sd.toList) = true := by simp
  have HKP := Lib.hid (kept_ok w4)
  have HLT := Lib.hid (show t.blobs.length ≤ 24 ∧ t.ents.length ≤ 10 ∧ (∀ b ∈ t.blobs, b.data.length ≤ 1000000) ∧ (∀ x ∈ t.ents, x.parts.length ≤ 1000000) from
    ⟨HF2.out.g.b.len, HF2.out.g.e.len, fun b hb => by have := (HF2.out.g.b.one b hb).2.1; omega, fun x hx => by have := (chk_zero (HF2.out.g.e.one x hx).2.1).1; omega⟩)
  have hs4 : gr ≤ w4.heap.size := by have := hBy.size; omega
  clear hXy hBy
  repeat' ((fail_if_success at_builtin); (fail_if_success at_make); (first | go_values | go_skip | go_guarded | go_step | go_upon | go_back))
  refine ((HKP.out)).mono ?_; rintro e_ w5 ⟨rfl, hb5⟩; dsimp only
  have hXy5 := hXy'.below hb5
  have hXz5 := hXz4.below hb5
  have hrz5 := hrz4.below hb5
  have hry5 := hry.below hb5
  have hb05 := hb04.trans (hb5.mono hs4)
  have z0 := hXz5.cell (k := 0) rfl
  have z1 := hXz5.cell (k := 1) rfl
  have z2 := hXz5.cell (k := 2) rfl
  have z3 := hXz5.cell (k := 3) rfl
  have y0 := hXy5.cell (k := 0) rfl
  have y1 := hXy5.cell (k := 1) rfl
  have y2 := hXy5.cell (k := 2) rfl
  have y3 := hXy5.cell (k := 3) rfl
  have hsm := SameStore_ok Az Ay Bz By cz cy dz dy t.blobs t.blobs t.ents t.ents (t.room : Int) (t.clock : Int) w5 (by have := HLT.out.1; omega) (by have := HLT.out.1; omega) HLT.out.2.2.1 HLT.out.2.2.1 (by have := HLT.out.2.1; omega) (by have := HLT.out.2.1; omega) HLT.out.2.2.2 HLT.out.2.2.2 hrz5.b hry5.b hrz5.e hry5.e
  rw [sameBL_refl, sameEL_refl] at hsm
  have HSM := Lib.hid hsm
  have hgw5 : gr ≤ w5.heap.size := Nat.le_trans hs4 hb5.size
  clear hsm hXy' hXy5 hXz4 hXz5 hrz4 hrz5 hry hry5 hb04 hb5
  repeat' ((fail_if_success at_builtin); (fail_if_success at_make); (first | go_values | go_skip | go_guarded | go_step | go_upon | go_back))
  refine ((HSM.out)).mono ?_; rintro e_ w6 ⟨rfl, hb6⟩; dsimp only
  have hb06 := hb05.trans (hb6.mono hgw5)
  repeat' ((fail_if_success at_builtin); (fail_if_success at_make); (first | go_values | go_skip | go_guarded | go_step | go_upon | go_back))
  go_ret
  exact ⟨rfl, hb06⟩
end Go.Proofs.YtjldpfijekpddaaGreat
