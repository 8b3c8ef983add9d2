/- StoreEntry walked. Conditions: the slice's size. -/
import Derived.Test.YtjldpfijekpddaaGreatLTw
namespace Go.Proofs.YtjldpfijekpddaaGreat
open Go.RowKit
set_option linter.unusedVariables false
set_option linter.unusedSimpArgs false
set_option maxRecDepth 100000

theorem putE_has (l : List EntP) (x : EntP) : ∃ y ∈ putE l x, y.key = x.key ∧ y.parts = x.parts ∧ y.stamp = x.stamp := by
  unfold putE
  cases hf : l.findIdx? (fun y => y.key == x.key) with
  | none => exact ⟨x, (srt_perm _ _).mem_iff.2 (List.mem_cons_self ..), rfl, rfl, rfl⟩
  | some i =>
    obtain ⟨hi, he, _⟩ := List.findIdx?_eq_some_iff_getElem.1 hf
    exact ⟨{ x with pins := (match l[i]? with | some y => y.pins | none => 0) }, List.mem_iff_getElem.2 ⟨i, by rw [List.length_set]; exact hi, List.getElem_set_self ..⟩, rfl, rfl, rfl⟩
theorem get_stamps {x : StoP} {i : Nat} (hg : GoodS x) (hi : i < x.ents.length) : ∀ z ∈ (getS x i x.ents[i]).ents, (z.stamp = x.clock + 1 ↔ z.key = x.ents[i].key) := fun z hz => by
  obtain ⟨j, hj, rfl⟩ := List.mem_iff_getElem.1 hz
  have hj' : j < x.ents.length := by have h := hj; simp only [getS, List.length_set] at h; exact h
  by_cases e : i = j
  · subst e
    have : (getS x i x.ents[i]).ents[i] = { x.ents[i] with stamp := x.clock + 1 } := List.getElem_set_self ..
    rw [this]; simp
  · have : (getS x i x.ents[i]).ents[j] = x.ents[j] := List.getElem_set_ne e ..
    rw [this]
    have h1 := (hg.ent _ (List.getElem_mem hj')).1
    have h2 := List.pairwise_iff_getElem.1 hg.e.ris
    constructor
    · intro h; omega
    · intro h
      rcases Nat.lt_or_gt_of_ne e with h3 | h3
      · exact absurd h.symm (bl_ne (h2 i j hi hj' h3))
      · exact absurd h (bl_ne (h2 j i hj' hi h3))
theorem sto7 (l : List RawP) : (sto l).ents.length ≤ 7 := by
  have pe : ((sto l).ents).Perm (stAcc l).ents := srt_perm _ _
  have hk := keys_seven (acc_ok l).end_ fun k hk => by
    obtain ⟨x, hx, rfl⟩ := List.mem_map.1 hk
    exact ((acc_ok l).eone x hx).1
  rw [List.length_map] at hk
  rw [pe.length_eq]; exact hk
theorem sto_clk (l : List RawP) : (sto l).clock ≤ 24 := (acc_ok l).clock
theorem sto_pts (l : List RawP) (r : RawP) : chk (ptsOf (sto l).blobs r) = 0 ∧ haveC (sto l).blobs (ptsOf (sto l).blobs r) = 0 := by
  have hg := sto_good l
  exact ⟨chk_pts (fun b hb => ⟨by rw [(hg.b.one b hb).1]; exact hexC_sha _, (hg.b.one b hb).2.1⟩) r, have_zero hg.b.ris (pts_have _ r)⟩
theorem PutSF_ok (A : Option Addr) (c : Nat) (B : Option Addr) (d : Nat) (s x : StoP) (key : List UInt8) (ps : List PartP) (PA : Option Addr) (pc : Nat) (w : World) (hg : GoodS s) (hr : RdSt w A c B d s) (hk : hexC key = 0) (hpz : chk ps = 0) (hhv : haveC s.blobs ps = 0) (hclk : s.clock < 1099511627776) (hlen : s.ents.length < 10) (hP : Sl w 3 PA ps.length pc (pcs ps)) (hx : x = putES s key ps) :
    Calls Tryz.prog 25 #[.agg #[.slice A s.blobs.length c, .slice B s.ents.length d, .int .i64 (s.room : Int), .int .i64 (s.clock : Int)], .string ⟨key.toArray⟩, .slice PA ps.length pc] w fun e w' =>
      ∃ A' c' B' d', e = .returned (.tuple #[.agg #[.slice A' x.blobs.length c', .slice B' x.ents.length d', .int .i64 (x.room : Int), .int .i64 (x.clock : Int)], .int .i64 0]) ∧ OwSt w' w.heap.size (.slice A' x.blobs.length c') (.slice B' x.ents.length d') x (fun b => b < w.heap.size) ∧ Below w.heap.size w w' := by
  subst hx
  refine (PutS_ok A c B d s key ps PA pc w hg hr hk hpz hhv hclk hlen hP).mono fun e w' ⟨v1, v2, h1, h2, h3⟩ => ?_
  obtain ⟨A', c', B', d', e1, e2, _⟩ := h2.rows
  subst e1 e2
  exact ⟨A', c', B', d', h1, h2, h3⟩
theorem GetSF_ok (A : Option Addr) (c : Nat) (B : Option Addr) (d : Nat) (s y : StoP) (key : List UInt8) (ps : List PartP) (i : Nat) (w : World) (hg : GoodS s) (hr : RdSt w A c B d s) (hi : i < s.ents.length) (hk : s.ents[i].key = key) (hps : s.ents[i].parts = ps) (hclk : s.clock < 1099511627776) (hy : y = getS s i s.ents[i]) :
    Calls Tryz.prog 29 #[.agg #[.slice A s.blobs.length c, .slice B s.ents.length d, .int .i64 (s.room : Int), .int .i64 (s.clock : Int)], .string ⟨key.toArray⟩] w fun e w' =>
      ∃ A' c' B' d' A5 c5, e = .returned (.tuple #[.agg #[.slice A' y.blobs.length c', .slice B' y.ents.length d', .int .i64 (y.room : Int), .int .i64 (y.clock : Int)], .slice A5 ps.length c5, .int .i64 0]) ∧ OwSt w' w.heap.size (.slice A' y.blobs.length c') (.slice B' y.ents.length d') y (fun b => b < w.heap.size) ∧ w'.ownsRow w.heap.size 57 3 (.slice A5 ps.length c5) ps.length (pcs ps) ∧ Below w.heap.size w w' := by
  subst hy
  subst hps
  refine (GetS_ok A c B d s key i w hg hr hi hk hclk).mono fun e w' ⟨v1, v2, v3, h1, h2, h4, h3⟩ => ?_
  obtain ⟨A', c', B', d', e1, e2, _⟩ := h2.rows
  obtain ⟨A5, c5, e5, _, _⟩ := OwnSl h4
  subst e1 e2 e5
  exact ⟨A', c', B', d', A5, c5, h1, h2, h4, h3⟩
set_option maxHeartbeats 4000000 in
theorem StoreEntry_walk (A : Option Addr) (n c : Nat) (l : List RawP) (r : RawP) (w : World) (hl : l.length = n) (hc : n ≤ c) (hm : c ≤ maxLen) (hok : ∀ r ∈ l, RawOk r) (hr : Rd w 4 A n (rcs l)) (hro : RawOk r) :
    Calls Tryz.prog 7 #[.slice A n c, rval r] w fun e w' => e = .returned (.bool true) ∧ Below w.heap.size w w' := by
  have hsg := sto_good l
  have hs7 := sto7 l
  have hsc := sto_clk l
  obtain ⟨hp1, hp2⟩ := sto_pts l r
  have hp3 := pts_len (sto l).blobs r
  obtain ⟨ps, hps⟩ : ∃ ps, ps = ptsOf (sto l).blobs r := ⟨_, rfl⟩
  rw [← hps] at hp1 hp2 hp3
  have HRO := Lib.hid hro
  obtain ⟨w0, hw0⟩ : ∃ w0, w0 = w.alloc (.cells #[.int .i64 r.kind, .int .i64 r.a, .int .i64 r.b, .string r.text] 24) := ⟨_, rfl⟩
  have hb0 : Below w.heap.size w w0 := by rw [hw0]; exact (Below.refl _ _).alloc (Nat.le_refl _) _
  obtain ⟨gr, hgr⟩ : ∃ g, g = w.heap.size := ⟨_, rfl⟩
  have hRb : Arr w0 gr 24 [.int .i64 r.kind, .int .i64 r.a, .int .i64 r.b, .string r.text] := by rw [hw0, hgr]; exact Arr.new w 24 _
  have HS := Lib.hid (Store_ok A n c l w0 hl hc hm hok (hr.below hb0))
  rw [← hgr] at hb0 ⊢
  have hgl : gr < w0.heap.size := hRb.lt
  clear hok hl hr hro
  generalize hs : sto l = s at *
  have HSG := Lib.hid hsg
  have hlb : s.blobs.length ≤ 24 := hsg.b.len
  have HPT := Lib.hid (fun (Ax : Option Addr) (cx : Nat) (W : World) (h1 : s.blobs.length ≤ cx) (h2 : cx ≤ maxLen) (h3 : Rw BlobS W Ax s.blobs) => Parts_ok Ax cx s.blobs r W (by omega) h1 h2 (fun b hb => by have := (HSG.out.b.one b hb).2.1; omega) h3 HRO.out)
  rw [← hps] at HPT
  obtain ⟨rk, ra, rb, rt⟩ := r
  unfold rval
  dsimp only at HPT hRb hw0
  have HP1 := Lib.hid hp1
  have HP2 := Lib.hid hp2
  clear hs hsg hps hp1 hp2
  go_enter Tryz.func7, Tryz.ntmps7
  repeat' ((fail_if_success at_builtin); (fail_if_success at_make); (first | go_values | go_skip | go_guarded | go_step | go_upon | go_back))
  rw [← hw0, ← hgr]
  clear hw0 hgr
  refine ((HS.out)).mono ?_; rintro e_ w1 ⟨v1, v2, rfl, hb, he, hb1⟩; dsimp only
  obtain ⟨As, cs, rfl, hc1, hc2, hRs⟩ := hb.rows
  obtain ⟨Bs, ds, rfl, hd1, hd2, hEs⟩ := he.rows
  have hrd1 : RdSt w1 As cs Bs ds s := ⟨hRs, hEs, hc1, hc2, hd1, hd2⟩
  have hb01 := hb0.trans (hb1.mono (by omega))
  have hRb1 := hRb.below hb1
  have hba := (Below.refl w1.heap.size w1).alloc (Nat.le_refl _) (.cells #[.slice As s.blobs.length cs, .slice Bs s.ents.length ds, .int .i64 (s.room : Int), .int .i64 (s.clock : Int)] 28)
  have hX' : Arr (w1.alloc (.cells #[.slice As s.blobs.length cs, .slice Bs s.ents.length ds, .int .i64 (s.room : Int), .int .i64 (s.clock : Int)] 28)) w1.heap.size 28 [.slice As s.blobs.length cs, .slice Bs s.ents.length ds, .int .i64 (s.room : Int), .int .i64 (s.clock : Int)] := Arr.new w1 28 _
  have hrd2 := hrd1.below hba
  have hRb2 := hRb1.below hba
  have hb02 := hb01.trans (hba.mono (by have := hb1.size; omega))
  have hq1 := hrd2.bc
  have hq2 := hrd2.bm
  clear hb he hRs hEs hba hrd1 hRb hRb1 hb0 hb1 hb01 hc1 hc2 hd1 hd2
  have x0 := hRb2.cell (k := 0) rfl
  have x1 := hRb2.cell (k := 1) rfl
  have x2 := hRb2.cell (k := 2) rfl
  have x3 := hRb2.cell (k := 3) rfl
  have HPT1 := Lib.hid (HPT.out As cs _ hq1 hq2 hrd2.b)
  repeat' ((fail_if_success at_builtin); (fail_if_success at_make); (first | go_values | go_skip | go_guarded | go_step | go_upon | go_back))
  generalize w1.alloc (.cells #[.slice As s.blobs.length cs, .slice Bs s.ents.length ds, .int .i64 (s.room : Int), .int .i64 (s.clock : Int)] 28) = wq at *
  generalize w1.heap.size = gs at *
  clear x0 x1 x2 x3
  refine ((HPT1.out)).mono ?_; rintro e_ w2 ⟨vp, rfl, hop, hbp⟩; dsimp only
  obtain ⟨PA, pc, rfl, hsp, hlp⟩ := OwnSl hop
  have hX2 := hX'.below hbp
  have hrq := hrd2.below hbp
  have hRq := hRb2.below hbp
  have hgq : gr < wq.heap.size := hRb2.lt
  have hb03 := hb02.trans (hbp.mono (Nat.le_of_lt hgq))
  have hgs2 : gs < w2.heap.size := hX2.lt
  have hgr2 : gr < w2.heap.size := hRq.lt
  have HSB := Lib.hid (show ∀ W, Below w2.heap.size w2 W → (W.cell? ⟨gs, 0, none⟩ = some (.slice As s.blobs.length cs) ∧ W.cell? ⟨gs, 1, none⟩ = some (.slice Bs s.ents.length ds) ∧ W.cell? ⟨gs, 2, none⟩ = some (.int .i64 (s.room : Int)) ∧ W.cell? ⟨gs, 3, none⟩ = some (.int .i64 (s.clock : Int))) ∧ W.cell? ⟨gr, 1, none⟩ = some (.int .i64 ra) from fun W h =>
    ⟨⟨(hX2.below h).cell (k := 0) rfl, (hX2.below h).cell (k := 1) rfl, (hX2.below h).cell (k := 2) rfl, (hX2.below h).cell (k := 3) rfl⟩, (hRq.below h).cell (k := 1) rfl⟩)
  obtain ⟨K, hK⟩ : ∃ K, K = keyS (pk ra 7) := ⟨_, rfl⟩
  obtain ⟨sk, hsk⟩ : ∃ x : ByteArray, x = ⟨K.toArray⟩ := ⟨_, rfl⟩
  have hKh : hexC K = 0 := by rw [hK]; exact hexC_sha _
  have HKY := Lib.hid (show ∀ W, Calls Tryz.prog 26 #[.int .i64 ra] W fun e w' => e = .returned (.string sk) ∧ Below W.heap.size W w' from fun W => by
    rw [hsk, hK]; exact Key_ok ra W HRO.out.a0 HRO.out.a1)
  obtain ⟨x, hx⟩ : ∃ x, x = putES s K ps := ⟨_, rfl⟩
  have hxg : GoodS x := by rw [hx]; exact putES_good HSG.out hKh HP1.out (have_of_zero HP2.out) (by omega) (by omega)
  have hpb := fun W (h : Below w2.heap.size w2 W) => PutSF_ok As cs Bs ds s x K ps PA pc W HSG.out (hrq.below h) hKh HP1.out HP2.out (by omega) (by omega) (hsp.below h) hx
  rw [← hsk] at hpb
  have HPB := Lib.hid hpb
  obtain ⟨i, hi, hik, hip⟩ : ∃ i, ∃ hi : i < x.ents.length, x.ents[i].key = K ∧ x.ents[i].parts = ps := by
    obtain ⟨e, he, h1, h2, _⟩ := putE_has s.ents ⟨K, ps, 0, s.clock + 1⟩
    have he' : e ∈ x.ents := by rw [hx]; exact he
    obtain ⟨i, hi, rfl⟩ := List.mem_iff_getElem.1 he'
    exact ⟨i, hi, h1, h2⟩
  have hxc : x.clock = s.clock + 1 := by rw [hx]; rfl
  have HIK := Lib.hid hik
  have HIP := Lib.hid hip
  have HXC := Lib.hid hxc
  have HXG := Lib.hid hxg
  have HSK := Lib.hid hsk
  have HX2 := Lib.hid hX2
  have HRQ := Lib.hid hRq
  have HPP := Lib.hid hsp
  have HB3 := Lib.hid hb03
  clear hpb hK hsk hx hik hip hxc hxg hX' hX2 hrd2 hrq hRb2 hRq hop hbp hsp hlp hb02 hb03
  repeat' ((fail_if_success at_builtin); (fail_if_success at_make); (first | go_values | go_skip | go_guarded | go_step | go_upon | go_back))
  apply share
  intro REST
  --HELD1
  refine wp_region_held_drew (S := (fun w' => (w'.cell? ⟨gs, 0, none⟩ = some (.slice As s.blobs.length cs) ∧ w'.cell? ⟨gs, 1, none⟩ = some (.slice Bs s.ents.length ds) ∧ w'.cell? ⟨gs, 2, none⟩ = some (.int .i64 (s.room : Int)) ∧ w'.cell? ⟨gs, 3, none⟩ = some (.int .i64 (s.clock : Int))) ∧ w'.cell? ⟨gr, 1, none⟩ = some (.int .i64 ra))) (by kernel_rfl) ?_ (fun hHeld => ?_)
  · exact HSB.out _ (Below.refl _ w2).drew
  have hB := (Below.refl w2.heap.size w2).drew
  generalize w2.drew = wn0 at *
  refine wpAnyH_take (i := 0) (oi := _) (v := ?_) rfl (by kernel_rfl) (by kernel_rfl) (by kernel_rfl) (fun _ _ _ h => h) (Or.inl ⟨by rfl, ?_⟩) (by assumption) ?_
  rotate_left
  · (intro w hSw; (try dsimp only at hSw); go_simp; try (with_reducible rfl))
  try simp only [List.getElem_toArray, List.getElem_cons_zero, List.getElem_cons_succ, Act.put, List.setIfInBounds_toArray, List.set_cons_zero, List.set_cons_succ]
  refine wpAnyH_take (i := 1) (oi := _) (v := ?_) rfl (by kernel_rfl) (by kernel_rfl) (by kernel_rfl) (fun _ _ _ h => h) (Or.inl ⟨by rfl, ?_⟩) (by assumption) ?_
  rotate_left
  · (intro w hSw; (try dsimp only at hSw); go_simp; try (with_reducible rfl))
  try simp only [List.getElem_toArray, List.getElem_cons_zero, List.getElem_cons_succ, Act.put, List.setIfInBounds_toArray, List.set_cons_zero, List.set_cons_succ]
  refine wpAnyH_take (i := 2) (oi := _) (v := ?_) rfl (by kernel_rfl) (by kernel_rfl) (by kernel_rfl) (fun _ _ _ h => h) (Or.inl ⟨by rfl, ?_⟩) (by assumption) ?_
  rotate_left
  · (intro w hSw; (try dsimp only at hSw); go_simp; try (with_reducible rfl))
  try simp only [List.getElem_toArray, List.getElem_cons_zero, List.getElem_cons_succ, Act.put, List.setIfInBounds_toArray, List.set_cons_zero, List.set_cons_succ]
  refine wpAnyH_take (i := 4) (oi := _) (v := ?_) rfl (by kernel_rfl) (by kernel_rfl) (by kernel_rfl) (fun _ _ _ h => h) (Or.inl ⟨by rfl, ?_⟩) (by assumption) ?_
  rotate_left
  · (intro w hSw; (try dsimp only at hSw); go_simp; try (with_reducible rfl))
  try simp only [List.getElem_toArray, List.getElem_cons_zero, List.getElem_cons_succ, Act.put, List.setIfInBounds_toArray, List.set_cons_zero, List.set_cons_succ]
  refine wpAnyH_ready (rs := [3, 9]) (by kernel_rfl) (by simp) ?_
  refine AllReadyH.cons (o := _) rfl (fun K hK => ?_) ?_
  ·
    go_simp
    refine (HKY.out wn0).mono ?_
    rintro e5 w5 ⟨rfl, hb5⟩
    dsimp only
    refine outG hK ?_ (Below wn0.heap.size wn0) (fun W => True) ?_ ?_ (fun wn1 hHeld hst hnew => ?_)
    · (exact HSB.out _ (hB.trans (Below.mono (show Below wn0.heap.size wn0 _ from by (first | exact (Below.refl _ _).alloc (Nat.le_refl _) _ | exact hb5 | exact Below.refl _ _)) hB.size)))
    · (first | exact (Below.refl _ _).alloc (Nat.le_refl _) _ | exact hb5 | exact Below.refl _ _)
    · (trivial)
    have hB := hB.trans (hst.mono hB.size)
    clear hst
    clear hK K
    try simp only [List.getElem_toArray, List.getElem_cons_zero, List.getElem_cons_succ, Act.put, List.setIfInBounds_toArray, List.set_cons_zero, List.set_cons_succ]
    refine wpAnyH_ready (rs := [5, 9]) (by kernel_rfl) (by simp) ?_
    refine AllReadyH.cons (o := _) rfl (fun K hK => ?_) ?_
    ·
      try have hA8 := h8.lt
      go_simp
      refine (HPB.out wn1 hB).mono ?_
      rintro e5 w5 ⟨A', c', B', d', rfl, ho5, hb5⟩
      dsimp only
      refine outG hK ?_ (Below wn1.heap.size wn1) (fun W => OwSt W wn1.heap.size (Value.slice A' x.blobs.length c') (Value.slice B' x.ents.length d') x (fun b => b < wn1.heap.size)) ?_ ?_ (fun wn2 hHeld hst hnew => ?_)
      · (exact HSB.out _ (hB.trans (Below.mono (show Below wn1.heap.size wn1 _ from by (first | exact (Below.refl _ _).alloc (Nat.le_refl _) _ | exact hb5 | exact Below.refl _ _)) hB.size)))
      · (first | exact (Below.refl _ _).alloc (Nat.le_refl _) _ | exact hb5 | exact Below.refl _ _)
      · (exact ho5)
      have hB := hB.trans (hst.mono hB.size)
      have ho := hnew
      try (have hne1 : (Value.slice A' x.blobs.length c').ownBlock ≠ some g6 := fun e => by have := (ho.b.rwo.blk e).1; omega)
      try (have hne2 : (Value.slice B' x.ents.length d').ownBlock ≠ some g6 := fun e => by have := (ho.e.rwo.blk e).1; omega)
      try (have ho := ho.wider (N' := fun b => b = g6) (fun b hb => .inl (by omega)))
      try (have ho := ho.lower (base' := 0) (Nat.zero_le _))
      clear hst
      clear hK K
      try simp only [List.getElem_toArray, List.getElem_cons_zero, List.getElem_cons_succ, Act.put, List.setIfInBounds_toArray, List.set_cons_zero, List.set_cons_succ]
      refine wpAnyH_take (i := 6) (oi := _) (v := ?_) rfl (by kernel_rfl) (by kernel_rfl) (by kernel_rfl) (fun _ _ _ h => h) (Or.inl ⟨by rfl, ?_⟩) (by assumption) ?_
      rotate_left
      · (intro w hSw; (try dsimp only at hSw); go_simp; try (with_reducible rfl))
      try simp only [List.getElem_toArray, List.getElem_cons_zero, List.getElem_cons_succ, Act.put, List.setIfInBounds_toArray, List.set_cons_zero, List.set_cons_succ]
      refine wpAnyH_take (i := 7) (oi := _) (v := ?_) rfl (by kernel_rfl) (by kernel_rfl) (by kernel_rfl) (fun _ _ _ h => h) (Or.inl ⟨by rfl, ?_⟩) (by assumption) ?_
      rotate_left
      · (intro w hSw; (try dsimp only at hSw); go_simp; try (with_reducible rfl))
      try simp only [List.getElem_toArray, List.getElem_cons_zero, List.getElem_cons_succ, Act.put, List.setIfInBounds_toArray, List.set_cons_zero, List.set_cons_succ]
      refine wpAnyH_take (i := 8) (oi := _) (v := ?_) rfl (by kernel_rfl) (by kernel_rfl) (by kernel_rfl) (fun _ _ _ h => h) (Or.inl ⟨by rfl, ?_⟩) (by assumption) ?_
      rotate_left
      · (intro w hSw; (try dsimp only at hSw); go_simp; try (with_reducible rfl))
      try simp only [List.getElem_toArray, List.getElem_cons_zero, List.getElem_cons_succ, Act.put, List.setIfInBounds_toArray, List.set_cons_zero, List.set_cons_succ]
      refine wpAnyH_ready (rs := [9]) (by kernel_rfl) (by simp) ?_
      refine AllReadyH.cons (o := _) rfl (fun K hK => ?_) ?_
      ·
        try (have hA1 := fun b (e : (Value.slice A' x.blobs.length c').ownBlock = some b) => (ho.b.rwo.blk e).2)
        try (have hA2 := fun b (e : (Value.slice B' x.ents.length d').ownBlock = some b) => (ho.e.rwo.blk e).2)
        try (have ho := (ho.lower (base' := 0) (Nat.zero_le _)).wider (N' := fun b => b = wn2.heap.size) (fun b hb => .inr (by omega)))
        go_simp
        refine outG hK ?_ (Below wn2.heap.size wn2) (fun W => Arr W wn2.heap.size 28 [.slice none 0 0, .slice none 0 0, .int .i64 0, .int .i64 0] ∧ w2.heap.size ≤ wn2.heap.size) ?_ ?_ (fun wn3 hHeld hst hnew => ?_)
        · (exact HSB.out _ (hB.trans (Below.mono (show Below wn2.heap.size wn2 _ from by (first | exact (Below.refl _ _).alloc (Nat.le_refl _) _ | exact hb5 | exact Below.refl _ _)) hB.size)))
        · (first | exact (Below.refl _ _).alloc (Nat.le_refl _) _ | exact hb5 | exact Below.refl _ _)
        · (exact ⟨Arr.new _ _ _, hB.size⟩)
        have hB := hB.trans (hst.mono hB.size)
        have ho := ho.below hst
        obtain ⟨h8, hl8⟩ := hnew
        obtain ⟨g6, hg6⟩ : ∃ g, g = wn2.heap.size := ⟨_, rfl⟩
        rw [← hg6] at h8 hl8 ⊢
        try (rw [← hg6] at ho)
        try (have hne1 : (Value.slice A' x.blobs.length c').ownBlock ≠ some g6 := fun e => by have := hA1 _ e; omega)
        try (have hne2 : (Value.slice B' x.ents.length d').ownBlock ≠ some g6 := fun e => by have := hA2 _ e; omega)
        try clear hA1
        try clear hA2
        clear hg6
        clear hst
        clear hK K
        try simp only [List.getElem_toArray, List.getElem_cons_zero, List.getElem_cons_succ, Act.put, List.setIfInBounds_toArray, List.set_cons_zero, List.set_cons_succ]
        refine wpAnyH_ready (rs := [10]) (by kernel_rfl) (by simp) ?_
        refine AllReadyH.cons (o := _) rfl (fun K hK => ?_) ?_
        ·
          have z0 := h8.cell (k := 0) rfl
          have z1 := h8.cell (k := 1) rfl
          have z2 := h8.cell (k := 2) rfl
          have z3 := h8.cell (k := 3) rfl
          have f0 := h8.frozen 0
          have f1 := h8.frozen 1
          have f2 := h8.frozen 2
          have f3 := h8.frozen 3
          go_simp
          clear z0 z1 z2 z3 f0 f1 f2 f3
          refine outG hK ?_ (fun W => Arr W g6 28 [.slice A' x.blobs.length c', .slice B' x.ents.length d', .int .i64 (x.room : Int), .int .i64 (x.clock : Int)]) (fun W => Below w2.heap.size w2 W ∧ OwSt W 0 (Value.slice A' x.blobs.length c') (Value.slice B' x.ents.length d') x (fun b => b = g6)) ?_ ?_ (fun wn4 hHeld hF hG => ?_)
          · exact HSB.out _ ((((hB.setCell (p := ⟨g6, 0, none⟩) hl8 _).setCell (p := ⟨g6, 1, none⟩) hl8 _).setCell (p := ⟨g6, 2, none⟩) hl8 _).setCell (p := ⟨g6, 3, none⟩) hl8 _)
          · exact h8.all4 _ _ _ _
          · exact ⟨(((hB.setCell (p := ⟨g6, 0, none⟩) hl8 _).setCell (p := ⟨g6, 1, none⟩) hl8 _).setCell (p := ⟨g6, 2, none⟩) hl8 _).setCell (p := ⟨g6, 3, none⟩) hl8 _, (((ho.setX rfl hne1 hne2 _).setX rfl hne1 hne2 _).setX rfl hne1 hne2 _).setX rfl hne1 hne2 _⟩
          clear hB h8 ho
          clear hK K
          try simp only [List.getElem_toArray, List.getElem_cons_zero, List.getElem_cons_succ, Act.put, List.setIfInBounds_toArray, List.set_cons_zero, List.set_cons_succ]
          refine wpAnyH_take (i := 11) (oi := _) (v := ?_) rfl (by kernel_rfl) (by kernel_rfl) (by kernel_rfl) (fun _ _ _ h => h) (Or.inl ⟨by rfl, ?_⟩) (by assumption) ?_
          rotate_left
          · (intro w hSw; (try dsimp only at hSw); go_simp; try (with_reducible rfl))
          try simp only [List.getElem_toArray, List.getElem_cons_zero, List.getElem_cons_succ, Act.put, List.setIfInBounds_toArray, List.set_cons_zero, List.set_cons_succ]
          refine wpAnyH_done (by kernel_rfl) ?_ _
          dsimp only [Exit.then]
          clear hHeld
          obtain ⟨hBz, hoz⟩ := hG
          have hrz : RdSt wn4 A' c' B' d' x := by
            obtain ⟨A9, c9, B9, d9, e1, e2, h⟩ := hoz.rows
            cases e1; cases e2; exact h
          have hall := And.intro hBz (And.intro hrz hF)
          generalize wn4 = wz at hall ⊢
          generalize g6 = gz at hall ⊢
          generalize A' = Az at hall ⊢
          generalize c' = cz at hall ⊢
          generalize B' = Bz at hall ⊢
          generalize d' = dz at hall ⊢
          revert wz gz Az cz Bz dz
          exact REST.out
        exact AllReadyH.nil
      exact AllReadyH.nil
    refine AllReadyH.cons (o := _) rfl (fun K hK => ?_) ?_
    ·
      try (have hA1 := fun b (e : (Value.slice A' x.blobs.length c').ownBlock = some b) => (ho.b.rwo.blk e).2)
      try (have hA2 := fun b (e : (Value.slice B' x.ents.length d').ownBlock = some b) => (ho.e.rwo.blk e).2)
      try (have ho := (ho.lower (base' := 0) (Nat.zero_le _)).wider (N' := fun b => b = wn1.heap.size) (fun b hb => .inr (by omega)))
      go_simp
      refine outG hK ?_ (Below wn1.heap.size wn1) (fun W => Arr W wn1.heap.size 28 [.slice none 0 0, .slice none 0 0, .int .i64 0, .int .i64 0] ∧ w2.heap.size ≤ wn1.heap.size) ?_ ?_ (fun wn5 hHeld hst hnew => ?_)
      · (exact HSB.out _ (hB.trans (Below.mono (show Below wn1.heap.size wn1 _ from by (first | exact (Below.refl _ _).alloc (Nat.le_refl _) _ | exact hb5 | exact Below.refl _ _)) hB.size)))
      · (first | exact (Below.refl _ _).alloc (Nat.le_refl _) _ | exact hb5 | exact Below.refl _ _)
      · (exact ⟨Arr.new _ _ _, hB.size⟩)
      have hB := hB.trans (hst.mono hB.size)
      obtain ⟨h8, hl8⟩ := hnew
      obtain ⟨g6, hg6⟩ : ∃ g, g = wn1.heap.size := ⟨_, rfl⟩
      rw [← hg6] at h8 hl8 ⊢
      try (rw [← hg6] at ho)
      try (have hne1 : (Value.slice A' x.blobs.length c').ownBlock ≠ some g6 := fun e => by have := hA1 _ e; omega)
      try (have hne2 : (Value.slice B' x.ents.length d').ownBlock ≠ some g6 := fun e => by have := hA2 _ e; omega)
      try clear hA1
      try clear hA2
      clear hg6
      clear hst
      clear hK K
      try simp only [List.getElem_toArray, List.getElem_cons_zero, List.getElem_cons_succ, Act.put, List.setIfInBounds_toArray, List.set_cons_zero, List.set_cons_succ]
      refine wpAnyH_ready (rs := [5]) (by kernel_rfl) (by simp) ?_
      refine AllReadyH.cons (o := _) rfl (fun K hK => ?_) ?_
      ·
        try have hA8 := h8.lt
        go_simp
        refine (HPB.out wn5 hB).mono ?_
        rintro e5 w5 ⟨A', c', B', d', rfl, ho5, hb5⟩
        dsimp only
        refine outG hK ?_ (Below wn5.heap.size wn5) (fun W => OwSt W wn5.heap.size (Value.slice A' x.blobs.length c') (Value.slice B' x.ents.length d') x (fun b => b < wn5.heap.size)) ?_ ?_ (fun wn6 hHeld hst hnew => ?_)
        · (exact HSB.out _ (hB.trans (Below.mono (show Below wn5.heap.size wn5 _ from by (first | exact (Below.refl _ _).alloc (Nat.le_refl _) _ | exact hb5 | exact Below.refl _ _)) hB.size)))
        · (first | exact (Below.refl _ _).alloc (Nat.le_refl _) _ | exact hb5 | exact Below.refl _ _)
        · (exact ho5)
        have hB := hB.trans (hst.mono hB.size)
        have h8 := h8.below hst
        have ho := hnew
        try (have hne1 : (Value.slice A' x.blobs.length c').ownBlock ≠ some g6 := fun e => by have := (ho.b.rwo.blk e).1; omega)
        try (have hne2 : (Value.slice B' x.ents.length d').ownBlock ≠ some g6 := fun e => by have := (ho.e.rwo.blk e).1; omega)
        try (have ho := ho.wider (N' := fun b => b = g6) (fun b hb => .inl (by omega)))
        try (have ho := ho.lower (base' := 0) (Nat.zero_le _))
        clear hst
        clear hK K
        try simp only [List.getElem_toArray, List.getElem_cons_zero, List.getElem_cons_succ, Act.put, List.setIfInBounds_toArray, List.set_cons_zero, List.set_cons_succ]
        refine wpAnyH_take (i := 6) (oi := _) (v := ?_) rfl (by kernel_rfl) (by kernel_rfl) (by kernel_rfl) (fun _ _ _ h => h) (Or.inl ⟨by rfl, ?_⟩) (by assumption) ?_
        rotate_left
        · (intro w hSw; (try dsimp only at hSw); go_simp; try (with_reducible rfl))
        try simp only [List.getElem_toArray, List.getElem_cons_zero, List.getElem_cons_succ, Act.put, List.setIfInBounds_toArray, List.set_cons_zero, List.set_cons_succ]
        refine wpAnyH_take (i := 7) (oi := _) (v := ?_) rfl (by kernel_rfl) (by kernel_rfl) (by kernel_rfl) (fun _ _ _ h => h) (Or.inl ⟨by rfl, ?_⟩) (by assumption) ?_
        rotate_left
        · (intro w hSw; (try dsimp only at hSw); go_simp; try (with_reducible rfl))
        try simp only [List.getElem_toArray, List.getElem_cons_zero, List.getElem_cons_succ, Act.put, List.setIfInBounds_toArray, List.set_cons_zero, List.set_cons_succ]
        refine wpAnyH_take (i := 8) (oi := _) (v := ?_) rfl (by kernel_rfl) (by kernel_rfl) (by kernel_rfl) (fun _ _ _ h => h) (Or.inl ⟨by rfl, ?_⟩) (by assumption) ?_
        rotate_left
        · (intro w hSw; (try dsimp only at hSw); go_simp; try (with_reducible rfl))
        try simp only [List.getElem_toArray, List.getElem_cons_zero, List.getElem_cons_succ, Act.put, List.setIfInBounds_toArray, List.set_cons_zero, List.set_cons_succ]
        refine wpAnyH_ready (rs := [10]) (by kernel_rfl) (by simp) ?_
        refine AllReadyH.cons (o := _) rfl (fun K hK => ?_) ?_
        ·
          have z0 := h8.cell (k := 0) rfl
          have z1 := h8.cell (k := 1) rfl
          have z2 := h8.cell (k := 2) rfl
          have z3 := h8.cell (k := 3) rfl
          have f0 := h8.frozen 0
          have f1 := h8.frozen 1
          have f2 := h8.frozen 2
          have f3 := h8.frozen 3
          go_simp
          clear z0 z1 z2 z3 f0 f1 f2 f3
          refine outG hK ?_ (fun W => Arr W g6 28 [.slice A' x.blobs.length c', .slice B' x.ents.length d', .int .i64 (x.room : Int), .int .i64 (x.clock : Int)]) (fun W => Below w2.heap.size w2 W ∧ OwSt W 0 (Value.slice A' x.blobs.length c') (Value.slice B' x.ents.length d') x (fun b => b = g6)) ?_ ?_ (fun wn7 hHeld hF hG => ?_)
          · exact HSB.out _ ((((hB.setCell (p := ⟨g6, 0, none⟩) hl8 _).setCell (p := ⟨g6, 1, none⟩) hl8 _).setCell (p := ⟨g6, 2, none⟩) hl8 _).setCell (p := ⟨g6, 3, none⟩) hl8 _)
          · exact h8.all4 _ _ _ _
          · exact ⟨(((hB.setCell (p := ⟨g6, 0, none⟩) hl8 _).setCell (p := ⟨g6, 1, none⟩) hl8 _).setCell (p := ⟨g6, 2, none⟩) hl8 _).setCell (p := ⟨g6, 3, none⟩) hl8 _, (((ho.setX rfl hne1 hne2 _).setX rfl hne1 hne2 _).setX rfl hne1 hne2 _).setX rfl hne1 hne2 _⟩
          clear hB h8 ho
          clear hK K
          try simp only [List.getElem_toArray, List.getElem_cons_zero, List.getElem_cons_succ, Act.put, List.setIfInBounds_toArray, List.set_cons_zero, List.set_cons_succ]
          refine wpAnyH_take (i := 11) (oi := _) (v := ?_) rfl (by kernel_rfl) (by kernel_rfl) (by kernel_rfl) (fun _ _ _ h => h) (Or.inl ⟨by rfl, ?_⟩) (by assumption) ?_
          rotate_left
          · (intro w hSw; (try dsimp only at hSw); go_simp; try (with_reducible rfl))
          try simp only [List.getElem_toArray, List.getElem_cons_zero, List.getElem_cons_succ, Act.put, List.setIfInBounds_toArray, List.set_cons_zero, List.set_cons_succ]
          refine wpAnyH_done (by kernel_rfl) ?_ _
          dsimp only [Exit.then]
          clear hHeld
          obtain ⟨hBz, hoz⟩ := hG
          have hrz : RdSt wn7 A' c' B' d' x := by
            obtain ⟨A9, c9, B9, d9, e1, e2, h⟩ := hoz.rows
            cases e1; cases e2; exact h
          have hall := And.intro hBz (And.intro hrz hF)
          generalize wn7 = wz at hall ⊢
          generalize g6 = gz at hall ⊢
          generalize A' = Az at hall ⊢
          generalize c' = cz at hall ⊢
          generalize B' = Bz at hall ⊢
          generalize d' = dz at hall ⊢
          revert wz gz Az cz Bz dz
          exact REST.out
        exact AllReadyH.nil
      exact AllReadyH.nil
    exact AllReadyH.nil
  refine AllReadyH.cons (o := _) rfl (fun K hK => ?_) ?_
  ·
    try (have hA1 := fun b (e : (Value.slice A' x.blobs.length c').ownBlock = some b) => (ho.b.rwo.blk e).2)
    try (have hA2 := fun b (e : (Value.slice B' x.ents.length d').ownBlock = some b) => (ho.e.rwo.blk e).2)
    try (have ho := (ho.lower (base' := 0) (Nat.zero_le _)).wider (N' := fun b => b = wn0.heap.size) (fun b hb => .inr (by omega)))
    go_simp
    refine outG hK ?_ (Below wn0.heap.size wn0) (fun W => Arr W wn0.heap.size 28 [.slice none 0 0, .slice none 0 0, .int .i64 0, .int .i64 0] ∧ w2.heap.size ≤ wn0.heap.size) ?_ ?_ (fun wn8 hHeld hst hnew => ?_)
    · (exact HSB.out _ (hB.trans (Below.mono (show Below wn0.heap.size wn0 _ from by (first | exact (Below.refl _ _).alloc (Nat.le_refl _) _ | exact hb5 | exact Below.refl _ _)) hB.size)))
    · (first | exact (Below.refl _ _).alloc (Nat.le_refl _) _ | exact hb5 | exact Below.refl _ _)
    · (exact ⟨Arr.new _ _ _, hB.size⟩)
    have hB := hB.trans (hst.mono hB.size)
    obtain ⟨h8, hl8⟩ := hnew
    obtain ⟨g6, hg6⟩ : ∃ g, g = wn0.heap.size := ⟨_, rfl⟩
    rw [← hg6] at h8 hl8 ⊢
    try (rw [← hg6] at ho)
    try (have hne1 : (Value.slice A' x.blobs.length c').ownBlock ≠ some g6 := fun e => by have := hA1 _ e; omega)
    try (have hne2 : (Value.slice B' x.ents.length d').ownBlock ≠ some g6 := fun e => by have := hA2 _ e; omega)
    try clear hA1
    try clear hA2
    clear hg6
    clear hst
    clear hK K
    try simp only [List.getElem_toArray, List.getElem_cons_zero, List.getElem_cons_succ, Act.put, List.setIfInBounds_toArray, List.set_cons_zero, List.set_cons_succ]
    refine wpAnyH_ready (rs := [3]) (by kernel_rfl) (by simp) ?_
    refine AllReadyH.cons (o := _) rfl (fun K hK => ?_) ?_
    ·
      go_simp
      refine (HKY.out wn8).mono ?_
      rintro e5 w5 ⟨rfl, hb5⟩
      dsimp only
      refine outG hK ?_ (Below wn8.heap.size wn8) (fun W => True) ?_ ?_ (fun wn9 hHeld hst hnew => ?_)
      · (exact HSB.out _ (hB.trans (Below.mono (show Below wn8.heap.size wn8 _ from by (first | exact (Below.refl _ _).alloc (Nat.le_refl _) _ | exact hb5 | exact Below.refl _ _)) hB.size)))
      · (first | exact (Below.refl _ _).alloc (Nat.le_refl _) _ | exact hb5 | exact Below.refl _ _)
      · (trivial)
      have hB := hB.trans (hst.mono hB.size)
      have h8 := h8.below hst
      clear hst
      clear hK K
      try simp only [List.getElem_toArray, List.getElem_cons_zero, List.getElem_cons_succ, Act.put, List.setIfInBounds_toArray, List.set_cons_zero, List.set_cons_succ]
      refine wpAnyH_ready (rs := [5]) (by kernel_rfl) (by simp) ?_
      refine AllReadyH.cons (o := _) rfl (fun K hK => ?_) ?_
      ·
        try have hA8 := h8.lt
        go_simp
        refine (HPB.out wn9 hB).mono ?_
        rintro e5 w5 ⟨A', c', B', d', rfl, ho5, hb5⟩
        dsimp only
        refine outG hK ?_ (Below wn9.heap.size wn9) (fun W => OwSt W wn9.heap.size (Value.slice A' x.blobs.length c') (Value.slice B' x.ents.length d') x (fun b => b < wn9.heap.size)) ?_ ?_ (fun wn10 hHeld hst hnew => ?_)
        · (exact HSB.out _ (hB.trans (Below.mono (show Below wn9.heap.size wn9 _ from by (first | exact (Below.refl _ _).alloc (Nat.le_refl _) _ | exact hb5 | exact Below.refl _ _)) hB.size)))
        · (first | exact (Below.refl _ _).alloc (Nat.le_refl _) _ | exact hb5 | exact Below.refl _ _)
        · (exact ho5)
        have hB := hB.trans (hst.mono hB.size)
        have h8 := h8.below hst
        have ho := hnew
        try (have hne1 : (Value.slice A' x.blobs.length c').ownBlock ≠ some g6 := fun e => by have := (ho.b.rwo.blk e).1; omega)
        try (have hne2 : (Value.slice B' x.ents.length d').ownBlock ≠ some g6 := fun e => by have := (ho.e.rwo.blk e).1; omega)
        try (have ho := ho.wider (N' := fun b => b = g6) (fun b hb => .inl (by omega)))
        try (have ho := ho.lower (base' := 0) (Nat.zero_le _))
        clear hst
        clear hK K
        try simp only [List.getElem_toArray, List.getElem_cons_zero, List.getElem_cons_succ, Act.put, List.setIfInBounds_toArray, List.set_cons_zero, List.set_cons_succ]
        refine wpAnyH_take (i := 6) (oi := _) (v := ?_) rfl (by kernel_rfl) (by kernel_rfl) (by kernel_rfl) (fun _ _ _ h => h) (Or.inl ⟨by rfl, ?_⟩) (by assumption) ?_
        rotate_left
        · (intro w hSw; (try dsimp only at hSw); go_simp; try (with_reducible rfl))
        try simp only [List.getElem_toArray, List.getElem_cons_zero, List.getElem_cons_succ, Act.put, List.setIfInBounds_toArray, List.set_cons_zero, List.set_cons_succ]
        refine wpAnyH_take (i := 7) (oi := _) (v := ?_) rfl (by kernel_rfl) (by kernel_rfl) (by kernel_rfl) (fun _ _ _ h => h) (Or.inl ⟨by rfl, ?_⟩) (by assumption) ?_
        rotate_left
        · (intro w hSw; (try dsimp only at hSw); go_simp; try (with_reducible rfl))
        try simp only [List.getElem_toArray, List.getElem_cons_zero, List.getElem_cons_succ, Act.put, List.setIfInBounds_toArray, List.set_cons_zero, List.set_cons_succ]
        refine wpAnyH_take (i := 8) (oi := _) (v := ?_) rfl (by kernel_rfl) (by kernel_rfl) (by kernel_rfl) (fun _ _ _ h => h) (Or.inl ⟨by rfl, ?_⟩) (by assumption) ?_
        rotate_left
        · (intro w hSw; (try dsimp only at hSw); go_simp; try (with_reducible rfl))
        try simp only [List.getElem_toArray, List.getElem_cons_zero, List.getElem_cons_succ, Act.put, List.setIfInBounds_toArray, List.set_cons_zero, List.set_cons_succ]
        refine wpAnyH_ready (rs := [10]) (by kernel_rfl) (by simp) ?_
        refine AllReadyH.cons (o := _) rfl (fun K hK => ?_) ?_
        ·
          have z0 := h8.cell (k := 0) rfl
          have z1 := h8.cell (k := 1) rfl
          have z2 := h8.cell (k := 2) rfl
          have z3 := h8.cell (k := 3) rfl
          have f0 := h8.frozen 0
          have f1 := h8.frozen 1
          have f2 := h8.frozen 2
          have f3 := h8.frozen 3
          go_simp
          clear z0 z1 z2 z3 f0 f1 f2 f3
          refine outG hK ?_ (fun W => Arr W g6 28 [.slice A' x.blobs.length c', .slice B' x.ents.length d', .int .i64 (x.room : Int), .int .i64 (x.clock : Int)]) (fun W => Below w2.heap.size w2 W ∧ OwSt W 0 (Value.slice A' x.blobs.length c') (Value.slice B' x.ents.length d') x (fun b => b = g6)) ?_ ?_ (fun wn11 hHeld hF hG => ?_)
          · exact HSB.out _ ((((hB.setCell (p := ⟨g6, 0, none⟩) hl8 _).setCell (p := ⟨g6, 1, none⟩) hl8 _).setCell (p := ⟨g6, 2, none⟩) hl8 _).setCell (p := ⟨g6, 3, none⟩) hl8 _)
          · exact h8.all4 _ _ _ _
          · exact ⟨(((hB.setCell (p := ⟨g6, 0, none⟩) hl8 _).setCell (p := ⟨g6, 1, none⟩) hl8 _).setCell (p := ⟨g6, 2, none⟩) hl8 _).setCell (p := ⟨g6, 3, none⟩) hl8 _, (((ho.setX rfl hne1 hne2 _).setX rfl hne1 hne2 _).setX rfl hne1 hne2 _).setX rfl hne1 hne2 _⟩
          clear hB h8 ho
          clear hK K
          try simp only [List.getElem_toArray, List.getElem_cons_zero, List.getElem_cons_succ, Act.put, List.setIfInBounds_toArray, List.set_cons_zero, List.set_cons_succ]
          refine wpAnyH_take (i := 11) (oi := _) (v := ?_) rfl (by kernel_rfl) (by kernel_rfl) (by kernel_rfl) (fun _ _ _ h => h) (Or.inl ⟨by rfl, ?_⟩) (by assumption) ?_
          rotate_left
          · (intro w hSw; (try dsimp only at hSw); go_simp; try (with_reducible rfl))
          try simp only [List.getElem_toArray, List.getElem_cons_zero, List.getElem_cons_succ, Act.put, List.setIfInBounds_toArray, List.set_cons_zero, List.set_cons_succ]
          refine wpAnyH_done (by kernel_rfl) ?_ _
          dsimp only [Exit.then]
          clear hHeld
          obtain ⟨hBz, hoz⟩ := hG
          have hrz : RdSt wn11 A' c' B' d' x := by
            obtain ⟨A9, c9, B9, d9, e1, e2, h⟩ := hoz.rows
            cases e1; cases e2; exact h
          have hall := And.intro hBz (And.intro hrz hF)
          generalize wn11 = wz at hall ⊢
          generalize g6 = gz at hall ⊢
          generalize A' = Az at hall ⊢
          generalize c' = cz at hall ⊢
          generalize B' = Bz at hall ⊢
          generalize d' = dz at hall ⊢
          revert wz gz Az cz Bz dz
          exact REST.out
        exact AllReadyH.nil
      exact AllReadyH.nil
    exact AllReadyH.nil
  exact AllReadyH.nil
  --HELDEND1
  intro w3 gz Az cz Bz dz ⟨hBz, hrz, hXz⟩
  have hXz' : Arr w3 gz 28 [.slice Az x.blobs.length cz, .slice Bz x.ents.length dz, .int .i64 (x.room : Int), .int .i64 (x.clock : Int)] := hXz
  have hRb3 := HRQ.out.below hBz
  have hb04 := HB3.out.trans (hBz.mono (by omega))
  have hX3 := HX2.out.below hBz
  have hsp3 := HPP.out.below hBz
  obtain ⟨y, hy⟩ : ∃ y, y = getS x i x.ents[i] := ⟨_, rfl⟩
  have hgt := fun W (h : Below w3.heap.size w3 W) => GetSF_ok Az cz Bz dz x y K ps i W HXG.out (hrz.below h) hi HIK.out HIP.out (by have := HXC.out; omega) hy
  rw [← HSK.out] at hgt
  have HGT := Lib.hid hgt
  have HYC := Lib.hid (show y.clock = s.clock + 2 by rw [hy]; show x.clock + 1 = _; rw [HXC.out])
  have HYG := Lib.hid (show GoodS y by rw [hy]; exact getS_good HXG.out hi (by have := HXC.out; omega))
  have HYS := Lib.hid (show ∀ z ∈ y.ents, (z.stamp = y.clock ↔ z.key = K) by
    have h := get_stamps HXG.out hi
    rw [HIK.out] at h
    rw [hy]; exact h)
  have hgz3 : gz < w3.heap.size := hXz'.lt
  have hgr3 : gr < w3.heap.size := hRb3.lt
  have HSB3 := Lib.hid (show ∀ W, Below w3.heap.size w3 W → (W.cell? ⟨gz, 0, none⟩ = some (.slice Az x.blobs.length cz) ∧ W.cell? ⟨gz, 1, none⟩ = some (.slice Bz x.ents.length dz) ∧ W.cell? ⟨gz, 2, none⟩ = some (.int .i64 (x.room : Int)) ∧ W.cell? ⟨gz, 3, none⟩ = some (.int .i64 (x.clock : Int))) ∧ W.cell? ⟨gr, 1, none⟩ = some (.int .i64 ra) from fun W h =>
    ⟨⟨(hXz'.below h).cell (k := 0) rfl, (hXz'.below h).cell (k := 1) rfl, (hXz'.below h).cell (k := 2) rfl, (hXz'.below h).cell (k := 3) rfl⟩, (hRb3.below h).cell (k := 1) rfl⟩)
  have HX3 := Lib.hid hX3
  have HP3 := Lib.hid hsp3
  have HR3 := Lib.hid hRb3
  have HB4 := Lib.hid hb04
  clear HSB
  have HSB := HSB3
  clear HSB3 hgt hXz hXz' hRb3 hb04 hX3 hsp3 hrz hBz hy HPB HRQ HX2 HPP HB3
  repeat' ((fail_if_success at_builtin); (fail_if_success at_make); (first | go_values | go_skip | go_guarded | go_step | go_upon | go_back))
  apply share
  intro REST2
  --HELD2
  refine wp_region_held_drew (S := (fun w' => (w'.cell? ⟨gz, 0, none⟩ = some (.slice Az x.blobs.length cz) ∧ w'.cell? ⟨gz, 1, none⟩ = some (.slice Bz x.ents.length dz) ∧ w'.cell? ⟨gz, 2, none⟩ = some (.int .i64 (x.room : Int)) ∧ w'.cell? ⟨gz, 3, none⟩ = some (.int .i64 (x.clock : Int))) ∧ w'.cell? ⟨gr, 1, none⟩ = some (.int .i64 ra))) (by kernel_rfl) ?_ (fun hHeld => ?_)
  · exact HSB.out _ (Below.refl _ w3).drew
  have hB := (Below.refl w3.heap.size w3).drew
  generalize w3.drew = wn0 at *
  refine wpAnyH_take (i := 0) (oi := _) (v := ?_) rfl (by kernel_rfl) (by kernel_rfl) (by kernel_rfl) (fun _ _ _ h => h) (Or.inl ⟨by rfl, ?_⟩) (by assumption) ?_
  rotate_left
  · (intro w hSw; (try dsimp only at hSw); go_simp; try (with_reducible rfl))
  try simp only [List.getElem_toArray, List.getElem_cons_zero, List.getElem_cons_succ, Act.put, List.setIfInBounds_toArray, List.set_cons_zero, List.set_cons_succ]
  refine wpAnyH_take (i := 1) (oi := _) (v := ?_) rfl (by kernel_rfl) (by kernel_rfl) (by kernel_rfl) (fun _ _ _ h => h) (Or.inl ⟨by rfl, ?_⟩) (by assumption) ?_
  rotate_left
  · (intro w hSw; (try dsimp only at hSw); go_simp; try (with_reducible rfl))
  try simp only [List.getElem_toArray, List.getElem_cons_zero, List.getElem_cons_succ, Act.put, List.setIfInBounds_toArray, List.set_cons_zero, List.set_cons_succ]
  refine wpAnyH_take (i := 2) (oi := _) (v := ?_) rfl (by kernel_rfl) (by kernel_rfl) (by kernel_rfl) (fun _ _ _ h => h) (Or.inl ⟨by rfl, ?_⟩) (by assumption) ?_
  rotate_left
  · (intro w hSw; (try dsimp only at hSw); go_simp; try (with_reducible rfl))
  try simp only [List.getElem_toArray, List.getElem_cons_zero, List.getElem_cons_succ, Act.put, List.setIfInBounds_toArray, List.set_cons_zero, List.set_cons_succ]
  refine wpAnyH_ready (rs := [3, 9]) (by kernel_rfl) (by simp) ?_
  refine AllReadyH.cons (o := _) rfl (fun K hK => ?_) ?_
  ·
    go_simp
    refine (HKY.out wn0).mono ?_
    rintro e5 w5 ⟨rfl, hb5⟩
    dsimp only
    refine outG hK ?_ (Below wn0.heap.size wn0) (fun W => True) ?_ ?_ (fun wn1 hHeld hst hnew => ?_)
    · (exact HSB.out _ (hB.trans (Below.mono (show Below wn0.heap.size wn0 _ from by (first | exact (Below.refl _ _).alloc (Nat.le_refl _) _ | exact hb5 | exact Below.refl _ _)) hB.size)))
    · (first | exact (Below.refl _ _).alloc (Nat.le_refl _) _ | exact hb5 | exact Below.refl _ _)
    · (trivial)
    have hB := hB.trans (hst.mono hB.size)
    clear hst
    clear hK K
    try simp only [List.getElem_toArray, List.getElem_cons_zero, List.getElem_cons_succ, Act.put, List.setIfInBounds_toArray, List.set_cons_zero, List.set_cons_succ]
    refine wpAnyH_ready (rs := [4, 9]) (by kernel_rfl) (by simp) ?_
    refine AllReadyH.cons (o := _) rfl (fun K hK => ?_) ?_
    ·
      try have hA8 := h8.lt
      go_simp
      refine (HGT.out wn1 hB).mono ?_
      rintro e5 w5 ⟨A', c', B', d', A5, c5, rfl, ho5, hp5, hb5⟩
      dsimp only
      refine outG hK ?_ (Below wn1.heap.size wn1) (fun W => OwSt W wn1.heap.size (Value.slice A' y.blobs.length c') (Value.slice B' y.ents.length d') y (fun b => b < wn1.heap.size) ∧ W.ownsRow 0 57 3 (.slice A5 ps.length c5) ps.length (pcs ps)) ?_ ?_ (fun wn2 hHeld hst hnew => ?_)
      · (exact HSB.out _ (hB.trans (Below.mono (show Below wn1.heap.size wn1 _ from by (first | exact (Below.refl _ _).alloc (Nat.le_refl _) _ | exact hb5 | exact Below.refl _ _)) hB.size)))
      · (first | exact (Below.refl _ _).alloc (Nat.le_refl _) _ | exact hb5 | exact Below.refl _ _)
      · (exact ⟨ho5, own_lower hp5 (Nat.zero_le _)⟩)
      have hB := hB.trans (hst.mono hB.size)
      obtain ⟨hnew, hp⟩ := hnew
      have ho := hnew
      try (have hne1 : (Value.slice A' y.blobs.length c').ownBlock ≠ some g6 := fun e => by have := (ho.b.rwo.blk e).1; omega)
      try (have hne2 : (Value.slice B' y.ents.length d').ownBlock ≠ some g6 := fun e => by have := (ho.e.rwo.blk e).1; omega)
      try (have ho := ho.wider (N' := fun b => b = g6) (fun b hb => .inl (by omega)))
      try (have ho := ho.lower (base' := 0) (Nat.zero_le _))
      clear hst
      clear hK K
      try simp only [List.getElem_toArray, List.getElem_cons_zero, List.getElem_cons_succ, Act.put, List.setIfInBounds_toArray, List.set_cons_zero, List.set_cons_succ]
      refine wpAnyH_take (i := 5) (oi := _) (v := ?_) rfl (by kernel_rfl) (by kernel_rfl) (by kernel_rfl) (fun _ _ _ h => h) (Or.inl ⟨by rfl, ?_⟩) (by assumption) ?_
      rotate_left
      · (intro w hSw; (try dsimp only at hSw); go_simp; try (with_reducible rfl))
      try simp only [List.getElem_toArray, List.getElem_cons_zero, List.getElem_cons_succ, Act.put, List.setIfInBounds_toArray, List.set_cons_zero, List.set_cons_succ]
      refine wpAnyH_take (i := 6) (oi := _) (v := ?_) rfl (by kernel_rfl) (by kernel_rfl) (by kernel_rfl) (fun _ _ _ h => h) (Or.inl ⟨by rfl, ?_⟩) (by assumption) ?_
      rotate_left
      · (intro w hSw; (try dsimp only at hSw); go_simp; try (with_reducible rfl))
      try simp only [List.getElem_toArray, List.getElem_cons_zero, List.getElem_cons_succ, Act.put, List.setIfInBounds_toArray, List.set_cons_zero, List.set_cons_succ]
      refine wpAnyH_take (i := 7) (oi := _) (v := ?_) rfl (by kernel_rfl) (by kernel_rfl) (by kernel_rfl) (fun _ _ _ h => h) (Or.inl ⟨by rfl, ?_⟩) (by assumption) ?_
      rotate_left
      · (intro w hSw; (try dsimp only at hSw); go_simp; try (with_reducible rfl))
      try simp only [List.getElem_toArray, List.getElem_cons_zero, List.getElem_cons_succ, Act.put, List.setIfInBounds_toArray, List.set_cons_zero, List.set_cons_succ]
      refine wpAnyH_take (i := 8) (oi := _) (v := ?_) rfl (by kernel_rfl) (by kernel_rfl) (by kernel_rfl) (fun _ _ _ h => h) (Or.inl ⟨by rfl, ?_⟩) (by assumption) ?_
      rotate_left
      · (intro w hSw; (try dsimp only at hSw); go_simp; try (with_reducible rfl))
      try simp only [List.getElem_toArray, List.getElem_cons_zero, List.getElem_cons_succ, Act.put, List.setIfInBounds_toArray, List.set_cons_zero, List.set_cons_succ]
      refine wpAnyH_ready (rs := [9]) (by kernel_rfl) (by simp) ?_
      refine AllReadyH.cons (o := _) rfl (fun K hK => ?_) ?_
      ·
        try (have hA1 := fun b (e : (Value.slice A' y.blobs.length c').ownBlock = some b) => (ho.b.rwo.blk e).2)
        try (have hA2 := fun b (e : (Value.slice B' y.ents.length d').ownBlock = some b) => (ho.e.rwo.blk e).2)
        try (have ho := (ho.lower (base' := 0) (Nat.zero_le _)).wider (N' := fun b => b = wn2.heap.size) (fun b hb => .inr (by omega)))
        go_simp
        refine outG hK ?_ (Below wn2.heap.size wn2) (fun W => Arr W wn2.heap.size 28 [.slice none 0 0, .slice none 0 0, .int .i64 0, .int .i64 0] ∧ w3.heap.size ≤ wn2.heap.size) ?_ ?_ (fun wn3 hHeld hst hnew => ?_)
        · (exact HSB.out _ (hB.trans (Below.mono (show Below wn2.heap.size wn2 _ from by (first | exact (Below.refl _ _).alloc (Nat.le_refl _) _ | exact hb5 | exact Below.refl _ _)) hB.size)))
        · (first | exact (Below.refl _ _).alloc (Nat.le_refl _) _ | exact hb5 | exact Below.refl _ _)
        · (exact ⟨Arr.new _ _ _, hB.size⟩)
        have hB := hB.trans (hst.mono hB.size)
        have ho := ho.below hst
        have hp := own_below hp hst
        obtain ⟨h8, hl8⟩ := hnew
        obtain ⟨g6, hg6⟩ : ∃ g, g = wn2.heap.size := ⟨_, rfl⟩
        rw [← hg6] at h8 hl8 ⊢
        try (rw [← hg6] at ho)
        try (have hne1 : (Value.slice A' y.blobs.length c').ownBlock ≠ some g6 := fun e => by have := hA1 _ e; omega)
        try (have hne2 : (Value.slice B' y.ents.length d').ownBlock ≠ some g6 := fun e => by have := hA2 _ e; omega)
        try clear hA1
        try clear hA2
        clear hg6
        clear hst
        clear hK K
        try simp only [List.getElem_toArray, List.getElem_cons_zero, List.getElem_cons_succ, Act.put, List.setIfInBounds_toArray, List.set_cons_zero, List.set_cons_succ]
        refine wpAnyH_ready (rs := [10]) (by kernel_rfl) (by simp) ?_
        refine AllReadyH.cons (o := _) rfl (fun K hK => ?_) ?_
        ·
          have z0 := h8.cell (k := 0) rfl
          have z1 := h8.cell (k := 1) rfl
          have z2 := h8.cell (k := 2) rfl
          have z3 := h8.cell (k := 3) rfl
          have f0 := h8.frozen 0
          have f1 := h8.frozen 1
          have f2 := h8.frozen 2
          have f3 := h8.frozen 3
          go_simp
          clear z0 z1 z2 z3 f0 f1 f2 f3
          have hpn := own_ne hp h8 (by decide)
          refine outG hK ?_ (fun W => Arr W g6 28 [.slice A' y.blobs.length c', .slice B' y.ents.length d', .int .i64 (y.room : Int), .int .i64 (y.clock : Int)]) (fun W => Below w3.heap.size w3 W ∧ OwSt W 0 (Value.slice A' y.blobs.length c') (Value.slice B' y.ents.length d') y (fun b => b = g6) ∧ W.ownsRow 0 57 3 (.slice A5 ps.length c5) ps.length (pcs ps)) ?_ ?_ (fun wn4 hHeld hF hG => ?_)
          · exact HSB.out _ ((((hB.setCell (p := ⟨g6, 0, none⟩) hl8 _).setCell (p := ⟨g6, 1, none⟩) hl8 _).setCell (p := ⟨g6, 2, none⟩) hl8 _).setCell (p := ⟨g6, 3, none⟩) hl8 _)
          · exact h8.all4 _ _ _ _
          · exact ⟨(((hB.setCell (p := ⟨g6, 0, none⟩) hl8 _).setCell (p := ⟨g6, 1, none⟩) hl8 _).setCell (p := ⟨g6, 2, none⟩) hl8 _).setCell (p := ⟨g6, 3, none⟩) hl8 _, (((ho.setX rfl hne1 hne2 _).setX rfl hne1 hne2 _).setX rfl hne1 hne2 _).setX rfl hne1 hne2 _, own_other (own_other (own_other (own_other hp hpn) hpn) hpn) hpn⟩
          clear hB h8 ho
          clear hK K
          try simp only [List.getElem_toArray, List.getElem_cons_zero, List.getElem_cons_succ, Act.put, List.setIfInBounds_toArray, List.set_cons_zero, List.set_cons_succ]
          refine wpAnyH_take (i := 11) (oi := _) (v := ?_) rfl (by kernel_rfl) (by kernel_rfl) (by kernel_rfl) (fun _ _ _ h => h) (Or.inl ⟨by rfl, ?_⟩) (by assumption) ?_
          rotate_left
          · (intro w hSw; (try dsimp only at hSw); go_simp; try (with_reducible rfl))
          try simp only [List.getElem_toArray, List.getElem_cons_zero, List.getElem_cons_succ, Act.put, List.setIfInBounds_toArray, List.set_cons_zero, List.set_cons_succ]
          refine wpAnyH_take (i := 12) (oi := _) (v := ?_) rfl (by kernel_rfl) (by kernel_rfl) (by kernel_rfl) (fun _ _ _ h => h) (Or.inl ⟨by rfl, ?_⟩) (by assumption) ?_
          rotate_left
          · (intro w hSw; (try dsimp only at hSw); go_simp; try (with_reducible rfl))
          try simp only [List.getElem_toArray, List.getElem_cons_zero, List.getElem_cons_succ, Act.put, List.setIfInBounds_toArray, List.set_cons_zero, List.set_cons_succ]
          refine wpAnyH_done (by kernel_rfl) ?_ _
          dsimp only [Exit.then]
          clear hHeld
          obtain ⟨hBz, hoz, hpz⟩ := hG
          have hrz : RdSt wn4 A' c' B' d' y := by
            obtain ⟨A9, c9, B9, d9, e1, e2, h⟩ := hoz.rows
            cases e1; cases e2; exact h
          have hall := And.intro hBz (And.intro hrz (And.intro hpz hF))
          generalize wn4 = wz at hall ⊢
          generalize g6 = gy at hall ⊢
          generalize A' = Ay at hall ⊢
          generalize c' = cy at hall ⊢
          generalize B' = By at hall ⊢
          generalize d' = dy at hall ⊢
          generalize A5 = A6 at hall ⊢
          generalize c5 = c6 at hall ⊢
          revert wz gy Ay cy By dy A6 c6
          exact REST2.out
        exact AllReadyH.nil
      exact AllReadyH.nil
    refine AllReadyH.cons (o := _) rfl (fun K hK => ?_) ?_
    ·
      try (have hA1 := fun b (e : (Value.slice A' y.blobs.length c').ownBlock = some b) => (ho.b.rwo.blk e).2)
      try (have hA2 := fun b (e : (Value.slice B' y.ents.length d').ownBlock = some b) => (ho.e.rwo.blk e).2)
      try (have ho := (ho.lower (base' := 0) (Nat.zero_le _)).wider (N' := fun b => b = wn1.heap.size) (fun b hb => .inr (by omega)))
      go_simp
      refine outG hK ?_ (Below wn1.heap.size wn1) (fun W => Arr W wn1.heap.size 28 [.slice none 0 0, .slice none 0 0, .int .i64 0, .int .i64 0] ∧ w3.heap.size ≤ wn1.heap.size) ?_ ?_ (fun wn5 hHeld hst hnew => ?_)
      · (exact HSB.out _ (hB.trans (Below.mono (show Below wn1.heap.size wn1 _ from by (first | exact (Below.refl _ _).alloc (Nat.le_refl _) _ | exact hb5 | exact Below.refl _ _)) hB.size)))
      · (first | exact (Below.refl _ _).alloc (Nat.le_refl _) _ | exact hb5 | exact Below.refl _ _)
      · (exact ⟨Arr.new _ _ _, hB.size⟩)
      have hB := hB.trans (hst.mono hB.size)
      obtain ⟨h8, hl8⟩ := hnew
      obtain ⟨g6, hg6⟩ : ∃ g, g = wn1.heap.size := ⟨_, rfl⟩
      rw [← hg6] at h8 hl8 ⊢
      try (rw [← hg6] at ho)
      try (have hne1 : (Value.slice A' y.blobs.length c').ownBlock ≠ some g6 := fun e => by have := hA1 _ e; omega)
      try (have hne2 : (Value.slice B' y.ents.length d').ownBlock ≠ some g6 := fun e => by have := hA2 _ e; omega)
      try clear hA1
      try clear hA2
      clear hg6
      clear hst
      clear hK K
      try simp only [List.getElem_toArray, List.getElem_cons_zero, List.getElem_cons_succ, Act.put, List.setIfInBounds_toArray, List.set_cons_zero, List.set_cons_succ]
      refine wpAnyH_ready (rs := [4]) (by kernel_rfl) (by simp) ?_
      refine AllReadyH.cons (o := _) rfl (fun K hK => ?_) ?_
      ·
        try have hA8 := h8.lt
        go_simp
        refine (HGT.out wn5 hB).mono ?_
        rintro e5 w5 ⟨A', c', B', d', A5, c5, rfl, ho5, hp5, hb5⟩
        dsimp only
        refine outG hK ?_ (Below wn5.heap.size wn5) (fun W => OwSt W wn5.heap.size (Value.slice A' y.blobs.length c') (Value.slice B' y.ents.length d') y (fun b => b < wn5.heap.size) ∧ W.ownsRow 0 57 3 (.slice A5 ps.length c5) ps.length (pcs ps)) ?_ ?_ (fun wn6 hHeld hst hnew => ?_)
        · (exact HSB.out _ (hB.trans (Below.mono (show Below wn5.heap.size wn5 _ from by (first | exact (Below.refl _ _).alloc (Nat.le_refl _) _ | exact hb5 | exact Below.refl _ _)) hB.size)))
        · (first | exact (Below.refl _ _).alloc (Nat.le_refl _) _ | exact hb5 | exact Below.refl _ _)
        · (exact ⟨ho5, own_lower hp5 (Nat.zero_le _)⟩)
        have hB := hB.trans (hst.mono hB.size)
        have h8 := h8.below hst
        obtain ⟨hnew, hp⟩ := hnew
        have ho := hnew
        try (have hne1 : (Value.slice A' y.blobs.length c').ownBlock ≠ some g6 := fun e => by have := (ho.b.rwo.blk e).1; omega)
        try (have hne2 : (Value.slice B' y.ents.length d').ownBlock ≠ some g6 := fun e => by have := (ho.e.rwo.blk e).1; omega)
        try (have ho := ho.wider (N' := fun b => b = g6) (fun b hb => .inl (by omega)))
        try (have ho := ho.lower (base' := 0) (Nat.zero_le _))
        clear hst
        clear hK K
        try simp only [List.getElem_toArray, List.getElem_cons_zero, List.getElem_cons_succ, Act.put, List.setIfInBounds_toArray, List.set_cons_zero, List.set_cons_succ]
        refine wpAnyH_take (i := 5) (oi := _) (v := ?_) rfl (by kernel_rfl) (by kernel_rfl) (by kernel_rfl) (fun _ _ _ h => h) (Or.inl ⟨by rfl, ?_⟩) (by assumption) ?_
        rotate_left
        · (intro w hSw; (try dsimp only at hSw); go_simp; try (with_reducible rfl))
        try simp only [List.getElem_toArray, List.getElem_cons_zero, List.getElem_cons_succ, Act.put, List.setIfInBounds_toArray, List.set_cons_zero, List.set_cons_succ]
        refine wpAnyH_take (i := 6) (oi := _) (v := ?_) rfl (by kernel_rfl) (by kernel_rfl) (by kernel_rfl) (fun _ _ _ h => h) (Or.inl ⟨by rfl, ?_⟩) (by assumption) ?_
        rotate_left
        · (intro w hSw; (try dsimp only at hSw); go_simp; try (with_reducible rfl))
        try simp only [List.getElem_toArray, List.getElem_cons_zero, List.getElem_cons_succ, Act.put, List.setIfInBounds_toArray, List.set_cons_zero, List.set_cons_succ]
        refine wpAnyH_take (i := 7) (oi := _) (v := ?_) rfl (by kernel_rfl) (by kernel_rfl) (by kernel_rfl) (fun _ _ _ h => h) (Or.inl ⟨by rfl, ?_⟩) (by assumption) ?_
        rotate_left
        · (intro w hSw; (try dsimp only at hSw); go_simp; try (with_reducible rfl))
        try simp only [List.getElem_toArray, List.getElem_cons_zero, List.getElem_cons_succ, Act.put, List.setIfInBounds_toArray, List.set_cons_zero, List.set_cons_succ]
        refine wpAnyH_take (i := 8) (oi := _) (v := ?_) rfl (by kernel_rfl) (by kernel_rfl) (by kernel_rfl) (fun _ _ _ h => h) (Or.inl ⟨by rfl, ?_⟩) (by assumption) ?_
        rotate_left
        · (intro w hSw; (try dsimp only at hSw); go_simp; try (with_reducible rfl))
        try simp only [List.getElem_toArray, List.getElem_cons_zero, List.getElem_cons_succ, Act.put, List.setIfInBounds_toArray, List.set_cons_zero, List.set_cons_succ]
        refine wpAnyH_ready (rs := [10]) (by kernel_rfl) (by simp) ?_
        refine AllReadyH.cons (o := _) rfl (fun K hK => ?_) ?_
        ·
          have z0 := h8.cell (k := 0) rfl
          have z1 := h8.cell (k := 1) rfl
          have z2 := h8.cell (k := 2) rfl
          have z3 := h8.cell (k := 3) rfl
          have f0 := h8.frozen 0
          have f1 := h8.frozen 1
          have f2 := h8.frozen 2
          have f3 := h8.frozen 3
          go_simp
          clear z0 z1 z2 z3 f0 f1 f2 f3
          have hpn := own_ne hp h8 (by decide)
          refine outG hK ?_ (fun W => Arr W g6 28 [.slice A' y.blobs.length c', .slice B' y.ents.length d', .int .i64 (y.room : Int), .int .i64 (y.clock : Int)]) (fun W => Below w3.heap.size w3 W ∧ OwSt W 0 (Value.slice A' y.blobs.length c') (Value.slice B' y.ents.length d') y (fun b => b = g6) ∧ W.ownsRow 0 57 3 (.slice A5 ps.length c5) ps.length (pcs ps)) ?_ ?_ (fun wn7 hHeld hF hG => ?_)
          · exact HSB.out _ ((((hB.setCell (p := ⟨g6, 0, none⟩) hl8 _).setCell (p := ⟨g6, 1, none⟩) hl8 _).setCell (p := ⟨g6, 2, none⟩) hl8 _).setCell (p := ⟨g6, 3, none⟩) hl8 _)
          · exact h8.all4 _ _ _ _
          · exact ⟨(((hB.setCell (p := ⟨g6, 0, none⟩) hl8 _).setCell (p := ⟨g6, 1, none⟩) hl8 _).setCell (p := ⟨g6, 2, none⟩) hl8 _).setCell (p := ⟨g6, 3, none⟩) hl8 _, (((ho.setX rfl hne1 hne2 _).setX rfl hne1 hne2 _).setX rfl hne1 hne2 _).setX rfl hne1 hne2 _, own_other (own_other (own_other (own_other hp hpn) hpn) hpn) hpn⟩
          clear hB h8 ho
          clear hK K
          try simp only [List.getElem_toArray, List.getElem_cons_zero, List.getElem_cons_succ, Act.put, List.setIfInBounds_toArray, List.set_cons_zero, List.set_cons_succ]
          refine wpAnyH_take (i := 11) (oi := _) (v := ?_) rfl (by kernel_rfl) (by kernel_rfl) (by kernel_rfl) (fun _ _ _ h => h) (Or.inl ⟨by rfl, ?_⟩) (by assumption) ?_
          rotate_left
          · (intro w hSw; (try dsimp only at hSw); go_simp; try (with_reducible rfl))
          try simp only [List.getElem_toArray, List.getElem_cons_zero, List.getElem_cons_succ, Act.put, List.setIfInBounds_toArray, List.set_cons_zero, List.set_cons_succ]
          refine wpAnyH_take (i := 12) (oi := _) (v := ?_) rfl (by kernel_rfl) (by kernel_rfl) (by kernel_rfl) (fun _ _ _ h => h) (Or.inl ⟨by rfl, ?_⟩) (by assumption) ?_
          rotate_left
          · (intro w hSw; (try dsimp only at hSw); go_simp; try (with_reducible rfl))
          try simp only [List.getElem_toArray, List.getElem_cons_zero, List.getElem_cons_succ, Act.put, List.setIfInBounds_toArray, List.set_cons_zero, List.set_cons_succ]
          refine wpAnyH_done (by kernel_rfl) ?_ _
          dsimp only [Exit.then]
          clear hHeld
          obtain ⟨hBz, hoz, hpz⟩ := hG
          have hrz : RdSt wn7 A' c' B' d' y := by
            obtain ⟨A9, c9, B9, d9, e1, e2, h⟩ := hoz.rows
            cases e1; cases e2; exact h
          have hall := And.intro hBz (And.intro hrz (And.intro hpz hF))
          generalize wn7 = wz at hall ⊢
          generalize g6 = gy at hall ⊢
          generalize A' = Ay at hall ⊢
          generalize c' = cy at hall ⊢
          generalize B' = By at hall ⊢
          generalize d' = dy at hall ⊢
          generalize A5 = A6 at hall ⊢
          generalize c5 = c6 at hall ⊢
          revert wz gy Ay cy By dy A6 c6
          exact REST2.out
        exact AllReadyH.nil
      exact AllReadyH.nil
    exact AllReadyH.nil
  refine AllReadyH.cons (o := _) rfl (fun K hK => ?_) ?_
  ·
    try (have hA1 := fun b (e : (Value.slice A' y.blobs.length c').ownBlock = some b) => (ho.b.rwo.blk e).2)
    try (have hA2 := fun b (e : (Value.slice B' y.ents.length d').ownBlock = some b) => (ho.e.rwo.blk e).2)
    try (have ho := (ho.lower (base' := 0) (Nat.zero_le _)).wider (N' := fun b => b = wn0.heap.size) (fun b hb => .inr (by omega)))
    go_simp
    refine outG hK ?_ (Below wn0.heap.size wn0) (fun W => Arr W wn0.heap.size 28 [.slice none 0 0, .slice none 0 0, .int .i64 0, .int .i64 0] ∧ w3.heap.size ≤ wn0.heap.size) ?_ ?_ (fun wn8 hHeld hst hnew => ?_)
    · (exact HSB.out _ (hB.trans (Below.mono (show Below wn0.heap.size wn0 _ from by (first | exact (Below.refl _ _).alloc (Nat.le_refl _) _ | exact hb5 | exact Below.refl _ _)) hB.size)))
    · (first | exact (Below.refl _ _).alloc (Nat.le_refl _) _ | exact hb5 | exact Below.refl _ _)
    · (exact ⟨Arr.new _ _ _, hB.size⟩)
    have hB := hB.trans (hst.mono hB.size)
    obtain ⟨h8, hl8⟩ := hnew
    obtain ⟨g6, hg6⟩ : ∃ g, g = wn0.heap.size := ⟨_, rfl⟩
    rw [← hg6] at h8 hl8 ⊢
    try (rw [← hg6] at ho)
    try (have hne1 : (Value.slice A' y.blobs.length c').ownBlock ≠ some g6 := fun e => by have := hA1 _ e; omega)
    try (have hne2 : (Value.slice B' y.ents.length d').ownBlock ≠ some g6 := fun e => by have := hA2 _ e; omega)
    try clear hA1
    try clear hA2
    clear hg6
    clear hst
    clear hK K
    try simp only [List.getElem_toArray, List.getElem_cons_zero, List.getElem_cons_succ, Act.put, List.setIfInBounds_toArray, List.set_cons_zero, List.set_cons_succ]
    refine wpAnyH_ready (rs := [3]) (by kernel_rfl) (by simp) ?_
    refine AllReadyH.cons (o := _) rfl (fun K hK => ?_) ?_
    ·
      go_simp
      refine (HKY.out wn8).mono ?_
      rintro e5 w5 ⟨rfl, hb5⟩
      dsimp only
      refine outG hK ?_ (Below wn8.heap.size wn8) (fun W => True) ?_ ?_ (fun wn9 hHeld hst hnew => ?_)
      · (exact HSB.out _ (hB.trans (Below.mono (show Below wn8.heap.size wn8 _ from by (first | exact (Below.refl _ _).alloc (Nat.le_refl _) _ | exact hb5 | exact Below.refl _ _)) hB.size)))
      · (first | exact (Below.refl _ _).alloc (Nat.le_refl _) _ | exact hb5 | exact Below.refl _ _)
      · (trivial)
      have hB := hB.trans (hst.mono hB.size)
      have h8 := h8.below hst
      clear hst
      clear hK K
      try simp only [List.getElem_toArray, List.getElem_cons_zero, List.getElem_cons_succ, Act.put, List.setIfInBounds_toArray, List.set_cons_zero, List.set_cons_succ]
      refine wpAnyH_ready (rs := [4]) (by kernel_rfl) (by simp) ?_
      refine AllReadyH.cons (o := _) rfl (fun K hK => ?_) ?_
      ·
        try have hA8 := h8.lt
        go_simp
        refine (HGT.out wn9 hB).mono ?_
        rintro e5 w5 ⟨A', c', B', d', A5, c5, rfl, ho5, hp5, hb5⟩
        dsimp only
        refine outG hK ?_ (Below wn9.heap.size wn9) (fun W => OwSt W wn9.heap.size (Value.slice A' y.blobs.length c') (Value.slice B' y.ents.length d') y (fun b => b < wn9.heap.size) ∧ W.ownsRow 0 57 3 (.slice A5 ps.length c5) ps.length (pcs ps)) ?_ ?_ (fun wn10 hHeld hst hnew => ?_)
        · (exact HSB.out _ (hB.trans (Below.mono (show Below wn9.heap.size wn9 _ from by (first | exact (Below.refl _ _).alloc (Nat.le_refl _) _ | exact hb5 | exact Below.refl _ _)) hB.size)))
        · (first | exact (Below.refl _ _).alloc (Nat.le_refl _) _ | exact hb5 | exact Below.refl _ _)
        · (exact ⟨ho5, own_lower hp5 (Nat.zero_le _)⟩)
        have hB := hB.trans (hst.mono hB.size)
        have h8 := h8.below hst
        obtain ⟨hnew, hp⟩ := hnew
        have ho := hnew
        try (have hne1 : (Value.slice A' y.blobs.length c').ownBlock ≠ some g6 := fun e => by have := (ho.b.rwo.blk e).1; omega)
        try (have hne2 : (Value.slice B' y.ents.length d').ownBlock ≠ some g6 := fun e => by have := (ho.e.rwo.blk e).1; omega)
        try (have ho := ho.wider (N' := fun b => b = g6) (fun b hb => .inl (by omega)))
        try (have ho := ho.lower (base' := 0) (Nat.zero_le _))
        clear hst
        clear hK K
        try simp only [List.getElem_toArray, List.getElem_cons_zero, List.getElem_cons_succ, Act.put, List.setIfInBounds_toArray, List.set_cons_zero, List.set_cons_succ]
        refine wpAnyH_take (i := 5) (oi := _) (v := ?_) rfl (by kernel_rfl) (by kernel_rfl) (by kernel_rfl) (fun _ _ _ h => h) (Or.inl ⟨by rfl, ?_⟩) (by assumption) ?_
        rotate_left
        · (intro w hSw; (try dsimp only at hSw); go_simp; try (with_reducible rfl))
        try simp only [List.getElem_toArray, List.getElem_cons_zero, List.getElem_cons_succ, Act.put, List.setIfInBounds_toArray, List.set_cons_zero, List.set_cons_succ]
        refine wpAnyH_take (i := 6) (oi := _) (v := ?_) rfl (by kernel_rfl) (by kernel_rfl) (by kernel_rfl) (fun _ _ _ h => h) (Or.inl ⟨by rfl, ?_⟩) (by assumption) ?_
        rotate_left
        · (intro w hSw; (try dsimp only at hSw); go_simp; try (with_reducible rfl))
        try simp only [List.getElem_toArray, List.getElem_cons_zero, List.getElem_cons_succ, Act.put, List.setIfInBounds_toArray, List.set_cons_zero, List.set_cons_succ]
        refine wpAnyH_take (i := 7) (oi := _) (v := ?_) rfl (by kernel_rfl) (by kernel_rfl) (by kernel_rfl) (fun _ _ _ h => h) (Or.inl ⟨by rfl, ?_⟩) (by assumption) ?_
        rotate_left
        · (intro w hSw; (try dsimp only at hSw); go_simp; try (with_reducible rfl))
        try simp only [List.getElem_toArray, List.getElem_cons_zero, List.getElem_cons_succ, Act.put, List.setIfInBounds_toArray, List.set_cons_zero, List.set_cons_succ]
        refine wpAnyH_take (i := 8) (oi := _) (v := ?_) rfl (by kernel_rfl) (by kernel_rfl) (by kernel_rfl) (fun _ _ _ h => h) (Or.inl ⟨by rfl, ?_⟩) (by assumption) ?_
        rotate_left
        · (intro w hSw; (try dsimp only at hSw); go_simp; try (with_reducible rfl))
        try simp only [List.getElem_toArray, List.getElem_cons_zero, List.getElem_cons_succ, Act.put, List.setIfInBounds_toArray, List.set_cons_zero, List.set_cons_succ]
        refine wpAnyH_ready (rs := [10]) (by kernel_rfl) (by simp) ?_
        refine AllReadyH.cons (o := _) rfl (fun K hK => ?_) ?_
        ·
          have z0 := h8.cell (k := 0) rfl
          have z1 := h8.cell (k := 1) rfl
          have z2 := h8.cell (k := 2) rfl
          have z3 := h8.cell (k := 3) rfl
          have f0 := h8.frozen 0
          have f1 := h8.frozen 1
          have f2 := h8.frozen 2
          have f3 := h8.frozen 3
          go_simp
          clear z0 z1 z2 z3 f0 f1 f2 f3
          have hpn := own_ne hp h8 (by decide)
          refine outG hK ?_ (fun W => Arr W g6 28 [.slice A' y.blobs.length c', .slice B' y.ents.length d', .int .i64 (y.room : Int), .int .i64 (y.clock : Int)]) (fun W => Below w3.heap.size w3 W ∧ OwSt W 0 (Value.slice A' y.blobs.length c') (Value.slice B' y.ents.length d') y (fun b => b = g6) ∧ W.ownsRow 0 57 3 (.slice A5 ps.length c5) ps.length (pcs ps)) ?_ ?_ (fun wn11 hHeld hF hG => ?_)
          · exact HSB.out _ ((((hB.setCell (p := ⟨g6, 0, none⟩) hl8 _).setCell (p := ⟨g6, 1, none⟩) hl8 _).setCell (p := ⟨g6, 2, none⟩) hl8 _).setCell (p := ⟨g6, 3, none⟩) hl8 _)
          · exact h8.all4 _ _ _ _
          · exact ⟨(((hB.setCell (p := ⟨g6, 0, none⟩) hl8 _).setCell (p := ⟨g6, 1, none⟩) hl8 _).setCell (p := ⟨g6, 2, none⟩) hl8 _).setCell (p := ⟨g6, 3, none⟩) hl8 _, (((ho.setX rfl hne1 hne2 _).setX rfl hne1 hne2 _).setX rfl hne1 hne2 _).setX rfl hne1 hne2 _, own_other (own_other (own_other (own_other hp hpn) hpn) hpn) hpn⟩
          clear hB h8 ho
          clear hK K
          try simp only [List.getElem_toArray, List.getElem_cons_zero, List.getElem_cons_succ, Act.put, List.setIfInBounds_toArray, List.set_cons_zero, List.set_cons_succ]
          refine wpAnyH_take (i := 11) (oi := _) (v := ?_) rfl (by kernel_rfl) (by kernel_rfl) (by kernel_rfl) (fun _ _ _ h => h) (Or.inl ⟨by rfl, ?_⟩) (by assumption) ?_
          rotate_left
          · (intro w hSw; (try dsimp only at hSw); go_simp; try (with_reducible rfl))
          try simp only [List.getElem_toArray, List.getElem_cons_zero, List.getElem_cons_succ, Act.put, List.setIfInBounds_toArray, List.set_cons_zero, List.set_cons_succ]
          refine wpAnyH_take (i := 12) (oi := _) (v := ?_) rfl (by kernel_rfl) (by kernel_rfl) (by kernel_rfl) (fun _ _ _ h => h) (Or.inl ⟨by rfl, ?_⟩) (by assumption) ?_
          rotate_left
          · (intro w hSw; (try dsimp only at hSw); go_simp; try (with_reducible rfl))
          try simp only [List.getElem_toArray, List.getElem_cons_zero, List.getElem_cons_succ, Act.put, List.setIfInBounds_toArray, List.set_cons_zero, List.set_cons_succ]
          refine wpAnyH_done (by kernel_rfl) ?_ _
          dsimp only [Exit.then]
          clear hHeld
          obtain ⟨hBz, hoz, hpz⟩ := hG
          have hrz : RdSt wn11 A' c' B' d' y := by
            obtain ⟨A9, c9, B9, d9, e1, e2, h⟩ := hoz.rows
            cases e1; cases e2; exact h
          have hall := And.intro hBz (And.intro hrz (And.intro hpz hF))
          generalize wn11 = wz at hall ⊢
          generalize g6 = gy at hall ⊢
          generalize A' = Ay at hall ⊢
          generalize c' = cy at hall ⊢
          generalize B' = By at hall ⊢
          generalize d' = dy at hall ⊢
          generalize A5 = A6 at hall ⊢
          generalize c5 = c6 at hall ⊢
          revert wz gy Ay cy By dy A6 c6
          exact REST2.out
        exact AllReadyH.nil
      exact AllReadyH.nil
    exact AllReadyH.nil
  exact AllReadyH.nil
  --HELDEND2
  intro w4 gy Ay cy By dy A6 c6 ⟨hBy, hry, hpy, hXy⟩
  have hXy' : Arr w4 gy 28 [.slice Ay y.blobs.length cy, .slice By y.ents.length dy, .int .i64 (y.room : Int), .int .i64 (y.clock : Int)] := hXy
  have hRb4 := HR3.out.below hBy
  have hb05 := HB4.out.trans (hBy.mono (by omega))
  have hX4 := HX3.out.below hBy
  have hsp4 := HP3.out.below hBy
  have hs4 : gr ≤ w4.heap.size := by have := hBy.size; omega
  obtain ⟨A7, c7, e7, hsg4, _⟩ := OwnSl hpy
  have hsg5 : Sl w4 3 A6 ps.length c6 (pcs ps) := by cases e7; exact hsg4
  have HKP := Lib.hid (kept_ok w4)
  clear hXy hBy hpy e7 hsg4
  repeat' ((fail_if_success at_builtin); (fail_if_success at_make); (first | go_values | go_skip | go_guarded | go_step | go_upon | go_back))
  refine ((HKP.out)).mono ?_; rintro e_ w5 ⟨rfl, hb5⟩; dsimp only
  have hXy5 := hXy'.below hb5
  have hRb5 := hRb4.below hb5
  have hX5 := hX4.below hb5
  have hry5 := hry.below hb5
  have hb06 := hb05.trans (hb5.mono hs4)
  have hs5 : gr ≤ w5.heap.size := Nat.le_trans hs4 hb5.size
  have heq := EqualP_any A6 PA ps.length ps.length c6 pc ps ps w5 rfl rfl (by omega) (by omega) (hsg5.below hb5).rd (hsp4.below hb5).rd
  rw [decide_eq_true rfl] at heq
  have HEQ := Lib.hid heq
  clear heq hXy' hRb4 hX4 hry hb05 hb5 hsp4 hsg5
  repeat' ((fail_if_success at_builtin); (fail_if_success at_make); (first | go_values | go_skip | go_guarded | go_step | go_upon | go_back))
  refine ((HEQ.out)).mono ?_; rintro e_ w5b ⟨rfl, hb5b⟩; dsimp only
  have hXy6 := hXy5.below hb5b
  have hRb6 := hRb5.below hb5b
  have hX6 := hX5.below hb5b
  have hry6 := hry5.below hb5b
  have hb07 := hb06.trans (hb5b.mono hs5)
  have hs6 : gr ≤ w5b.heap.size := Nat.le_trans hs5 hb5b.size
  have d1 := hXy6.cell (k := 1) rfl
  have hye : y.ents.length ≤ 10 := HYG.out.e.len
  clear hXy5 hRb5 hX5 hry5 hb06 hb5b
  repeat' ((fail_if_success at_builtin); (fail_if_success at_make); (first | go_values | go_skip | go_guarded | go_step | go_upon | go_back))
  clear d1
  go_loopg [57] y.ents.length (fun gn i wr => ∃ j : Nat, gn = y.ents.length - j ∧ i = .int .i64 j ∧ j ≤ y.ents.length ∧ Below w5b.heap.size w5b wr)
  case atStart => exact ⟨0, rfl, rfl, by omega, Below.refl _ _⟩
  case round =>
    obtain ⟨j, hgk, rfl, hj, hbl⟩ := hrel
    have HGK := Lib.hid hgk
    clear hgk
    by_cases hlt : j < y.ents.length
    · have hcc : decide (j < y.ents.length) = true := decide_eq_true hlt
      obtain ⟨b, off, PB, cb, rfl, hbb, c0, c1, c2, c3, _⟩ := (hry6.e.below hbl).ent_at j hlt
      have hj0 : (0 : Int) ≤ (j : Int) := by omega
      have hj1 : (j : Int) < (y.ents.length : Int) := by omega
      have hst := HYS.out y.ents[j] (List.getElem_mem hlt)
      generalize y.ents[j] = z at *
      obtain ⟨sx, hsx⟩ : ∃ s : ByteArray, s = ⟨z.key.toArray⟩ := ⟨_, rfl⟩
      rw [← hsx] at c0
      have hcmp : ((z.stamp : Int) == (y.clock : Int)) = (sx.toList == sk.toList) := by
        rw [hsx, HSK.out, ByteArray.toList_eq, ByteArray.toList_eq, Bool.eq_iff_iff, beq_iff_eq, beq_iff_eq]
        constructor
        · intro h; exact hst.1 (by omega)
        · intro h; have := hst.2 h; omega
      have hXx : Arr (wr.alloc (.cells #[.string sx, .slice PB z.parts.length cb, .int .i64 (z.pins : Int), .int .i64 (z.stamp : Int)] 50)) wr.heap.size 50 [.string sx, .slice PB z.parts.length cb, .int .i64 (z.pins : Int), .int .i64 (z.stamp : Int)] := Arr.new wr 50 _
      have hba := (Below.refl wr.heap.size wr).alloc (Nat.le_refl _) (.cells #[.string sx, .slice PB z.parts.length cb, .int .i64 (z.pins : Int), .int .i64 (z.stamp : Int)] 50)
      have hbl6 := hbl.trans (hba.mono hbl.size)
      have hXy7 := hXy6.below hbl6
      have hRb7 := hRb6.below hbl6
      clear hst hsx hba hbl
      repeat' ((fail_if_success at_builtin); (fail_if_success at_make); (first | go_values | go_skip | go_guarded | go_step | go_upon | go_back))
      generalize wr.alloc (.cells #[.string sx, .slice PB z.parts.length cb, .int .i64 (z.pins : Int), .int .i64 (z.stamp : Int)] 50) = w6 at *
      generalize wr.heap.size = gx at *
      clear c0 c1 c2 c3
      have HSC := Lib.hid (show ∀ W, Below w6.heap.size w6 W → W.cell? ⟨gx, 3, none⟩ = some (.int .i64 (z.stamp : Int)) ∧ W.cell? ⟨gy, 3, none⟩ = some (.int .i64 (y.clock : Int)) ∧ W.cell? ⟨gx, 0, none⟩ = some (.string sx) ∧ W.cell? ⟨gr, 1, none⟩ = some (.int .i64 ra) from fun W h =>
        ⟨(hXx.below h).cell (k := 3) rfl, (hXy7.below h).cell (k := 3) rfl, (hXx.below h).cell (k := 0) rfl, (hRb7.below h).cell (k := 1) rfl⟩)
      clear hXx hXy7 hRb7
      cases hbo : (sx.toList == sk.toList) with
      | true =>
        rw [hbo] at hcmp
        --HELD3
        refine wp_region_held_drew (S := (fun w' => w'.cell? ⟨gx, 3, none⟩ = some (.int .i64 (z.stamp : Int)) ∧ w'.cell? ⟨gy, 3, none⟩ = some (.int .i64 (y.clock : Int)) ∧ w'.cell? ⟨gx, 0, none⟩ = some (.string sx) ∧ w'.cell? ⟨gr, 1, none⟩ = some (.int .i64 ra))) (by kernel_rfl) ?_ (fun hHeld => ?_)
        · exact HSC.out _ (Below.refl _ w6).drew
        have hB := (Below.refl w6.heap.size w6).drew
        generalize w6.drew = wn0 at *
        refine wpAnyH_take (i := 0) (oi := _) (v := ?_) rfl (by kernel_rfl) (by kernel_rfl) (by kernel_rfl) (fun _ _ _ h => h) (Or.inl ⟨by rfl, ?_⟩) (by assumption) ?_
        rotate_left
        · (intro w hSw; (try dsimp only at hSw); go_simp; try (with_reducible rfl))
        try simp only [List.getElem_toArray, List.getElem_cons_zero, List.getElem_cons_succ, Act.put, List.setIfInBounds_toArray, List.set_cons_zero, List.set_cons_succ]
        refine wpAnyH_take (i := 1) (oi := _) (v := ?_) rfl (by kernel_rfl) (by kernel_rfl) (by kernel_rfl) (fun _ _ _ h => h) (Or.inl ⟨by rfl, ?_⟩) (by assumption) ?_
        rotate_left
        · (intro w hSw; (try dsimp only at hSw); go_simp; try (with_reducible rfl))
        try simp only [List.getElem_toArray, List.getElem_cons_zero, List.getElem_cons_succ, Act.put, List.setIfInBounds_toArray, List.set_cons_zero, List.set_cons_succ]
        refine wpAnyH_take (i := 2) (oi := _) (v := ?_) rfl (by kernel_rfl) (by kernel_rfl) (by kernel_rfl) (fun _ _ _ h => h) (Or.inl ⟨by rfl, ?_⟩) (by assumption) ?_
        rotate_left
        · (intro w hSw; (try dsimp only at hSw); go_simp; try (with_reducible rfl))
        try simp only [List.getElem_toArray, List.getElem_cons_zero, List.getElem_cons_succ, Act.put, List.setIfInBounds_toArray, List.set_cons_zero, List.set_cons_succ]
        refine wpAnyH_take (i := 3) (oi := _) (v := ?_) rfl (by kernel_rfl) (by kernel_rfl) (by kernel_rfl) (fun _ _ _ h => h) (Or.inl ⟨by rfl, ?_⟩) (by assumption) ?_
        rotate_left
        · (intro w hSw; (try dsimp only at hSw); go_simp; try (with_reducible rfl))
        try simp only [List.getElem_toArray, List.getElem_cons_zero, List.getElem_cons_succ, Act.put, List.setIfInBounds_toArray, List.set_cons_zero, List.set_cons_succ]
        refine wpAnyH_take (i := 4) (oi := _) (v := ?_) rfl (by kernel_rfl) (by kernel_rfl) (by kernel_rfl) (fun _ _ _ h => h) (Or.inl ⟨by rfl, ?_⟩) (by assumption) ?_
        rotate_left
        · (intro w hSw; (try dsimp only at hSw); go_simp; try (with_reducible rfl))
        try simp only [List.getElem_toArray, List.getElem_cons_zero, List.getElem_cons_succ, Act.put, List.setIfInBounds_toArray, List.set_cons_zero, List.set_cons_succ]
        refine wpAnyH_take (i := 5) (oi := _) (v := ?_) rfl (by kernel_rfl) (by kernel_rfl) (by kernel_rfl) (fun _ _ _ h => h) (Or.inl ⟨by rfl, ?_⟩) (by assumption) ?_
        rotate_left
        · (intro w hSw; (try dsimp only at hSw); go_simp; try (with_reducible rfl))
        try simp only [List.getElem_toArray, List.getElem_cons_zero, List.getElem_cons_succ, Act.put, List.setIfInBounds_toArray, List.set_cons_zero, List.set_cons_succ]
        refine wpAnyH_take (i := 6) (oi := _) (v := ?_) rfl (by kernel_rfl) (by kernel_rfl) (by kernel_rfl) (fun _ _ _ h => h) (Or.inl ⟨by rfl, ?_⟩) (by assumption) ?_
        rotate_left
        · (intro w hSw; (try dsimp only at hSw); go_simp; try (with_reducible rfl))
        try simp only [List.getElem_toArray, List.getElem_cons_zero, List.getElem_cons_succ, Act.put, List.setIfInBounds_toArray, List.set_cons_zero, List.set_cons_succ]
        refine wpAnyH_take (i := 7) (oi := _) (v := ?_) rfl (by kernel_rfl) (by kernel_rfl) (by kernel_rfl) (fun _ _ _ h => h) (Or.inl ⟨by rfl, ?_⟩) (by assumption) ?_
        rotate_left
        · (intro w hSw; (try dsimp only at hSw); go_simp; try (with_reducible rfl))
        try simp only [List.getElem_toArray, List.getElem_cons_zero, List.getElem_cons_succ, Act.put, List.setIfInBounds_toArray, List.set_cons_zero, List.set_cons_succ]
        refine wpAnyH_take (i := 8) (oi := _) (v := ?_) rfl (by kernel_rfl) (by kernel_rfl) (by kernel_rfl) (fun _ _ _ h => h) (Or.inl ⟨by rfl, ?_⟩) (by assumption) ?_
        rotate_left
        · (intro w hSw; (try dsimp only at hSw); go_simp; try (with_reducible rfl))
        try simp only [List.getElem_toArray, List.getElem_cons_zero, List.getElem_cons_succ, Act.put, List.setIfInBounds_toArray, List.set_cons_zero, List.set_cons_succ]
        refine wpAnyH_ready (rs := [9]) (by kernel_rfl) (by simp) ?_
        refine AllReadyH.cons (o := _) rfl (fun K hK => ?_) ?_
        ·
          go_simp
          refine (HKY.out wn0).mono ?_
          rintro e5 w5 ⟨rfl, hb5⟩
          dsimp only
          refine outG hK ?_ (Below wn0.heap.size wn0) (fun W => True) ?_ ?_ (fun wn1 hHeld hst hnew => ?_)
          · (exact HSC.out _ (hB.trans (hb5.mono hB.size)))
          · (exact hb5)
          · (trivial)
          have hB := hB.trans (hst.mono hB.size)
          clear hst
          clear hK K
          try simp only [List.getElem_toArray, List.getElem_cons_zero, List.getElem_cons_succ, Act.put, List.setIfInBounds_toArray, List.set_cons_zero, List.set_cons_succ]
          refine wpAnyH_take (i := 10) (oi := _) (v := ?_) rfl (by kernel_rfl) (by kernel_rfl) (by kernel_rfl) (fun _ _ _ h => h) (Or.inl ⟨by rfl, ?_⟩) (by assumption) ?_
          rotate_left
          · (intro w hSw; (try dsimp only at hSw); go_simp; try (with_reducible rfl))
          try simp only [List.getElem_toArray, List.getElem_cons_zero, List.getElem_cons_succ, Act.put, List.setIfInBounds_toArray, List.set_cons_zero, List.set_cons_succ]
          refine wpAnyH_take (i := 11) (oi := _) (v := ?_) rfl (by kernel_rfl) (by kernel_rfl) (by kernel_rfl) (fun _ _ _ h => h) (Or.inl ⟨by rfl, ?_⟩) (by assumption) ?_
          rotate_left
          · (intro w hSw; (try dsimp only at hSw); go_simp; try (with_reducible rfl))
          try simp only [List.getElem_toArray, List.getElem_cons_zero, List.getElem_cons_succ, Act.put, List.setIfInBounds_toArray, List.set_cons_zero, List.set_cons_succ]
          refine wpAnyH_done (by kernel_rfl) ?_ _
          dsimp only [Exit.then]
          clear hHeld
          have hbz := hbl6.trans (hB.mono hbl6.size)
          clear hB
          repeat' ((fail_if_success at_builtin); (fail_if_success at_make); (first | go_values | go_skip | go_guarded | go_step | go_upon | go_back))
          go_roundg (y.ents.length - (j + 1))
          case measure => have := HGK.out; omega
          case rel => exact ⟨j + 1, rfl, by go_num, by omega, hbz⟩
        exact AllReadyH.nil
        --HELDEND3
      | false =>
        rw [hbo] at hcmp
        --HELD4
        refine wp_region_held_drew (S := (fun w' => w'.cell? ⟨gx, 3, none⟩ = some (.int .i64 (z.stamp : Int)) ∧ w'.cell? ⟨gy, 3, none⟩ = some (.int .i64 (y.clock : Int)) ∧ w'.cell? ⟨gx, 0, none⟩ = some (.string sx) ∧ w'.cell? ⟨gr, 1, none⟩ = some (.int .i64 ra))) (by kernel_rfl) ?_ (fun hHeld => ?_)
        · exact HSC.out _ (Below.refl _ w6).drew
        have hB := (Below.refl w6.heap.size w6).drew
        generalize w6.drew = wn0 at *
        refine wpAnyH_take (i := 0) (oi := _) (v := ?_) rfl (by kernel_rfl) (by kernel_rfl) (by kernel_rfl) (fun _ _ _ h => h) (Or.inl ⟨by rfl, ?_⟩) (by assumption) ?_
        rotate_left
        · (intro w hSw; (try dsimp only at hSw); go_simp; try (with_reducible rfl))
        try simp only [List.getElem_toArray, List.getElem_cons_zero, List.getElem_cons_succ, Act.put, List.setIfInBounds_toArray, List.set_cons_zero, List.set_cons_succ]
        refine wpAnyH_take (i := 1) (oi := _) (v := ?_) rfl (by kernel_rfl) (by kernel_rfl) (by kernel_rfl) (fun _ _ _ h => h) (Or.inl ⟨by rfl, ?_⟩) (by assumption) ?_
        rotate_left
        · (intro w hSw; (try dsimp only at hSw); go_simp; try (with_reducible rfl))
        try simp only [List.getElem_toArray, List.getElem_cons_zero, List.getElem_cons_succ, Act.put, List.setIfInBounds_toArray, List.set_cons_zero, List.set_cons_succ]
        refine wpAnyH_take (i := 2) (oi := _) (v := ?_) rfl (by kernel_rfl) (by kernel_rfl) (by kernel_rfl) (fun _ _ _ h => h) (Or.inl ⟨by rfl, ?_⟩) (by assumption) ?_
        rotate_left
        · (intro w hSw; (try dsimp only at hSw); go_simp; try (with_reducible rfl))
        try simp only [List.getElem_toArray, List.getElem_cons_zero, List.getElem_cons_succ, Act.put, List.setIfInBounds_toArray, List.set_cons_zero, List.set_cons_succ]
        refine wpAnyH_take (i := 3) (oi := _) (v := ?_) rfl (by kernel_rfl) (by kernel_rfl) (by kernel_rfl) (fun _ _ _ h => h) (Or.inl ⟨by rfl, ?_⟩) (by assumption) ?_
        rotate_left
        · (intro w hSw; (try dsimp only at hSw); go_simp; try (with_reducible rfl))
        try simp only [List.getElem_toArray, List.getElem_cons_zero, List.getElem_cons_succ, Act.put, List.setIfInBounds_toArray, List.set_cons_zero, List.set_cons_succ]
        refine wpAnyH_take (i := 4) (oi := _) (v := ?_) rfl (by kernel_rfl) (by kernel_rfl) (by kernel_rfl) (fun _ _ _ h => h) (Or.inl ⟨by rfl, ?_⟩) (by assumption) ?_
        rotate_left
        · (intro w hSw; (try dsimp only at hSw); go_simp; try (with_reducible rfl))
        try simp only [List.getElem_toArray, List.getElem_cons_zero, List.getElem_cons_succ, Act.put, List.setIfInBounds_toArray, List.set_cons_zero, List.set_cons_succ]
        refine wpAnyH_take (i := 5) (oi := _) (v := ?_) rfl (by kernel_rfl) (by kernel_rfl) (by kernel_rfl) (fun _ _ _ h => h) (Or.inl ⟨by rfl, ?_⟩) (by assumption) ?_
        rotate_left
        · (intro w hSw; (try dsimp only at hSw); go_simp; try (with_reducible rfl))
        try simp only [List.getElem_toArray, List.getElem_cons_zero, List.getElem_cons_succ, Act.put, List.setIfInBounds_toArray, List.set_cons_zero, List.set_cons_succ]
        refine wpAnyH_take (i := 6) (oi := _) (v := ?_) rfl (by kernel_rfl) (by kernel_rfl) (by kernel_rfl) (fun _ _ _ h => h) (Or.inl ⟨by rfl, ?_⟩) (by assumption) ?_
        rotate_left
        · (intro w hSw; (try dsimp only at hSw); go_simp; try (with_reducible rfl))
        try simp only [List.getElem_toArray, List.getElem_cons_zero, List.getElem_cons_succ, Act.put, List.setIfInBounds_toArray, List.set_cons_zero, List.set_cons_succ]
        refine wpAnyH_take (i := 7) (oi := _) (v := ?_) rfl (by kernel_rfl) (by kernel_rfl) (by kernel_rfl) (fun _ _ _ h => h) (Or.inl ⟨by rfl, ?_⟩) (by assumption) ?_
        rotate_left
        · (intro w hSw; (try dsimp only at hSw); go_simp; try (with_reducible rfl))
        try simp only [List.getElem_toArray, List.getElem_cons_zero, List.getElem_cons_succ, Act.put, List.setIfInBounds_toArray, List.set_cons_zero, List.set_cons_succ]
        refine wpAnyH_take (i := 8) (oi := _) (v := ?_) rfl (by kernel_rfl) (by kernel_rfl) (by kernel_rfl) (fun _ _ _ h => h) (Or.inl ⟨by rfl, ?_⟩) (by assumption) ?_
        rotate_left
        · (intro w hSw; (try dsimp only at hSw); go_simp; try (with_reducible rfl))
        try simp only [List.getElem_toArray, List.getElem_cons_zero, List.getElem_cons_succ, Act.put, List.setIfInBounds_toArray, List.set_cons_zero, List.set_cons_succ]
        refine wpAnyH_ready (rs := [9]) (by kernel_rfl) (by simp) ?_
        refine AllReadyH.cons (o := _) rfl (fun K hK => ?_) ?_
        ·
          go_simp
          refine (HKY.out wn0).mono ?_
          rintro e5 w5 ⟨rfl, hb5⟩
          dsimp only
          refine outG hK ?_ (Below wn0.heap.size wn0) (fun W => True) ?_ ?_ (fun wn1 hHeld hst hnew => ?_)
          · (exact HSC.out _ (hB.trans (hb5.mono hB.size)))
          · (exact hb5)
          · (trivial)
          have hB := hB.trans (hst.mono hB.size)
          clear hst
          clear hK K
          try simp only [List.getElem_toArray, List.getElem_cons_zero, List.getElem_cons_succ, Act.put, List.setIfInBounds_toArray, List.set_cons_zero, List.set_cons_succ]
          refine wpAnyH_take (i := 10) (oi := _) (v := ?_) rfl (by kernel_rfl) (by kernel_rfl) (by kernel_rfl) (fun _ _ _ h => h) (Or.inl ⟨by rfl, ?_⟩) (by assumption) ?_
          rotate_left
          · (intro w hSw; (try dsimp only at hSw); go_simp; try (with_reducible rfl))
          try simp only [List.getElem_toArray, List.getElem_cons_zero, List.getElem_cons_succ, Act.put, List.setIfInBounds_toArray, List.set_cons_zero, List.set_cons_succ]
          refine wpAnyH_take (i := 11) (oi := _) (v := ?_) rfl (by kernel_rfl) (by kernel_rfl) (by kernel_rfl) (fun _ _ _ h => h) (Or.inl ⟨by rfl, ?_⟩) (by assumption) ?_
          rotate_left
          · (intro w hSw; (try dsimp only at hSw); go_simp; try (with_reducible rfl))
          try simp only [List.getElem_toArray, List.getElem_cons_zero, List.getElem_cons_succ, Act.put, List.setIfInBounds_toArray, List.set_cons_zero, List.set_cons_succ]
          refine wpAnyH_done (by kernel_rfl) ?_ _
          dsimp only [Exit.then]
          clear hHeld
          have hbz := hbl6.trans (hB.mono hbl6.size)
          clear hB
          repeat' ((fail_if_success at_builtin); (fail_if_success at_make); (first | go_values | go_skip | go_guarded | go_step | go_upon | go_back))
          go_roundg (y.ents.length - (j + 1))
          case measure => have := HGK.out; omega
          case rel => exact ⟨j + 1, rfl, by go_num, by omega, hbz⟩
        exact AllReadyH.nil
        --HELDEND4
    · obtain rfl : j = y.ents.length := by omega
      have hcc : decide (y.ents.length < y.ents.length) = false := by simp
      have hXy7 := hXy6.below hbl
      have hX7 := hX6.below hbl
      have d3 := hXy7.cell (k := 3) rfl
      have e3 := hX7.cell (k := 3) rfl
      have hw2 : IntKind.i64.wrap ((s.clock : Int) + 2) = (s.clock : Int) + 2 := IntWalk.i64_in _ (by omega)
      have hfin : ((y.clock : Int) == (s.clock : Int) + 2) = true := by rw [beq_iff_eq]; have := HYC.out; omega
      repeat' ((fail_if_success at_builtin); (fail_if_success at_make); (first | go_values | go_skip | go_guarded | go_step | go_upon | go_back))
      go_ret
      exact ⟨rfl, hb07.trans (hbl.mono hs6)⟩
end Go.Proofs.YtjldpfijekpddaaGreat
