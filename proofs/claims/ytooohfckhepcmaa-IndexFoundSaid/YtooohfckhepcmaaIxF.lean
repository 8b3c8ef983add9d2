/- IndexFound walked. Conditions: the slice's size. -/
import Derived.Test.YtooohfckhepcmaaIxD
import Derived.Test.YtooohfckhepcmaaEqQ
import Derived.Test.YtooohfckhepcmaaRawV
import Derived.Deep.RegionHeld3
namespace Go.Proofs.Ytooohfckhepcmaa
open Go.RowKit
set_option linter.unusedVariables false
set_option linter.unusedSimpArgs false
set_option maxRecDepth 100000

theorem share {P Q : Prop} (h : Hid P → Q) (p : P) : Q := h (Lib.hid p)
theorem sto_len7' (l : List RawP) : (sto l).ents.length ≤ 7 := by
  have pe : ((sto l).ents).Perm (stAcc l).ents := srt_perm _ _
  have hk := keys_seven (acc_ok l).end_ fun k hk => by
    obtain ⟨x, hx, rfl⟩ := List.mem_map.1 hk
    exact ((acc_ok l).eone x hx).1
  rw [List.length_map] at hk
  rw [pe.length_eq]; exact hk
theorem find_mem {m : List EntP} (hr : RisesBy (·.key) m) {z : EntP} (hz : z ∈ m) : ∃ i, ∃ h : i < m.length, m.findIdx? (fun y => y.key == z.key) = some i ∧ m[i] = z := by
  obtain ⟨i, hi, he⟩ := List.mem_iff_getElem.1 hz
  refine ⟨i, hi, ?_, he⟩
  rw [List.findIdx?_eq_some_iff_getElem]
  refine ⟨hi, by simp [he], fun k hk => ?_⟩
  have := bl_ne (List.pairwise_iff_getElem.1 hr k i (by omega) hi hk)
  rw [he] at this
  simp [this]
theorem putE_new {l : List EntP} {x : EntP} : ∃ z ∈ putE l x, z.key = x.key ∧ z.parts = x.parts ∧ z.stamp = x.stamp := by
  unfold putE
  cases hf : l.findIdx? (fun y => y.key == x.key) with
  | none => exact ⟨x, (srt_perm _ _).mem_iff.2 (List.mem_cons_self ..), rfl, rfl, rfl⟩
  | some i =>
    obtain ⟨hi, _, _⟩ := List.findIdx?_eq_some_iff_getElem.1 hf
    exact ⟨_, List.mem_set hi _, rfl, rfl, rfl⟩
theorem putE_old {l : List EntP} {x y : EntP} (hr : RisesBy (·.key) l) (hy : y ∈ l) : ∃ z ∈ putE l x, z.key = y.key ∧ z.pins = y.pins ∧ (y.key ≠ x.key → z = y) := by
  unfold putE
  cases hf : l.findIdx? (fun y => y.key == x.key) with
  | none => exact ⟨y, (srt_perm _ _).mem_iff.2 (List.mem_cons_of_mem _ hy), rfl, rfl, fun _ => rfl⟩
  | some i =>
    obtain ⟨hi, he, _⟩ := List.findIdx?_eq_some_iff_getElem.1 hf
    have he' : l[i].key = x.key := by simpa using he
    by_cases hk : y.key = x.key
    · have hyi : y = l[i] := RisesBy.inj hr hy (List.getElem_mem hi) (by show y.key = l[i].key; rw [hk, he'])
      refine ⟨_, List.mem_set hi _, by show x.key = y.key; exact hk.symm, ?_, fun h => absurd hk h⟩
      show (match l[i]? with | some y => y.pins | none => 0) = y.pins
      rw [List.getElem?_eq_getElem hi, hyi]
    · refine ⟨y, ?_, rfl, rfl, fun _ => rfl⟩
      obtain ⟨j, hj, hjy⟩ := List.mem_iff_getElem.1 hy
      have hij : i ≠ j := by rintro rfl; rw [hjy] at he'; exact hk he'
      rw [← hjy]
      have h1 : j < (l.set i { x with pins := (match l[i]? with | some y => y.pins | none => 0) }).length := by rw [List.length_set]; exact hj
      have h2 := List.getElem_set_ne (a := { x with pins := (match l[i]? with | some y => y.pins | none => 0) }) hij h1
      rw [← h2]
      exact List.getElem_mem h1
set_option maxHeartbeats 16000000 in
theorem IndexFound_walk (A : Option Addr) (n c : Nat) (l : List RawP) (r : RawP) (w : World) (hl : l.length = n) (hc : n ≤ c) (hm : c ≤ maxLen) (hok : ∀ r ∈ l, RawOk r) (hr : Rd w 4 A n (rcs l)) (hro : RawOk r) :
    Calls Try.prog 12 #[.slice A n c, rval r] w fun e w' => e = .returned (.bool true) ∧ Below w.heap.size w w' := by
  obtain ⟨rk, ra, rb, rt⟩ := r
  unfold rval
  have hX : Arr (w.alloc (.cells #[.int .i64 rk, .int .i64 ra, .int .i64 rb, .string rt] 60)) w.heap.size 60 [.int .i64 rk, .int .i64 ra, .int .i64 rb, .string rt] := Arr.new w 60 _
  have hb0 := (Below.refl w.heap.size w).alloc (Nat.le_refl _) (.cells #[.int .i64 rk, .int .i64 ra, .int .i64 rb, .string rt] 60)
  have HS := Lib.hid (Store_ok A n c l _ hl hc hm hok (hr.below hb0))
  have hge := (sto_good l).e
  have hlen := sto_len7' l
  have HGE := Lib.hid hge
  have HRO := Lib.hid hro
  have HPL := Lib.hid (show ∀ y ∈ (sto l).ents, y.parts.length ≤ 1000000 from fun y hy => by have := (chk_zero (hge.one y hy).2.1).1; omega)
  clear hok hl hr hge hro
  generalize (sto l).blobs = bl at *
  generalize (sto l).ents = el at *
  generalize (sto l).room = rm at *
  generalize (sto l).clock = ck at *
  obtain ⟨sk, hsk⟩ : ∃ sk : ByteArray, sk = ⟨(keyS (pk ra 7)).toArray⟩ := ⟨_, rfl⟩
  have hky := fun W => Key_ok ra W HRO.out.a0 HRO.out.a1
  rw [← hsk] at hky
  have HKY := Lib.hid hky
  have HSK := Lib.hid hsk
  clear hky hsk
  go_enter Try.func12, Try.ntmps12
  repeat' ((fail_if_success at_builtin); (fail_if_success at_make); (first | go_values | go_skip | go_guarded | go_step | go_upon | go_back))
  generalize w.alloc (.cells #[.int .i64 rk, .int .i64 ra, .int .i64 rb, .string rt] 60) = w1 at *
  refine ((HS.out)).mono ?_; rintro e_ w2 ⟨v1, v2, rfl, hb, he, hb1⟩; dsimp only
  have hb2 := hb0.trans (hb1.mono hb0.size)
  have hX2 := hX.below hb1
  obtain ⟨Ab, cb, rfl, _, _, _⟩ := hb.rows
  obtain ⟨Ae, ce, rfl, hce1, hce2, hRe⟩ := he.rows
  have hfl := fld_ents Ab Ae bl.length el.length cb ce (rm : Int) (ck : Int) w2
  clear hb he hX hb0 hb1
  repeat' ((fail_if_success at_builtin); (fail_if_success at_make); (first | go_values | go_skip | go_guarded | go_step | go_upon | go_back))
  clear hfl
  obtain ⟨gr, hgr⟩ : ∃ g, g = w.heap.size := ⟨_, rfl⟩
  rw [← hgr] at hX2 ⊢
  clear hgr
  have HSB := Lib.hid (show ∀ w', Below w2.heap.size w2 w' → (w'.cell? ⟨gr, 0, none⟩ = some (.int .i64 rk) ∧ w'.cell? ⟨gr, 1, none⟩ = some (.int .i64 ra) ∧ w'.cell? ⟨gr, 2, none⟩ = some (.int .i64 rb) ∧ w'.cell? ⟨gr, 3, none⟩ = some (.string rt)) from
    fun w' hb => ⟨(hX2.below hb).cell (k := 0) rfl, (hX2.below hb).cell (k := 1) rfl, (hX2.below hb).cell (k := 2) rfl, (hX2.below hb).cell (k := 3) rfl⟩)
  clear hX2
  have HB2 := Lib.hid hb2
  have HRE := Lib.hid hRe
  clear hb2 hRe
  apply share
  intro REST
  --HELD2
  refine wp_region_held_drew (S := (fun w' => w'.cell? ⟨gr, 0, none⟩ = some (.int .i64 rk) ∧ w'.cell? ⟨gr, 1, none⟩ = some (.int .i64 ra) ∧ w'.cell? ⟨gr, 2, none⟩ = some (.int .i64 rb) ∧ w'.cell? ⟨gr, 3, none⟩ = some (.string rt))) (by kernel_rfl) ?_ (fun hHeld => ?_)
  · exact HSB.out _ (Below.refl _ w2).drew
  have hB := (Below.refl w2.heap.size w2).drew
  generalize w2.drew = wn0 at *
  refine wpAnyH_take (i := 0) (oi := _) (v := ?_) rfl (by kernel_rfl) (by kernel_rfl) (by kernel_rfl) (fun _ _ _ h => h) (Or.inl ⟨by rfl, ?_⟩) (by assumption) ?_
  rotate_left
  · (intro w hSw; (try dsimp only at hSw); go_simp; try (with_reducible rfl))
  try simp only [List.getElem_toArray, List.getElem_cons_zero, List.getElem_cons_succ, Act.put, List.setIfInBounds_toArray, List.set_cons_zero, List.set_cons_succ]
  refine wpAnyH_take (i := 1) (oi := _) (v := ?_) rfl (by kernel_rfl) (by kernel_rfl) (by kernel_rfl) (fun _ _ _ h => h) (Or.inl ⟨by rfl, ?_⟩) (by assumption) ?_
  rotate_left
  · (intro w hSw; (try dsimp only at hSw); go_simp; try (with_reducible rfl))
  try simp only [List.getElem_toArray, List.getElem_cons_zero, List.getElem_cons_succ, Act.put, List.setIfInBounds_toArray, List.set_cons_zero, List.set_cons_succ]
  refine wpAnyH_take (i := 3) (oi := _) (v := ?_) rfl (by kernel_rfl) (by kernel_rfl) (by kernel_rfl) (fun _ _ _ h => h) (Or.inl ⟨by rfl, ?_⟩) (by assumption) ?_
  rotate_left
  · (intro w hSw; (try dsimp only at hSw); go_simp; try (with_reducible rfl))
  try simp only [List.getElem_toArray, List.getElem_cons_zero, List.getElem_cons_succ, Act.put, List.setIfInBounds_toArray, List.set_cons_zero, List.set_cons_succ]
  refine wpAnyH_ready (rs := [2, 4, 7]) (by kernel_rfl) (by simp) ?_
  refine AllReadyH.cons (o := _) rfl (fun K hK => ?_) ?_
  ·
    go_simp
    refine (HKY.out wn0).mono ?_
    rintro e5 w5 ⟨rfl, hb5⟩
    dsimp only
    refine outG hK ?_ (Below wn0.heap.size wn0) (fun W => True) ?_ ?_ (fun wn1 hHeld hst hnew => ?_)
    · (exact HSB.out _ (hB.trans (Below.mono (show Below wn0.heap.size wn0 _ from by (first | exact (Below.refl _ _).alloc (Nat.le_refl _) _ | exact hb5 | exact Below.refl _ _)) hB.size)))
    · (first | exact (Below.refl _ _).alloc (Nat.le_refl _) _ | exact hb5 | exact Below.refl _ _)
    · (trivial)
    have hB := hB.trans (hst.mono hB.size)
    clear hst
    clear hK K
    try simp only [List.getElem_toArray, List.getElem_cons_zero, List.getElem_cons_succ, Act.put, List.setIfInBounds_toArray, List.set_cons_zero, List.set_cons_succ]
    refine wpAnyH_ready (rs := [4, 7]) (by kernel_rfl) (by simp) ?_
    refine AllReadyH.cons (o := _) rfl (fun K hK => ?_) ?_
    ·
      go_simp
      refine outG hK ?_ (Below wn1.heap.size wn1) (fun W => Rd W 4 (some ⟨wn1.heap.size, 0, none⟩) 1 (rcs [⟨rk, ra, rb, rt⟩])) ?_ ?_ (fun wn2 hHeld hst hnew => ?_)
      · (exact HSB.out _ (hB.trans (Below.mono (show Below wn1.heap.size wn1 _ from by (first | exact (Below.refl _ _).alloc (Nat.le_refl _) _ | exact hb5 | exact Below.refl _ _)) hB.size)))
      · (first | exact (Below.refl _ _).alloc (Nat.le_refl _) _ | exact hb5 | exact Below.refl _ _)
      · (exact Rd.newN (rcs [⟨rk, ra, rb, rt⟩]) rfl)
      have hB := hB.trans (hst.mono hB.size)
      have h4 := hnew
      obtain ⟨g4, hg4⟩ : ∃ g, g = wn1.heap.size := ⟨_, rfl⟩
      rw [← hg4] at h4 ⊢
      clear hg4
      clear hst
      clear hK K
      try simp only [List.getElem_toArray, List.getElem_cons_zero, List.getElem_cons_succ, Act.put, List.setIfInBounds_toArray, List.set_cons_zero, List.set_cons_succ]
      refine wpAnyH_ready (rs := [5, 7]) (by kernel_rfl) (by simp) ?_
      refine AllReadyH.cons (o := _) rfl (fun K hK => ?_) ?_
      ·
        go_simp
        refine (listed_ok _ 1 1 [⟨rk, ra, rb, rt⟩] wn2 rfl (by omega) (by simp [maxLen]) (fun r hr => by rw [List.mem_singleton.1 hr]; exact HRO.out) h4).mono ?_
        rintro e5 w5 ⟨v5, rfl, ho5, hb5⟩
        obtain ⟨A5, c5, rfl, _, _⟩ := Rd.of_own' ho5
        dsimp only
        refine outG hK ?_ (Below wn2.heap.size wn2) (fun W => W.ownsRow w2.heap.size 40 3 (.slice A5 (lst [⟨rk, ra, rb, rt⟩]).length c5) (lst [⟨rk, ra, rb, rt⟩]).length (pcs (lst [⟨rk, ra, rb, rt⟩]))) ?_ ?_ (fun wn3 hHeld hst hnew => ?_)
        · (exact HSB.out _ (hB.trans (Below.mono (show Below wn2.heap.size wn2 _ from by (first | exact (Below.refl _ _).alloc (Nat.le_refl _) _ | exact hb5 | exact Below.refl _ _)) hB.size)))
        · (first | exact (Below.refl _ _).alloc (Nat.le_refl _) _ | exact hb5 | exact Below.refl _ _)
        · (exact own_lower ho5 hB.size)
        have hB := hB.trans (hst.mono hB.size)
        have hs4 := hnew
        clear hst
        clear hK K
        try simp only [List.getElem_toArray, List.getElem_cons_zero, List.getElem_cons_succ, Act.put, List.setIfInBounds_toArray, List.set_cons_zero, List.set_cons_succ]
        refine wpAnyH_take (i := 6) (oi := _) (v := ?_) rfl (by kernel_rfl) (by kernel_rfl) (by kernel_rfl) (fun _ _ _ h => h) (Or.inl ⟨by rfl, ?_⟩) (by assumption) ?_
        rotate_left
        · (intro w hSw; (try dsimp only at hSw); go_simp; try (with_reducible rfl))
        try simp only [List.getElem_toArray, List.getElem_cons_zero, List.getElem_cons_succ, Act.put, List.setIfInBounds_toArray, List.set_cons_zero, List.set_cons_succ]
        refine wpAnyH_ready (rs := [7]) (by kernel_rfl) (by simp) ?_
        refine AllReadyH.cons (o := _) rfl (fun K hK => ?_) ?_
        ·
          go_simp
          refine outG hK ?_ (Below wn3.heap.size wn3) (fun W => Arr W wn3.heap.size 53 [.string ByteArray.empty, .slice none 0 0, .int .i64 0, .int .i64 0] ∧ w2.heap.size ≤ wn3.heap.size) ?_ ?_ (fun wn4 hHeld hst hnew => ?_)
          · (exact HSB.out _ (hB.trans (Below.mono (show Below wn3.heap.size wn3 _ from by (first | exact (Below.refl _ _).alloc (Nat.le_refl _) _ | exact hb5 | exact Below.refl _ _)) hB.size)))
          · (first | exact (Below.refl _ _).alloc (Nat.le_refl _) _ | exact hb5 | exact Below.refl _ _)
          · (exact ⟨Arr.new _ _ _, hB.size⟩)
          have hB := hB.trans (hst.mono hB.size)
          have hs4 := own_below hs4 hst
          obtain ⟨h13, hl13⟩ := hnew
          have e13 : ∃ g, g = wn3.heap.size := ⟨_, rfl⟩
          obtain ⟨g11, hg11⟩ := e13
          rw [← hg11] at h13 hl13 ⊢
          clear hg11
          clear hst
          clear hK K
          try simp only [List.getElem_toArray, List.getElem_cons_zero, List.getElem_cons_succ, Act.put, List.setIfInBounds_toArray, List.set_cons_zero, List.set_cons_succ]
          refine wpAnyH_ready (rs := [8]) (by kernel_rfl) (by simp) ?_
          refine AllReadyH.cons (o := _) rfl (fun K hK => ?_) ?_
          ·
            have z0 := h13.cell (k := 0) rfl
            have z1 := h13.cell (k := 1) rfl
            have z2 := h13.cell (k := 2) rfl
            have z3 := h13.cell (k := 3) rfl
            have f0 := h13.frozen 0
            have f1 := h13.frozen 1
            have f2 := h13.frozen 2
            have f3 := h13.frozen 3
            go_simp
            clear z0 z1 z2 z3 f0 f1 f2 f3
            have hne4 := own_ne hs4 h13 (by decide)
            refine outG hK ?_ (fun W => Arr W g11 53 [.string sk, .slice A5 (lst [⟨rk, ra, rb, rt⟩]).length c5, .int .i64 0, .int .i64 9]) (fun W => Below w2.heap.size w2 W ∧ W.ownsRow w2.heap.size 40 3 (.slice A5 (lst [⟨rk, ra, rb, rt⟩]).length c5) (lst [⟨rk, ra, rb, rt⟩]).length (pcs (lst [⟨rk, ra, rb, rt⟩]))) ?_ ?_ (fun wn5 hHeld hF hG => ?_)
            · exact HSB.out _ ((((hB.setCell (p := ⟨g11, 0, none⟩) hl13 _).setCell (p := ⟨g11, 1, none⟩) hl13 _).setCell (p := ⟨g11, 2, none⟩) hl13 _).setCell (p := ⟨g11, 3, none⟩) hl13 _)
            · exact h13.all4 _ _ _ _
            · exact ⟨(((hB.setCell (p := ⟨g11, 0, none⟩) hl13 _).setCell (p := ⟨g11, 1, none⟩) hl13 _).setCell (p := ⟨g11, 2, none⟩) hl13 _).setCell (p := ⟨g11, 3, none⟩) hl13 _, own_other (own_other (own_other (own_other hs4 hne4) hne4) hne4) hne4⟩
            obtain ⟨hb5, hs5⟩ := hG
            have h5 := hF
            clear hK K
            try simp only [List.getElem_toArray, List.getElem_cons_zero, List.getElem_cons_succ, Act.put, List.setIfInBounds_toArray, List.set_cons_zero, List.set_cons_succ]
            refine wpAnyH_done (by kernel_rfl) ?_ _
            dsimp only [Exit.then]
            clear hHeld hF hB
            have hall := And.intro hb5 (And.intro hs5 h5)
            generalize wn5 = w5 at hall ⊢
            generalize g11 = g5 at hall ⊢
            generalize A5 = A6 at hall ⊢
            generalize c5 = c6 at hall ⊢
            generalize g4 = g6
            revert w5 g5 A6 c6 g6
            exact REST.out
          exact AllReadyH.nil
        exact AllReadyH.nil
      refine AllReadyH.cons (o := _) rfl (fun K hK => ?_) ?_
      ·
        go_simp
        refine outG hK ?_ (Below wn2.heap.size wn2) (fun W => Arr W wn2.heap.size 53 [.string ByteArray.empty, .slice none 0 0, .int .i64 0, .int .i64 0] ∧ w2.heap.size ≤ wn2.heap.size) ?_ ?_ (fun wn6 hHeld hst hnew => ?_)
        · (exact HSB.out _ (hB.trans (Below.mono (show Below wn2.heap.size wn2 _ from by (first | exact (Below.refl _ _).alloc (Nat.le_refl _) _ | exact hb5 | exact Below.refl _ _)) hB.size)))
        · (first | exact (Below.refl _ _).alloc (Nat.le_refl _) _ | exact hb5 | exact Below.refl _ _)
        · (exact ⟨Arr.new _ _ _, hB.size⟩)
        have hB := hB.trans (hst.mono hB.size)
        have h4 := h4.below hst
        obtain ⟨h13, hl13⟩ := hnew
        have e13 : ∃ g, g = wn2.heap.size := ⟨_, rfl⟩
        obtain ⟨g11, hg11⟩ := e13
        rw [← hg11] at h13 hl13 ⊢
        clear hg11
        clear hst
        clear hK K
        try simp only [List.getElem_toArray, List.getElem_cons_zero, List.getElem_cons_succ, Act.put, List.setIfInBounds_toArray, List.set_cons_zero, List.set_cons_succ]
        refine wpAnyH_ready (rs := [5]) (by kernel_rfl) (by simp) ?_
        refine AllReadyH.cons (o := _) rfl (fun K hK => ?_) ?_
        ·
          go_simp
          refine (listed_ok _ 1 1 [⟨rk, ra, rb, rt⟩] wn6 rfl (by omega) (by simp [maxLen]) (fun r hr => by rw [List.mem_singleton.1 hr]; exact HRO.out) h4).mono ?_
          rintro e5 w5 ⟨v5, rfl, ho5, hb5⟩
          obtain ⟨A5, c5, rfl, _, _⟩ := Rd.of_own' ho5
          dsimp only
          refine outG hK ?_ (Below wn6.heap.size wn6) (fun W => W.ownsRow w2.heap.size 40 3 (.slice A5 (lst [⟨rk, ra, rb, rt⟩]).length c5) (lst [⟨rk, ra, rb, rt⟩]).length (pcs (lst [⟨rk, ra, rb, rt⟩]))) ?_ ?_ (fun wn7 hHeld hst hnew => ?_)
          · (exact HSB.out _ (hB.trans (Below.mono (show Below wn6.heap.size wn6 _ from by (first | exact (Below.refl _ _).alloc (Nat.le_refl _) _ | exact hb5 | exact Below.refl _ _)) hB.size)))
          · (first | exact (Below.refl _ _).alloc (Nat.le_refl _) _ | exact hb5 | exact Below.refl _ _)
          · (exact own_lower ho5 hB.size)
          have hB := hB.trans (hst.mono hB.size)
          have h13 := h13.below hst
          have hs4 := hnew
          clear hst
          clear hK K
          try simp only [List.getElem_toArray, List.getElem_cons_zero, List.getElem_cons_succ, Act.put, List.setIfInBounds_toArray, List.set_cons_zero, List.set_cons_succ]
          refine wpAnyH_take (i := 6) (oi := _) (v := ?_) rfl (by kernel_rfl) (by kernel_rfl) (by kernel_rfl) (fun _ _ _ h => h) (Or.inl ⟨by rfl, ?_⟩) (by assumption) ?_
          rotate_left
          · (intro w hSw; (try dsimp only at hSw); go_simp; try (with_reducible rfl))
          try simp only [List.getElem_toArray, List.getElem_cons_zero, List.getElem_cons_succ, Act.put, List.setIfInBounds_toArray, List.set_cons_zero, List.set_cons_succ]
          refine wpAnyH_ready (rs := [8]) (by kernel_rfl) (by simp) ?_
          refine AllReadyH.cons (o := _) rfl (fun K hK => ?_) ?_
          ·
            have z0 := h13.cell (k := 0) rfl
            have z1 := h13.cell (k := 1) rfl
            have z2 := h13.cell (k := 2) rfl
            have z3 := h13.cell (k := 3) rfl
            have f0 := h13.frozen 0
            have f1 := h13.frozen 1
            have f2 := h13.frozen 2
            have f3 := h13.frozen 3
            go_simp
            clear z0 z1 z2 z3 f0 f1 f2 f3
            have hne4 := own_ne hs4 h13 (by decide)
            refine outG hK ?_ (fun W => Arr W g11 53 [.string sk, .slice A5 (lst [⟨rk, ra, rb, rt⟩]).length c5, .int .i64 0, .int .i64 9]) (fun W => Below w2.heap.size w2 W ∧ W.ownsRow w2.heap.size 40 3 (.slice A5 (lst [⟨rk, ra, rb, rt⟩]).length c5) (lst [⟨rk, ra, rb, rt⟩]).length (pcs (lst [⟨rk, ra, rb, rt⟩]))) ?_ ?_ (fun wn8 hHeld hF hG => ?_)
            · exact HSB.out _ ((((hB.setCell (p := ⟨g11, 0, none⟩) hl13 _).setCell (p := ⟨g11, 1, none⟩) hl13 _).setCell (p := ⟨g11, 2, none⟩) hl13 _).setCell (p := ⟨g11, 3, none⟩) hl13 _)
            · exact h13.all4 _ _ _ _
            · exact ⟨(((hB.setCell (p := ⟨g11, 0, none⟩) hl13 _).setCell (p := ⟨g11, 1, none⟩) hl13 _).setCell (p := ⟨g11, 2, none⟩) hl13 _).setCell (p := ⟨g11, 3, none⟩) hl13 _, own_other (own_other (own_other (own_other hs4 hne4) hne4) hne4) hne4⟩
            obtain ⟨hb5, hs5⟩ := hG
            have h5 := hF
            clear hK K
            try simp only [List.getElem_toArray, List.getElem_cons_zero, List.getElem_cons_succ, Act.put, List.setIfInBounds_toArray, List.set_cons_zero, List.set_cons_succ]
            refine wpAnyH_done (by kernel_rfl) ?_ _
            dsimp only [Exit.then]
            clear hHeld hF hB
            have hall := And.intro hb5 (And.intro hs5 h5)
            generalize wn8 = w5 at hall ⊢
            generalize g11 = g5 at hall ⊢
            generalize A5 = A6 at hall ⊢
            generalize c5 = c6 at hall ⊢
            generalize g4 = g6
            revert w5 g5 A6 c6 g6
            exact REST.out
          exact AllReadyH.nil
        exact AllReadyH.nil
      exact AllReadyH.nil
    refine AllReadyH.cons (o := _) rfl (fun K hK => ?_) ?_
    ·
      go_simp
      refine outG hK ?_ (Below wn1.heap.size wn1) (fun W => Arr W wn1.heap.size 53 [.string ByteArray.empty, .slice none 0 0, .int .i64 0, .int .i64 0] ∧ w2.heap.size ≤ wn1.heap.size) ?_ ?_ (fun wn9 hHeld hst hnew => ?_)
      · (exact HSB.out _ (hB.trans (Below.mono (show Below wn1.heap.size wn1 _ from by (first | exact (Below.refl _ _).alloc (Nat.le_refl _) _ | exact hb5 | exact Below.refl _ _)) hB.size)))
      · (first | exact (Below.refl _ _).alloc (Nat.le_refl _) _ | exact hb5 | exact Below.refl _ _)
      · (exact ⟨Arr.new _ _ _, hB.size⟩)
      have hB := hB.trans (hst.mono hB.size)
      obtain ⟨h13, hl13⟩ := hnew
      have e13 : ∃ g, g = wn1.heap.size := ⟨_, rfl⟩
      obtain ⟨g11, hg11⟩ := e13
      rw [← hg11] at h13 hl13 ⊢
      clear hg11
      clear hst
      clear hK K
      try simp only [List.getElem_toArray, List.getElem_cons_zero, List.getElem_cons_succ, Act.put, List.setIfInBounds_toArray, List.set_cons_zero, List.set_cons_succ]
      refine wpAnyH_ready (rs := [4]) (by kernel_rfl) (by simp) ?_
      refine AllReadyH.cons (o := _) rfl (fun K hK => ?_) ?_
      ·
        go_simp
        refine outG hK ?_ (Below wn9.heap.size wn9) (fun W => Rd W 4 (some ⟨wn9.heap.size, 0, none⟩) 1 (rcs [⟨rk, ra, rb, rt⟩])) ?_ ?_ (fun wn10 hHeld hst hnew => ?_)
        · (exact HSB.out _ (hB.trans (Below.mono (show Below wn9.heap.size wn9 _ from by (first | exact (Below.refl _ _).alloc (Nat.le_refl _) _ | exact hb5 | exact Below.refl _ _)) hB.size)))
        · (first | exact (Below.refl _ _).alloc (Nat.le_refl _) _ | exact hb5 | exact Below.refl _ _)
        · (exact Rd.newN (rcs [⟨rk, ra, rb, rt⟩]) rfl)
        have hB := hB.trans (hst.mono hB.size)
        have h13 := h13.below hst
        have h4 := hnew
        obtain ⟨g4, hg4⟩ : ∃ g, g = wn9.heap.size := ⟨_, rfl⟩
        rw [← hg4] at h4 ⊢
        clear hg4
        clear hst
        clear hK K
        try simp only [List.getElem_toArray, List.getElem_cons_zero, List.getElem_cons_succ, Act.put, List.setIfInBounds_toArray, List.set_cons_zero, List.set_cons_succ]
        refine wpAnyH_ready (rs := [5]) (by kernel_rfl) (by simp) ?_
        refine AllReadyH.cons (o := _) rfl (fun K hK => ?_) ?_
        ·
          go_simp
          refine (listed_ok _ 1 1 [⟨rk, ra, rb, rt⟩] wn10 rfl (by omega) (by simp [maxLen]) (fun r hr => by rw [List.mem_singleton.1 hr]; exact HRO.out) h4).mono ?_
          rintro e5 w5 ⟨v5, rfl, ho5, hb5⟩
          obtain ⟨A5, c5, rfl, _, _⟩ := Rd.of_own' ho5
          dsimp only
          refine outG hK ?_ (Below wn10.heap.size wn10) (fun W => W.ownsRow w2.heap.size 40 3 (.slice A5 (lst [⟨rk, ra, rb, rt⟩]).length c5) (lst [⟨rk, ra, rb, rt⟩]).length (pcs (lst [⟨rk, ra, rb, rt⟩]))) ?_ ?_ (fun wn11 hHeld hst hnew => ?_)
          · (exact HSB.out _ (hB.trans (Below.mono (show Below wn10.heap.size wn10 _ from by (first | exact (Below.refl _ _).alloc (Nat.le_refl _) _ | exact hb5 | exact Below.refl _ _)) hB.size)))
          · (first | exact (Below.refl _ _).alloc (Nat.le_refl _) _ | exact hb5 | exact Below.refl _ _)
          · (exact own_lower ho5 hB.size)
          have hB := hB.trans (hst.mono hB.size)
          have h13 := h13.below hst
          have hs4 := hnew
          clear hst
          clear hK K
          try simp only [List.getElem_toArray, List.getElem_cons_zero, List.getElem_cons_succ, Act.put, List.setIfInBounds_toArray, List.set_cons_zero, List.set_cons_succ]
          refine wpAnyH_take (i := 6) (oi := _) (v := ?_) rfl (by kernel_rfl) (by kernel_rfl) (by kernel_rfl) (fun _ _ _ h => h) (Or.inl ⟨by rfl, ?_⟩) (by assumption) ?_
          rotate_left
          · (intro w hSw; (try dsimp only at hSw); go_simp; try (with_reducible rfl))
          try simp only [List.getElem_toArray, List.getElem_cons_zero, List.getElem_cons_succ, Act.put, List.setIfInBounds_toArray, List.set_cons_zero, List.set_cons_succ]
          refine wpAnyH_ready (rs := [8]) (by kernel_rfl) (by simp) ?_
          refine AllReadyH.cons (o := _) rfl (fun K hK => ?_) ?_
          ·
            have z0 := h13.cell (k := 0) rfl
            have z1 := h13.cell (k := 1) rfl
            have z2 := h13.cell (k := 2) rfl
            have z3 := h13.cell (k := 3) rfl
            have f0 := h13.frozen 0
            have f1 := h13.frozen 1
            have f2 := h13.frozen 2
            have f3 := h13.frozen 3
            go_simp
            clear z0 z1 z2 z3 f0 f1 f2 f3
            have hne4 := own_ne hs4 h13 (by decide)
            refine outG hK ?_ (fun W => Arr W g11 53 [.string sk, .slice A5 (lst [⟨rk, ra, rb, rt⟩]).length c5, .int .i64 0, .int .i64 9]) (fun W => Below w2.heap.size w2 W ∧ W.ownsRow w2.heap.size 40 3 (.slice A5 (lst [⟨rk, ra, rb, rt⟩]).length c5) (lst [⟨rk, ra, rb, rt⟩]).length (pcs (lst [⟨rk, ra, rb, rt⟩]))) ?_ ?_ (fun wn12 hHeld hF hG => ?_)
            · exact HSB.out _ ((((hB.setCell (p := ⟨g11, 0, none⟩) hl13 _).setCell (p := ⟨g11, 1, none⟩) hl13 _).setCell (p := ⟨g11, 2, none⟩) hl13 _).setCell (p := ⟨g11, 3, none⟩) hl13 _)
            · exact h13.all4 _ _ _ _
            · exact ⟨(((hB.setCell (p := ⟨g11, 0, none⟩) hl13 _).setCell (p := ⟨g11, 1, none⟩) hl13 _).setCell (p := ⟨g11, 2, none⟩) hl13 _).setCell (p := ⟨g11, 3, none⟩) hl13 _, own_other (own_other (own_other (own_other hs4 hne4) hne4) hne4) hne4⟩
            obtain ⟨hb5, hs5⟩ := hG
            have h5 := hF
            clear hK K
            try simp only [List.getElem_toArray, List.getElem_cons_zero, List.getElem_cons_succ, Act.put, List.setIfInBounds_toArray, List.set_cons_zero, List.set_cons_succ]
            refine wpAnyH_done (by kernel_rfl) ?_ _
            dsimp only [Exit.then]
            clear hHeld hF hB
            have hall := And.intro hb5 (And.intro hs5 h5)
            generalize wn12 = w5 at hall ⊢
            generalize g11 = g5 at hall ⊢
            generalize A5 = A6 at hall ⊢
            generalize c5 = c6 at hall ⊢
            generalize g4 = g6
            revert w5 g5 A6 c6 g6
            exact REST.out
          exact AllReadyH.nil
        exact AllReadyH.nil
      exact AllReadyH.nil
    exact AllReadyH.nil
  refine AllReadyH.cons (o := _) rfl (fun K hK => ?_) ?_
  ·
    go_simp
    refine outG hK ?_ (Below wn0.heap.size wn0) (fun W => Rd W 4 (some ⟨wn0.heap.size, 0, none⟩) 1 (rcs [⟨rk, ra, rb, rt⟩])) ?_ ?_ (fun wn13 hHeld hst hnew => ?_)
    · (exact HSB.out _ (hB.trans (Below.mono (show Below wn0.heap.size wn0 _ from by (first | exact (Below.refl _ _).alloc (Nat.le_refl _) _ | exact hb5 | exact Below.refl _ _)) hB.size)))
    · (first | exact (Below.refl _ _).alloc (Nat.le_refl _) _ | exact hb5 | exact Below.refl _ _)
    · (exact Rd.newN (rcs [⟨rk, ra, rb, rt⟩]) rfl)
    have hB := hB.trans (hst.mono hB.size)
    have h4 := hnew
    obtain ⟨g4, hg4⟩ : ∃ g, g = wn0.heap.size := ⟨_, rfl⟩
    rw [← hg4] at h4 ⊢
    clear hg4
    clear hst
    clear hK K
    try simp only [List.getElem_toArray, List.getElem_cons_zero, List.getElem_cons_succ, Act.put, List.setIfInBounds_toArray, List.set_cons_zero, List.set_cons_succ]
    refine wpAnyH_ready (rs := [2, 7]) (by kernel_rfl) (by simp) ?_
    refine AllReadyH.cons (o := _) rfl (fun K hK => ?_) ?_
    ·
      go_simp
      refine (HKY.out wn13).mono ?_
      rintro e5 w5 ⟨rfl, hb5⟩
      dsimp only
      refine outG hK ?_ (Below wn13.heap.size wn13) (fun W => True) ?_ ?_ (fun wn14 hHeld hst hnew => ?_)
      · (exact HSB.out _ (hB.trans (Below.mono (show Below wn13.heap.size wn13 _ from by (first | exact (Below.refl _ _).alloc (Nat.le_refl _) _ | exact hb5 | exact Below.refl _ _)) hB.size)))
      · (first | exact (Below.refl _ _).alloc (Nat.le_refl _) _ | exact hb5 | exact Below.refl _ _)
      · (trivial)
      have hB := hB.trans (hst.mono hB.size)
      have h4 := h4.below hst
      clear hst
      clear hK K
      try simp only [List.getElem_toArray, List.getElem_cons_zero, List.getElem_cons_succ, Act.put, List.setIfInBounds_toArray, List.set_cons_zero, List.set_cons_succ]
      refine wpAnyH_ready (rs := [5, 7]) (by kernel_rfl) (by simp) ?_
      refine AllReadyH.cons (o := _) rfl (fun K hK => ?_) ?_
      ·
        go_simp
        refine (listed_ok _ 1 1 [⟨rk, ra, rb, rt⟩] wn14 rfl (by omega) (by simp [maxLen]) (fun r hr => by rw [List.mem_singleton.1 hr]; exact HRO.out) h4).mono ?_
        rintro e5 w5 ⟨v5, rfl, ho5, hb5⟩
        obtain ⟨A5, c5, rfl, _, _⟩ := Rd.of_own' ho5
        dsimp only
        refine outG hK ?_ (Below wn14.heap.size wn14) (fun W => W.ownsRow w2.heap.size 40 3 (.slice A5 (lst [⟨rk, ra, rb, rt⟩]).length c5) (lst [⟨rk, ra, rb, rt⟩]).length (pcs (lst [⟨rk, ra, rb, rt⟩]))) ?_ ?_ (fun wn15 hHeld hst hnew => ?_)
        · (exact HSB.out _ (hB.trans (Below.mono (show Below wn14.heap.size wn14 _ from by (first | exact (Below.refl _ _).alloc (Nat.le_refl _) _ | exact hb5 | exact Below.refl _ _)) hB.size)))
        · (first | exact (Below.refl _ _).alloc (Nat.le_refl _) _ | exact hb5 | exact Below.refl _ _)
        · (exact own_lower ho5 hB.size)
        have hB := hB.trans (hst.mono hB.size)
        have hs4 := hnew
        clear hst
        clear hK K
        try simp only [List.getElem_toArray, List.getElem_cons_zero, List.getElem_cons_succ, Act.put, List.setIfInBounds_toArray, List.set_cons_zero, List.set_cons_succ]
        refine wpAnyH_take (i := 6) (oi := _) (v := ?_) rfl (by kernel_rfl) (by kernel_rfl) (by kernel_rfl) (fun _ _ _ h => h) (Or.inl ⟨by rfl, ?_⟩) (by assumption) ?_
        rotate_left
        · (intro w hSw; (try dsimp only at hSw); go_simp; try (with_reducible rfl))
        try simp only [List.getElem_toArray, List.getElem_cons_zero, List.getElem_cons_succ, Act.put, List.setIfInBounds_toArray, List.set_cons_zero, List.set_cons_succ]
        refine wpAnyH_ready (rs := [7]) (by kernel_rfl) (by simp) ?_
        refine AllReadyH.cons (o := _) rfl (fun K hK => ?_) ?_
        ·
          go_simp
          refine outG hK ?_ (Below wn15.heap.size wn15) (fun W => Arr W wn15.heap.size 53 [.string ByteArray.empty, .slice none 0 0, .int .i64 0, .int .i64 0] ∧ w2.heap.size ≤ wn15.heap.size) ?_ ?_ (fun wn16 hHeld hst hnew => ?_)
          · (exact HSB.out _ (hB.trans (Below.mono (show Below wn15.heap.size wn15 _ from by (first | exact (Below.refl _ _).alloc (Nat.le_refl _) _ | exact hb5 | exact Below.refl _ _)) hB.size)))
          · (first | exact (Below.refl _ _).alloc (Nat.le_refl _) _ | exact hb5 | exact Below.refl _ _)
          · (exact ⟨Arr.new _ _ _, hB.size⟩)
          have hB := hB.trans (hst.mono hB.size)
          have hs4 := own_below hs4 hst
          obtain ⟨h13, hl13⟩ := hnew
          have e13 : ∃ g, g = wn15.heap.size := ⟨_, rfl⟩
          obtain ⟨g11, hg11⟩ := e13
          rw [← hg11] at h13 hl13 ⊢
          clear hg11
          clear hst
          clear hK K
          try simp only [List.getElem_toArray, List.getElem_cons_zero, List.getElem_cons_succ, Act.put, List.setIfInBounds_toArray, List.set_cons_zero, List.set_cons_succ]
          refine wpAnyH_ready (rs := [8]) (by kernel_rfl) (by simp) ?_
          refine AllReadyH.cons (o := _) rfl (fun K hK => ?_) ?_
          ·
            have z0 := h13.cell (k := 0) rfl
            have z1 := h13.cell (k := 1) rfl
            have z2 := h13.cell (k := 2) rfl
            have z3 := h13.cell (k := 3) rfl
            have f0 := h13.frozen 0
            have f1 := h13.frozen 1
            have f2 := h13.frozen 2
            have f3 := h13.frozen 3
            go_simp
            clear z0 z1 z2 z3 f0 f1 f2 f3
            have hne4 := own_ne hs4 h13 (by decide)
            refine outG hK ?_ (fun W => Arr W g11 53 [.string sk, .slice A5 (lst [⟨rk, ra, rb, rt⟩]).length c5, .int .i64 0, .int .i64 9]) (fun W => Below w2.heap.size w2 W ∧ W.ownsRow w2.heap.size 40 3 (.slice A5 (lst [⟨rk, ra, rb, rt⟩]).length c5) (lst [⟨rk, ra, rb, rt⟩]).length (pcs (lst [⟨rk, ra, rb, rt⟩]))) ?_ ?_ (fun wn17 hHeld hF hG => ?_)
            · exact HSB.out _ ((((hB.setCell (p := ⟨g11, 0, none⟩) hl13 _).setCell (p := ⟨g11, 1, none⟩) hl13 _).setCell (p := ⟨g11, 2, none⟩) hl13 _).setCell (p := ⟨g11, 3, none⟩) hl13 _)
            · exact h13.all4 _ _ _ _
            · exact ⟨(((hB.setCell (p := ⟨g11, 0, none⟩) hl13 _).setCell (p := ⟨g11, 1, none⟩) hl13 _).setCell (p := ⟨g11, 2, none⟩) hl13 _).setCell (p := ⟨g11, 3, none⟩) hl13 _, own_other (own_other (own_other (own_other hs4 hne4) hne4) hne4) hne4⟩
            obtain ⟨hb5, hs5⟩ := hG
            have h5 := hF
            clear hK K
            try simp only [List.getElem_toArray, List.getElem_cons_zero, List.getElem_cons_succ, Act.put, List.setIfInBounds_toArray, List.set_cons_zero, List.set_cons_succ]
            refine wpAnyH_done (by kernel_rfl) ?_ _
            dsimp only [Exit.then]
            clear hHeld hF hB
            have hall := And.intro hb5 (And.intro hs5 h5)
            generalize wn17 = w5 at hall ⊢
            generalize g11 = g5 at hall ⊢
            generalize A5 = A6 at hall ⊢
            generalize c5 = c6 at hall ⊢
            generalize g4 = g6
            revert w5 g5 A6 c6 g6
            exact REST.out
          exact AllReadyH.nil
        exact AllReadyH.nil
      refine AllReadyH.cons (o := _) rfl (fun K hK => ?_) ?_
      ·
        go_simp
        refine outG hK ?_ (Below wn14.heap.size wn14) (fun W => Arr W wn14.heap.size 53 [.string ByteArray.empty, .slice none 0 0, .int .i64 0, .int .i64 0] ∧ w2.heap.size ≤ wn14.heap.size) ?_ ?_ (fun wn18 hHeld hst hnew => ?_)
        · (exact HSB.out _ (hB.trans (Below.mono (show Below wn14.heap.size wn14 _ from by (first | exact (Below.refl _ _).alloc (Nat.le_refl _) _ | exact hb5 | exact Below.refl _ _)) hB.size)))
        · (first | exact (Below.refl _ _).alloc (Nat.le_refl _) _ | exact hb5 | exact Below.refl _ _)
        · (exact ⟨Arr.new _ _ _, hB.size⟩)
        have hB := hB.trans (hst.mono hB.size)
        have h4 := h4.below hst
        obtain ⟨h13, hl13⟩ := hnew
        have e13 : ∃ g, g = wn14.heap.size := ⟨_, rfl⟩
        obtain ⟨g11, hg11⟩ := e13
        rw [← hg11] at h13 hl13 ⊢
        clear hg11
        clear hst
        clear hK K
        try simp only [List.getElem_toArray, List.getElem_cons_zero, List.getElem_cons_succ, Act.put, List.setIfInBounds_toArray, List.set_cons_zero, List.set_cons_succ]
        refine wpAnyH_ready (rs := [5]) (by kernel_rfl) (by simp) ?_
        refine AllReadyH.cons (o := _) rfl (fun K hK => ?_) ?_
        ·
          go_simp
          refine (listed_ok _ 1 1 [⟨rk, ra, rb, rt⟩] wn18 rfl (by omega) (by simp [maxLen]) (fun r hr => by rw [List.mem_singleton.1 hr]; exact HRO.out) h4).mono ?_
          rintro e5 w5 ⟨v5, rfl, ho5, hb5⟩
          obtain ⟨A5, c5, rfl, _, _⟩ := Rd.of_own' ho5
          dsimp only
          refine outG hK ?_ (Below wn18.heap.size wn18) (fun W => W.ownsRow w2.heap.size 40 3 (.slice A5 (lst [⟨rk, ra, rb, rt⟩]).length c5) (lst [⟨rk, ra, rb, rt⟩]).length (pcs (lst [⟨rk, ra, rb, rt⟩]))) ?_ ?_ (fun wn19 hHeld hst hnew => ?_)
          · (exact HSB.out _ (hB.trans (Below.mono (show Below wn18.heap.size wn18 _ from by (first | exact (Below.refl _ _).alloc (Nat.le_refl _) _ | exact hb5 | exact Below.refl _ _)) hB.size)))
          · (first | exact (Below.refl _ _).alloc (Nat.le_refl _) _ | exact hb5 | exact Below.refl _ _)
          · (exact own_lower ho5 hB.size)
          have hB := hB.trans (hst.mono hB.size)
          have h13 := h13.below hst
          have hs4 := hnew
          clear hst
          clear hK K
          try simp only [List.getElem_toArray, List.getElem_cons_zero, List.getElem_cons_succ, Act.put, List.setIfInBounds_toArray, List.set_cons_zero, List.set_cons_succ]
          refine wpAnyH_take (i := 6) (oi := _) (v := ?_) rfl (by kernel_rfl) (by kernel_rfl) (by kernel_rfl) (fun _ _ _ h => h) (Or.inl ⟨by rfl, ?_⟩) (by assumption) ?_
          rotate_left
          · (intro w hSw; (try dsimp only at hSw); go_simp; try (with_reducible rfl))
          try simp only [List.getElem_toArray, List.getElem_cons_zero, List.getElem_cons_succ, Act.put, List.setIfInBounds_toArray, List.set_cons_zero, List.set_cons_succ]
          refine wpAnyH_ready (rs := [8]) (by kernel_rfl) (by simp) ?_
          refine AllReadyH.cons (o := _) rfl (fun K hK => ?_) ?_
          ·
            have z0 := h13.cell (k := 0) rfl
            have z1 := h13.cell (k := 1) rfl
            have z2 := h13.cell (k := 2) rfl
            have z3 := h13.cell (k := 3) rfl
            have f0 := h13.frozen 0
            have f1 := h13.frozen 1
            have f2 := h13.frozen 2
            have f3 := h13.frozen 3
            go_simp
            clear z0 z1 z2 z3 f0 f1 f2 f3
            have hne4 := own_ne hs4 h13 (by decide)
            refine outG hK ?_ (fun W => Arr W g11 53 [.string sk, .slice A5 (lst [⟨rk, ra, rb, rt⟩]).length c5, .int .i64 0, .int .i64 9]) (fun W => Below w2.heap.size w2 W ∧ W.ownsRow w2.heap.size 40 3 (.slice A5 (lst [⟨rk, ra, rb, rt⟩]).length c5) (lst [⟨rk, ra, rb, rt⟩]).length (pcs (lst [⟨rk, ra, rb, rt⟩]))) ?_ ?_ (fun wn20 hHeld hF hG => ?_)
            · exact HSB.out _ ((((hB.setCell (p := ⟨g11, 0, none⟩) hl13 _).setCell (p := ⟨g11, 1, none⟩) hl13 _).setCell (p := ⟨g11, 2, none⟩) hl13 _).setCell (p := ⟨g11, 3, none⟩) hl13 _)
            · exact h13.all4 _ _ _ _
            · exact ⟨(((hB.setCell (p := ⟨g11, 0, none⟩) hl13 _).setCell (p := ⟨g11, 1, none⟩) hl13 _).setCell (p := ⟨g11, 2, none⟩) hl13 _).setCell (p := ⟨g11, 3, none⟩) hl13 _, own_other (own_other (own_other (own_other hs4 hne4) hne4) hne4) hne4⟩
            obtain ⟨hb5, hs5⟩ := hG
            have h5 := hF
            clear hK K
            try simp only [List.getElem_toArray, List.getElem_cons_zero, List.getElem_cons_succ, Act.put, List.setIfInBounds_toArray, List.set_cons_zero, List.set_cons_succ]
            refine wpAnyH_done (by kernel_rfl) ?_ _
            dsimp only [Exit.then]
            clear hHeld hF hB
            have hall := And.intro hb5 (And.intro hs5 h5)
            generalize wn20 = w5 at hall ⊢
            generalize g11 = g5 at hall ⊢
            generalize A5 = A6 at hall ⊢
            generalize c5 = c6 at hall ⊢
            generalize g4 = g6
            revert w5 g5 A6 c6 g6
            exact REST.out
          exact AllReadyH.nil
        exact AllReadyH.nil
      exact AllReadyH.nil
    refine AllReadyH.cons (o := _) rfl (fun K hK => ?_) ?_
    ·
      go_simp
      refine outG hK ?_ (Below wn13.heap.size wn13) (fun W => Arr W wn13.heap.size 53 [.string ByteArray.empty, .slice none 0 0, .int .i64 0, .int .i64 0] ∧ w2.heap.size ≤ wn13.heap.size) ?_ ?_ (fun wn21 hHeld hst hnew => ?_)
      · (exact HSB.out _ (hB.trans (Below.mono (show Below wn13.heap.size wn13 _ from by (first | exact (Below.refl _ _).alloc (Nat.le_refl _) _ | exact hb5 | exact Below.refl _ _)) hB.size)))
      · (first | exact (Below.refl _ _).alloc (Nat.le_refl _) _ | exact hb5 | exact Below.refl _ _)
      · (exact ⟨Arr.new _ _ _, hB.size⟩)
      have hB := hB.trans (hst.mono hB.size)
      have h4 := h4.below hst
      obtain ⟨h13, hl13⟩ := hnew
      have e13 : ∃ g, g = wn13.heap.size := ⟨_, rfl⟩
      obtain ⟨g11, hg11⟩ := e13
      rw [← hg11] at h13 hl13 ⊢
      clear hg11
      clear hst
      clear hK K
      try simp only [List.getElem_toArray, List.getElem_cons_zero, List.getElem_cons_succ, Act.put, List.setIfInBounds_toArray, List.set_cons_zero, List.set_cons_succ]
      refine wpAnyH_ready (rs := [2]) (by kernel_rfl) (by simp) ?_
      refine AllReadyH.cons (o := _) rfl (fun K hK => ?_) ?_
      ·
        go_simp
        refine (HKY.out wn21).mono ?_
        rintro e5 w5 ⟨rfl, hb5⟩
        dsimp only
        refine outG hK ?_ (Below wn21.heap.size wn21) (fun W => True) ?_ ?_ (fun wn22 hHeld hst hnew => ?_)
        · (exact HSB.out _ (hB.trans (Below.mono (show Below wn21.heap.size wn21 _ from by (first | exact (Below.refl _ _).alloc (Nat.le_refl _) _ | exact hb5 | exact Below.refl _ _)) hB.size)))
        · (first | exact (Below.refl _ _).alloc (Nat.le_refl _) _ | exact hb5 | exact Below.refl _ _)
        · (trivial)
        have hB := hB.trans (hst.mono hB.size)
        have h4 := h4.below hst
        have h13 := h13.below hst
        clear hst
        clear hK K
        try simp only [List.getElem_toArray, List.getElem_cons_zero, List.getElem_cons_succ, Act.put, List.setIfInBounds_toArray, List.set_cons_zero, List.set_cons_succ]
        refine wpAnyH_ready (rs := [5]) (by kernel_rfl) (by simp) ?_
        refine AllReadyH.cons (o := _) rfl (fun K hK => ?_) ?_
        ·
          go_simp
          refine (listed_ok _ 1 1 [⟨rk, ra, rb, rt⟩] wn22 rfl (by omega) (by simp [maxLen]) (fun r hr => by rw [List.mem_singleton.1 hr]; exact HRO.out) h4).mono ?_
          rintro e5 w5 ⟨v5, rfl, ho5, hb5⟩
          obtain ⟨A5, c5, rfl, _, _⟩ := Rd.of_own' ho5
          dsimp only
          refine outG hK ?_ (Below wn22.heap.size wn22) (fun W => W.ownsRow w2.heap.size 40 3 (.slice A5 (lst [⟨rk, ra, rb, rt⟩]).length c5) (lst [⟨rk, ra, rb, rt⟩]).length (pcs (lst [⟨rk, ra, rb, rt⟩]))) ?_ ?_ (fun wn23 hHeld hst hnew => ?_)
          · (exact HSB.out _ (hB.trans (Below.mono (show Below wn22.heap.size wn22 _ from by (first | exact (Below.refl _ _).alloc (Nat.le_refl _) _ | exact hb5 | exact Below.refl _ _)) hB.size)))
          · (first | exact (Below.refl _ _).alloc (Nat.le_refl _) _ | exact hb5 | exact Below.refl _ _)
          · (exact own_lower ho5 hB.size)
          have hB := hB.trans (hst.mono hB.size)
          have h13 := h13.below hst
          have hs4 := hnew
          clear hst
          clear hK K
          try simp only [List.getElem_toArray, List.getElem_cons_zero, List.getElem_cons_succ, Act.put, List.setIfInBounds_toArray, List.set_cons_zero, List.set_cons_succ]
          refine wpAnyH_take (i := 6) (oi := _) (v := ?_) rfl (by kernel_rfl) (by kernel_rfl) (by kernel_rfl) (fun _ _ _ h => h) (Or.inl ⟨by rfl, ?_⟩) (by assumption) ?_
          rotate_left
          · (intro w hSw; (try dsimp only at hSw); go_simp; try (with_reducible rfl))
          try simp only [List.getElem_toArray, List.getElem_cons_zero, List.getElem_cons_succ, Act.put, List.setIfInBounds_toArray, List.set_cons_zero, List.set_cons_succ]
          refine wpAnyH_ready (rs := [8]) (by kernel_rfl) (by simp) ?_
          refine AllReadyH.cons (o := _) rfl (fun K hK => ?_) ?_
          ·
            have z0 := h13.cell (k := 0) rfl
            have z1 := h13.cell (k := 1) rfl
            have z2 := h13.cell (k := 2) rfl
            have z3 := h13.cell (k := 3) rfl
            have f0 := h13.frozen 0
            have f1 := h13.frozen 1
            have f2 := h13.frozen 2
            have f3 := h13.frozen 3
            go_simp
            clear z0 z1 z2 z3 f0 f1 f2 f3
            have hne4 := own_ne hs4 h13 (by decide)
            refine outG hK ?_ (fun W => Arr W g11 53 [.string sk, .slice A5 (lst [⟨rk, ra, rb, rt⟩]).length c5, .int .i64 0, .int .i64 9]) (fun W => Below w2.heap.size w2 W ∧ W.ownsRow w2.heap.size 40 3 (.slice A5 (lst [⟨rk, ra, rb, rt⟩]).length c5) (lst [⟨rk, ra, rb, rt⟩]).length (pcs (lst [⟨rk, ra, rb, rt⟩]))) ?_ ?_ (fun wn24 hHeld hF hG => ?_)
            · exact HSB.out _ ((((hB.setCell (p := ⟨g11, 0, none⟩) hl13 _).setCell (p := ⟨g11, 1, none⟩) hl13 _).setCell (p := ⟨g11, 2, none⟩) hl13 _).setCell (p := ⟨g11, 3, none⟩) hl13 _)
            · exact h13.all4 _ _ _ _
            · exact ⟨(((hB.setCell (p := ⟨g11, 0, none⟩) hl13 _).setCell (p := ⟨g11, 1, none⟩) hl13 _).setCell (p := ⟨g11, 2, none⟩) hl13 _).setCell (p := ⟨g11, 3, none⟩) hl13 _, own_other (own_other (own_other (own_other hs4 hne4) hne4) hne4) hne4⟩
            obtain ⟨hb5, hs5⟩ := hG
            have h5 := hF
            clear hK K
            try simp only [List.getElem_toArray, List.getElem_cons_zero, List.getElem_cons_succ, Act.put, List.setIfInBounds_toArray, List.set_cons_zero, List.set_cons_succ]
            refine wpAnyH_done (by kernel_rfl) ?_ _
            dsimp only [Exit.then]
            clear hHeld hF hB
            have hall := And.intro hb5 (And.intro hs5 h5)
            generalize wn24 = w5 at hall ⊢
            generalize g11 = g5 at hall ⊢
            generalize A5 = A6 at hall ⊢
            generalize c5 = c6 at hall ⊢
            generalize g4 = g6
            revert w5 g5 A6 c6 g6
            exact REST.out
          exact AllReadyH.nil
        exact AllReadyH.nil
      exact AllReadyH.nil
    exact AllReadyH.nil
  refine AllReadyH.cons (o := _) rfl (fun K hK => ?_) ?_
  ·
    go_simp
    refine outG hK ?_ (Below wn0.heap.size wn0) (fun W => Arr W wn0.heap.size 53 [.string ByteArray.empty, .slice none 0 0, .int .i64 0, .int .i64 0] ∧ w2.heap.size ≤ wn0.heap.size) ?_ ?_ (fun wn25 hHeld hst hnew => ?_)
    · (exact HSB.out _ (hB.trans (Below.mono (show Below wn0.heap.size wn0 _ from by (first | exact (Below.refl _ _).alloc (Nat.le_refl _) _ | exact hb5 | exact Below.refl _ _)) hB.size)))
    · (first | exact (Below.refl _ _).alloc (Nat.le_refl _) _ | exact hb5 | exact Below.refl _ _)
    · (exact ⟨Arr.new _ _ _, hB.size⟩)
    have hB := hB.trans (hst.mono hB.size)
    obtain ⟨h13, hl13⟩ := hnew
    have e13 : ∃ g, g = wn0.heap.size := ⟨_, rfl⟩
    obtain ⟨g11, hg11⟩ := e13
    rw [← hg11] at h13 hl13 ⊢
    clear hg11
    clear hst
    clear hK K
    try simp only [List.getElem_toArray, List.getElem_cons_zero, List.getElem_cons_succ, Act.put, List.setIfInBounds_toArray, List.set_cons_zero, List.set_cons_succ]
    refine wpAnyH_ready (rs := [2, 4]) (by kernel_rfl) (by simp) ?_
    refine AllReadyH.cons (o := _) rfl (fun K hK => ?_) ?_
    ·
      go_simp
      refine (HKY.out wn25).mono ?_
      rintro e5 w5 ⟨rfl, hb5⟩
      dsimp only
      refine outG hK ?_ (Below wn25.heap.size wn25) (fun W => True) ?_ ?_ (fun wn26 hHeld hst hnew => ?_)
      · (exact HSB.out _ (hB.trans (Below.mono (show Below wn25.heap.size wn25 _ from by (first | exact (Below.refl _ _).alloc (Nat.le_refl _) _ | exact hb5 | exact Below.refl _ _)) hB.size)))
      · (first | exact (Below.refl _ _).alloc (Nat.le_refl _) _ | exact hb5 | exact Below.refl _ _)
      · (trivial)
      have hB := hB.trans (hst.mono hB.size)
      have h13 := h13.below hst
      clear hst
      clear hK K
      try simp only [List.getElem_toArray, List.getElem_cons_zero, List.getElem_cons_succ, Act.put, List.setIfInBounds_toArray, List.set_cons_zero, List.set_cons_succ]
      refine wpAnyH_ready (rs := [4]) (by kernel_rfl) (by simp) ?_
      refine AllReadyH.cons (o := _) rfl (fun K hK => ?_) ?_
      ·
        go_simp
        refine outG hK ?_ (Below wn26.heap.size wn26) (fun W => Rd W 4 (some ⟨wn26.heap.size, 0, none⟩) 1 (rcs [⟨rk, ra, rb, rt⟩])) ?_ ?_ (fun wn27 hHeld hst hnew => ?_)
        · (exact HSB.out _ (hB.trans (Below.mono (show Below wn26.heap.size wn26 _ from by (first | exact (Below.refl _ _).alloc (Nat.le_refl _) _ | exact hb5 | exact Below.refl _ _)) hB.size)))
        · (first | exact (Below.refl _ _).alloc (Nat.le_refl _) _ | exact hb5 | exact Below.refl _ _)
        · (exact Rd.newN (rcs [⟨rk, ra, rb, rt⟩]) rfl)
        have hB := hB.trans (hst.mono hB.size)
        have h13 := h13.below hst
        have h4 := hnew
        obtain ⟨g4, hg4⟩ : ∃ g, g = wn26.heap.size := ⟨_, rfl⟩
        rw [← hg4] at h4 ⊢
        clear hg4
        clear hst
        clear hK K
        try simp only [List.getElem_toArray, List.getElem_cons_zero, List.getElem_cons_succ, Act.put, List.setIfInBounds_toArray, List.set_cons_zero, List.set_cons_succ]
        refine wpAnyH_ready (rs := [5]) (by kernel_rfl) (by simp) ?_
        refine AllReadyH.cons (o := _) rfl (fun K hK => ?_) ?_
        ·
          go_simp
          refine (listed_ok _ 1 1 [⟨rk, ra, rb, rt⟩] wn27 rfl (by omega) (by simp [maxLen]) (fun r hr => by rw [List.mem_singleton.1 hr]; exact HRO.out) h4).mono ?_
          rintro e5 w5 ⟨v5, rfl, ho5, hb5⟩
          obtain ⟨A5, c5, rfl, _, _⟩ := Rd.of_own' ho5
          dsimp only
          refine outG hK ?_ (Below wn27.heap.size wn27) (fun W => W.ownsRow w2.heap.size 40 3 (.slice A5 (lst [⟨rk, ra, rb, rt⟩]).length c5) (lst [⟨rk, ra, rb, rt⟩]).length (pcs (lst [⟨rk, ra, rb, rt⟩]))) ?_ ?_ (fun wn28 hHeld hst hnew => ?_)
          · (exact HSB.out _ (hB.trans (Below.mono (show Below wn27.heap.size wn27 _ from by (first | exact (Below.refl _ _).alloc (Nat.le_refl _) _ | exact hb5 | exact Below.refl _ _)) hB.size)))
          · (first | exact (Below.refl _ _).alloc (Nat.le_refl _) _ | exact hb5 | exact Below.refl _ _)
          · (exact own_lower ho5 hB.size)
          have hB := hB.trans (hst.mono hB.size)
          have h13 := h13.below hst
          have hs4 := hnew
          clear hst
          clear hK K
          try simp only [List.getElem_toArray, List.getElem_cons_zero, List.getElem_cons_succ, Act.put, List.setIfInBounds_toArray, List.set_cons_zero, List.set_cons_succ]
          refine wpAnyH_take (i := 6) (oi := _) (v := ?_) rfl (by kernel_rfl) (by kernel_rfl) (by kernel_rfl) (fun _ _ _ h => h) (Or.inl ⟨by rfl, ?_⟩) (by assumption) ?_
          rotate_left
          · (intro w hSw; (try dsimp only at hSw); go_simp; try (with_reducible rfl))
          try simp only [List.getElem_toArray, List.getElem_cons_zero, List.getElem_cons_succ, Act.put, List.setIfInBounds_toArray, List.set_cons_zero, List.set_cons_succ]
          refine wpAnyH_ready (rs := [8]) (by kernel_rfl) (by simp) ?_
          refine AllReadyH.cons (o := _) rfl (fun K hK => ?_) ?_
          ·
            have z0 := h13.cell (k := 0) rfl
            have z1 := h13.cell (k := 1) rfl
            have z2 := h13.cell (k := 2) rfl
            have z3 := h13.cell (k := 3) rfl
            have f0 := h13.frozen 0
            have f1 := h13.frozen 1
            have f2 := h13.frozen 2
            have f3 := h13.frozen 3
            go_simp
            clear z0 z1 z2 z3 f0 f1 f2 f3
            have hne4 := own_ne hs4 h13 (by decide)
            refine outG hK ?_ (fun W => Arr W g11 53 [.string sk, .slice A5 (lst [⟨rk, ra, rb, rt⟩]).length c5, .int .i64 0, .int .i64 9]) (fun W => Below w2.heap.size w2 W ∧ W.ownsRow w2.heap.size 40 3 (.slice A5 (lst [⟨rk, ra, rb, rt⟩]).length c5) (lst [⟨rk, ra, rb, rt⟩]).length (pcs (lst [⟨rk, ra, rb, rt⟩]))) ?_ ?_ (fun wn29 hHeld hF hG => ?_)
            · exact HSB.out _ ((((hB.setCell (p := ⟨g11, 0, none⟩) hl13 _).setCell (p := ⟨g11, 1, none⟩) hl13 _).setCell (p := ⟨g11, 2, none⟩) hl13 _).setCell (p := ⟨g11, 3, none⟩) hl13 _)
            · exact h13.all4 _ _ _ _
            · exact ⟨(((hB.setCell (p := ⟨g11, 0, none⟩) hl13 _).setCell (p := ⟨g11, 1, none⟩) hl13 _).setCell (p := ⟨g11, 2, none⟩) hl13 _).setCell (p := ⟨g11, 3, none⟩) hl13 _, own_other (own_other (own_other (own_other hs4 hne4) hne4) hne4) hne4⟩
            obtain ⟨hb5, hs5⟩ := hG
            have h5 := hF
            clear hK K
            try simp only [List.getElem_toArray, List.getElem_cons_zero, List.getElem_cons_succ, Act.put, List.setIfInBounds_toArray, List.set_cons_zero, List.set_cons_succ]
            refine wpAnyH_done (by kernel_rfl) ?_ _
            dsimp only [Exit.then]
            clear hHeld hF hB
            have hall := And.intro hb5 (And.intro hs5 h5)
            generalize wn29 = w5 at hall ⊢
            generalize g11 = g5 at hall ⊢
            generalize A5 = A6 at hall ⊢
            generalize c5 = c6 at hall ⊢
            generalize g4 = g6
            revert w5 g5 A6 c6 g6
            exact REST.out
          exact AllReadyH.nil
        exact AllReadyH.nil
      exact AllReadyH.nil
    refine AllReadyH.cons (o := _) rfl (fun K hK => ?_) ?_
    ·
      go_simp
      refine outG hK ?_ (Below wn25.heap.size wn25) (fun W => Rd W 4 (some ⟨wn25.heap.size, 0, none⟩) 1 (rcs [⟨rk, ra, rb, rt⟩])) ?_ ?_ (fun wn30 hHeld hst hnew => ?_)
      · (exact HSB.out _ (hB.trans (Below.mono (show Below wn25.heap.size wn25 _ from by (first | exact (Below.refl _ _).alloc (Nat.le_refl _) _ | exact hb5 | exact Below.refl _ _)) hB.size)))
      · (first | exact (Below.refl _ _).alloc (Nat.le_refl _) _ | exact hb5 | exact Below.refl _ _)
      · (exact Rd.newN (rcs [⟨rk, ra, rb, rt⟩]) rfl)
      have hB := hB.trans (hst.mono hB.size)
      have h13 := h13.below hst
      have h4 := hnew
      obtain ⟨g4, hg4⟩ : ∃ g, g = wn25.heap.size := ⟨_, rfl⟩
      rw [← hg4] at h4 ⊢
      clear hg4
      clear hst
      clear hK K
      try simp only [List.getElem_toArray, List.getElem_cons_zero, List.getElem_cons_succ, Act.put, List.setIfInBounds_toArray, List.set_cons_zero, List.set_cons_succ]
      refine wpAnyH_ready (rs := [2]) (by kernel_rfl) (by simp) ?_
      refine AllReadyH.cons (o := _) rfl (fun K hK => ?_) ?_
      ·
        go_simp
        refine (HKY.out wn30).mono ?_
        rintro e5 w5 ⟨rfl, hb5⟩
        dsimp only
        refine outG hK ?_ (Below wn30.heap.size wn30) (fun W => True) ?_ ?_ (fun wn31 hHeld hst hnew => ?_)
        · (exact HSB.out _ (hB.trans (Below.mono (show Below wn30.heap.size wn30 _ from by (first | exact (Below.refl _ _).alloc (Nat.le_refl _) _ | exact hb5 | exact Below.refl _ _)) hB.size)))
        · (first | exact (Below.refl _ _).alloc (Nat.le_refl _) _ | exact hb5 | exact Below.refl _ _)
        · (trivial)
        have hB := hB.trans (hst.mono hB.size)
        have h4 := h4.below hst
        have h13 := h13.below hst
        clear hst
        clear hK K
        try simp only [List.getElem_toArray, List.getElem_cons_zero, List.getElem_cons_succ, Act.put, List.setIfInBounds_toArray, List.set_cons_zero, List.set_cons_succ]
        refine wpAnyH_ready (rs := [5]) (by kernel_rfl) (by simp) ?_
        refine AllReadyH.cons (o := _) rfl (fun K hK => ?_) ?_
        ·
          go_simp
          refine (listed_ok _ 1 1 [⟨rk, ra, rb, rt⟩] wn31 rfl (by omega) (by simp [maxLen]) (fun r hr => by rw [List.mem_singleton.1 hr]; exact HRO.out) h4).mono ?_
          rintro e5 w5 ⟨v5, rfl, ho5, hb5⟩
          obtain ⟨A5, c5, rfl, _, _⟩ := Rd.of_own' ho5
          dsimp only
          refine outG hK ?_ (Below wn31.heap.size wn31) (fun W => W.ownsRow w2.heap.size 40 3 (.slice A5 (lst [⟨rk, ra, rb, rt⟩]).length c5) (lst [⟨rk, ra, rb, rt⟩]).length (pcs (lst [⟨rk, ra, rb, rt⟩]))) ?_ ?_ (fun wn32 hHeld hst hnew => ?_)
          · (exact HSB.out _ (hB.trans (Below.mono (show Below wn31.heap.size wn31 _ from by (first | exact (Below.refl _ _).alloc (Nat.le_refl _) _ | exact hb5 | exact Below.refl _ _)) hB.size)))
          · (first | exact (Below.refl _ _).alloc (Nat.le_refl _) _ | exact hb5 | exact Below.refl _ _)
          · (exact own_lower ho5 hB.size)
          have hB := hB.trans (hst.mono hB.size)
          have h13 := h13.below hst
          have hs4 := hnew
          clear hst
          clear hK K
          try simp only [List.getElem_toArray, List.getElem_cons_zero, List.getElem_cons_succ, Act.put, List.setIfInBounds_toArray, List.set_cons_zero, List.set_cons_succ]
          refine wpAnyH_take (i := 6) (oi := _) (v := ?_) rfl (by kernel_rfl) (by kernel_rfl) (by kernel_rfl) (fun _ _ _ h => h) (Or.inl ⟨by rfl, ?_⟩) (by assumption) ?_
          rotate_left
          · (intro w hSw; (try dsimp only at hSw); go_simp; try (with_reducible rfl))
          try simp only [List.getElem_toArray, List.getElem_cons_zero, List.getElem_cons_succ, Act.put, List.setIfInBounds_toArray, List.set_cons_zero, List.set_cons_succ]
          refine wpAnyH_ready (rs := [8]) (by kernel_rfl) (by simp) ?_
          refine AllReadyH.cons (o := _) rfl (fun K hK => ?_) ?_
          ·
            have z0 := h13.cell (k := 0) rfl
            have z1 := h13.cell (k := 1) rfl
            have z2 := h13.cell (k := 2) rfl
            have z3 := h13.cell (k := 3) rfl
            have f0 := h13.frozen 0
            have f1 := h13.frozen 1
            have f2 := h13.frozen 2
            have f3 := h13.frozen 3
            go_simp
            clear z0 z1 z2 z3 f0 f1 f2 f3
            have hne4 := own_ne hs4 h13 (by decide)
            refine outG hK ?_ (fun W => Arr W g11 53 [.string sk, .slice A5 (lst [⟨rk, ra, rb, rt⟩]).length c5, .int .i64 0, .int .i64 9]) (fun W => Below w2.heap.size w2 W ∧ W.ownsRow w2.heap.size 40 3 (.slice A5 (lst [⟨rk, ra, rb, rt⟩]).length c5) (lst [⟨rk, ra, rb, rt⟩]).length (pcs (lst [⟨rk, ra, rb, rt⟩]))) ?_ ?_ (fun wn33 hHeld hF hG => ?_)
            · exact HSB.out _ ((((hB.setCell (p := ⟨g11, 0, none⟩) hl13 _).setCell (p := ⟨g11, 1, none⟩) hl13 _).setCell (p := ⟨g11, 2, none⟩) hl13 _).setCell (p := ⟨g11, 3, none⟩) hl13 _)
            · exact h13.all4 _ _ _ _
            · exact ⟨(((hB.setCell (p := ⟨g11, 0, none⟩) hl13 _).setCell (p := ⟨g11, 1, none⟩) hl13 _).setCell (p := ⟨g11, 2, none⟩) hl13 _).setCell (p := ⟨g11, 3, none⟩) hl13 _, own_other (own_other (own_other (own_other hs4 hne4) hne4) hne4) hne4⟩
            obtain ⟨hb5, hs5⟩ := hG
            have h5 := hF
            clear hK K
            try simp only [List.getElem_toArray, List.getElem_cons_zero, List.getElem_cons_succ, Act.put, List.setIfInBounds_toArray, List.set_cons_zero, List.set_cons_succ]
            refine wpAnyH_done (by kernel_rfl) ?_ _
            dsimp only [Exit.then]
            clear hHeld hF hB
            have hall := And.intro hb5 (And.intro hs5 h5)
            generalize wn33 = w5 at hall ⊢
            generalize g11 = g5 at hall ⊢
            generalize A5 = A6 at hall ⊢
            generalize c5 = c6 at hall ⊢
            generalize g4 = g6
            revert w5 g5 A6 c6 g6
            exact REST.out
          exact AllReadyH.nil
        exact AllReadyH.nil
      exact AllReadyH.nil
    exact AllReadyH.nil
  exact AllReadyH.nil
  --HELDEND2
  clear HSB HKY
  intro w5 g5 A5 c5 hall g6
  obtain ⟨hb5, hs5, h5⟩ := hall
  have hchk := chk_lst [⟨rk, ra, rb, rt⟩]
  generalize lst [⟨rk, ra, rb, rt⟩] = ps at *
  have hgx : GoodE1 ⟨keyS (pk ra 7), ps, 0, 9⟩ := ⟨hexC_sha _, hchk, by show 0 ≤ 5; omega, by show 9 ≤ 1099511627776; omega⟩
  have hpl : ps.length ≤ 8 := (chk_zero hchk).1
  generalize keyS (pk ra 7) = K at *
  have HGP := Lib.hid (putE_good HGE.out hgx (by omega))
  obtain ⟨i1, hi1, hf1, hz1⟩ : ∃ i, ∃ h : i < (putE el ⟨K, ps, 0, 9⟩).length, (putE el ⟨K, ps, 0, 9⟩).findIdx? (fun y => y.key == K) = some i ∧ (putE el ⟨K, ps, 0, 9⟩)[i].parts = ps ∧ (putE el ⟨K, ps, 0, 9⟩)[i].stamp = 9 := by
    obtain ⟨z, hz, e1, e2, e3⟩ := putE_new (l := el) (x := ⟨K, ps, 0, 9⟩)
    obtain ⟨i, hi, h1, h2⟩ := find_mem HGP.out.ris hz
    rw [e1] at h1
    exact ⟨i, hi, h1, by rw [h2]; exact e2, by rw [h2]; exact e3⟩
  have HOLD := Lib.hid (show ∀ y ∈ el, ∃ k, ∃ h : k < (putE el ⟨K, ps, 0, 9⟩).length, (putE el ⟨K, ps, 0, 9⟩).findIdx? (fun z => z.key == y.key) = some k ∧ (putE el ⟨K, ps, 0, 9⟩)[k].pins = y.pins ∧ (y.key ≠ K → (putE el ⟨K, ps, 0, 9⟩)[k] = y) from fun y hy => by
    obtain ⟨z, hz, e1, e2, e3⟩ := putE_old (x := ⟨K, ps, 0, 9⟩) HGE.out.ris hy
    obtain ⟨i, hi, h1, h2⟩ := find_mem HGP.out.ris hz
    rw [e1] at h1
    exact ⟨i, hi, h1, by rw [h2]; exact e2, fun h => by rw [h2]; exact e3 h⟩)
  have HF1 := Lib.hid (And.intro hf1 hz1)
  have hR5 := HRE.out.below hb5
  obtain ⟨A5', c5', e5, hsl5, _⟩ := OwnSl hs5
  cases e5
  have hpt := PutE_ok Ae ce el ⟨K, ps, 0, 9⟩ A5 c5 w5 HGE.out hgx (by omega) hR5 hsl5
  dsimp only at hpt
  rw [← HSK.out] at hpt
  have HPT := Lib.hid hpt
  have k0 := h5.cell (k := 0) rfl
  have k1 := h5.cell (k := 1) rfl
  have k2 := h5.cell (k := 2) rfl
  have k3 := h5.cell (k := 3) rfl
  have hb05 := HB2.out.trans (hb5.mono HB2.out.size)
  clear hpt hgx hchk hf1 hz1 hs5 hb5
  repeat' ((fail_if_success at_builtin); (fail_if_success at_make); (first | go_values | go_skip | go_guarded | go_step | go_upon | go_back))
  clear k0 k1 k2 k3
  refine ((HPT.out)).mono ?_; rintro e_ w6 ⟨v6, rfl, hx6, hb6⟩; dsimp only
  have hb06 := hb05.trans (hb6.mono hb05.size)
  obtain ⟨A6, c6, rfl, _, _, hR6⟩ := hx6.rwo.rows
  have h56 := h5.below hb6
  have hsl6 := hsl5.below hb6
  have hRe6 := hR5.below hb6
  have hpl6 : (putE el ⟨K, ps, 0, 9⟩).length ≤ 10 := HGP.out.len
  have HPP := Lib.hid (show ∀ y ∈ putE el ⟨K, ps, 0, 9⟩, y.parts.length ≤ 8 from fun y hy => (chk_zero (HGP.out.one y hy).2.1).1)
  generalize putE el ⟨K, ps, 0, 9⟩ = es at *
  clear hx6 hb6 hb05 hsl5 hR5 h5
  have HIX := Lib.hid (indexed_ok w6)
  repeat' ((fail_if_success at_builtin); (fail_if_success at_make); (first | go_values | go_skip | go_guarded | go_step | go_upon | go_back))
  refine ((HIX.out)).mono ?_; rintro e_ w7 ⟨rfl, hb7⟩; dsimp only
  have hb07 := hb06.trans (hb7.mono hb06.size)
  have h57 := h56.below hb7
  have hsl7 := hsl6.below hb7
  have hRe7 := hRe6.below hb7
  have hR7 := hR6.below hb7
  have HCK := Lib.hid (CheckE_ok A6 c6 es w7 HGP.out hR7)
  clear hb7 hb06 h56 hsl6 hRe6 hR6
  repeat' ((fail_if_success at_builtin); (fail_if_success at_make); (first | go_values | go_skip | go_guarded | go_step | go_upon | go_back))
  refine ((HCK.out)).mono ?_; rintro e_ w8 ⟨rfl, hb8⟩; dsimp only
  have hb08 := hb07.trans (hb8.mono hb07.size)
  have h58 := h57.below hb8
  have hsl8 := hsl7.below hb8
  have hRe8 := hRe7.below hb8
  have hR8 := hR7.below hb8
  have hfn := FindE_ok A6 c6 es K w8 (by omega) hR8
  rw [HF1.out.1, ← HSK.out] at hfn
  have HFN := Lib.hid hfn
  have k0 := h58.cell (k := 0) rfl
  clear hb8 hb07 h57 hsl7 hRe7 hR7 hfn
  repeat' ((fail_if_success at_builtin); (fail_if_success at_make); (first | go_values | go_skip | go_guarded | go_step | go_upon | go_back))
  clear k0
  refine ((HFN.out)).mono ?_; rintro e_ w9 ⟨rfl, hb9⟩; dsimp only
  rw [fndR]
  have hb09 := hb08.trans (hb9.mono hb08.size)
  have h59 := h58.below hb9
  have hsl9 := hsl8.below hb9
  have hRe9 := hRe8.below hb9
  have hR9 := hR8.below hb9
  obtain ⟨b, off, B, cc, e9, hbb, d0, d1, d2, d3, hs9⟩ := hR9.ent_at i1 hi1
  rw [HF1.out.2.1] at d1 hs9
  rw [HF1.out.2.2] at d3
  have j0 : (0 : Int) ≤ (i1 : Int) := by omega
  have j1 : (i1 : Int) < (es.length : Int) := by omega
  have k1 := h59.cell (k := 1) rfl
  have HEQ := Lib.hid (fun q => EqualP_quiet B A5 ps.length cc c5 ps (w9.drewN q) rfl (by omega) (hs9.below (bdrewN (Below.refl _ _) q)).rd (hsl9.below (bdrewN (Below.refl _ _) q)).rd)
  subst e9
  clear hb9 hb08 h58 hsl8 hRe8 hR8 d0 d2 hs9
  repeat' ((fail_if_success at_builtin); (fail_if_success at_make); (first | go_values | go_skip | go_guarded | go_step | go_upon | go_back))
  go_quiet ((go_at_call 21; refine Calls.quiet_of (HEQ.out _)))
  dsimp only [Exit.then]
  have hdr := bdrewN (Below.refl w9.heap.size w9) nq
  have hb010 := hb09.trans (hdr.mono hb09.size)
  have h510 := h59.below hdr
  have hsl10 := hsl9.below hdr
  have hRe10 := hRe9.below hdr
  have hR10 := hR9.below hdr
  clear h59 hsl9 hRe9 hR9 hb09 d1 d3 k1 hdr
  generalize w9.drewN nq = w10 at *
  repeat' ((fail_if_success at_builtin); (fail_if_success at_make); (first | go_values | go_skip | go_guarded | go_step | go_upon | go_back))
  have H510 := Lib.hid h510
  have HSL10 := Lib.hid hsl10
  have HRE10 := Lib.hid hRe10
  have HR10 := Lib.hid hR10
  clear h510 hsl10 hRe10 hR10
  go_loopg [72] el.length (fun gn i wr => ∃ j : Nat, gn = el.length - j ∧ i = .int .i64 j ∧ j ≤ el.length ∧ Below w10.heap.size w10 wr)
  case atStart => exact ⟨0, rfl, rfl, by omega, Below.refl _ _⟩
  case round =>
    obtain ⟨j, hgk, rfl, hj, hbl⟩ := hrel
    have HGK := Lib.hid hgk
    clear hgk
    by_cases hlt : j < el.length
    · have hcc : decide (j < el.length) = true := decide_eq_true hlt
      obtain ⟨be, oe, Be, cy, e7, hbe, c0, c1, c2, c3, hsy⟩ := (HRE10.out.below hbl).ent_at j hlt
      subst e7
      have hj0 : (0 : Int) ≤ (j : Int) := by omega
      have hj1 : (j : Int) < (el.length : Int) := by omega
      obtain ⟨k, hk, hfk, hpk, hok⟩ := HOLD.out el[j] (List.getElem_mem hlt)
      have hyl := HPL.out el[j] (List.getElem_mem hlt)
      generalize el[j] = y at *
      obtain ⟨sy, hsy'⟩ : ∃ s : ByteArray, s = ⟨y.key.toArray⟩ := ⟨_, rfl⟩
      rw [← hsy'] at c0
      have hX : Arr (wr.alloc (.cells #[.string sy, .slice Be y.parts.length cy, .int .i64 (y.pins : Int), .int .i64 (y.stamp : Int)] 53)) wr.heap.size 53 [.string sy, .slice Be y.parts.length cy, .int .i64 (y.pins : Int), .int .i64 (y.stamp : Int)] := Arr.new wr 53 _
      have hba := (Below.refl wr.heap.size wr).alloc (Nat.le_refl _) (.cells #[.string sy, .slice Be y.parts.length cy, .int .i64 (y.pins : Int), .int .i64 (y.stamp : Int)] 53)
      have hb11 := hbl.trans (hba.mono hbl.size)
      have hsy1 := hsy.below hba
      have hR11 := HR10.out.below hb11
      have hfn := FindE_ok (some ⟨b, off, none⟩) c6 es y.key _ (by omega) hR11
      rw [hfk, ← hsy'] at hfn
      have HFN := Lib.hid hfn
      have HSY := Lib.hid hsy'
      have x0 := hX.cell (k := 0) rfl
      clear hfn hfk hsy hba hbl hsy'
      repeat' ((fail_if_success at_builtin); (fail_if_success at_make); (first | go_values | go_skip | go_guarded | go_step | go_upon | go_back))
      generalize wr.alloc (.cells #[.string sy, .slice Be y.parts.length cy, .int .i64 (y.pins : Int), .int .i64 (y.stamp : Int)] 53) = w11 at *
      generalize wr.heap.size = gy at *
      clear c0 c1 c2 c3 x0
      refine ((HFN.out)).mono ?_; rintro e_ w12 ⟨rfl, hb12⟩; dsimp only
      rw [fndR]
      have hb1012 := hb11.trans (hb12.mono hb11.size)
      have hX12 := hX.below hb12
      have hsy12 := hsy1.below hb12
      have hR12 := hR11.below hb12
      have h512 := H510.out.below hb1012
      obtain ⟨b', off', B', cc', e9, hbb', d0, d1, d2, d3, hs12⟩ := hR12.ent_at k hk
      cases e9
      rw [hpk] at d2
      have k0' : (0 : Int) ≤ (k : Int) := by omega
      have k1' : (k : Int) < (es.length : Int) := by omega
      have x0 := hX12.cell (k := 0) rfl
      have x1 := hX12.cell (k := 1) rfl
      have x2 := hX12.cell (k := 2) rfl
      have x3 := hX12.cell (k := 3) rfl
      have z0 := h512.cell (k := 0) rfl
      have p1 : ((y.pins : Int) != (y.pins : Int)) = false := by simp
      clear hX hX12 hsy1 hR11 hR12 hb11 hb12 h512 hpk
      by_cases hyk : y.key = K
      · have s1 : (sy.toList == sk.toList) = true := by rw [HSY.out, HSK.out, hyk]; simp
        have s2 : (sy.toList != sk.toList) = false := by rw [bne, s1]; rfl
        clear hok hyk hs12 hsy12
        generalize es[k] = z at *
        repeat' ((fail_if_success at_builtin); (fail_if_success at_make); (first | go_values | go_skip | go_guarded | go_step | go_upon | go_back))
        go_quiet (fail)
        repeat' ((fail_if_success at_builtin); (fail_if_success at_make); (first | go_values | go_skip | go_guarded | go_step | go_upon | go_back))
        go_roundg (el.length - (j + 1))
        case measure => have := HGK.out; omega
        case rel => exact ⟨j + 1, rfl, by go_num, by omega, bdrewN hb1012 _⟩
      · have s1 : (sy.toList == sk.toList) = false := by
          rw [HSY.out, HSK.out, ByteArray.toList_eq, ByteArray.toList_eq, beq_eq_false_iff_ne]; exact hyk
        have s2 : (sy.toList != sk.toList) = true := by rw [bne, s1]; rfl
        have hzy := hok hyk
        rw [hzy] at d0 d1 d3 hs12
        have p2 : ((y.stamp : Int) != (y.stamp : Int)) = false := by simp
        have HEQ := Lib.hid (fun q => EqualP_quiet B' Be y.parts.length cc' cy y.parts (w12.drewN q) rfl (by omega) (hs12.below (bdrewN (Below.refl _ _) q)).rd (hsy12.below (bdrewN (Below.refl _ _) q)).rd)
        clear hok hyk hs12 hsy12 hzy
        repeat' ((fail_if_success at_builtin); (fail_if_success at_make); (first | go_values | go_skip | go_guarded | go_step | go_upon | go_back))
        go_quiet ((go_at_call 21; refine Calls.quiet_of (HEQ.out _)))
        dsimp only [Exit.then]
        have hbn := below_drewN hb1012 nq
        repeat' ((fail_if_success at_builtin); (fail_if_success at_make); (first | go_values | go_skip | go_guarded | go_step | go_upon | go_back))
        go_roundg (el.length - (j + 1))
        case measure => have := HGK.out; omega
        case rel => exact ⟨j + 1, rfl, by go_num, by omega, hbn⟩
    · obtain rfl : j = el.length := by omega
      have hcc : decide (el.length < el.length) = false := by simp
      have hbz := hb010.trans (hbl.mono hb010.size)
      repeat' ((fail_if_success at_builtin); (fail_if_success at_make); (first | go_values | go_skip | go_guarded | go_step | go_upon | go_back))
      go_ret
      exact ⟨rfl, hbz⟩
end Go.Proofs.Ytooohfckhepcmaa
