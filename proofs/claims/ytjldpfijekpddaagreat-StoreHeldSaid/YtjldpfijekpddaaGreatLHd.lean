/- StoreHeld walked. Conditions: the slice's size. -/
import Derived.Test.YtjldpfijekpddaaGreatKpt
import Derived.Test.YtjldpfijekpddaaGreatSWr
namespace Go.Proofs.YtjldpfijekpddaaGreat
open Go.RowKit
set_option linter.unusedVariables false
set_option linter.unusedSimpArgs false
set_option maxRecDepth 100000

theorem HoldBF_ok (A : Option Addr) (c : Nat) (B : Option Addr) (d : Nat) (s x : StoP) (key : List UInt8) (up : Bool) (i : Nat) (w : World) (hg : GoodS s) (hr : RdSt w A c B d s) (hi : i < s.blobs.length) (hk : s.blobs[i].dig = key) (hmv : if up then s.blobs[i].pins < 5 else 0 < s.blobs[i].pins ∧ s.blobs[i].pins ≤ 5) (hx : x = holdBS s i s.blobs[i] (mvN s.blobs[i].pins up)) :
    Calls Tryz.prog 20 #[.agg #[.slice A s.blobs.length c, .slice B s.ents.length d, .int .i64 (s.room : Int), .int .i64 (s.clock : Int)], .string ⟨key.toArray⟩, .bool up] w fun e w' =>
      ∃ A' c' B' d', e = .returned (.tuple #[.agg #[.slice A' x.blobs.length c', .slice B' x.ents.length d', .int .i64 (s.room : Int), .int .i64 (s.clock : Int)], .int .i64 0]) ∧ RdSt w' A' c' B' d' x ∧ Below w.heap.size w w' := by
  subst hx
  refine (HoldB_ok A c B d s key up i w hg hr hi hk hmv).mono fun e w' ⟨v1, v2, h1, h2, h3⟩ => ?_
  obtain ⟨A', c', B', d', e1, e2, hrd⟩ := h2.rows
  subst e1 e2
  exact ⟨A', c', B', d', h1, hrd, h3⟩
theorem hold_backB {s : StoP} {k : Nat} (hg : GoodS s) (hk : k < s.blobs.length) (hp : s.blobs[k].pins ≤ 1) :
    ∃ x y, x = holdBS s k s.blobs[k] (mvN s.blobs[k].pins true) ∧ ∃ hx : k < x.blobs.length, x.blobs[k].dig = s.blobs[k].dig ∧ (0 < x.blobs[k].pins ∧ x.blobs[k].pins ≤ 5) ∧ y = holdBS x k x.blobs[k] (mvN x.blobs[k].pins false) ∧ GoodS x ∧ GoodS y ∧
      (sameBL s.blobs y.blobs && sameEL s.ents y.ents) = true ∧ (sameBL s.blobs x.blobs && sameEL s.ents x.ents) = false ∧ x.room = s.room ∧ x.clock = s.clock := by
  have hl : (holdBS s k s.blobs[k] (mvN s.blobs[k].pins true)).blobs.length = s.blobs.length := List.length_set ..
  have hx : k < (holdBS s k s.blobs[k] (mvN s.blobs[k].pins true)).blobs.length := by rw [hl]; exact hk
  have h1 : (holdBS s k s.blobs[k] (mvN s.blobs[k].pins true)).blobs[k] = { s.blobs[k] with pins := s.blobs[k].pins + 1 } := List.getElem_set_self ..
  have hgx : GoodS (holdBS s k s.blobs[k] (mvN s.blobs[k].pins true)) := holdBS_good hg hk (by show s.blobs[k].pins + 1 ≤ 5; omega)
  have hyl : (holdBS (holdBS s k s.blobs[k] (mvN s.blobs[k].pins true)) k (holdBS s k s.blobs[k] (mvN s.blobs[k].pins true)).blobs[k] (mvN (holdBS s k s.blobs[k] (mvN s.blobs[k].pins true)).blobs[k].pins false)).blobs = s.blobs := by
    rw [h1]
    show (s.blobs.set k _).set k { s.blobs[k] with pins := s.blobs[k].pins + 1 - 1 } = s.blobs
    rw [List.set_set, Nat.add_sub_cancel]
    exact List.set_getElem_self hk
  have hgy : GoodS (holdBS (holdBS s k s.blobs[k] (mvN s.blobs[k].pins true)) k (holdBS s k s.blobs[k] (mvN s.blobs[k].pins true)).blobs[k] (mvN (holdBS s k s.blobs[k] (mvN s.blobs[k].pins true)).blobs[k].pins false)) :=
    holdBS_good hgx hx (by rw [h1]; show s.blobs[k].pins + 1 - 1 ≤ 5; omega)
  refine ⟨_, _, rfl, hx, by rw [h1], by rw [h1]; exact ⟨by show 0 < s.blobs[k].pins + 1; omega, by show s.blobs[k].pins + 1 ≤ 5; omega⟩, rfl, hgx, hgy, ?_, ?_, rfl, rfl⟩
  · rw [hyl, sameBL_refl]; exact sameEL_refl _
  · have : sameBL s.blobs (s.blobs.set k { s.blobs[k] with pins := s.blobs[k].pins + 1 }) = false := by
      cases h : sameBL s.blobs (s.blobs.set k { s.blobs[k] with pins := s.blobs[k].pins + 1 }) with
      | false => rfl
      | true =>
        have h2 := congrArg (fun l => l[k]?) (sameBL_iff.1 h)
        simp [hk] at h2
    show (sameBL s.blobs (s.blobs.set k { s.blobs[k] with pins := s.blobs[k].pins + 1 }) && sameEL s.ents s.ents) = false
    rw [this]; rfl
theorem HoldEF_ok (A : Option Addr) (c : Nat) (B : Option Addr) (d : Nat) (s x : StoP) (key : List UInt8) (up : Bool) (i : Nat) (w : World) (hg : GoodS s) (hr : RdSt w A c B d s) (hi : i < s.ents.length) (hk : s.ents[i].key = key) (hmv : if up then s.ents[i].pins < 5 else 0 < s.ents[i].pins ∧ s.ents[i].pins ≤ 5) (hx : x = holdES s i s.ents[i] (mvN s.ents[i].pins up)) :
    Calls Tryz.prog 22 #[.agg #[.slice A s.blobs.length c, .slice B s.ents.length d, .int .i64 (s.room : Int), .int .i64 (s.clock : Int)], .string ⟨key.toArray⟩, .bool up] w fun e w' =>
      ∃ A' c' B' d', e = .returned (.tuple #[.agg #[.slice A' x.blobs.length c', .slice B' x.ents.length d', .int .i64 (s.room : Int), .int .i64 (s.clock : Int)], .int .i64 0]) ∧ RdSt w' A' c' B' d' x ∧ Below w.heap.size w w' := by
  subst hx
  refine (HoldE_ok A c B d s key up i w hg hr hi hk hmv).mono fun e w' ⟨v1, v2, h1, h2, h3⟩ => ?_
  obtain ⟨A', c', B', d', e1, e2, hrd⟩ := h2.rows
  subst e1 e2
  exact ⟨A', c', B', d', h1, hrd, h3⟩
theorem hold_backE {s : StoP} {k : Nat} (hg : GoodS s) (hk : k < s.ents.length) (hp : s.ents[k].pins ≤ 1) :
    ∃ x y, x = holdES s k s.ents[k] (mvN s.ents[k].pins true) ∧ ∃ hx : k < x.ents.length, x.ents[k].key = s.ents[k].key ∧ (0 < x.ents[k].pins ∧ x.ents[k].pins ≤ 5) ∧ y = holdES x k x.ents[k] (mvN x.ents[k].pins false) ∧ GoodS x ∧ GoodS y ∧
      (sameBL s.blobs y.blobs && sameEL s.ents y.ents) = true ∧ (sameBL s.blobs x.blobs && sameEL s.ents x.ents) = false ∧ x.room = s.room ∧ x.clock = s.clock := by
  have hl : (holdES s k s.ents[k] (mvN s.ents[k].pins true)).ents.length = s.ents.length := List.length_set ..
  have hx : k < (holdES s k s.ents[k] (mvN s.ents[k].pins true)).ents.length := by rw [hl]; exact hk
  have h1 : (holdES s k s.ents[k] (mvN s.ents[k].pins true)).ents[k] = { s.ents[k] with pins := s.ents[k].pins + 1 } := List.getElem_set_self ..
  have hgx : GoodS (holdES s k s.ents[k] (mvN s.ents[k].pins true)) := holdES_good hg hk (by show s.ents[k].pins + 1 ≤ 5; omega)
  have hyl : (holdES (holdES s k s.ents[k] (mvN s.ents[k].pins true)) k (holdES s k s.ents[k] (mvN s.ents[k].pins true)).ents[k] (mvN (holdES s k s.ents[k] (mvN s.ents[k].pins true)).ents[k].pins false)).ents = s.ents := by
    rw [h1]
    show (s.ents.set k _).set k { s.ents[k] with pins := s.ents[k].pins + 1 - 1 } = s.ents
    rw [List.set_set, Nat.add_sub_cancel]
    exact List.set_getElem_self hk
  have hgy : GoodS (holdES (holdES s k s.ents[k] (mvN s.ents[k].pins true)) k (holdES s k s.ents[k] (mvN s.ents[k].pins true)).ents[k] (mvN (holdES s k s.ents[k] (mvN s.ents[k].pins true)).ents[k].pins false)) :=
    holdES_good hgx hx (by rw [h1]; show s.ents[k].pins + 1 - 1 ≤ 5; omega)
  refine ⟨_, _, rfl, hx, by rw [h1], by rw [h1]; exact ⟨by show 0 < s.ents[k].pins + 1; omega, by show s.ents[k].pins + 1 ≤ 5; omega⟩, rfl, hgx, hgy, ?_, ?_, rfl, rfl⟩
  · rw [hyl, sameEL_refl]; show (sameBL s.blobs s.blobs && true) = true; rw [sameBL_refl]; rfl
  · have : sameEL s.ents (s.ents.set k { s.ents[k] with pins := s.ents[k].pins + 1 }) = false := by
      cases h : sameEL s.ents (s.ents.set k { s.ents[k] with pins := s.ents[k].pins + 1 }) with
      | false => rfl
      | true =>
        have h2 := congrArg (fun l => l[k]?) (sameEL_iff.1 h)
        simp [hk] at h2
    show (sameBL s.blobs s.blobs && sameEL s.ents (s.ents.set k { s.ents[k] with pins := s.ents[k].pins + 1 })) = false
    rw [this, Bool.and_false]
theorem gsB {s : StoP} (h : GoodS s) : ∀ b ∈ s.blobs, b.data.length ≤ 1000000 := fun b hb => by have := (h.b.one b hb).2.1; omega
theorem gsE {s : StoP} (h : GoodS s) : ∀ x ∈ s.ents, x.parts.length ≤ 1000000 := fun x hx => by have := (chk_zero (h.e.one x hx).2.1).1; omega
set_option maxHeartbeats 8000000 in
theorem StoreHeld_walk (A : Option Addr) (n c : Nat) (l : List RawP) (i j : Int) (w : World) (hl : l.length = n) (hc : n ≤ c) (hm : c ≤ maxLen) (hok : ∀ r ∈ l, RawOk r) (hr : Rd w 4 A n (rcs l)) (hi0 : -9223372036854775808 ≤ i) (hi1 : i ≤ 9223372036854775807) (hj0 : -9223372036854775808 ≤ j) (hj1 : j ≤ 9223372036854775807) :
    Calls Tryz.prog 4 #[.slice A n c, .int .i64 i, .int .i64 j] w fun e w' => e = .returned (.bool true) ∧ Below w.heap.size w w' := by
  have HSG := Lib.hid (sto_good l)
  have HPNB := Lib.hid (show ∀ k (hk : k < (sto l).blobs.length), (sto l).blobs[k].pins ≤ 1 from fun k hk => by
    have pb : ((sto l).blobs).Perm (stAcc l).blobs := srt_perm _ _
    exact ((acc_ok l).bone _ (pb.mem_iff.1 (List.getElem_mem hk))).2.2.1)
  have HPNE := Lib.hid (show ∀ k (hk : k < (sto l).ents.length), (sto l).ents[k].pins ≤ 1 from fun k hk => by
    have pe : ((sto l).ents).Perm (stAcc l).ents := srt_perm _ _
    exact ((acc_ok l).eone _ (pe.mem_iff.1 (List.getElem_mem hk))).2.2.2.1)
  have HS := Lib.hid (Store_ok A n c l w hl hc hm hok hr)
  clear hok hl hr
  generalize hs : sto l = s at *
  clear hs
  have hlb : s.blobs.length ≤ 24 := HSG.out.b.len
  have hle : s.ents.length ≤ 10 := HSG.out.e.len
  go_enter Tryz.func4, Tryz.ntmps4
  repeat' ((fail_if_success at_builtin); (fail_if_success at_make); (first | go_values | go_skip | go_guarded | go_step | go_upon | go_back))
  refine ((HS.out)).mono ?_; rintro e_ w1 ⟨v1, v2, rfl, hb, he, hb1⟩; dsimp only
  obtain ⟨As, cs, rfl, hc1, hc2, hRs⟩ := hb.rows
  obtain ⟨Bs, ds, rfl, hd1, hd2, hEs⟩ := he.rows
  have hrd1 : RdSt w1 As cs Bs ds s := ⟨hRs, hEs, hc1, hc2, hd1, hd2⟩
  have hba := (Below.refl w1.heap.size w1).alloc (Nat.le_refl _) (.cells #[.slice As s.blobs.length cs, .slice Bs s.ents.length ds, .int .i64 (s.room : Int), .int .i64 (s.clock : Int)] 28)
  have hXS : Arr (w1.alloc (.cells #[.slice As s.blobs.length cs, .slice Bs s.ents.length ds, .int .i64 (s.room : Int), .int .i64 (s.clock : Int)] 28)) w1.heap.size 28 [.slice As s.blobs.length cs, .slice Bs s.ents.length ds, .int .i64 (s.room : Int), .int .i64 (s.clock : Int)] := Arr.new w1 28 _
  have hrdS := hrd1.below hba
  have hbS := hb1.trans (hba.mono hb1.size)
  clear hb he hRs hEs hba hrd1 hb1 hc1 hc2 hd1 hd2
  repeat' ((fail_if_success at_builtin); (fail_if_success at_make); (fail_if_success (with_reducible refine at_store_ 25 ?_)); (fail_if_success (with_reducible refine at_load_ 25 ?_)); (fail_if_success (with_reducible refine at_copy_ ?_)); (first | go_values | go_skip | go_guarded | go_step | go_upon | go_back))
  generalize w1.alloc (.cells #[.slice As s.blobs.length cs, .slice Bs s.ents.length ds, .int .i64 (s.room : Int), .int .i64 (s.clock : Int)] 28) = w2 at *
  generalize w1.heap.size = gs at *
  have dd := hXS.cell (k := 0) rfl
  by_cases hn : 0 < s.blobs.length
  · have hnb : decide ((s.blobs.length : Int) > 0) = true := decide_eq_true (by omega)
    have hnc : decide ((0 : Int) < (s.blobs.length : Int)) = true := decide_eq_true (by omega)
    have hnd : decide (0 < s.blobs.length) = true := decide_eq_true hn
    obtain ⟨k, hkk⟩ : ∃ k, k = pk i s.blobs.length := ⟨_, rfl⟩
    have hk : k < s.blobs.length := by rw [hkk]; exact pk_lt i hn
    have hpk := fun W => Picked_ok i s.blobs.length (s.blobs.length : Int) rfl W hi0 hi1 hn (by have := HSG.out.b.len; have := HSG.out.e.len; omega)
    rw [← hkk] at hpk
    have HPK := Lib.hid hpk
    obtain ⟨b, off, XB, xc, e1, hbb, c0, c1, c2, c3, _⟩ := hrdS.b.blob_at k hk
    obtain ⟨sd, hsd⟩ : ∃ x : ByteArray, x = ⟨s.blobs[k].dig.toArray⟩ := ⟨_, rfl⟩
    rw [← hsd] at c0
    have HSB := Lib.hid (show ∀ W, Below w2.heap.size w2 W → W.cell? ⟨gs, 0, none⟩ = some (.slice (some ⟨b, off, none⟩) s.blobs.length cs) ∧ W.cell? ⟨b, off + k * 4, none⟩ = some (.string sd) from fun W h =>
      ⟨by rw [← e1]; exact (hXS.below h).cell (k := 0) rfl, (h.cell (p := ⟨b, off + k * 4, none⟩) hbb).trans c0⟩)
    have hm0 : (0 : Int) ≤ (k : Int) := by omega
    have hm1 : (k : Int) < (s.blobs.length : Int) := by omega
    have HSD := Lib.hid hsd
    have HX2 := Lib.hid hXS
    have HR2 := Lib.hid hrdS
    have HB2 := Lib.hid hbS
    clear hpk hkk hsd c0 c1 c2 c3 hXS hrdS hbS e1 hbb
    repeat' ((fail_if_success at_builtin); (fail_if_success at_make); (first | go_values | go_skip | go_guarded | go_step | go_upon | go_back))
    clear dd hnb hnc hnd hn
    refine wp_region_held_drew (S := (fun w' => w'.cell? ⟨gs, 0, none⟩ = some (.slice (some ⟨b, off, none⟩) s.blobs.length cs) ∧ w'.cell? ⟨b, off + k * 4, none⟩ = some (.string sd))) (by kernel_rfl) ?_ (fun hHeld => ?_)
    · exact HSB.out _ (Below.refl _ w2).drew
    have hB := (Below.refl w2.heap.size w2).drew
    generalize w2.drew = wn0 at *
    refine wpAnyH_take (i := 0) (oi := _) (v := ?_) rfl (by kernel_rfl) (by kernel_rfl) (by kernel_rfl) (fun _ _ _ h => h) (Or.inl ⟨by rfl, ?_⟩) (by assumption) ?_
    rotate_left
    · (intro w hSw; (try dsimp only at hSw); go_simp; try (with_reducible rfl))
    try simp only [List.getElem_toArray, List.getElem_cons_zero, List.getElem_cons_succ, Act.put, List.setIfInBounds_toArray, List.set_cons_zero, List.set_cons_succ]
    refine wpAnyH_take (i := 1) (oi := _) (v := ?_) rfl (by kernel_rfl) (by kernel_rfl) (by kernel_rfl) (fun _ _ _ h => h) (Or.inl ⟨by rfl, ?_⟩) (by assumption) ?_
    rotate_left
    · (intro w hSw; (try dsimp only at hSw); go_simp; try (with_reducible rfl))
    try simp only [List.getElem_toArray, List.getElem_cons_zero, List.getElem_cons_succ, Act.put, List.setIfInBounds_toArray, List.set_cons_zero, List.set_cons_succ]
    refine wpAnyH_take (i := 2) (oi := _) (v := ?_) rfl (by kernel_rfl) (by kernel_rfl) (by kernel_rfl) (fun _ _ _ h => h) (Or.inl ⟨by rfl, ?_⟩) (by assumption) ?_
    rotate_left
    · (intro w hSw; (try dsimp only at hSw); go_simp; try (with_reducible rfl))
    try simp only [List.getElem_toArray, List.getElem_cons_zero, List.getElem_cons_succ, Act.put, List.setIfInBounds_toArray, List.set_cons_zero, List.set_cons_succ]
    refine wpAnyH_take (i := 3) (oi := _) (v := ?_) rfl (by kernel_rfl) (by kernel_rfl) (by kernel_rfl) (fun _ _ _ h => h) (Or.inl ⟨by rfl, ?_⟩) (by assumption) ?_
    rotate_left
    · (intro w hSw; (try dsimp only at hSw); go_simp; try (with_reducible rfl))
    try simp only [List.getElem_toArray, List.getElem_cons_zero, List.getElem_cons_succ, Act.put, List.setIfInBounds_toArray, List.set_cons_zero, List.set_cons_succ]
    refine wpAnyH_take (i := 4) (oi := _) (v := ?_) rfl (by kernel_rfl) (by kernel_rfl) (by kernel_rfl) (fun _ _ _ h => h) (Or.inl ⟨by rfl, ?_⟩) (by assumption) ?_
    rotate_left
    · (intro w hSw; (try dsimp only at hSw); go_simp; try (with_reducible rfl))
    try simp only [List.getElem_toArray, List.getElem_cons_zero, List.getElem_cons_succ, Act.put, List.setIfInBounds_toArray, List.set_cons_zero, List.set_cons_succ]
    refine wpAnyH_take (i := 5) (oi := _) (v := ?_) rfl (by kernel_rfl) (by kernel_rfl) (by kernel_rfl) (fun _ _ _ h => h) (Or.inl ⟨by rfl, ?_⟩) (by assumption) ?_
    rotate_left
    · (intro w hSw; (try dsimp only at hSw); go_simp; try (with_reducible rfl))
    try simp only [List.getElem_toArray, List.getElem_cons_zero, List.getElem_cons_succ, Act.put, List.setIfInBounds_toArray, List.set_cons_zero, List.set_cons_succ]
    refine wpAnyH_ready (rs := [6]) (by kernel_rfl) (by simp) ?_
    refine AllReadyH.cons (o := _) rfl (fun K hK => ?_) ?_
    ·
      go_simp
      refine (HPK.out wn0).mono ?_
      rintro e6 wp6 ⟨rfl, rfl⟩
      dsimp only
      refine outG hK ?_ (Below wn0.heap.size wn0) (fun W => True) ?_ ?_ (fun wn1 hHeld hst hnew => ?_)
      · (exact HSB.out _ hB)
      · (exact Below.refl _ _)
      · (trivial)
      have hB := hB.trans (hst.mono hB.size)
      clear hst
      clear hK K
      try simp only [List.getElem_toArray, List.getElem_cons_zero, List.getElem_cons_succ, Act.put, List.setIfInBounds_toArray, List.set_cons_zero, List.set_cons_succ]
      refine wpAnyH_take (i := 7) (oi := _) (v := ?_) rfl (by kernel_rfl) (by kernel_rfl) (by kernel_rfl) (fun _ _ _ h => h) (Or.inl ⟨by rfl, ?_⟩) (by assumption) ?_
      rotate_left
      · (intro w hSw; (try dsimp only at hSw); go_simp; try (with_reducible rfl))
      try simp only [List.getElem_toArray, List.getElem_cons_zero, List.getElem_cons_succ, Act.put, List.setIfInBounds_toArray, List.set_cons_zero, List.set_cons_succ]
      refine wpAnyH_take (i := 8) (oi := _) (v := ?_) rfl (by kernel_rfl) (by kernel_rfl) (by kernel_rfl) (fun _ _ _ h => h) (Or.inl ⟨by rfl, ?_⟩) (by assumption) ?_
      rotate_left
      · (intro w hSw; (try dsimp only at hSw); go_simp; try (with_reducible rfl))
      try simp only [List.getElem_toArray, List.getElem_cons_zero, List.getElem_cons_succ, Act.put, List.setIfInBounds_toArray, List.set_cons_zero, List.set_cons_succ]
      refine wpAnyH_take (i := 9) (oi := _) (v := ?_) rfl (by kernel_rfl) (by kernel_rfl) (by kernel_rfl) (fun _ _ _ h => h) (Or.inl ⟨by rfl, ?_⟩) (by assumption) ?_
      rotate_left
      · (intro w hSw; (try dsimp only at hSw); go_simp; try (with_reducible rfl))
      try simp only [List.getElem_toArray, List.getElem_cons_zero, List.getElem_cons_succ, Act.put, List.setIfInBounds_toArray, List.set_cons_zero, List.set_cons_succ]
      refine wpAnyH_take (i := 10) (oi := _) (v := ?_) rfl (by kernel_rfl) (by kernel_rfl) (by kernel_rfl) (fun _ _ _ h => h) (Or.inl ⟨by rfl, ?_⟩) (by assumption) ?_
      rotate_left
      · (intro w hSw; (try dsimp only at hSw); go_simp; try (with_reducible rfl))
      try simp only [List.getElem_toArray, List.getElem_cons_zero, List.getElem_cons_succ, Act.put, List.setIfInBounds_toArray, List.set_cons_zero, List.set_cons_succ]
      refine wpAnyH_done (by kernel_rfl) ?_ _
      dsimp only [Exit.then]
      clear hHeld
      have hB3 := hB
      clear hB
      generalize wn1 = w3 at *
      have hX3 := HX2.out.below hB3
      have hrd3 := HR2.out.below hB3
      have hb3 := HB2.out.trans (hB3.mono HB2.out.size)
      obtain ⟨x, y, hxe, hxi, hxk, hxm, hye, hgx, hgy, hs1, hs2, hxr, hxc⟩ := hold_backB HSG.out hk (HPNB.out k hk)
      have z0 := hX3.cell (k := 0) rfl
      have z1 := hX3.cell (k := 1) rfl
      have z2 := hX3.cell (k := 2) rfl
      have z3 := hX3.cell (k := 3) rfl
      have hh := HoldBF_ok As cs Bs ds s x s.blobs[k].dig true k w3 HSG.out hrd3 hk rfl (show s.blobs[k].pins < 5 by have := HPNB.out k hk; omega) hxe
      rw [← HSD.out] at hh
      have HH1 := Lib.hid hh
      have HH2 := Lib.hid (fun (A1 : Option Addr) (c1 : Nat) (B1 : Option Addr) (d1 : Nat) (W : World) (h : RdSt W A1 c1 B1 d1 x) => HoldBF_ok A1 c1 B1 d1 x y s.blobs[k].dig false k W hgx h hxi hxk hxm hye)
      rw [hxr, hxc, ← HSD.out] at HH2
      have HS1 := Lib.hid hs1
      have HS2 := Lib.hid hs2
      have HGX := Lib.hid hgx
      have HGY := Lib.hid hgy
      clear hh hxe hxi hxk hxm hye hgx hgy hs1 hs2 hxr hxc hB3
      repeat' ((fail_if_success at_builtin); (fail_if_success at_make); (first | go_values | go_skip | go_guarded | go_step | go_upon | go_back))
      clear z0 z1 z2 z3
      refine ((HH1.out)).mono ?_; rintro e_ wa ⟨A1, c1, B1, d1, rfl, hr1, hba⟩; dsimp only
      have hXa := hX3.below hba
      have hrda := hrd3.below hba
      have hb4 := hb3.trans (hba.mono hb3.size)
      have hbx := (Below.refl wa.heap.size wa).alloc (Nat.le_refl _) (.cells #[.slice A1 x.blobs.length c1, .slice B1 x.ents.length d1, .int .i64 (s.room : Int), .int .i64 (s.clock : Int)] 28)
      have hXx : Arr (wa.alloc (.cells #[.slice A1 x.blobs.length c1, .slice B1 x.ents.length d1, .int .i64 (s.room : Int), .int .i64 (s.clock : Int)] 28)) wa.heap.size 28 [.slice A1 x.blobs.length c1, .slice B1 x.ents.length d1, .int .i64 (s.room : Int), .int .i64 (s.clock : Int)] := Arr.new wa 28 _
      have hXb := hXa.below hbx
      have hrdb := hrda.below hbx
      have hr1b := hr1.below hbx
      have hb5 := hb4.trans (hbx.mono hb4.size)
      have HH2' := Lib.hid (HH2.out A1 c1 B1 d1 _ hr1b)
      clear hX3 hrd3 hb3 hba hXa hrda hb4 hbx hr1 HH1
      repeat' ((fail_if_success at_builtin); (fail_if_success at_make); (first | go_values | go_skip | go_guarded | go_step | go_upon | go_back))
      generalize wa.alloc (.cells #[.slice A1 x.blobs.length c1, .slice B1 x.ents.length d1, .int .i64 (s.room : Int), .int .i64 (s.clock : Int)] 28) = wb at *
      generalize wa.heap.size = gx at *
      refine ((HH2'.out)).mono ?_; rintro e_ wc ⟨A2, c2, B2, d2, rfl, hr2, hbc⟩; dsimp only
      have hXc := hXb.below hbc
      have hrdc := hrdb.below hbc
      have hXxc := hXx.below hbc
      have hr1c := hr1b.below hbc
      have hb6 := hb5.trans (hbc.mono hb5.size)
      have hby := (Below.refl wc.heap.size wc).alloc (Nat.le_refl _) (.cells #[.slice A2 y.blobs.length c2, .slice B2 y.ents.length d2, .int .i64 (s.room : Int), .int .i64 (s.clock : Int)] 28)
      have hXy : Arr (wc.alloc (.cells #[.slice A2 y.blobs.length c2, .slice B2 y.ents.length d2, .int .i64 (s.room : Int), .int .i64 (s.clock : Int)] 28)) wc.heap.size 28 [.slice A2 y.blobs.length c2, .slice B2 y.ents.length d2, .int .i64 (s.room : Int), .int .i64 (s.clock : Int)] := Arr.new wc 28 _
      have hXd := hXc.below hby
      have hrdd := hrdc.below hby
      have hXxd := hXxc.below hby
      have hr1d := hr1c.below hby
      have hr2d := hr2.below hby
      have hb7 := hb6.trans (hby.mono hb6.size)
      have z0 := hXd.cell (k := 0) rfl
      have z1 := hXd.cell (k := 1) rfl
      have z2 := hXd.cell (k := 2) rfl
      have z3 := hXd.cell (k := 3) rfl
      have y0 := hXy.cell (k := 0) rfl
      have y1 := hXy.cell (k := 1) rfl
      have y2 := hXy.cell (k := 2) rfl
      have y3 := hXy.cell (k := 3) rfl
      have hsm := SameStore_ok As A2 Bs B2 cs c2 ds d2 s.blobs y.blobs s.ents y.ents (s.room : Int) (s.clock : Int) _ (by have := HSG.out.b.len; omega) (by have := HGY.out.b.len; omega) (gsB HSG.out) (gsB HGY.out) (by have := HSG.out.e.len; omega) (by have := HGY.out.e.len; omega) (gsE HSG.out) (gsE HGY.out) hrdd.b hr2d.b hrdd.e hr2d.e
      rw [HS1.out] at hsm
      have HSM := Lib.hid hsm
      clear hsm hXb hrdb hXx hr1b hb5 hbc hXc hrdc hXxc hr1c hb6 hby hr2 HH2'
      repeat' ((fail_if_success at_builtin); (fail_if_success at_make); (first | go_values | go_skip | go_guarded | go_step | go_upon | go_back))
      generalize wc.alloc (.cells #[.slice A2 y.blobs.length c2, .slice B2 y.ents.length d2, .int .i64 (s.room : Int), .int .i64 (s.clock : Int)] 28) = wd at *
      generalize wc.heap.size = gy at *
      clear z0 z1 z2 z3 y0 y1 y2 y3
      refine ((HSM.out)).mono ?_; rintro e_ we ⟨rfl, hbe⟩; dsimp only
      have hXe := hXd.below hbe
      have hrde := hrdd.below hbe
      have hXxe := hXxd.below hbe
      have hr1e := hr1d.below hbe
      have hb8 := hb7.trans (hbe.mono hb7.size)
      have z0 := hXe.cell (k := 0) rfl
      have z1 := hXe.cell (k := 1) rfl
      have z2 := hXe.cell (k := 2) rfl
      have z3 := hXe.cell (k := 3) rfl
      have x0 := hXxe.cell (k := 0) rfl
      have x1 := hXxe.cell (k := 1) rfl
      have x2 := hXxe.cell (k := 2) rfl
      have x3 := hXxe.cell (k := 3) rfl
      have hsm := SameStore_ok As A1 Bs B1 cs c1 ds d1 s.blobs x.blobs s.ents x.ents (s.room : Int) (s.clock : Int) we (by have := HSG.out.b.len; omega) (by have := HGX.out.b.len; omega) (gsB HSG.out) (gsB HGX.out) (by have := HSG.out.e.len; omega) (by have := HGX.out.e.len; omega) (gsE HSG.out) (gsE HGX.out) hrde.b hr1e.b hrde.e hr1e.e
      rw [HS2.out] at hsm
      have HSM2 := Lib.hid hsm
      clear hsm hXd hrdd hXxd hr1d hb7 hbe hXy hr2d
      repeat' ((fail_if_success at_builtin); (fail_if_success at_make); (first | go_values | go_skip | go_guarded | go_step | go_upon | go_back))
      clear z0 z1 z2 z3 x0 x1 x2 x3
      refine ((HSM2.out)).mono ?_; rintro e_ wf ⟨rfl, hbf⟩; dsimp only
      have hXS := hXe.below hbf
      have hrdS := hrde.below hbf
      have hbS := hb8.trans (hbf.mono hb8.size)
      clear hXe hrde hXxe hr1e hb8 hbf HSM HSM2 HS1 HS2 HGX HGY HX2 HR2 HB2 HSD HSB HPK
      generalize wf = w2 at *
      have dd := hXS.cell (k := 1) rfl
      by_cases hn : 0 < s.ents.length
      · have hnb : decide ((s.ents.length : Int) > 0) = true := decide_eq_true (by omega)
        have hnc : decide ((0 : Int) < (s.ents.length : Int)) = true := decide_eq_true (by omega)
        have hnd : decide (0 < s.ents.length) = true := decide_eq_true hn
        obtain ⟨k, hkk⟩ : ∃ k, k = pk j s.ents.length := ⟨_, rfl⟩
        have hk : k < s.ents.length := by rw [hkk]; exact pk_lt j hn
        have hpk := fun W => Picked_ok j s.ents.length (s.ents.length : Int) rfl W hj0 hj1 hn (by have := HSG.out.b.len; have := HSG.out.e.len; omega)
        rw [← hkk] at hpk
        have HPK := Lib.hid hpk
        obtain ⟨b, off, XB, xc, e1, hbb, c0, c1, c2, c3, _⟩ := hrdS.e.ent_at k hk
        obtain ⟨sd, hsd⟩ : ∃ x : ByteArray, x = ⟨s.ents[k].key.toArray⟩ := ⟨_, rfl⟩
        rw [← hsd] at c0
        have HSB := Lib.hid (show ∀ W, Below w2.heap.size w2 W → W.cell? ⟨gs, 1, none⟩ = some (.slice (some ⟨b, off, none⟩) s.ents.length ds) ∧ W.cell? ⟨b, off + k * 4, none⟩ = some (.string sd) from fun W h =>
          ⟨by rw [← e1]; exact (hXS.below h).cell (k := 1) rfl, (h.cell (p := ⟨b, off + k * 4, none⟩) hbb).trans c0⟩)
        have hm0 : (0 : Int) ≤ (k : Int) := by omega
        have hm1 : (k : Int) < (s.ents.length : Int) := by omega
        have HSD := Lib.hid hsd
        have HX2 := Lib.hid hXS
        have HR2 := Lib.hid hrdS
        have HB2 := Lib.hid hbS
        clear hpk hkk hsd c0 c1 c2 c3 hXS hrdS hbS e1 hbb
        repeat' ((fail_if_success at_builtin); (fail_if_success at_make); (first | go_values | go_skip | go_guarded | go_step | go_upon | go_back))
        clear dd hnb hnc hnd hn
        refine wp_region_held_drew (S := (fun w' => w'.cell? ⟨gs, 1, none⟩ = some (.slice (some ⟨b, off, none⟩) s.ents.length ds) ∧ w'.cell? ⟨b, off + k * 4, none⟩ = some (.string sd))) (by kernel_rfl) ?_ (fun hHeld => ?_)
        · exact HSB.out _ (Below.refl _ w2).drew
        have hB := (Below.refl w2.heap.size w2).drew
        generalize w2.drew = wn0 at *
        refine wpAnyH_take (i := 0) (oi := _) (v := ?_) rfl (by kernel_rfl) (by kernel_rfl) (by kernel_rfl) (fun _ _ _ h => h) (Or.inl ⟨by rfl, ?_⟩) (by assumption) ?_
        rotate_left
        · (intro w hSw; (try dsimp only at hSw); go_simp; try (with_reducible rfl))
        try simp only [List.getElem_toArray, List.getElem_cons_zero, List.getElem_cons_succ, Act.put, List.setIfInBounds_toArray, List.set_cons_zero, List.set_cons_succ]
        refine wpAnyH_take (i := 1) (oi := _) (v := ?_) rfl (by kernel_rfl) (by kernel_rfl) (by kernel_rfl) (fun _ _ _ h => h) (Or.inl ⟨by rfl, ?_⟩) (by assumption) ?_
        rotate_left
        · (intro w hSw; (try dsimp only at hSw); go_simp; try (with_reducible rfl))
        try simp only [List.getElem_toArray, List.getElem_cons_zero, List.getElem_cons_succ, Act.put, List.setIfInBounds_toArray, List.set_cons_zero, List.set_cons_succ]
        refine wpAnyH_take (i := 2) (oi := _) (v := ?_) rfl (by kernel_rfl) (by kernel_rfl) (by kernel_rfl) (fun _ _ _ h => h) (Or.inl ⟨by rfl, ?_⟩) (by assumption) ?_
        rotate_left
        · (intro w hSw; (try dsimp only at hSw); go_simp; try (with_reducible rfl))
        try simp only [List.getElem_toArray, List.getElem_cons_zero, List.getElem_cons_succ, Act.put, List.setIfInBounds_toArray, List.set_cons_zero, List.set_cons_succ]
        refine wpAnyH_take (i := 3) (oi := _) (v := ?_) rfl (by kernel_rfl) (by kernel_rfl) (by kernel_rfl) (fun _ _ _ h => h) (Or.inl ⟨by rfl, ?_⟩) (by assumption) ?_
        rotate_left
        · (intro w hSw; (try dsimp only at hSw); go_simp; try (with_reducible rfl))
        try simp only [List.getElem_toArray, List.getElem_cons_zero, List.getElem_cons_succ, Act.put, List.setIfInBounds_toArray, List.set_cons_zero, List.set_cons_succ]
        refine wpAnyH_take (i := 4) (oi := _) (v := ?_) rfl (by kernel_rfl) (by kernel_rfl) (by kernel_rfl) (fun _ _ _ h => h) (Or.inl ⟨by rfl, ?_⟩) (by assumption) ?_
        rotate_left
        · (intro w hSw; (try dsimp only at hSw); go_simp; try (with_reducible rfl))
        try simp only [List.getElem_toArray, List.getElem_cons_zero, List.getElem_cons_succ, Act.put, List.setIfInBounds_toArray, List.set_cons_zero, List.set_cons_succ]
        refine wpAnyH_take (i := 5) (oi := _) (v := ?_) rfl (by kernel_rfl) (by kernel_rfl) (by kernel_rfl) (fun _ _ _ h => h) (Or.inl ⟨by rfl, ?_⟩) (by assumption) ?_
        rotate_left
        · (intro w hSw; (try dsimp only at hSw); go_simp; try (with_reducible rfl))
        try simp only [List.getElem_toArray, List.getElem_cons_zero, List.getElem_cons_succ, Act.put, List.setIfInBounds_toArray, List.set_cons_zero, List.set_cons_succ]
        refine wpAnyH_ready (rs := [6]) (by kernel_rfl) (by simp) ?_
        refine AllReadyH.cons (o := _) rfl (fun K hK => ?_) ?_
        ·
          go_simp
          refine (HPK.out wn0).mono ?_
          rintro e6 wp6 ⟨rfl, rfl⟩
          dsimp only
          refine outG hK ?_ (Below wn0.heap.size wn0) (fun W => True) ?_ ?_ (fun wn1 hHeld hst hnew => ?_)
          · (exact HSB.out _ hB)
          · (exact Below.refl _ _)
          · (trivial)
          have hB := hB.trans (hst.mono hB.size)
          clear hst
          clear hK K
          try simp only [List.getElem_toArray, List.getElem_cons_zero, List.getElem_cons_succ, Act.put, List.setIfInBounds_toArray, List.set_cons_zero, List.set_cons_succ]
          refine wpAnyH_take (i := 7) (oi := _) (v := ?_) rfl (by kernel_rfl) (by kernel_rfl) (by kernel_rfl) (fun _ _ _ h => h) (Or.inl ⟨by rfl, ?_⟩) (by assumption) ?_
          rotate_left
          · (intro w hSw; (try dsimp only at hSw); go_simp; try (with_reducible rfl))
          try simp only [List.getElem_toArray, List.getElem_cons_zero, List.getElem_cons_succ, Act.put, List.setIfInBounds_toArray, List.set_cons_zero, List.set_cons_succ]
          refine wpAnyH_take (i := 8) (oi := _) (v := ?_) rfl (by kernel_rfl) (by kernel_rfl) (by kernel_rfl) (fun _ _ _ h => h) (Or.inl ⟨by rfl, ?_⟩) (by assumption) ?_
          rotate_left
          · (intro w hSw; (try dsimp only at hSw); go_simp; try (with_reducible rfl))
          try simp only [List.getElem_toArray, List.getElem_cons_zero, List.getElem_cons_succ, Act.put, List.setIfInBounds_toArray, List.set_cons_zero, List.set_cons_succ]
          refine wpAnyH_take (i := 9) (oi := _) (v := ?_) rfl (by kernel_rfl) (by kernel_rfl) (by kernel_rfl) (fun _ _ _ h => h) (Or.inl ⟨by rfl, ?_⟩) (by assumption) ?_
          rotate_left
          · (intro w hSw; (try dsimp only at hSw); go_simp; try (with_reducible rfl))
          try simp only [List.getElem_toArray, List.getElem_cons_zero, List.getElem_cons_succ, Act.put, List.setIfInBounds_toArray, List.set_cons_zero, List.set_cons_succ]
          refine wpAnyH_take (i := 10) (oi := _) (v := ?_) rfl (by kernel_rfl) (by kernel_rfl) (by kernel_rfl) (fun _ _ _ h => h) (Or.inl ⟨by rfl, ?_⟩) (by assumption) ?_
          rotate_left
          · (intro w hSw; (try dsimp only at hSw); go_simp; try (with_reducible rfl))
          try simp only [List.getElem_toArray, List.getElem_cons_zero, List.getElem_cons_succ, Act.put, List.setIfInBounds_toArray, List.set_cons_zero, List.set_cons_succ]
          refine wpAnyH_done (by kernel_rfl) ?_ _
          dsimp only [Exit.then]
          clear hHeld
          have hB3 := hB
          clear hB
          generalize wn1 = w3 at *
          have hX3 := HX2.out.below hB3
          have hrd3 := HR2.out.below hB3
          have hb3 := HB2.out.trans (hB3.mono HB2.out.size)
          obtain ⟨x, y, hxe, hxi, hxk, hxm, hye, hgx, hgy, hs1, hs2, hxr, hxc⟩ := hold_backE HSG.out hk (HPNE.out k hk)
          have z0 := hX3.cell (k := 0) rfl
          have z1 := hX3.cell (k := 1) rfl
          have z2 := hX3.cell (k := 2) rfl
          have z3 := hX3.cell (k := 3) rfl
          have hh := HoldEF_ok As cs Bs ds s x s.ents[k].key true k w3 HSG.out hrd3 hk rfl (show s.ents[k].pins < 5 by have := HPNE.out k hk; omega) hxe
          rw [← HSD.out] at hh
          have HH1 := Lib.hid hh
          have HH2 := Lib.hid (fun (A1 : Option Addr) (c1 : Nat) (B1 : Option Addr) (d1 : Nat) (W : World) (h : RdSt W A1 c1 B1 d1 x) => HoldEF_ok A1 c1 B1 d1 x y s.ents[k].key false k W hgx h hxi hxk hxm hye)
          rw [hxr, hxc, ← HSD.out] at HH2
          have HS1 := Lib.hid hs1
          have HS2 := Lib.hid hs2
          have HGX := Lib.hid hgx
          have HGY := Lib.hid hgy
          clear hh hxe hxi hxk hxm hye hgx hgy hs1 hs2 hxr hxc hB3
          repeat' ((fail_if_success at_builtin); (fail_if_success at_make); (first | go_values | go_skip | go_guarded | go_step | go_upon | go_back))
          clear z0 z1 z2 z3
          refine ((HH1.out)).mono ?_; rintro e_ wa ⟨A1, c1, B1, d1, rfl, hr1, hba⟩; dsimp only
          have hXa := hX3.below hba
          have hrda := hrd3.below hba
          have hb4 := hb3.trans (hba.mono hb3.size)
          have hbx := (Below.refl wa.heap.size wa).alloc (Nat.le_refl _) (.cells #[.slice A1 x.blobs.length c1, .slice B1 x.ents.length d1, .int .i64 (s.room : Int), .int .i64 (s.clock : Int)] 28)
          have hXx : Arr (wa.alloc (.cells #[.slice A1 x.blobs.length c1, .slice B1 x.ents.length d1, .int .i64 (s.room : Int), .int .i64 (s.clock : Int)] 28)) wa.heap.size 28 [.slice A1 x.blobs.length c1, .slice B1 x.ents.length d1, .int .i64 (s.room : Int), .int .i64 (s.clock : Int)] := Arr.new wa 28 _
          have hXb := hXa.below hbx
          have hrdb := hrda.below hbx
          have hr1b := hr1.below hbx
          have hb5 := hb4.trans (hbx.mono hb4.size)
          have HH2' := Lib.hid (HH2.out A1 c1 B1 d1 _ hr1b)
          clear hX3 hrd3 hb3 hba hXa hrda hb4 hbx hr1 HH1
          repeat' ((fail_if_success at_builtin); (fail_if_success at_make); (first | go_values | go_skip | go_guarded | go_step | go_upon | go_back))
          generalize wa.alloc (.cells #[.slice A1 x.blobs.length c1, .slice B1 x.ents.length d1, .int .i64 (s.room : Int), .int .i64 (s.clock : Int)] 28) = wb at *
          generalize wa.heap.size = gx at *
          refine ((HH2'.out)).mono ?_; rintro e_ wc ⟨A2, c2, B2, d2, rfl, hr2, hbc⟩; dsimp only
          have hXc := hXb.below hbc
          have hrdc := hrdb.below hbc
          have hXxc := hXx.below hbc
          have hr1c := hr1b.below hbc
          have hb6 := hb5.trans (hbc.mono hb5.size)
          have hby := (Below.refl wc.heap.size wc).alloc (Nat.le_refl _) (.cells #[.slice A2 y.blobs.length c2, .slice B2 y.ents.length d2, .int .i64 (s.room : Int), .int .i64 (s.clock : Int)] 28)
          have hXy : Arr (wc.alloc (.cells #[.slice A2 y.blobs.length c2, .slice B2 y.ents.length d2, .int .i64 (s.room : Int), .int .i64 (s.clock : Int)] 28)) wc.heap.size 28 [.slice A2 y.blobs.length c2, .slice B2 y.ents.length d2, .int .i64 (s.room : Int), .int .i64 (s.clock : Int)] := Arr.new wc 28 _
          have hXd := hXc.below hby
          have hrdd := hrdc.below hby
          have hXxd := hXxc.below hby
          have hr1d := hr1c.below hby
          have hr2d := hr2.below hby
          have hb7 := hb6.trans (hby.mono hb6.size)
          have z0 := hXd.cell (k := 0) rfl
          have z1 := hXd.cell (k := 1) rfl
          have z2 := hXd.cell (k := 2) rfl
          have z3 := hXd.cell (k := 3) rfl
          have y0 := hXy.cell (k := 0) rfl
          have y1 := hXy.cell (k := 1) rfl
          have y2 := hXy.cell (k := 2) rfl
          have y3 := hXy.cell (k := 3) rfl
          have hsm := SameStore_ok As A2 Bs B2 cs c2 ds d2 s.blobs y.blobs s.ents y.ents (s.room : Int) (s.clock : Int) _ (by have := HSG.out.b.len; omega) (by have := HGY.out.b.len; omega) (gsB HSG.out) (gsB HGY.out) (by have := HSG.out.e.len; omega) (by have := HGY.out.e.len; omega) (gsE HSG.out) (gsE HGY.out) hrdd.b hr2d.b hrdd.e hr2d.e
          rw [HS1.out] at hsm
          have HSM := Lib.hid hsm
          clear hsm hXb hrdb hXx hr1b hb5 hbc hXc hrdc hXxc hr1c hb6 hby hr2 HH2'
          repeat' ((fail_if_success at_builtin); (fail_if_success at_make); (first | go_values | go_skip | go_guarded | go_step | go_upon | go_back))
          generalize wc.alloc (.cells #[.slice A2 y.blobs.length c2, .slice B2 y.ents.length d2, .int .i64 (s.room : Int), .int .i64 (s.clock : Int)] 28) = wd at *
          generalize wc.heap.size = gy at *
          clear z0 z1 z2 z3 y0 y1 y2 y3
          refine ((HSM.out)).mono ?_; rintro e_ we ⟨rfl, hbe⟩; dsimp only
          have hXe := hXd.below hbe
          have hrde := hrdd.below hbe
          have hXxe := hXxd.below hbe
          have hr1e := hr1d.below hbe
          have hb8 := hb7.trans (hbe.mono hb7.size)
          have z0 := hXe.cell (k := 0) rfl
          have z1 := hXe.cell (k := 1) rfl
          have z2 := hXe.cell (k := 2) rfl
          have z3 := hXe.cell (k := 3) rfl
          have x0 := hXxe.cell (k := 0) rfl
          have x1 := hXxe.cell (k := 1) rfl
          have x2 := hXxe.cell (k := 2) rfl
          have x3 := hXxe.cell (k := 3) rfl
          have hsm := SameStore_ok As A1 Bs B1 cs c1 ds d1 s.blobs x.blobs s.ents x.ents (s.room : Int) (s.clock : Int) we (by have := HSG.out.b.len; omega) (by have := HGX.out.b.len; omega) (gsB HSG.out) (gsB HGX.out) (by have := HSG.out.e.len; omega) (by have := HGX.out.e.len; omega) (gsE HSG.out) (gsE HGX.out) hrde.b hr1e.b hrde.e hr1e.e
          rw [HS2.out] at hsm
          have HSM2 := Lib.hid hsm
          clear hsm hXd hrdd hXxd hr1d hb7 hbe hXy hr2d
          repeat' ((fail_if_success at_builtin); (fail_if_success at_make); (first | go_values | go_skip | go_guarded | go_step | go_upon | go_back))
          clear z0 z1 z2 z3 x0 x1 x2 x3
          refine ((HSM2.out)).mono ?_; rintro e_ wf ⟨rfl, hbf⟩; dsimp only
          have hXS := hXe.below hbf
          have hrdS := hrde.below hbf
          have hbS := hb8.trans (hbf.mono hb8.size)
          clear hXe hrde hXxe hr1e hb8 hbf HSM HSM2 HS1 HS2 HGX HGY HX2 HR2 HB2 HSD HSB HPK
          have HKP := Lib.hid (kept_ok wf)
          repeat' ((fail_if_success at_builtin); (fail_if_success at_make); (first | go_values | go_skip | go_guarded | go_step | go_upon | go_back))
          refine ((HKP.out)).mono ?_; rintro e_ wg ⟨rfl, hbg⟩; dsimp only
          have hbz := hbS.trans (hbg.mono hbS.size)
          repeat' ((fail_if_success at_builtin); (fail_if_success at_make); (first | go_values | go_skip | go_guarded | go_step | go_upon | go_back))
          go_ret
          exact ⟨rfl, hbz⟩
        exact AllReadyH.nil
      · have hnb : decide ((s.ents.length : Int) > 0) = false := decide_eq_false (by omega)
        have hnc : decide ((0 : Int) < (s.ents.length : Int)) = false := decide_eq_false (by omega)
        have hnd : decide (0 < s.ents.length) = false := decide_eq_false hn
        have HKP := Lib.hid (kept_ok w2)
        clear hXS hrdS
        repeat' ((fail_if_success at_builtin); (fail_if_success at_make); (first | go_values | go_skip | go_guarded | go_step | go_upon | go_back))
        clear dd
        refine ((HKP.out)).mono ?_; rintro e_ w9 ⟨rfl, hb9⟩; dsimp only
        have hbz := hbS.trans (hb9.mono hbS.size)
        repeat' ((fail_if_success at_builtin); (fail_if_success at_make); (first | go_values | go_skip | go_guarded | go_step | go_upon | go_back))
        go_ret
        exact ⟨rfl, hbz⟩
    exact AllReadyH.nil
  · have hnb : decide ((s.blobs.length : Int) > 0) = false := decide_eq_false (by omega)
    have hnc : decide ((0 : Int) < (s.blobs.length : Int)) = false := decide_eq_false (by omega)
    have hnd : decide (0 < s.blobs.length) = false := decide_eq_false hn
    clear hn
    have dd := hXS.cell (k := 1) rfl
    by_cases hn : 0 < s.ents.length
    · have hnb : decide ((s.ents.length : Int) > 0) = true := decide_eq_true (by omega)
      have hnc : decide ((0 : Int) < (s.ents.length : Int)) = true := decide_eq_true (by omega)
      have hnd : decide (0 < s.ents.length) = true := decide_eq_true hn
      obtain ⟨k, hkk⟩ : ∃ k, k = pk j s.ents.length := ⟨_, rfl⟩
      have hk : k < s.ents.length := by rw [hkk]; exact pk_lt j hn
      have hpk := fun W => Picked_ok j s.ents.length (s.ents.length : Int) rfl W hj0 hj1 hn (by have := HSG.out.b.len; have := HSG.out.e.len; omega)
      rw [← hkk] at hpk
      have HPK := Lib.hid hpk
      obtain ⟨b, off, XB, xc, e1, hbb, c0, c1, c2, c3, _⟩ := hrdS.e.ent_at k hk
      obtain ⟨sd, hsd⟩ : ∃ x : ByteArray, x = ⟨s.ents[k].key.toArray⟩ := ⟨_, rfl⟩
      rw [← hsd] at c0
      have HSB := Lib.hid (show ∀ W, Below w2.heap.size w2 W → W.cell? ⟨gs, 1, none⟩ = some (.slice (some ⟨b, off, none⟩) s.ents.length ds) ∧ W.cell? ⟨b, off + k * 4, none⟩ = some (.string sd) from fun W h =>
        ⟨by rw [← e1]; exact (hXS.below h).cell (k := 1) rfl, (h.cell (p := ⟨b, off + k * 4, none⟩) hbb).trans c0⟩)
      have hm0 : (0 : Int) ≤ (k : Int) := by omega
      have hm1 : (k : Int) < (s.ents.length : Int) := by omega
      have HSD := Lib.hid hsd
      have HX2 := Lib.hid hXS
      have HR2 := Lib.hid hrdS
      have HB2 := Lib.hid hbS
      clear hpk hkk hsd c0 c1 c2 c3 hXS hrdS hbS e1 hbb
      repeat' ((fail_if_success at_builtin); (fail_if_success at_make); (first | go_values | go_skip | go_guarded | go_step | go_upon | go_back))
      clear dd hnb hnc hnd hn
      refine wp_region_held_drew (S := (fun w' => w'.cell? ⟨gs, 1, none⟩ = some (.slice (some ⟨b, off, none⟩) s.ents.length ds) ∧ w'.cell? ⟨b, off + k * 4, none⟩ = some (.string sd))) (by kernel_rfl) ?_ (fun hHeld => ?_)
      · exact HSB.out _ (Below.refl _ w2).drew
      have hB := (Below.refl w2.heap.size w2).drew
      generalize w2.drew = wn0 at *
      refine wpAnyH_take (i := 0) (oi := _) (v := ?_) rfl (by kernel_rfl) (by kernel_rfl) (by kernel_rfl) (fun _ _ _ h => h) (Or.inl ⟨by rfl, ?_⟩) (by assumption) ?_
      rotate_left
      · (intro w hSw; (try dsimp only at hSw); go_simp; try (with_reducible rfl))
      try simp only [List.getElem_toArray, List.getElem_cons_zero, List.getElem_cons_succ, Act.put, List.setIfInBounds_toArray, List.set_cons_zero, List.set_cons_succ]
      refine wpAnyH_take (i := 1) (oi := _) (v := ?_) rfl (by kernel_rfl) (by kernel_rfl) (by kernel_rfl) (fun _ _ _ h => h) (Or.inl ⟨by rfl, ?_⟩) (by assumption) ?_
      rotate_left
      · (intro w hSw; (try dsimp only at hSw); go_simp; try (with_reducible rfl))
      try simp only [List.getElem_toArray, List.getElem_cons_zero, List.getElem_cons_succ, Act.put, List.setIfInBounds_toArray, List.set_cons_zero, List.set_cons_succ]
      refine wpAnyH_take (i := 2) (oi := _) (v := ?_) rfl (by kernel_rfl) (by kernel_rfl) (by kernel_rfl) (fun _ _ _ h => h) (Or.inl ⟨by rfl, ?_⟩) (by assumption) ?_
      rotate_left
      · (intro w hSw; (try dsimp only at hSw); go_simp; try (with_reducible rfl))
      try simp only [List.getElem_toArray, List.getElem_cons_zero, List.getElem_cons_succ, Act.put, List.setIfInBounds_toArray, List.set_cons_zero, List.set_cons_succ]
      refine wpAnyH_take (i := 3) (oi := _) (v := ?_) rfl (by kernel_rfl) (by kernel_rfl) (by kernel_rfl) (fun _ _ _ h => h) (Or.inl ⟨by rfl, ?_⟩) (by assumption) ?_
      rotate_left
      · (intro w hSw; (try dsimp only at hSw); go_simp; try (with_reducible rfl))
      try simp only [List.getElem_toArray, List.getElem_cons_zero, List.getElem_cons_succ, Act.put, List.setIfInBounds_toArray, List.set_cons_zero, List.set_cons_succ]
      refine wpAnyH_take (i := 4) (oi := _) (v := ?_) rfl (by kernel_rfl) (by kernel_rfl) (by kernel_rfl) (fun _ _ _ h => h) (Or.inl ⟨by rfl, ?_⟩) (by assumption) ?_
      rotate_left
      · (intro w hSw; (try dsimp only at hSw); go_simp; try (with_reducible rfl))
      try simp only [List.getElem_toArray, List.getElem_cons_zero, List.getElem_cons_succ, Act.put, List.setIfInBounds_toArray, List.set_cons_zero, List.set_cons_succ]
      refine wpAnyH_take (i := 5) (oi := _) (v := ?_) rfl (by kernel_rfl) (by kernel_rfl) (by kernel_rfl) (fun _ _ _ h => h) (Or.inl ⟨by rfl, ?_⟩) (by assumption) ?_
      rotate_left
      · (intro w hSw; (try dsimp only at hSw); go_simp; try (with_reducible rfl))
      try simp only [List.getElem_toArray, List.getElem_cons_zero, List.getElem_cons_succ, Act.put, List.setIfInBounds_toArray, List.set_cons_zero, List.set_cons_succ]
      refine wpAnyH_ready (rs := [6]) (by kernel_rfl) (by simp) ?_
      refine AllReadyH.cons (o := _) rfl (fun K hK => ?_) ?_
      ·
        go_simp
        refine (HPK.out wn0).mono ?_
        rintro e6 wp6 ⟨rfl, rfl⟩
        dsimp only
        refine outG hK ?_ (Below wn0.heap.size wn0) (fun W => True) ?_ ?_ (fun wn1 hHeld hst hnew => ?_)
        · (exact HSB.out _ hB)
        · (exact Below.refl _ _)
        · (trivial)
        have hB := hB.trans (hst.mono hB.size)
        clear hst
        clear hK K
        try simp only [List.getElem_toArray, List.getElem_cons_zero, List.getElem_cons_succ, Act.put, List.setIfInBounds_toArray, List.set_cons_zero, List.set_cons_succ]
        refine wpAnyH_take (i := 7) (oi := _) (v := ?_) rfl (by kernel_rfl) (by kernel_rfl) (by kernel_rfl) (fun _ _ _ h => h) (Or.inl ⟨by rfl, ?_⟩) (by assumption) ?_
        rotate_left
        · (intro w hSw; (try dsimp only at hSw); go_simp; try (with_reducible rfl))
        try simp only [List.getElem_toArray, List.getElem_cons_zero, List.getElem_cons_succ, Act.put, List.setIfInBounds_toArray, List.set_cons_zero, List.set_cons_succ]
        refine wpAnyH_take (i := 8) (oi := _) (v := ?_) rfl (by kernel_rfl) (by kernel_rfl) (by kernel_rfl) (fun _ _ _ h => h) (Or.inl ⟨by rfl, ?_⟩) (by assumption) ?_
        rotate_left
        · (intro w hSw; (try dsimp only at hSw); go_simp; try (with_reducible rfl))
        try simp only [List.getElem_toArray, List.getElem_cons_zero, List.getElem_cons_succ, Act.put, List.setIfInBounds_toArray, List.set_cons_zero, List.set_cons_succ]
        refine wpAnyH_take (i := 9) (oi := _) (v := ?_) rfl (by kernel_rfl) (by kernel_rfl) (by kernel_rfl) (fun _ _ _ h => h) (Or.inl ⟨by rfl, ?_⟩) (by assumption) ?_
        rotate_left
        · (intro w hSw; (try dsimp only at hSw); go_simp; try (with_reducible rfl))
        try simp only [List.getElem_toArray, List.getElem_cons_zero, List.getElem_cons_succ, Act.put, List.setIfInBounds_toArray, List.set_cons_zero, List.set_cons_succ]
        refine wpAnyH_take (i := 10) (oi := _) (v := ?_) rfl (by kernel_rfl) (by kernel_rfl) (by kernel_rfl) (fun _ _ _ h => h) (Or.inl ⟨by rfl, ?_⟩) (by assumption) ?_
        rotate_left
        · (intro w hSw; (try dsimp only at hSw); go_simp; try (with_reducible rfl))
        try simp only [List.getElem_toArray, List.getElem_cons_zero, List.getElem_cons_succ, Act.put, List.setIfInBounds_toArray, List.set_cons_zero, List.set_cons_succ]
        refine wpAnyH_done (by kernel_rfl) ?_ _
        dsimp only [Exit.then]
        clear hHeld
        have hB3 := hB
        clear hB
        generalize wn1 = w3 at *
        have hX3 := HX2.out.below hB3
        have hrd3 := HR2.out.below hB3
        have hb3 := HB2.out.trans (hB3.mono HB2.out.size)
        obtain ⟨x, y, hxe, hxi, hxk, hxm, hye, hgx, hgy, hs1, hs2, hxr, hxc⟩ := hold_backE HSG.out hk (HPNE.out k hk)
        have z0 := hX3.cell (k := 0) rfl
        have z1 := hX3.cell (k := 1) rfl
        have z2 := hX3.cell (k := 2) rfl
        have z3 := hX3.cell (k := 3) rfl
        have hh := HoldEF_ok As cs Bs ds s x s.ents[k].key true k w3 HSG.out hrd3 hk rfl (show s.ents[k].pins < 5 by have := HPNE.out k hk; omega) hxe
        rw [← HSD.out] at hh
        have HH1 := Lib.hid hh
        have HH2 := Lib.hid (fun (A1 : Option Addr) (c1 : Nat) (B1 : Option Addr) (d1 : Nat) (W : World) (h : RdSt W A1 c1 B1 d1 x) => HoldEF_ok A1 c1 B1 d1 x y s.ents[k].key false k W hgx h hxi hxk hxm hye)
        rw [hxr, hxc, ← HSD.out] at HH2
        have HS1 := Lib.hid hs1
        have HS2 := Lib.hid hs2
        have HGX := Lib.hid hgx
        have HGY := Lib.hid hgy
        clear hh hxe hxi hxk hxm hye hgx hgy hs1 hs2 hxr hxc hB3
        repeat' ((fail_if_success at_builtin); (fail_if_success at_make); (first | go_values | go_skip | go_guarded | go_step | go_upon | go_back))
        clear z0 z1 z2 z3
        refine ((HH1.out)).mono ?_; rintro e_ wa ⟨A1, c1, B1, d1, rfl, hr1, hba⟩; dsimp only
        have hXa := hX3.below hba
        have hrda := hrd3.below hba
        have hb4 := hb3.trans (hba.mono hb3.size)
        have hbx := (Below.refl wa.heap.size wa).alloc (Nat.le_refl _) (.cells #[.slice A1 x.blobs.length c1, .slice B1 x.ents.length d1, .int .i64 (s.room : Int), .int .i64 (s.clock : Int)] 28)
        have hXx : Arr (wa.alloc (.cells #[.slice A1 x.blobs.length c1, .slice B1 x.ents.length d1, .int .i64 (s.room : Int), .int .i64 (s.clock : Int)] 28)) wa.heap.size 28 [.slice A1 x.blobs.length c1, .slice B1 x.ents.length d1, .int .i64 (s.room : Int), .int .i64 (s.clock : Int)] := Arr.new wa 28 _
        have hXb := hXa.below hbx
        have hrdb := hrda.below hbx
        have hr1b := hr1.below hbx
        have hb5 := hb4.trans (hbx.mono hb4.size)
        have HH2' := Lib.hid (HH2.out A1 c1 B1 d1 _ hr1b)
        clear hX3 hrd3 hb3 hba hXa hrda hb4 hbx hr1 HH1
        repeat' ((fail_if_success at_builtin); (fail_if_success at_make); (first | go_values | go_skip | go_guarded | go_step | go_upon | go_back))
        generalize wa.alloc (.cells #[.slice A1 x.blobs.length c1, .slice B1 x.ents.length d1, .int .i64 (s.room : Int), .int .i64 (s.clock : Int)] 28) = wb at *
        generalize wa.heap.size = gx at *
        refine ((HH2'.out)).mono ?_; rintro e_ wc ⟨A2, c2, B2, d2, rfl, hr2, hbc⟩; dsimp only
        have hXc := hXb.below hbc
        have hrdc := hrdb.below hbc
        have hXxc := hXx.below hbc
        have hr1c := hr1b.below hbc
        have hb6 := hb5.trans (hbc.mono hb5.size)
        have hby := (Below.refl wc.heap.size wc).alloc (Nat.le_refl _) (.cells #[.slice A2 y.blobs.length c2, .slice B2 y.ents.length d2, .int .i64 (s.room : Int), .int .i64 (s.clock : Int)] 28)
        have hXy : Arr (wc.alloc (.cells #[.slice A2 y.blobs.length c2, .slice B2 y.ents.length d2, .int .i64 (s.room : Int), .int .i64 (s.clock : Int)] 28)) wc.heap.size 28 [.slice A2 y.blobs.length c2, .slice B2 y.ents.length d2, .int .i64 (s.room : Int), .int .i64 (s.clock : Int)] := Arr.new wc 28 _
        have hXd := hXc.below hby
        have hrdd := hrdc.below hby
        have hXxd := hXxc.below hby
        have hr1d := hr1c.below hby
        have hr2d := hr2.below hby
        have hb7 := hb6.trans (hby.mono hb6.size)
        have z0 := hXd.cell (k := 0) rfl
        have z1 := hXd.cell (k := 1) rfl
        have z2 := hXd.cell (k := 2) rfl
        have z3 := hXd.cell (k := 3) rfl
        have y0 := hXy.cell (k := 0) rfl
        have y1 := hXy.cell (k := 1) rfl
        have y2 := hXy.cell (k := 2) rfl
        have y3 := hXy.cell (k := 3) rfl
        have hsm := SameStore_ok As A2 Bs B2 cs c2 ds d2 s.blobs y.blobs s.ents y.ents (s.room : Int) (s.clock : Int) _ (by have := HSG.out.b.len; omega) (by have := HGY.out.b.len; omega) (gsB HSG.out) (gsB HGY.out) (by have := HSG.out.e.len; omega) (by have := HGY.out.e.len; omega) (gsE HSG.out) (gsE HGY.out) hrdd.b hr2d.b hrdd.e hr2d.e
        rw [HS1.out] at hsm
        have HSM := Lib.hid hsm
        clear hsm hXb hrdb hXx hr1b hb5 hbc hXc hrdc hXxc hr1c hb6 hby hr2 HH2'
        repeat' ((fail_if_success at_builtin); (fail_if_success at_make); (first | go_values | go_skip | go_guarded | go_step | go_upon | go_back))
        generalize wc.alloc (.cells #[.slice A2 y.blobs.length c2, .slice B2 y.ents.length d2, .int .i64 (s.room : Int), .int .i64 (s.clock : Int)] 28) = wd at *
        generalize wc.heap.size = gy at *
        clear z0 z1 z2 z3 y0 y1 y2 y3
        refine ((HSM.out)).mono ?_; rintro e_ we ⟨rfl, hbe⟩; dsimp only
        have hXe := hXd.below hbe
        have hrde := hrdd.below hbe
        have hXxe := hXxd.below hbe
        have hr1e := hr1d.below hbe
        have hb8 := hb7.trans (hbe.mono hb7.size)
        have z0 := hXe.cell (k := 0) rfl
        have z1 := hXe.cell (k := 1) rfl
        have z2 := hXe.cell (k := 2) rfl
        have z3 := hXe.cell (k := 3) rfl
        have x0 := hXxe.cell (k := 0) rfl
        have x1 := hXxe.cell (k := 1) rfl
        have x2 := hXxe.cell (k := 2) rfl
        have x3 := hXxe.cell (k := 3) rfl
        have hsm := SameStore_ok As A1 Bs B1 cs c1 ds d1 s.blobs x.blobs s.ents x.ents (s.room : Int) (s.clock : Int) we (by have := HSG.out.b.len; omega) (by have := HGX.out.b.len; omega) (gsB HSG.out) (gsB HGX.out) (by have := HSG.out.e.len; omega) (by have := HGX.out.e.len; omega) (gsE HSG.out) (gsE HGX.out) hrde.b hr1e.b hrde.e hr1e.e
        rw [HS2.out] at hsm
        have HSM2 := Lib.hid hsm
        clear hsm hXd hrdd hXxd hr1d hb7 hbe hXy hr2d
        repeat' ((fail_if_success at_builtin); (fail_if_success at_make); (first | go_values | go_skip | go_guarded | go_step | go_upon | go_back))
        clear z0 z1 z2 z3 x0 x1 x2 x3
        refine ((HSM2.out)).mono ?_; rintro e_ wf ⟨rfl, hbf⟩; dsimp only
        have hXS := hXe.below hbf
        have hrdS := hrde.below hbf
        have hbS := hb8.trans (hbf.mono hb8.size)
        clear hXe hrde hXxe hr1e hb8 hbf HSM HSM2 HS1 HS2 HGX HGY HX2 HR2 HB2 HSD HSB HPK
        have HKP := Lib.hid (kept_ok wf)
        repeat' ((fail_if_success at_builtin); (fail_if_success at_make); (first | go_values | go_skip | go_guarded | go_step | go_upon | go_back))
        refine ((HKP.out)).mono ?_; rintro e_ wg ⟨rfl, hbg⟩; dsimp only
        have hbz := hbS.trans (hbg.mono hbS.size)
        repeat' ((fail_if_success at_builtin); (fail_if_success at_make); (first | go_values | go_skip | go_guarded | go_step | go_upon | go_back))
        go_ret
        exact ⟨rfl, hbz⟩
      exact AllReadyH.nil
    · have hnb : decide ((s.ents.length : Int) > 0) = false := decide_eq_false (by omega)
      have hnc : decide ((0 : Int) < (s.ents.length : Int)) = false := decide_eq_false (by omega)
      have hnd : decide (0 < s.ents.length) = false := decide_eq_false hn
      have HKP := Lib.hid (kept_ok w2)
      clear hXS hrdS
      repeat' ((fail_if_success at_builtin); (fail_if_success at_make); (first | go_values | go_skip | go_guarded | go_step | go_upon | go_back))
      clear dd
      refine ((HKP.out)).mono ?_; rintro e_ w9 ⟨rfl, hb9⟩; dsimp only
      have hbz := hbS.trans (hb9.mono hbS.size)
      repeat' ((fail_if_success at_builtin); (fail_if_success at_make); (first | go_values | go_skip | go_guarded | go_step | go_upon | go_back))
      go_ret
      exact ⟨rfl, hbz⟩
end Go.Proofs.YtjldpfijekpddaaGreat
