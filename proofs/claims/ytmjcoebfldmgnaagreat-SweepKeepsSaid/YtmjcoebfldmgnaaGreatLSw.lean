/- The walk of SweepKeeps. Conditions: the sizes. -/
import Derived.Test.YtmjcoebfldmgnaaGreatMks
import Derived.Test.YtmjcoebfldmgnaaGreatSwp
import Derived.Test.YtmjcoebfldmgnaaGreatStd
namespace Go.Proofs.YtmjcoebfldmgnaaGreat
open Go.RowKit Go.Maps
set_option linter.unusedVariables false
set_option linter.unusedSimpArgs false
set_option maxRecDepth 100000

theorem sto_bone_s (l : List RawP) : ∀ b ∈ (sto l).blobs, b.data.length ≤ 148 ∧ b.mark = false := fun b hb => by
  have h := (acc_take l 12).bone
  have pb : ((sto l).blobs).Perm (stAcc l).blobs := srt_perm _ _
  have := h b (pb.mem_iff.1 hb)
  exact ⟨this.2.1, this.2.2.2⟩
theorem sto_blen (l : List RawP) : (sto l).blobs.length ≤ 12 := by
  have pb : ((sto l).blobs).Perm (stAcc l).blobs := srt_perm _ _
  rw [pb.length_eq]; exact (acc_take l 12).blen
theorem rch_uni (bl : List BlobP) (ds : List (List UInt8)) : Rch bl (uni ds) = Rch bl ds := funext fun x => propext ⟨fun h => h.dmono fun _ h => mem_uni.1 h, fun h => h.dmono fun _ h => mem_uni.2 h⟩
/-- the store with what is come to marked: it may be swept -/
theorem swept_start {s : StoP} (hg : GoodS s) (hm : ∀ b ∈ s.blobs, b.mark = false) {L : List (List UInt8)} (hL : StrL L (Rch s.blobs (uni (rts s)))) :
    GoodS { s with blobs := mkAll s.blobs L } ∧ GoodC { s with blobs := mkAll s.blobs L } ⟨2, [], []⟩ ∧ OnlyC { s with blobs := mkAll s.blobs L } ⟨2, [], []⟩ := by
  have hE := mkAll_eqM s.blobs L
  have hR : Rch (mkAll s.blobs L) (rts { s with blobs := mkAll s.blobs L }) = Rch s.blobs (rts s) := by rw [eqM_rts hE]; exact eqM_rch hE
  rw [rch_uni] at hL
  refine ⟨eqM_good hE hg, ⟨Nat.le_refl _, (fun d hd => by cases hd), List.Pairwise.nil, .inl rfl, fun _ => rfl, fun h => absurd rfl h, fun h => (by cases h), fun h => (by cases h), fun _ x hx => ?_⟩, ⟨fun b hb hmb => ?_, (fun x hx => by cases hx), fun _ b hb hl => ?_, fun h => by cases h⟩⟩
  · have hx' : Rch s.blobs (rts s) x := by rw [← hR]; exact hx
    obtain ⟨b, hb, rfl⟩ := hx'.inB
    refine mem_mkd.2 ⟨{ b with mark := true }, List.mem_map.2 ⟨b, hb, ?_⟩, rfl, rfl⟩
    rw [if_pos ((hL.mem _).2 hx')]
  · show Rch (mkAll s.blobs L) _ _
    rw [hR]
    obtain ⟨a, ha, rfl⟩ := List.mem_map.1 hb
    by_cases h : a.dig ∈ L
    · simp only [if_pos h]; exact (hL.mem _).1 h
    · simp only [if_neg h] at hmb
      rw [hm a ha] at hmb; cases hmb
  · exfalso
    have hl' : Op.bytesLess [] b.dig = false := hl
    obtain ⟨b', hb', e1, e2, _⟩ := hE.symm.mem hb
    have h1 := hexC_len (hexC_sha b'.data)
    rw [← (hg.b.one b' hb').1, e1] at h1
    rw [bl_nil1 (fun e => by rw [e] at h1; cases h1)] at hl'
    cases hl'
theorem erase_gone {s : StoP} (hg : GoodS s) {i : Nat} (hi : i < s.blobs.length) : (s.blobs.eraseIdx i).any (fun x => x.dig == s.blobs[i].dig) = false := by
  rw [List.any_eq_false]
  intro x hx he
  have he' : x.dig = s.blobs[i].dig := by simpa using he
  obtain ⟨k, hk, hki, e2⟩ := List.mem_eraseIdx_iff_getElem.1 hx
  subst e2
  have := (List.getElem_inj (xs := s.blobs.map (·.dig)) (i := k) (j := i) (h₀ := by simpa using hk) (h₁ := by simpa using hi) hg.b.ris.map.nodup).1 (by simpa using he')
  exact hki this
set_option maxHeartbeats 16000000 in
theorem SweepKeeps_walk (A : Option Addr) (n c : Nat) (l : List RawP) (w : World) (hl : l.length = n) (hc : n ≤ c) (hm : c ≤ maxLen) (hok : ∀ r ∈ l, RawOk r) (hr : Rd w 4 A n (rcs l)) :
    Calls Tryz.prog 11 #[.slice A n c] w fun e w' => e = .returned (.bool true) ∧ Below w.heap.size w w' := by
  have HST2 := Lib.hid (show ∀ W, Below w.heap.size w W → _ from fun W h => Store_ok A n c l W hl hc hm hok (hr.below h))
  have HLN := Lib.hid (sto_blen l)
  have HMF := Lib.hid (show ∀ b ∈ (sto l).blobs, b.mark = false from fun b hb => (sto_bone_s l b hb).2)
  have HDA := Lib.hid (show ∀ b ∈ (sto l).blobs, b.data.length ≤ 1000000 from fun b hb => by have := (sto_bone_s l b hb).1; omega)
  have HS := Lib.hid (Store_ok A n c l w hl hc hm hok hr)
  have HGS := Lib.hid (sto_good l)
  clear hok hl hr hc hm
  generalize sto l = s at *
  have hbl := HGS.out.b.len
  have hel := HGS.out.e.len
  go_enter Tryz.func11, Tryz.ntmps11
  repeat' ((fail_if_success at_builtin); (fail_if_success at_make); (first | go_values | go_skip | go_guarded | go_step | go_upon | go_back))
  refine ((HS.out)).mono ?_; rintro e_ w1 ⟨v1, v2, rfl, hb, he, hb1⟩; dsimp only
  obtain ⟨Ab, cb, rfl, hcb1, hcb2, hRb⟩ := hb.rows
  obtain ⟨Ae, ce, rfl, hce1, hce2, hRe⟩ := he.rows
  have hrd1 : RdSt w1 Ab cb Ae ce s := ⟨hRb, hRe, hcb1, hcb2, hce1, hce2⟩
  obtain ⟨gs, hgs⟩ : ∃ g, g = w1.heap.size := ⟨_, rfl⟩
  have bx : Arr (w1.alloc (.cells #[.slice Ab s.blobs.length cb, .slice Ae s.ents.length ce, .int .i64 (s.room : Int), .int .i64 (s.clock : Int)] 26)) gs 26 [.slice Ab s.blobs.length cb, .slice Ae s.ents.length ce, .int .i64 (s.room : Int), .int .i64 (s.clock : Int)] := by rw [hgs]; exact Arr.new w1 26 _
  have hB2 : Below gs w1 (w1.alloc (.cells #[.slice Ab s.blobs.length cb, .slice Ae s.ents.length ce, .int .i64 (s.room : Int), .int .i64 (s.clock : Int)] 26)) := by rw [hgs]; exact (Below.refl w1.heap.size w1).alloc (Nat.le_refl _) _
  have HRD := Lib.hid (show ∀ W, Below gs w1 W → RdSt W Ab cb Ae ce s from fun W h => hrd1.below (hgs ▸ h))
  have HGSZ := Lib.hid hgs
  have q0 := bx.cell (k := 0) rfl
  clear hb he hRb hRe hrd1
  repeat' ((fail_if_success (with_reducible refine at_reg_ 2 ?_)); (fail_if_success (with_reducible refine at_sreg_ 2 ?_)); (fail_if_success (with_reducible refine at_ssreg_ 2 ?_)); (fail_if_success at_builtin); (fail_if_success at_make); (first | go_values | go_skip | go_guarded | go_step | go_upon | go_back))
  rw [← HGSZ.out]
  have hgw : w.heap.size ≤ gs := by rw [hgs]; exact hb1.size
  clear q0 hgs
  generalize hw2 : w1.alloc (.cells #[.slice Ab s.blobs.length cb, .slice Ae s.ents.length ce, .int .i64 (s.room : Int), .int .i64 (s.clock : Int)] 26) = w2 at *
  have hsz2 : gs + 1 ≤ w2.heap.size := bx.lt
  clear hw2
  have HB2 := Lib.hid hB2
  have HSZ0 := Lib.hid hsz2
  --HELDK
  refine wp_region_heldT_drew 6 (S := (fun w' => w'.cell? ⟨gs, 0, none⟩ = some (.slice Ab s.blobs.length cb) ∧ w'.cell? ⟨gs, 1, none⟩ = some (.slice Ae s.ents.length ce) ∧ w'.cell? ⟨gs, 2, none⟩ = some (.int .i64 (s.room : Int)) ∧ w'.cell? ⟨gs, 3, none⟩ = some (.int .i64 (s.clock : Int)))) (by kernel_rfl) ?_ (fun hHeld => ?_)
  · exact ⟨(bx.drew).cell (k := 0) rfl, (bx.drew).cell (k := 1) rfl, (bx.drew).cell (k := 2) rfl, (bx.drew).cell (k := 3) rfl⟩
  have hB := hB2.drew
  have bx := bx.drew
  have hsz : gs + 1 ≤ w2.drew.heap.size := hsz2
  generalize w2.drew = wn0 at *
  refine wpAnyT_take (i := 0) (oi := _) (v := ?_) rfl (by kernel_rfl) (by kernel_rfl) (by kernel_rfl) (by kernel_rfl) (by kernel_rfl) (fun _ _ _ h => h) (Or.inl ⟨by rfl, ?_⟩) (by assumption) ?_
  rotate_left
  · (intro w hSw; (try dsimp only at hSw); go_simp; try (with_reducible rfl))
  try simp only [List.getElem_toArray, List.getElem_cons_zero, List.getElem_cons_succ, Act.put, List.setIfInBounds_toArray, List.set_cons_zero, List.set_cons_succ]
  refine wpAnyT_take (i := 1) (oi := _) (v := ?_) rfl (by kernel_rfl) (by kernel_rfl) (by kernel_rfl) (by kernel_rfl) (by kernel_rfl) (fun _ _ _ h => h) (Or.inl ⟨by rfl, ?_⟩) (by assumption) ?_
  rotate_left
  · (intro w hSw; (try dsimp only at hSw); go_simp; try (with_reducible rfl))
  try simp only [List.getElem_toArray, List.getElem_cons_zero, List.getElem_cons_succ, Act.put, List.setIfInBounds_toArray, List.set_cons_zero, List.set_cons_succ]
  refine wpAnyT_take (i := 2) (oi := _) (v := ?_) rfl (by kernel_rfl) (by kernel_rfl) (by kernel_rfl) (by kernel_rfl) (by kernel_rfl) (fun _ _ _ h => h) (Or.inl ⟨by rfl, ?_⟩) (by assumption) ?_
  rotate_left
  · (intro w hSw; (try dsimp only at hSw); go_simp; try (with_reducible rfl))
  try simp only [List.getElem_toArray, List.getElem_cons_zero, List.getElem_cons_succ, Act.put, List.setIfInBounds_toArray, List.set_cons_zero, List.set_cons_succ]
  refine wpAnyT_ready (rs := [3]) (by kernel_rfl) (by simp) ?_
  refine AllReadyT.cons (o := _) rfl (fun K hK => ?_) ?_
  ·
    go_simp
    refine (Roots_ok Ab Ae cb ce s (s.room : Int) (s.clock : Int) wn0 HGS.out.rts (HRD.out _ hB)).mono ?_
    rintro e5 w5 ⟨v5, L, rfl, hL, hLl, ho5, hb5⟩
    obtain rfl := hL.uni (L := rts s) (fun x => Iff.rfl)
    obtain ⟨A5, c5, rfl, _, hr5⟩ := Rd.of_own' ho5
    clear ho5 hL
    dsimp only
    refine outT hK ?_ (Below wn0.heap.size wn0) (fun W => Rd W 1 A5 (uni (rts s)).length (strs (uni (rts s)))) ?_ ?_ (fun wn1 hHeld hst hnew => ?_)
    · (exact ⟨(bx.below hb5).cell (k := 0) rfl, (bx.below hb5).cell (k := 1) rfl, (bx.below hb5).cell (k := 2) rfl, (bx.below hb5).cell (k := 3) rfl⟩)
    · (exact hb5)
    · (exact hr5)
    have hszo := hsz
    have hsz := Nat.le_trans hszo hst.size
    have bx := bx.below hst
    have hB := hB.trans (hst.mono (Nat.le_trans (Nat.le_succ gs) hszo))
    have hrt := hnew
    clear hnew
    clear hst
    clear hK K
    try simp only [List.getElem_toArray, List.getElem_cons_zero, List.getElem_cons_succ, Act.put, List.setIfInBounds_toArray, List.set_cons_zero, List.set_cons_succ]
    refine wpAnyT_ready (rs := [4]) (by kernel_rfl) (by simp) ?_
    refine AllReadyT.cons (o := _) rfl (fun K hK => ?_) ?_
    ·
      go_simp
      refine (MAll_ok Ab A5 cb c5 s.blobs (uni (rts s)) wn1 (by omega) (HRD.out _ hB).bc (HRD.out _ hB).bm HGS.out.b.ris HDA.out HGS.out.rts.g (HRD.out _ hB).b (by omega) hrt).mono ?_
      rintro e5 w5 ⟨g4, L, rfl, hL, hx5, hb5⟩
      have HL := Lib.hid hL
      clear hL
      dsimp only
      refine outT hK ?_ (Below wn1.heap.size wn1) (fun W => RwX BlobS 51 W (gs + 1) (.slice (some ⟨g4, 0, none⟩) s.blobs.length s.blobs.length) (mkAll s.blobs L) (fun b => b < gs + 1)) ?_ ?_ (fun wn2 hHeld hst hnew => ?_)
      · (exact ⟨(bx.below hb5).cell (k := 0) rfl, (bx.below hb5).cell (k := 1) rfl, (bx.below hb5).cell (k := 2) rfl, (bx.below hb5).cell (k := 3) rfl⟩)
      · (exact hb5)
      · (exact (hx5.lower hsz).wider (fun b hb => .inl (Nat.lt_of_lt_of_le hb hsz)))
      have hszo := hsz
      have hsz := Nat.le_trans hszo hst.size
      have bx := bx.below hst
      have hB := hB.trans (hst.mono (Nat.le_trans (Nat.le_succ gs) hszo))
      have hx := hnew
      clear hnew
      clear hst
      clear hK K
      try simp only [List.getElem_toArray, List.getElem_cons_zero, List.getElem_cons_succ, Act.put, List.setIfInBounds_toArray, List.set_cons_zero, List.set_cons_succ]
      refine wpAnyT_take (i := 5) (oi := _) (v := ?_) rfl (by kernel_rfl) (by kernel_rfl) (by kernel_rfl) (by kernel_rfl) (by kernel_rfl) (fun _ _ _ h => h) (Or.inl ⟨by rfl, ?_⟩) (by assumption) ?_
      rotate_left
      · (intro w hSw; (try dsimp only at hSw); go_simp; try (with_reducible rfl))
      try simp only [List.getElem_toArray, List.getElem_cons_zero, List.getElem_cons_succ, Act.put, List.setIfInBounds_toArray, List.set_cons_zero, List.set_cons_succ]
      refine wpAnyT_ready (rs := [6]) (by kernel_rfl) (by simp) ?_
      refine AllReadyT.last (o := _) rfl (fun K hK => ?_)
      have f0 := bx.frozen 0
      have y0 := bx.cell (k := 0) rfl
      go_simp
      clear f0 y0
      refine outL hK ?_
      clear hK K
      try simp only [List.getElem_toArray, List.getElem_cons_zero, List.getElem_cons_succ, Act.put, List.setIfInBounds_toArray, List.set_cons_zero, List.set_cons_succ]
      refine wpAnyT_done (by kernel_rfl) ?_ _
      dsimp only [Exit.then]
      clear hHeld
      have bx := bx.set (k := 0) (by simp) (.slice (some ⟨g4, 0, none⟩) s.blobs.length s.blobs.length)
      simp only [List.set_cons_zero] at bx
      have hx := hx.set (g := gs) (k := 0) (Nat.lt_succ_self _) (Nat.lt_succ_self _) (.slice (some ⟨g4, 0, none⟩) s.blobs.length s.blobs.length)
      have hB := hB.setCell (p := ⟨gs, 0, none⟩) (Nat.le_refl _) (.slice (some ⟨g4, 0, none⟩) s.blobs.length s.blobs.length)
      generalize wn2.setCell ⟨gs, 0, none⟩ (.slice (some ⟨g4, 0, none⟩) s.blobs.length s.blobs.length) = w3 at *
      have hxr : RdSt w3 (some ⟨g4, 0, none⟩) s.blobs.length Ae ce { s with blobs := mkAll s.blobs L } := by
        obtain ⟨A9, c9, e1, _, _, h⟩ := hx.rwo.rows
        injection e1 with e11 _ _
        subst e11
        exact ⟨h, (HRD.out _ hB).e, by rw [mkAll_len]; exact Nat.le_refl _, by have : maxLen = 9223372036854775807 := rfl; omega, (HRD.out _ hB).ec, (HRD.out _ hB).em⟩
      obtain ⟨hs1, hs2, hs3⟩ := swept_start HGS.out HMF.out HL.out
      have hb13 := hb1.trans (hB.mono hgw)
      obtain ⟨gc, hgc⟩ : ∃ g, g = w3.heap.size := ⟨_, rfl⟩
      have hba := (Below.refl w3.heap.size w3).alloc (Nat.le_refl _) (.cells #[.int .i64 2, .slice none 0 0, .string ⟨#[]⟩] 60)
      have hC : Arr (w3.alloc (.cells #[.int .i64 2, .slice none 0 0, .string ⟨#[]⟩] 60)) gc 60 [.int .i64 2, .slice none 0 0, .string ⟨#[]⟩] := by rw [hgc]; exact Arr.new w3 60 _
      have hgcs : gs < gc := by rw [hgc]; exact bx.lt
      have hgcw : w.heap.size ≤ gc := by omega
      have hgsc : gs ≠ gc := by omega
      have hA := bx.below hba
      have hrd := hxr.below hba
      have hbk := hb13.trans (hba.mono hb13.size)
      have hml : (mkAll s.blobs L).length = s.blobs.length := mkAll_len _ _
      have H0 := Lib.hid (And.intro hs1 (And.intro hs2 hs3))
      have HML := Lib.hid hml
      have HGC := Lib.hid hgc
      have hAH := ahead_le [] (mkAll s.blobs L)
      rw [hml] at hAH
      clear hx hB bx hs1 hs2 hs3 hb13 hgc hba hxr hml hsz hrt
      repeat' ((fail_if_success at_builtin); (fail_if_success at_make); (first | go_values | go_skip | go_guarded | go_step | go_upon | go_back))
      rw [← HGC.out]
      generalize (w3.alloc (.cells #[.int .i64 2, .slice none 0 0, .string ⟨#[]⟩] 60)) = w4 at *
      go_loopg [5, 21] 40 (fun gn u i wr => ∃ (j gone : Nat) (t : StoP) (at_ : List UInt8) (X : Option Addr) (cX : Nat) (Y : Option Addr) (dY : Nat), gn = 40 - j ∧ i = .int .i64 (j : Int) ∧ u = .int .i64 (gone : Int) ∧ Arr wr gs 26 [.slice X t.blobs.length cX, .slice Y t.ents.length dY, .int .i64 (t.room : Int), .int .i64 (t.clock : Int)] ∧ Arr wr gc 60 [.int .i64 2, .slice none 0 0, .string ⟨at_.toArray⟩] ∧ RdSt wr X cX Y dY t ∧ GoodS t ∧ GoodC t ⟨2, [], at_⟩ ∧ OnlyC t ⟨2, [], at_⟩ ∧ ahead at_ t.blobs + 1 + j ≤ 39 ∧ t.blobs.length + gone = s.blobs.length ∧ Below w.heap.size w wr)
      case atStart => exact ⟨0, 0, { s with blobs := mkAll s.blobs L }, [], some ⟨g4, 0, none⟩, s.blobs.length, Ae, ce, rfl, rfl, rfl, by show Arr w4 gs _ [.slice _ (mkAll s.blobs L).length _, _, _, _]; rw [HML.out]; exact hA, hC, hrd, H0.out.1, H0.out.2.1, H0.out.2.2, by show ahead [] (mkAll s.blobs L) + 1 + 0 ≤ 39; have := HLN.out; omega, by have := HML.out; show (mkAll s.blobs L).length + 0 = _; omega, hbk⟩
      case round =>
        obtain ⟨j, gone, t, at_, X, cX, Y, dY, hgj, rfl, rfl, hA, hC, hrd, hg, hgc, hon, hah, hgn, hbk⟩ := hrel
        have HGJ := Lib.hid hgj
        have HG := Lib.hid hg
        have HGCC := Lib.hid hgc
        have HO := Lib.hid hon
        have HGN := Lib.hid hgn
        have htb := hg.b.len
        have hte := hg.e.len
        have hj39 : j ≤ 38 := by omega
        have hlb : decide ((j : Int) < 40) = true := decide_eq_true (by omega)
        have hlc : decide (j < 40) = true := decide_eq_true (by omega)
        have x0 := hA.cell (k := 0) rfl
        have x1 := hA.cell (k := 1) rfl
        have x2 := hA.cell (k := 2) rfl
        have x3 := hA.cell (k := 3) rfl
        have y0 := hC.cell (k := 0) rfl
        have y1 := hC.cell (k := 1) rfl
        have y2 := hC.cell (k := 2) rfl
        have hss := SStep_ok X cX Y dY t none 0 ⟨2, [], at_⟩ wr hg hrd rfl hgc
        have HHA := Lib.hid hA
        have HHC := Lib.hid hC
        have HHB := Lib.hid hbk
        have HSO := Lib.hid (sStep_only hg rfl hgc hon)
        have HSG := Lib.hid (sStep_good hg rfl hgc)
        clear hgj hg hgc hon hgn hrd hA hC hbk H0
        rcases sStep_ways t ⟨2, [], at_⟩ with ⟨hf, hs⟩ | ⟨i, hi, hf, hm, hs⟩ | ⟨i, hi, hf, hm, hs⟩
        · rw [hs] at hss HSO HSG
          have HSS := Lib.hid hss
          clear hss hf hs
          repeat' ((fail_if_success at_builtin); (fail_if_success at_make); (first | go_values | go_skip | go_guarded | go_step | go_upon | go_back))
          clear x0 x1 x2 x3 y0 y1 y2
          refine ((HSS.out)).mono ?_; rintro e_ w5 ⟨v5, v6, rfl, ho5, hb5⟩; dsimp only
          obtain ⟨X5, c5, Y5, d5, e1, e2, _⟩ := ho5.rows
          subst e1 e2
          -- s, c = x, d: the store t, a collector of phase 0, at ⟨#[]⟩
          have hs5 := hb5.size
          have hg3 := HHC.out.lt
          have hg4 := HHA.out.lt
          obtain ⟨W6, hW6, h6, h7, hb6⟩ := two_new2 w5 26 60 [.slice X5 t.blobs.length c5, .slice Y5 t.ents.length d5, .int .i64 (t.room : Int), .int .i64 (t.clock : Int)] [.int .i64 0, .slice none 0 0, .string ⟨#[]⟩]
          have hA6 := (HHA.out.below hb5).below hb6
          have hC6 := (HHC.out.below hb5).below hb6
          have ho6 := ho5.below hb6
          have hb16 := HHB.out.trans ((hb5.trans (hb6.mono hs5)).mono HHB.out.size)
          have h6lt := h6.lt
          obtain ⟨g6, hg6⟩ : ∃ g, g = w5.heap.size := ⟨_, rfl⟩
          rw [← hg6] at h6 h7 h6lt
          have hgs6 : gs < g6 := by omega
          have hgc6 : gc < g6 := by omega
          have HG6 := Lib.hid hg6
          have HW6 := Lib.hid hW6
          have HRX := Lib.hid (show Rw BlobS W6 X5 t.blobs from by
            obtain ⟨_, _, _, _, e1, e2, h⟩ := ho6.rows
            cases e1; exact h.b)
          have hb7 := Below.refl W6.heap.size W6
          clear hW6 hg6 ho5 hb5 hb6
          repeat' ((fail_if_success (with_reducible refine at_reg_ 14 ?_)); (fail_if_success (with_reducible refine at_sreg_ 14 ?_)); (fail_if_success (with_reducible refine at_ssreg_ 14 ?_)); (fail_if_success at_builtin); (fail_if_success at_make); (first | go_values | go_skip | go_guarded | go_step | go_upon | go_back))
          rw [← HG6.out, ← HW6.out]
          -- from a world W7 behind W6 (hb7 : Below W6.heap.size W6 W7) on
          have hA6 := hA6.below hb7
          have hC6 := hC6.below hb7
          have h6 := h6.below hb7
          have h7 := h7.below hb7
          have ho6 := ho6.below hb7
          have hb16 := hb16.trans (hb7.mono hb16.size)
          have HF1 := Lib.hid (put7_g (g := gs) (h := gc) (u0 := .slice X5 t.blobs.length c5) (u1 := .slice Y5 t.ents.length d5) (u2 := .int .i64 (t.room : Int)) (u3 := .int .i64 (t.clock : Int)) (x0 := .int .i64 0) (x1 := .slice none 0 0) (x2 := .string ⟨#[]⟩) hA6 hgsc)
          have HF2 := Lib.hid (put7_h (g := gs) (h := gc) (u0 := .slice X5 t.blobs.length c5) (u1 := .slice Y5 t.ents.length d5) (u2 := .int .i64 (t.room : Int)) (u3 := .int .i64 (t.clock : Int)) (x0 := .int .i64 0) (x1 := .slice none 0 0) (x2 := .string ⟨#[]⟩) hC6 hgsc)
          have HF3 := Lib.hid (put7_ow (g := gs) (h := gc) (u0 := .slice X5 t.blobs.length c5) (u1 := .slice Y5 t.ents.length d5) (u2 := .int .i64 (t.room : Int)) (u3 := .int .i64 (t.clock : Int)) (x0 := .int .i64 0) (x1 := .slice none 0 0) (x2 := .string ⟨#[]⟩) ho6 hg4 hg3 (ho6.nb hA6 (by decide) (by decide)).1 (ho6.nb hA6 (by decide) (by decide)).2 (ho6.nb hC6 (by decide) (by decide)).1 (ho6.nb hC6 (by decide) (by decide)).2)
          have HF5 := Lib.hid (put7_below (g := gs) (h := gc) (u0 := .slice X5 t.blobs.length c5) (u1 := .slice Y5 t.ents.length d5) (u2 := .int .i64 (t.room : Int)) (u3 := .int .i64 (t.clock : Int)) (x0 := .int .i64 0) (x1 := .slice none 0 0) (x2 := .string ⟨#[]⟩) hb16 hgw hgcw)
          have f0 := hA6.frozen 0
          have f1 := hA6.frozen 1
          have f2 := hA6.frozen 2
          have f3 := hA6.frozen 3
          have y0 := hA6.cell (k := 0) rfl
          have y1 := hA6.cell (k := 1) rfl
          have y2 := hA6.cell (k := 2) rfl
          have y3 := hA6.cell (k := 3) rfl
          have e0 := hC6.frozen 0
          have e1 := hC6.frozen 1
          have e2 := hC6.frozen 2
          have x0 := hC6.cell (k := 0) rfl
          have x1 := hC6.cell (k := 1) rfl
          have x2 := hC6.cell (k := 2) rfl
          have s0 := h6.cell (k := 0) rfl
          have s1 := h6.cell (k := 1) rfl
          have s2 := h6.cell (k := 2) rfl
          have s3 := h6.cell (k := 3) rfl
          have t0' := h7.cell (k := 0) rfl
          have t1 := h7.cell (k := 1) rfl
          have t2 := h7.cell (k := 2) rfl
          have n1 : ¬ (g6 = gs) := by omega
          have n2 : ¬ (g6 + 1 = gs) := by omega
          have n3 : ¬ (g6 = gc) := by omega
          clear hA6 hC6 ho6 hb16 h6 h7 hb7
          repeat' ((fail_if_success (with_reducible refine at_reg_ 14 ?_)); (fail_if_success (with_reducible refine at_sreg_ 14 ?_)); (fail_if_success (with_reducible refine at_ssreg_ 14 ?_)); (fail_if_success at_builtin); (fail_if_success at_make); (first | go_values | go_skip | go_guarded | go_step | go_upon | go_back))
          go_region
          all_goals (try dsimp only [Exit.then])
          clear f0 f1 f2 f3 y0 y1 y2 y3 e0 e1 e2 x0 x1 x2 s0 s1 s2 s3 t0' t1 t2
          have HRZ := Lib.hid (show RdSt _ X5 c5 Y5 d5 t from by
            obtain ⟨_, _, _, _, e1, e2, h⟩ := HF3.out.drewX.rows
            cases e1; cases e2; exact h)
          have p0 := (Arr.drew HF2.out).cell (k := 0) rfl
          have hbz := HF5.out.drew
          have hA9 := Arr.drew HF1.out
          have hC9 := Arr.drew HF2.out
          have q0 := hA9.cell (k := 0) rfl
          have HHA9 := Lib.hid hA9
          have HHC9 := Lib.hid hC9
          have hb63 : (t.blobs.length : Int) ≤ 9223372036854775807 := by omega
          clear hA9 hC9 HF1 HF2 HF3 HF5 HHA HHC HHB
          repeat' ((fail_if_success at_builtin); (fail_if_success at_make); (first | go_values | go_skip | go_guarded | go_step | go_upon | go_back))
          clear q0 p0
          generalize hwz : (put7 W6 gs gc (.slice X5 t.blobs.length c5) (.slice Y5 t.ents.length d5) (.int .i64 (t.room : Int)) (.int .i64 (t.clock : Int)) (.int .i64 0) (.slice none 0 0) (.string ⟨#[]⟩)).drew = wz at *
          clear hwz
          go_loopg [50] t.blobs.length (fun gn i wr => ∃ k : Nat, gn = t.blobs.length - k ∧ i = .int .i64 k ∧ k ≤ t.blobs.length ∧ Below wz.heap.size wz wr)
          case atStart => exact ⟨0, rfl, rfl, by omega, Below.refl _ _⟩
          case round =>
            obtain ⟨k, hgk, rfl, hk, hbj⟩ := hrel
            have HGK := Lib.hid hgk
            clear hgk
            by_cases hlt : k < t.blobs.length
            rotate_left
            · obtain rfl : k = t.blobs.length := by omega
              have hlbb : decide (t.blobs.length < t.blobs.length) = false := by simp
              have hbw := hbz.trans (hbj.mono hbz.size)
              have HSB := Lib.hid (show ∀ W, Below wr.heap.size wr W → W.cell? ⟨gc, 0, none⟩ = some (.int .i64 0) ∧ W.cell? ⟨gs, 0, none⟩ = some (.slice X5 t.blobs.length c5) from fun W h => ⟨((HHC9.out.below hbj).below h).cell (k := 0) rfl, ((HHA9.out.below hbj).below h).cell (k := 0) rfl⟩)
              have hgn := HGN.out
              have hw1 : IntKind.i64.wrap ((t.blobs.length : Int) + (gone : Int)) = (s.blobs.length : Int) := by rw [IntWalk.i64_in _ (by omega)]; omega
              clear hgn
              repeat' ((fail_if_success (with_reducible refine at_reg_ 23 ?_)); (fail_if_success (with_reducible refine at_sreg_ 23 ?_)); (fail_if_success (with_reducible refine at_ssreg_ 23 ?_)); (fail_if_success at_builtin); (fail_if_success at_make); (first | go_values | go_skip | go_guarded | go_step | go_upon | go_back))
              --HELDL
              refine wp_region_held_drew (S := (fun w' => w'.cell? ⟨gc, 0, none⟩ = some (.int .i64 0) ∧ w'.cell? ⟨gs, 0, none⟩ = some (.slice X5 t.blobs.length c5))) (by kernel_rfl) ?_ (fun hHeld => ?_)
              · exact HSB.out _ (Below.refl _ wr).drew
              have hB := (Below.refl wr.heap.size wr).drew
              generalize wr.drew = wn0 at *
              refine wpAnyH_ready (rs := [0]) (by kernel_rfl) (by simp) ?_
              refine AllReadyH.cons (o := _) rfl (fun K hK => ?_) ?_
              ·
                go_simp
                refine (marks_ok wn0).mono ?_
                rintro e5 w5 ⟨rfl, hb5⟩
                dsimp only
                refine outG hK ?_ (Below wn0.heap.size wn0) (fun W => True) ?_ ?_ (fun wn1 hHeld hst hnew => ?_)
                · (exact HSB.out _ (hB.trans (hb5.mono hB.size)))
                · (exact hb5)
                · (trivial)
                have hB := hB.trans (hst.mono hB.size)
                clear hst
                clear hK K
                try simp only [List.getElem_toArray, List.getElem_cons_zero, List.getElem_cons_succ, Act.put, List.setIfInBounds_toArray, List.set_cons_zero, List.set_cons_succ]
                refine wpAnyH_take (i := 1) (oi := _) (v := ?_) rfl (by kernel_rfl) (by kernel_rfl) (by kernel_rfl) (fun _ _ _ h => h) (Or.inl ⟨by rfl, ?_⟩) (by assumption) ?_
                rotate_left
                · (intro w hSw; (try dsimp only at hSw); go_simp; try (with_reducible rfl))
                try simp only [List.getElem_toArray, List.getElem_cons_zero, List.getElem_cons_succ, Act.put, List.setIfInBounds_toArray, List.set_cons_zero, List.set_cons_succ]
                refine wpAnyH_take (i := 2) (oi := _) (v := ?_) rfl (by kernel_rfl) (by kernel_rfl) (by kernel_rfl) (fun _ _ _ h => h) (Or.inl ⟨by rfl, ?_⟩) (by assumption) ?_
                rotate_left
                · (intro w hSw; (try dsimp only at hSw); go_simp; try (with_reducible rfl))
                try simp only [List.getElem_toArray, List.getElem_cons_zero, List.getElem_cons_succ, Act.put, List.setIfInBounds_toArray, List.set_cons_zero, List.set_cons_succ]
                refine wpAnyH_take (i := 3) (oi := _) (v := ?_) rfl (by kernel_rfl) (by kernel_rfl) (by kernel_rfl) (fun _ _ _ h => h) (Or.inl ⟨by rfl, ?_⟩) (by assumption) ?_
                rotate_left
                · (intro w hSw; (try dsimp only at hSw); go_simp; try (with_reducible rfl))
                try simp only [List.getElem_toArray, List.getElem_cons_zero, List.getElem_cons_succ, Act.put, List.setIfInBounds_toArray, List.set_cons_zero, List.set_cons_succ]
                refine wpAnyH_take (i := 4) (oi := _) (v := ?_) rfl (by kernel_rfl) (by kernel_rfl) (by kernel_rfl) (fun _ _ _ h => h) (Or.inl ⟨by rfl, ?_⟩) (by assumption) ?_
                rotate_left
                · (intro w hSw; (try dsimp only at hSw); go_simp; try (with_reducible rfl))
                try simp only [List.getElem_toArray, List.getElem_cons_zero, List.getElem_cons_succ, Act.put, List.setIfInBounds_toArray, List.set_cons_zero, List.set_cons_succ]
                refine wpAnyH_take (i := 5) (oi := _) (v := ?_) rfl (by kernel_rfl) (by kernel_rfl) (by kernel_rfl) (fun _ _ _ h => h) (Or.inl ⟨by rfl, ?_⟩) (by assumption) ?_
                rotate_left
                · (intro w hSw; (try dsimp only at hSw); go_simp; try (with_reducible rfl))
                try simp only [List.getElem_toArray, List.getElem_cons_zero, List.getElem_cons_succ, Act.put, List.setIfInBounds_toArray, List.set_cons_zero, List.set_cons_succ]
                refine wpAnyH_take (i := 6) (oi := _) (v := ?_) rfl (by kernel_rfl) (by kernel_rfl) (by kernel_rfl) (fun _ _ _ h => h) (Or.inl ⟨by rfl, ?_⟩) (by assumption) ?_
                rotate_left
                · (intro w hSw; (try dsimp only at hSw); go_simp; try (with_reducible rfl))
                try simp only [List.getElem_toArray, List.getElem_cons_zero, List.getElem_cons_succ, Act.put, List.setIfInBounds_toArray, List.set_cons_zero, List.set_cons_succ]
                refine wpAnyH_take (i := 7) (oi := _) (v := ?_) rfl (by kernel_rfl) (by kernel_rfl) (by kernel_rfl) (fun _ _ _ h => h) (Or.inl ⟨by rfl, ?_⟩) (by assumption) ?_
                rotate_left
                · (intro w hSw; (try dsimp only at hSw); go_simp; try (with_reducible rfl))
                try simp only [List.getElem_toArray, List.getElem_cons_zero, List.getElem_cons_succ, Act.put, List.setIfInBounds_toArray, List.set_cons_zero, List.set_cons_succ]
                refine wpAnyH_take (i := 8) (oi := _) (v := ?_) rfl (by kernel_rfl) (by kernel_rfl) (by kernel_rfl) (fun _ _ _ h => h) (Or.inl ⟨by rfl, ?_⟩) (by assumption) ?_
                rotate_left
                · (intro w hSw; (try dsimp only at hSw); go_simp; try (with_reducible rfl))
                try simp only [List.getElem_toArray, List.getElem_cons_zero, List.getElem_cons_succ, Act.put, List.setIfInBounds_toArray, List.set_cons_zero, List.set_cons_succ]
                refine wpAnyH_take (i := 9) (oi := _) (v := ?_) rfl (by kernel_rfl) (by kernel_rfl) (by kernel_rfl) (fun _ _ _ h => h) (Or.inl ⟨by rfl, ?_⟩) (by assumption) ?_
                rotate_left
                · (intro w hSw; (try dsimp only at hSw); go_simp; try (with_reducible rfl))
                try simp only [List.getElem_toArray, List.getElem_cons_zero, List.getElem_cons_succ, Act.put, List.setIfInBounds_toArray, List.set_cons_zero, List.set_cons_succ]
                refine wpAnyH_take (i := 10) (oi := _) (v := ?_) rfl (by kernel_rfl) (by kernel_rfl) (by kernel_rfl) (fun _ _ _ h => h) (Or.inl ⟨by rfl, ?_⟩) (by assumption) ?_
                rotate_left
                · (intro w hSw; (try dsimp only at hSw); go_simp; try (with_reducible rfl))
                try simp only [List.getElem_toArray, List.getElem_cons_zero, List.getElem_cons_succ, Act.put, List.setIfInBounds_toArray, List.set_cons_zero, List.set_cons_succ]
                refine wpAnyH_take (i := 11) (oi := _) (v := ?_) rfl (by kernel_rfl) (by kernel_rfl) (by kernel_rfl) (fun _ _ _ h => h) (Or.inl ⟨by rfl, ?_⟩) (by assumption) ?_
                rotate_left
                · (intro w hSw; (try dsimp only at hSw); go_simp; try (with_reducible rfl))
                try simp only [List.getElem_toArray, List.getElem_cons_zero, List.getElem_cons_succ, Act.put, List.setIfInBounds_toArray, List.set_cons_zero, List.set_cons_succ]
                refine wpAnyH_take (i := 12) (oi := _) (v := ?_) rfl (by kernel_rfl) (by kernel_rfl) (by kernel_rfl) (fun _ _ _ h => h) (Or.inl ⟨by rfl, ?_⟩) (by assumption) ?_
                rotate_left
                · (intro w hSw; (try dsimp only at hSw); go_simp; try (with_reducible rfl))
                try simp only [List.getElem_toArray, List.getElem_cons_zero, List.getElem_cons_succ, Act.put, List.setIfInBounds_toArray, List.set_cons_zero, List.set_cons_succ]
                refine wpAnyH_ready (rs := [13]) (by kernel_rfl) (by simp) ?_
                refine AllReadyH.cons (o := _) rfl (fun K hK => ?_) ?_
                ·
                  go_simp
                  refine (HST2.out wn1 (hbw.trans (hB.mono hbw.size))).mono ?_
                  rintro e5 w5 ⟨v5, v6, rfl, hbs, hes, hb5⟩
                  obtain ⟨A7, c7, rfl, _, _, _⟩ := hbs.rows
                  obtain ⟨B7, d7, rfl, _, _, _⟩ := hes.rows
                  clear hbs hes
                  have hfl := fun W => fld_blobs A7 B7 s.blobs.length s.ents.length c7 d7 (s.room : Int) (s.clock : Int) W
                  dsimp only
                  refine outG hK ?_ (Below wn1.heap.size wn1) (fun W => True) ?_ ?_ (fun wn2 hHeld hst hnew => ?_)
                  · (exact HSB.out _ (hB.trans (hb5.mono hB.size)))
                  · (exact hb5)
                  · (trivial)
                  have hB := hB.trans (hst.mono hB.size)
                  clear hst
                  clear hK K
                  try simp only [List.getElem_toArray, List.getElem_cons_zero, List.getElem_cons_succ, Act.put, List.setIfInBounds_toArray, List.set_cons_zero, List.set_cons_succ]
                  refine wpAnyH_take (i := 14) (oi := _) (v := ?_) rfl (by kernel_rfl) (by kernel_rfl) (by kernel_rfl) (fun _ _ _ h => h) (Or.inl ⟨by rfl, ?_⟩) (by assumption) ?_
                  rotate_left
                  · (intro w hSw; (try dsimp only at hSw); go_simp; try (with_reducible rfl))
                  try simp only [List.getElem_toArray, List.getElem_cons_zero, List.getElem_cons_succ, Act.put, List.setIfInBounds_toArray, List.set_cons_zero, List.set_cons_succ]
                  refine wpAnyH_take (i := 15) (oi := _) (v := ?_) rfl (by kernel_rfl) (by kernel_rfl) (by kernel_rfl) (fun _ _ _ h => h) (Or.inl ⟨by rfl, ?_⟩) (by assumption) ?_
                  rotate_left
                  · (intro w hSw; (try dsimp only at hSw); go_simp; try (with_reducible rfl))
                  try simp only [List.getElem_toArray, List.getElem_cons_zero, List.getElem_cons_succ, Act.put, List.setIfInBounds_toArray, List.set_cons_zero, List.set_cons_succ]
                  refine wpAnyH_take (i := 16) (oi := _) (v := ?_) rfl (by kernel_rfl) (by kernel_rfl) (by kernel_rfl) (fun _ _ _ h => h) (Or.inl ⟨by rfl, ?_⟩) (by assumption) ?_
                  rotate_left
                  · (intro w hSw; (try dsimp only at hSw); go_simp; try (with_reducible rfl))
                  try simp only [List.getElem_toArray, List.getElem_cons_zero, List.getElem_cons_succ, Act.put, List.setIfInBounds_toArray, List.set_cons_zero, List.set_cons_succ]
                  refine wpAnyH_take (i := 17) (oi := _) (v := ?_) rfl (by kernel_rfl) (by kernel_rfl) (by kernel_rfl) (fun _ _ _ h => h) (Or.inl ⟨by rfl, ?_⟩) (by assumption) ?_
                  rotate_left
                  · (intro w hSw; (try dsimp only at hSw); go_simp; try (with_reducible rfl))
                  try simp only [List.getElem_toArray, List.getElem_cons_zero, List.getElem_cons_succ, Act.put, List.setIfInBounds_toArray, List.set_cons_zero, List.set_cons_succ]
                  refine wpAnyH_take (i := 18) (oi := _) (v := ?_) rfl (by kernel_rfl) (by kernel_rfl) (by kernel_rfl) (fun _ _ _ h => h) (Or.inl ⟨by rfl, ?_⟩) (by assumption) ?_
                  rotate_left
                  · (intro w hSw; (try dsimp only at hSw); go_simp; try (with_reducible rfl))
                  try simp only [List.getElem_toArray, List.getElem_cons_zero, List.getElem_cons_succ, Act.put, List.setIfInBounds_toArray, List.set_cons_zero, List.set_cons_succ]
                  refine wpAnyH_done (by kernel_rfl) ?_ _
                  dsimp only [Exit.then]
                  clear hHeld
                  have hbz := hbw.trans (hB.mono hbw.size)
                  clear hB
                  repeat' ((fail_if_success at_builtin); (fail_if_success at_make); (first | go_values | go_skip | go_guarded | go_step | go_upon | go_back))
                  go_ret
                  exact ⟨by simp, hbz⟩
                exact AllReadyH.nil
              exact AllReadyH.nil
              --HELDENDL
            have hlb2 : decide (k < t.blobs.length) = true := decide_eq_true hlt
            have hk0 : (0 : Int) ≤ (k : Int) := by omega
            have hk1 : (k : Int) < (t.blobs.length : Int) := by omega
            obtain ⟨bq, oq, Bq, cq, eq, hbq, d0, d1, d2, d3, hsl⟩ := (HRZ.out.below hbj).b.blob_at k hlt
            subst eq
            have HKL := Lib.hid hlt
            rw [HSO.out.en rfl _ (List.getElem_mem hlt)] at d3
            generalize t.blobs[k] = q at *
            have hbox : Arr (wr.alloc (.cells #[.string ⟨q.dig.toArray⟩, .slice Bq q.data.length cq, .int .i64 (q.pins : Int), .bool true] 51)) wr.heap.size 51 [.string ⟨q.dig.toArray⟩, .slice Bq q.data.length cq, .int .i64 (q.pins : Int), .bool true] := Arr.new wr 51 _
            have hbA := hbj.alloc hbj.size (.cells #[.string ⟨q.dig.toArray⟩, .slice Bq q.data.length cq, .int .i64 (q.pins : Int), .bool true] 51)
            have p3 := hbox.cell (k := 3) rfl
            clear hsl hbox
            repeat' ((fail_if_success at_builtin); (fail_if_success at_make); (first | go_values | go_skip | go_guarded | go_step | go_upon | go_back))
            go_roundg (t.blobs.length - (k + 1))
            case measure => have := HGK.out; have := HKL.out; omega
            case rel => exact ⟨k + 1, rfl, by go_num, by have := HKL.out; omega, hbA⟩
        · rw [hs] at hss HSO HSG
          have HSS := Lib.hid hss
          have hah2 : ahead t.blobs[i].dig t.blobs + 1 ≤ ahead at_ t.blobs := ahead_lt hi (List.findIdx?_eq_some_iff_getElem.1 hf).2.1
          generalize t.blobs[i].dig = dg at *
          clear hss hf hs hm
          repeat' ((fail_if_success at_builtin); (fail_if_success at_make); (first | go_values | go_skip | go_guarded | go_step | go_upon | go_back))
          clear x0 x1 x2 x3 y0 y1 y2
          refine ((HSS.out)).mono ?_; rintro e_ w5 ⟨v5, v6, rfl, ho5, hb5⟩; dsimp only
          obtain ⟨X5, c5, Y5, d5, e1, e2, _⟩ := ho5.rows
          subst e1 e2
          -- s, c = x, d: the store t, a collector of phase 2, at ⟨dg.toArray⟩
          have hs5 := hb5.size
          have hg3 := HHC.out.lt
          have hg4 := HHA.out.lt
          obtain ⟨W6, hW6, h6, h7, hb6⟩ := two_new2 w5 26 60 [.slice X5 t.blobs.length c5, .slice Y5 t.ents.length d5, .int .i64 (t.room : Int), .int .i64 (t.clock : Int)] [.int .i64 2, .slice none 0 0, .string ⟨dg.toArray⟩]
          have hA6 := (HHA.out.below hb5).below hb6
          have hC6 := (HHC.out.below hb5).below hb6
          have ho6 := ho5.below hb6
          have hb16 := HHB.out.trans ((hb5.trans (hb6.mono hs5)).mono HHB.out.size)
          have h6lt := h6.lt
          obtain ⟨g6, hg6⟩ : ∃ g, g = w5.heap.size := ⟨_, rfl⟩
          rw [← hg6] at h6 h7 h6lt
          have hgs6 : gs < g6 := by omega
          have hgc6 : gc < g6 := by omega
          have HG6 := Lib.hid hg6
          have HW6 := Lib.hid hW6
          have HRX := Lib.hid (show Rw BlobS W6 X5 t.blobs from by
            obtain ⟨_, _, _, _, e1, e2, h⟩ := ho6.rows
            cases e1; exact h.b)
          have hb7 := Below.refl W6.heap.size W6
          clear hW6 hg6 ho5 hb5 hb6
          repeat' ((fail_if_success (with_reducible refine at_reg_ 14 ?_)); (fail_if_success (with_reducible refine at_sreg_ 14 ?_)); (fail_if_success (with_reducible refine at_ssreg_ 14 ?_)); (fail_if_success at_builtin); (fail_if_success at_make); (first | go_values | go_skip | go_guarded | go_step | go_upon | go_back))
          rw [← HG6.out, ← HW6.out]
          -- from a world W7 behind W6 (hb7 : Below W6.heap.size W6 W7) on
          have hA6 := hA6.below hb7
          have hC6 := hC6.below hb7
          have h6 := h6.below hb7
          have h7 := h7.below hb7
          have ho6 := ho6.below hb7
          have hb16 := hb16.trans (hb7.mono hb16.size)
          have HF1 := Lib.hid (put7_g (g := gs) (h := gc) (u0 := .slice X5 t.blobs.length c5) (u1 := .slice Y5 t.ents.length d5) (u2 := .int .i64 (t.room : Int)) (u3 := .int .i64 (t.clock : Int)) (x0 := .int .i64 2) (x1 := .slice none 0 0) (x2 := .string ⟨dg.toArray⟩) hA6 hgsc)
          have HF2 := Lib.hid (put7_h (g := gs) (h := gc) (u0 := .slice X5 t.blobs.length c5) (u1 := .slice Y5 t.ents.length d5) (u2 := .int .i64 (t.room : Int)) (u3 := .int .i64 (t.clock : Int)) (x0 := .int .i64 2) (x1 := .slice none 0 0) (x2 := .string ⟨dg.toArray⟩) hC6 hgsc)
          have HF3 := Lib.hid (put7_ow (g := gs) (h := gc) (u0 := .slice X5 t.blobs.length c5) (u1 := .slice Y5 t.ents.length d5) (u2 := .int .i64 (t.room : Int)) (u3 := .int .i64 (t.clock : Int)) (x0 := .int .i64 2) (x1 := .slice none 0 0) (x2 := .string ⟨dg.toArray⟩) ho6 hg4 hg3 (ho6.nb hA6 (by decide) (by decide)).1 (ho6.nb hA6 (by decide) (by decide)).2 (ho6.nb hC6 (by decide) (by decide)).1 (ho6.nb hC6 (by decide) (by decide)).2)
          have HF5 := Lib.hid (put7_below (g := gs) (h := gc) (u0 := .slice X5 t.blobs.length c5) (u1 := .slice Y5 t.ents.length d5) (u2 := .int .i64 (t.room : Int)) (u3 := .int .i64 (t.clock : Int)) (x0 := .int .i64 2) (x1 := .slice none 0 0) (x2 := .string ⟨dg.toArray⟩) hb16 hgw hgcw)
          have f0 := hA6.frozen 0
          have f1 := hA6.frozen 1
          have f2 := hA6.frozen 2
          have f3 := hA6.frozen 3
          have y0 := hA6.cell (k := 0) rfl
          have y1 := hA6.cell (k := 1) rfl
          have y2 := hA6.cell (k := 2) rfl
          have y3 := hA6.cell (k := 3) rfl
          have e0 := hC6.frozen 0
          have e1 := hC6.frozen 1
          have e2 := hC6.frozen 2
          have x0 := hC6.cell (k := 0) rfl
          have x1 := hC6.cell (k := 1) rfl
          have x2 := hC6.cell (k := 2) rfl
          have s0 := h6.cell (k := 0) rfl
          have s1 := h6.cell (k := 1) rfl
          have s2 := h6.cell (k := 2) rfl
          have s3 := h6.cell (k := 3) rfl
          have t0' := h7.cell (k := 0) rfl
          have t1 := h7.cell (k := 1) rfl
          have t2 := h7.cell (k := 2) rfl
          have n1 : ¬ (g6 = gs) := by omega
          have n2 : ¬ (g6 + 1 = gs) := by omega
          have n3 : ¬ (g6 = gc) := by omega
          clear hA6 hC6 ho6 hb16 h6 h7 hb7
          repeat' ((fail_if_success (with_reducible refine at_reg_ 14 ?_)); (fail_if_success (with_reducible refine at_sreg_ 14 ?_)); (fail_if_success (with_reducible refine at_ssreg_ 14 ?_)); (fail_if_success at_builtin); (fail_if_success at_make); (first | go_values | go_skip | go_guarded | go_step | go_upon | go_back))
          go_region
          all_goals (try dsimp only [Exit.then])
          clear f0 f1 f2 f3 y0 y1 y2 y3 e0 e1 e2 x0 x1 x2 s0 s1 s2 s3 t0' t1 t2
          have HRZ := Lib.hid (show RdSt _ X5 c5 Y5 d5 t from by
            obtain ⟨_, _, _, _, e1, e2, h⟩ := HF3.out.drewX.rows
            cases e1; cases e2; exact h)
          have p0 := (Arr.drew HF2.out).cell (k := 0) rfl
          repeat' ((fail_if_success at_builtin); (fail_if_success at_make); (first | go_values | go_skip | go_guarded | go_step | go_upon | go_back))
          go_roundg (40 - (j + 1))
          case measure => have := HGJ.out; omega
          case rel => exact ⟨j + 1, gone, t, dg, X5, c5, Y5, d5, rfl, by go_num, rfl, Arr.drew HF1.out, Arr.drew HF2.out, HRZ.out, HSG.out.1, HSG.out.2.1, HSO.out, by omega, HGN.out, HF5.out.drew⟩
        · rw [hs] at hss HSO HSG
          have HSS := Lib.hid hss
          have hah2 : ahead t.blobs[i].dig t.blobs + 1 ≤ ahead at_ t.blobs := ahead_lt hi (List.findIdx?_eq_some_iff_getElem.1 hf).2.1
          have hah3 := ahead_sub t.blobs[i].dig t.blobs i
          have HEG := Lib.hid (erase_gone HG.out hi)
          have hln : (t.blobs.eraseIdx i).length = t.blobs.length - 1 := List.length_eraseIdx_of_lt hi
          have hdg : t.blobs[i].dig ≠ [] := fun e => by
            have h1 := hexC_len (hexC_sha t.blobs[i].data)
            rw [← (HG.out.b.one _ (List.getElem_mem hi)).1, e] at h1
            cases h1
          generalize t.blobs[i].dig = dg at *
          have hde : dg.isEmpty = false := by cases dg with | nil => exact absurd rfl hdg | cons _ _ => rfl
          have hgn1 : (t.blobs.eraseIdx i).length + (gone + 1) = s.blobs.length := by have := HGN.out; omega
          obtain ⟨t', ht'⟩ : ∃ t', t' = ({ t with blobs := t.blobs.eraseIdx i } : StoP) := ⟨_, rfl⟩
          have htr : t'.room = t.room := by rw [ht']
          have htk : t'.clock = t.clock := by rw [ht']
          have hGN1 := Lib.hid (show t'.blobs.length + (gone + 1) = s.blobs.length from by rw [ht']; exact hgn1)
          have hAH3 := Lib.hid (show ahead dg t'.blobs + 1 + (j + 1) ≤ 39 from by rw [ht']; show ahead dg (t.blobs.eraseIdx i) + 1 + (j + 1) ≤ 39; omega)
          have hEG := Lib.hid (show t'.blobs.any (fun x => x.dig == dg) = false from by rw [ht']; exact HEG.out)
          have hTL := Lib.hid (show t'.blobs.length ≤ 24 from by rw [ht']; show (t.blobs.eraseIdx i).length ≤ 24; omega)
          rw [← ht'] at HSS HSO HSG
          have HTR := Lib.hid htr
          have HTK := Lib.hid htk
          obtain ⟨ds, hds⟩ : ∃ ds : ByteArray, ds = ⟨dg.toArray⟩ := ⟨_, rfl⟩
          have hde2 : ds.toList.isEmpty = false := by rw [hds, ByteArray.toList_eq]; exact hde
          have HDS := Lib.hid hds
          have hgw1 : IntKind.i64.wrap ((gone : Int) + 1) = (gone : Int) + 1 := IntWalk.i64_in _ (by omega)
          clear hss hf hs hm ht' hln hgn1 hah2 hah3 hdg hde htr htk
          rw [← hds] at HSS
          clear hds
          repeat' ((fail_if_success at_builtin); (fail_if_success at_make); (first | go_values | go_skip | go_guarded | go_step | go_upon | go_back))
          clear x0 x1 x2 x3 y0 y1 y2
          refine ((HSS.out)).mono ?_; rintro e_ w5 ⟨v5, v6, rfl, ho5, hb5⟩; dsimp only
          obtain ⟨X5, c5, Y5, d5, e1, e2, _⟩ := ho5.rows
          subst e1 e2
          -- s, c = x, d: the store t', a collector of phase 2, at ⟨dg.toArray⟩
          have hs5 := hb5.size
          have hg3 := HHC.out.lt
          have hg4 := HHA.out.lt
          obtain ⟨W6, hW6, h6, h7, hb6⟩ := two_new2 w5 26 60 [.slice X5 t'.blobs.length c5, .slice Y5 t'.ents.length d5, .int .i64 (t.room : Int), .int .i64 (t.clock : Int)] [.int .i64 2, .slice none 0 0, .string ⟨dg.toArray⟩]
          have hA6 := (HHA.out.below hb5).below hb6
          have hC6 := (HHC.out.below hb5).below hb6
          have ho6 := ho5.below hb6
          have hb16 := HHB.out.trans ((hb5.trans (hb6.mono hs5)).mono HHB.out.size)
          have h6lt := h6.lt
          obtain ⟨g6, hg6⟩ : ∃ g, g = w5.heap.size := ⟨_, rfl⟩
          rw [← hg6] at h6 h7 h6lt
          have hgs6 : gs < g6 := by omega
          have hgc6 : gc < g6 := by omega
          have HG6 := Lib.hid hg6
          have HW6 := Lib.hid hW6
          have HRX := Lib.hid (show Rw BlobS W6 X5 t'.blobs from by
            obtain ⟨_, _, _, _, e1, e2, h⟩ := ho6.rows
            cases e1; exact h.b)
          have hhs := Has_ok X5 c5 t'.blobs dg W6 (by have := hTL.out; omega) HRX.out
          rw [hEG.out, ← HDS.out] at hhs
          have HHS := Lib.hid hhs
          have u0 := h6.cell (k := 0) rfl
          rw [hW6, hg6] at u0
          clear hhs
          repeat' ((fail_if_success at_builtin); (fail_if_success at_make); (first | go_values | go_skip | go_guarded | go_step | go_upon | go_back))
          rw [← HW6.out]
          clear u0
          refine ((HHS.out)).mono ?_; rintro e_ W7 ⟨rfl, hb7⟩; dsimp only
          clear hW6 hg6 ho5 hb5 hb6
          rw [← HG6.out]
          -- from a world W7 behind W6 (hb7 : Below W6.heap.size W6 W7) on
          have hA6 := hA6.below hb7
          have hC6 := hC6.below hb7
          have h6 := h6.below hb7
          have h7 := h7.below hb7
          have ho6 := ho6.below hb7
          have hb16 := hb16.trans (hb7.mono hb16.size)
          have HF1 := Lib.hid (put7_g (g := gs) (h := gc) (u0 := .slice X5 t'.blobs.length c5) (u1 := .slice Y5 t'.ents.length d5) (u2 := .int .i64 (t.room : Int)) (u3 := .int .i64 (t.clock : Int)) (x0 := .int .i64 2) (x1 := .slice none 0 0) (x2 := .string ⟨dg.toArray⟩) hA6 hgsc)
          have HF2 := Lib.hid (put7_h (g := gs) (h := gc) (u0 := .slice X5 t'.blobs.length c5) (u1 := .slice Y5 t'.ents.length d5) (u2 := .int .i64 (t.room : Int)) (u3 := .int .i64 (t.clock : Int)) (x0 := .int .i64 2) (x1 := .slice none 0 0) (x2 := .string ⟨dg.toArray⟩) hC6 hgsc)
          have HF3 := Lib.hid (put7_ow (g := gs) (h := gc) (u0 := .slice X5 t'.blobs.length c5) (u1 := .slice Y5 t'.ents.length d5) (u2 := .int .i64 (t.room : Int)) (u3 := .int .i64 (t.clock : Int)) (x0 := .int .i64 2) (x1 := .slice none 0 0) (x2 := .string ⟨dg.toArray⟩) ho6 hg4 hg3 (ho6.nb hA6 (by decide) (by decide)).1 (ho6.nb hA6 (by decide) (by decide)).2 (ho6.nb hC6 (by decide) (by decide)).1 (ho6.nb hC6 (by decide) (by decide)).2)
          have HF5 := Lib.hid (put7_below (g := gs) (h := gc) (u0 := .slice X5 t'.blobs.length c5) (u1 := .slice Y5 t'.ents.length d5) (u2 := .int .i64 (t.room : Int)) (u3 := .int .i64 (t.clock : Int)) (x0 := .int .i64 2) (x1 := .slice none 0 0) (x2 := .string ⟨dg.toArray⟩) hb16 hgw hgcw)
          have f0 := hA6.frozen 0
          have f1 := hA6.frozen 1
          have f2 := hA6.frozen 2
          have f3 := hA6.frozen 3
          have y0 := hA6.cell (k := 0) rfl
          have y1 := hA6.cell (k := 1) rfl
          have y2 := hA6.cell (k := 2) rfl
          have y3 := hA6.cell (k := 3) rfl
          have e0 := hC6.frozen 0
          have e1 := hC6.frozen 1
          have e2 := hC6.frozen 2
          have x0 := hC6.cell (k := 0) rfl
          have x1 := hC6.cell (k := 1) rfl
          have x2 := hC6.cell (k := 2) rfl
          have s0 := h6.cell (k := 0) rfl
          have s1 := h6.cell (k := 1) rfl
          have s2 := h6.cell (k := 2) rfl
          have s3 := h6.cell (k := 3) rfl
          have t0' := h7.cell (k := 0) rfl
          have t1 := h7.cell (k := 1) rfl
          have t2 := h7.cell (k := 2) rfl
          have n1 : ¬ (g6 = gs) := by omega
          have n2 : ¬ (g6 + 1 = gs) := by omega
          have n3 : ¬ (g6 = gc) := by omega
          clear hA6 hC6 ho6 hb16 h6 h7 hb7
          repeat' ((fail_if_success (with_reducible refine at_reg_ 14 ?_)); (fail_if_success (with_reducible refine at_sreg_ 14 ?_)); (fail_if_success (with_reducible refine at_ssreg_ 14 ?_)); (fail_if_success at_builtin); (fail_if_success at_make); (first | go_values | go_skip | go_guarded | go_step | go_upon | go_back))
          go_region
          all_goals (try dsimp only [Exit.then])
          clear f0 f1 f2 f3 y0 y1 y2 y3 e0 e1 e2 x0 x1 x2 s0 s1 s2 s3 t0' t1 t2
          have HRZ := Lib.hid (show RdSt _ X5 c5 Y5 d5 t' from by
            obtain ⟨_, _, _, _, e1, e2, h⟩ := HF3.out.drewX.rows
            cases e1; cases e2; exact h)
          have p0 := (Arr.drew HF2.out).cell (k := 0) rfl
          repeat' ((fail_if_success at_builtin); (fail_if_success at_make); (first | go_values | go_skip | go_guarded | go_step | go_upon | go_back))
          go_roundg (40 - (j + 1))
          case measure => have := HGJ.out; omega
          case rel => exact ⟨j + 1, gone + 1, t', dg, X5, c5, Y5, d5, rfl, by go_num, by go_num, by rw [HTR.out, HTK.out]; exact Arr.drew HF1.out, Arr.drew HF2.out, HRZ.out, HSG.out.1, HSG.out.2.1, HSO.out, hAH3.out, hGN1.out, HF5.out.drew⟩
    exact AllReadyT.nil
  exact AllReadyT.nil
  --HELDENDK
end Go.Proofs.YtmjcoebfldmgnaaGreat
