/- reach.All; comes. Conditions: the sizes. -/
import Derived.Test.YtdpedkgdobfemaaGreatRts
import Derived.Test.YtdpedkgdobfemaaGreatSml
namespace Go.Proofs.YtdpedkgdobfemaaGreat
open Go.RowKit Go.Maps
set_option linter.unusedVariables false
set_option linter.unusedSimpArgs false
set_option maxRecDepth 100000

set_option maxHeartbeats 4000000 in
theorem All_ok (A B : Option Addr) (c d : Nat) (s : StoP) (R C : Int) (w : World) (hs : RtsOk s) (hrd : RdSt w A c B d s) :
    Calls Tryz.prog 8 #[.agg #[.slice A s.blobs.length c, .slice B s.ents.length d, .int .i64 R, .int .i64 C]] w fun e w' => ∃ v L, e = .returned v ∧ StrL L (Rch s.blobs (rts s)) ∧ L.length ≤ s.blobs.length ∧ w'.ownsRow w.heap.size 9 1 v L.length (strs L) ∧ Below w.heap.size w w' := by
  have HOK := Lib.hid hs
  have hx0 : Arr (w.alloc (.cells #[.slice A s.blobs.length c, .slice B s.ents.length d, .int .i64 R, .int .i64 C] 26)) w.heap.size 26 [.slice A s.blobs.length c, .slice B s.ents.length d, .int .i64 R, .int .i64 C] := Arr.new w 26 _
  have hb0 := (Below.refl w.heap.size w).alloc (Nat.le_refl _) (.cells #[.slice A s.blobs.length c, .slice B s.ents.length d, .int .i64 R, .int .i64 C] 26)
  have hrd1 := hrd.below hb0
  clear hs hrd
  go_enter Tryz.func8, Tryz.ntmps8
  repeat' ((fail_if_success at_builtin); (fail_if_success at_make); (first | go_values | go_skip | go_guarded | go_step | go_upon | go_back))
  generalize (w.alloc (.cells #[.slice A s.blobs.length c, .slice B s.ents.length d, .int .i64 R, .int .i64 C] 26)) = w1 at *
  obtain ⟨gS, hgS⟩ : ∃ g, g = w.heap.size := ⟨_, rfl⟩
  rw [← hgS] at hx0 ⊢
  have HSB := Lib.hid (show ∀ w', Below w1.heap.size w1 w' → (w'.cell? ⟨gS, 0, none⟩ = some (.slice A s.blobs.length c) ∧ w'.cell? ⟨gS, 1, none⟩ = some (.slice B s.ents.length d) ∧ w'.cell? ⟨gS, 2, none⟩ = some (.int .i64 R) ∧ w'.cell? ⟨gS, 3, none⟩ = some (.int .i64 C)) from
    fun w' hb => ⟨(hx0.below hb).cell (k := 0) rfl, (hx0.below hb).cell (k := 1) rfl, (hx0.below hb).cell (k := 2) rfl, (hx0.below hb).cell (k := 3) rfl⟩)
  have HRD := Lib.hid hrd1
  have HB1 := Lib.hid hb0
  have HgS := Lib.hid hgS
  clear hgS hx0 hrd1 hb0
  --HELD
  refine wp_region_held_drew (S := (fun w' => w'.cell? ⟨gS, 0, none⟩ = some (.slice A s.blobs.length c) ∧ w'.cell? ⟨gS, 1, none⟩ = some (.slice B s.ents.length d) ∧ w'.cell? ⟨gS, 2, none⟩ = some (.int .i64 R) ∧ w'.cell? ⟨gS, 3, none⟩ = some (.int .i64 C))) (by kernel_rfl) ?_ (fun hHeld => ?_)
  · exact HSB.out _ (Below.refl _ w1).drew
  have hB := (Below.refl w1.heap.size w1).drew
  generalize w1.drew = wn0 at *
  refine wpAnyH_take (i := 0) (oi := _) (v := ?_) rfl (by kernel_rfl) (by kernel_rfl) (by kernel_rfl) (fun _ _ _ h => h) (Or.inl ⟨by rfl, ?_⟩) (by assumption) ?_
  rotate_left
  · (intro w hSw; (try dsimp only at hSw); go_simp; try (with_reducible rfl))
  try simp only [List.getElem_toArray, List.getElem_cons_zero, List.getElem_cons_succ, Act.put, List.setIfInBounds_toArray, List.set_cons_zero, List.set_cons_succ]
  refine wpAnyH_take (i := 1) (oi := _) (v := ?_) rfl (by kernel_rfl) (by kernel_rfl) (by kernel_rfl) (fun _ _ _ h => h) (Or.inl ⟨by rfl, ?_⟩) (by assumption) ?_
  rotate_left
  · (intro w hSw; (try dsimp only at hSw); go_simp; try (with_reducible rfl))
  try simp only [List.getElem_toArray, List.getElem_cons_zero, List.getElem_cons_succ, Act.put, List.setIfInBounds_toArray, List.set_cons_zero, List.set_cons_succ]
  refine wpAnyH_take (i := 2) (oi := _) (v := ?_) rfl (by kernel_rfl) (by kernel_rfl) (by kernel_rfl) (fun _ _ _ h => h) (Or.inl ⟨by rfl, ?_⟩) (by assumption) ?_
  rotate_left
  · (intro w hSw; (try dsimp only at hSw); go_simp; try (with_reducible rfl))
  try simp only [List.getElem_toArray, List.getElem_cons_zero, List.getElem_cons_succ, Act.put, List.setIfInBounds_toArray, List.set_cons_zero, List.set_cons_succ]
  refine wpAnyH_ready (rs := [3]) (by kernel_rfl) (by simp) ?_
  refine AllReadyH.cons (o := _) rfl (fun K hK => ?_) ?_
  ·
    go_simp
    refine (Roots_ok A B c d s R C wn0 HOK.out (HRD.out.below hB)).mono ?_
    rintro e5 w5 ⟨v5, L1, rfl, hL1, hl1, ho5, hb5⟩
    obtain ⟨A3, c3, rfl, _, _⟩ := Rd.of_own' ho5
    have HL1 := Lib.hid hL1
    clear hL1
    dsimp only
    refine outG hK ?_ (Below wn0.heap.size wn0) (fun W => W.ownsRow w1.heap.size 9 1 (.slice A3 L1.length c3) L1.length (strs L1)) ?_ ?_ (fun wn1 hHeld hst hnew => ?_)
    · (exact HSB.out _ (hB.trans (Below.mono (show Below wn0.heap.size wn0 _ from by (first | exact hb5 | exact hb6 | exact Below.refl _ _)) hB.size)))
    · (first | exact hb5 | exact hb6 | exact Below.refl _ _)
    · (exact own_lower ho5 hB.size)
    have hB := hB.trans (hst.mono hB.size)
    have h3 := hnew
    clear hst
    clear hK K
    try simp only [List.getElem_toArray, List.getElem_cons_zero, List.getElem_cons_succ, Act.put, List.setIfInBounds_toArray, List.set_cons_zero, List.set_cons_succ]
    refine wpAnyH_ready (rs := [4]) (by kernel_rfl) (by simp) ?_
    refine AllReadyH.cons (o := _) rfl (fun K hK => ?_) ?_
    ·
      go_simp
      refine (From_ok A A3 c c3 s.blobs L1 wn1 (by have := HOK.out.b; omega) HRD.out.bc HRD.out.bm HOK.out.g (HRD.out.b.below hB) (by omega) (Rd.of_own h3)).mono ?_
      rintro e6 w6 ⟨v6, L2, rfl, hL2, hl2, ho6, hb6⟩
      have HL2 := Lib.hid hL2
      clear hL2
      dsimp only
      refine outG hK ?_ (Below wn1.heap.size wn1) (fun W => W.ownsRow w1.heap.size 9 1 v6 L2.length (strs L2)) ?_ ?_ (fun wn2 hHeld hst hnew => ?_)
      · (exact HSB.out _ (hB.trans (Below.mono (show Below wn1.heap.size wn1 _ from by (first | exact hb5 | exact hb6 | exact Below.refl _ _)) hB.size)))
      · (first | exact hb5 | exact hb6 | exact Below.refl _ _)
      · (exact own_lower ho6 hB.size)
      have hB := hB.trans (hst.mono hB.size)
      have h4 := hnew
      clear hst
      clear hK K
      try simp only [List.getElem_toArray, List.getElem_cons_zero, List.getElem_cons_succ, Act.put, List.setIfInBounds_toArray, List.set_cons_zero, List.set_cons_succ]
      refine wpAnyH_take (i := 5) (oi := _) (v := ?_) rfl (by kernel_rfl) (by kernel_rfl) (by kernel_rfl) (fun _ _ _ h => h) (Or.inl ⟨by rfl, ?_⟩) (by assumption) ?_
      rotate_left
      · (intro w hSw; (try dsimp only at hSw); go_simp; try (with_reducible rfl))
      try simp only [List.getElem_toArray, List.getElem_cons_zero, List.getElem_cons_succ, Act.put, List.setIfInBounds_toArray, List.set_cons_zero, List.set_cons_succ]
      refine wpAnyH_done (by kernel_rfl) ?_ _
      try dsimp only [Exit.then]
      clear hHeld
      have hBz := HB1.out.trans (hB.mono HB1.out.size)
      clear hB h3
      have e9 := HgS.out
      subst e9
      repeat' ((fail_if_success at_builtin); (fail_if_success at_make); (first | go_values | go_skip | go_guarded | go_step | go_upon | go_back))
      go_ret
      refine ⟨v6, L2, rfl, ⟨HL2.out.nd, HL2.out.le, fun x => ?_⟩, hl2, own_lower h4 HB1.out.size, hBz⟩
      rw [HL2.out.mem]
      exact ⟨fun h => h.mono fun y hy hi => .root ((HL1.out.mem y).1 hy) hi, fun h => h.mono fun y hy hi => .root ((HL1.out.mem y).2 hy) hi⟩
    exact AllReadyH.nil
  exact AllReadyH.nil
  --HELDEND
theorem kids_mem {bl : List BlobP} (hr : RisesBy (·.dig) bl) {b : BlobP} (hb : b ∈ bl) : kids bl b.dig = (decL b.data).1.map (·.dig) := by
  cases hf : bl.findIdx? (fun x => x.dig == b.dig) with
  | none =>
    have := inB_idx.1 ⟨b, hb, rfl⟩
    rw [hf] at this; cases this
  | some i =>
    have hi : i < bl.length := (List.findIdx?_eq_some_iff_getElem.1 hf).1
    have hd : bl[i].dig = b.dig := by simpa using (List.findIdx?_eq_some_iff_getElem.1 hf).2.1
    have e := hr.inj (List.getElem_mem hi) hb hd
    have := kids_at hf hi
    rw [e] at this
    exact this
theorem StrL.len {L N : List (List UInt8)} {p : List UInt8 → Prop} (h : StrL L p) (hn : N.Nodup) (hm : ∀ x, x ∈ N ↔ p x) : L.length = N.length :=
  ((List.perm_ext_iff_of_nodup h.nd hn).2 fun x => by rw [h.mem, hm]).length_eq
/-- the small store: what it comes to -/
theorem sml_rts {A M K : List UInt8} : ∀ x, x ∈ rts (smlOf A M K) ↔ x = shaS M := by
  have hm : ∀ b ∈ (smlOf A M K).blobs, b = ⟨shaS A, A, 0, false⟩ ∨ b = ⟨shaS M, M, 0, false⟩ := fun b hb => by simpa using (sml_perm A M K).mem_iff.1 hb
  have h0 : rtsB (smlOf A M K).blobs = [] := by
    unfold rtsB
    rw [List.map_eq_nil_iff, List.filter_eq_nil_iff]
    intro b hb
    rcases hm b hb with rfl | rfl <;> simp
  intro x
  unfold rts
  rw [h0, List.append_nil]
  show x ∈ [shaS M] ↔ _
  simp
theorem sml_all {A M K : List UInt8} (hA : A = [97, 98, 99]) (hM : M = enc [⟨[120], shaS A, 3⟩]) (hg : GoodS (smlOf A M K)) : ∀ x, Rch (smlOf A M K).blobs (rts (smlOf A M K)) x ↔ x ∈ [shaS A, shaS M] := by
  have hp := sml_perm A M K
  have hbA : (⟨shaS A, A, 0, false⟩ : BlobP) ∈ (smlOf A M K).blobs := hp.mem_iff.2 (by simp)
  have hbM : (⟨shaS M, M, 0, false⟩ : BlobP) ∈ (smlOf A M K).blobs := hp.mem_iff.2 (by simp)
  have kA : kids (smlOf A M K).blobs (shaS A) = [] := by
    have := kids_mem hg.b.ris hbA
    dsimp only at this
    rw [this, hA]; decide +kernel
  have kM : kids (smlOf A M K).blobs (shaS M) = [shaS A] := by
    have := kids_mem hg.b.ris hbM
    dsimp only at this
    have hc : chk [(⟨[120], shaS A, 3⟩ : PartP)] = 0 := by
      rw [chk, if_neg (by show ¬ 1 > 8; omega), chkGo_step (show nameC [120] = 0 by decide) (fun m hm => by cases hm) (hexC_sha A) (by show 3 ≤ 300; omega)]
      rfl
    rw [this, hM, decL_enc _ hc]; rfl
  intro x
  constructor
  · intro h
    induction h with
    | root h1 h2 => rw [(sml_rts _).1 h1]; simp
    | step h1 h2 h3 ih =>
      simp only [List.mem_cons, List.not_mem_nil, or_false] at ih
      rcases ih with rfl | rfl
      · rw [kA] at h2; cases h2
      · rw [kM] at h2; rw [List.mem_singleton.1 h2]; simp
  · intro h
    simp only [List.mem_cons, List.not_mem_nil, or_false] at h
    have hm : Rch (smlOf A M K).blobs (rts (smlOf A M K)) (shaS M) := .root ((sml_rts _).2 rfl) ⟨_, hbM, rfl⟩
    rcases h with rfl | rfl
    · exact .step hm (by rw [kM]; simp) ⟨_, hbA, rfl⟩
    · exact hm
set_option maxHeartbeats 4000000 in
theorem comes_ok (w : World) : Calls Tryz.prog 10 #[] w fun e w' => e = .returned (.bool true) ∧ Below w.heap.size w w' := by
  obtain ⟨A, hA⟩ : ∃ A : List UInt8, A = [97, 98, 99] := ⟨_, rfl⟩
  obtain ⟨M, hM⟩ : ∃ M, M = enc [⟨[120], shaS A, 3⟩] := ⟨_, rfl⟩
  obtain ⟨K, hK⟩ : ∃ K, K = keyS 0 := ⟨_, rfl⟩
  have hAL : A.length = 3 := by rw [hA]; rfl
  have hg : GoodS (smlOf A M K) := sml_good hAL (sml_len hA hM) (sml_ne hA hM) (by rw [hK]; exact hexC_sha _)
  have hall := sml_all (K := K) hA hM hg
  have hrts := sml_rts (A := A) (M := M) (K := K)
  have hne := sml_ne hA hM
  have HSM := Lib.hid (fun w => small_ok A M K hA hM hK w)
  have HOK := Lib.hid hg.rts
  have HAL := Lib.hid (fun (L : List (List UInt8)) (h : StrL L (Rch (smlOf A M K).blobs (rts (smlOf A M K)))) => show L.length = 2 from h.len (N := [shaS A, shaS M]) (by rw [List.nodup_cons]; exact ⟨by simp [hne], by simp⟩) (fun x => (hall x).symm))
  have HRL := Lib.hid (fun (L : List (List UInt8)) (h : StrL L (fun x => x ∈ rts (smlOf A M K))) => show L.length = 1 from h.len (N := [shaS M]) (by simp) (fun x => by rw [hrts]; simp))
  clear hA hM hK hAL hg hall hrts hne
  generalize smlOf A M K = s at *
  go_enter Tryz.func10, Tryz.ntmps10
  repeat' ((fail_if_success at_builtin); (fail_if_success at_make); (first | go_values | go_skip | go_guarded | go_step | go_upon | go_back))
  refine ((HSM.out w)).mono ?_; rintro e_ w1 ⟨X, c, Y, d, rfl, hr1, hb1⟩; dsimp only
  repeat' ((fail_if_success at_builtin); (fail_if_success at_make); (first | go_values | go_skip | go_guarded | go_step | go_upon | go_back))
  refine ((All_ok X Y c d s 200 1 w1 HOK.out hr1)).mono ?_; rintro e_ w2 ⟨v2, L2, rfl, hL2, _, ho2, hb2⟩; dsimp only
  obtain ⟨A2, c2, rfl, _, _⟩ := Rd.of_own' ho2
  have hl2 := HAL.out L2 hL2
  have hb12 := hb1.trans (hb2.mono hb1.size)
  clear ho2 hr1 hL2
  rw [hl2]
  repeat' ((fail_if_success at_builtin); (fail_if_success at_make); (first | go_values | go_skip | go_guarded | go_step | go_upon | go_back))
  refine ((HSM.out w2)).mono ?_; rintro e_ w3 ⟨X3, c3, Y3, d3, rfl, hr3, hb3⟩; dsimp only
  repeat' ((fail_if_success at_builtin); (fail_if_success at_make); (first | go_values | go_skip | go_guarded | go_step | go_upon | go_back))
  refine ((Roots_ok X3 Y3 c3 d3 s 200 1 w3 HOK.out hr3)).mono ?_; rintro e_ w4 ⟨v4, L4, rfl, hL4, _, ho4, hb4⟩; dsimp only
  obtain ⟨A4, c4, rfl, _, _⟩ := Rd.of_own' ho4
  have hl4 := HRL.out L4 hL4
  have hb13 := hb12.trans (hb3.mono hb12.size)
  have hb14 := hb13.trans (hb4.mono hb13.size)
  clear ho4 hr3 hL4
  rw [hl4]
  repeat' ((fail_if_success at_builtin); (fail_if_success at_make); (first | go_values | go_skip | go_guarded | go_step | go_upon | go_back))
  go_ret
  exact ⟨rfl, hb14⟩
end Go.Proofs.YtdpedkgdobfemaaGreat
