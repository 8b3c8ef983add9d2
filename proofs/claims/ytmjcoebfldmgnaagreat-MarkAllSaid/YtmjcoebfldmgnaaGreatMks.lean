/- marks: a closed fact. No condition. -/
import Derived.Test.YtmjcoebfldmgnaaGreatMst
import Derived.Test.YtmjcoebfldmgnaaGreatMAll
namespace Go.Proofs.YtmjcoebfldmgnaaGreat
open Go.RowKit Go.Maps
set_option linter.unusedVariables false
set_option linter.unusedSimpArgs false
set_option maxRecDepth 100000

theorem one_str (x : List UInt8) : StrL [x] (fun y => y ∈ [x]) := ⟨(by simp), List.pairwise_singleton _ _, fun _ => Iff.rfl⟩
theorem sml_marks {A M K : List UInt8} (hA : A = [97, 98, 99]) (hM : M = enc [⟨[120], shaS A, 3⟩]) (hg : GoodS (smlOf A M K)) : (begC (smlOf A M K)).grey.length = 1 ∧ (mStep (begS (smlOf A M K)) (begC (smlOf A M K))).2.grey.length = 1 ∧ (mStep (begS (smlOf A M K)) (begC (smlOf A M K))).2.phase = 1 := by
  have hp := sml_perm A M K
  have hbM : (⟨shaS M, M, 0, false⟩ : BlobP) ∈ (smlOf A M K).blobs := hp.mem_iff.2 (by simp)
  have kM : kids (smlOf A M K).blobs (shaS M) = [shaS A] := by
    have := kids_mem hg.b.ris hbM
    dsimp only at this
    have hc : chk [(⟨[120], shaS A, 3⟩ : PartP)] = 0 := by
      rw [chk, if_neg (by show ¬ 1 > 8; omega), chkGo_step (show nameC [120] = 0 by decide) (fun m hm => by cases hm) (hexC_sha A) (by show 3 ≤ 300; omega)]
      rfl
    rw [this, hM, decL_enc _ hc]; rfl
  have hg1 : (begC (smlOf A M K)).grey = [shaS M] := StrL.uniq (uni_str (rts (smlOf A M K))) ⟨(by simp), List.pairwise_singleton _ _, fun x => by rw [sml_rts, List.mem_singleton]⟩
  have hin : InB (begS (smlOf A M K)).blobs (shaS M) := (eqM_inB (eqM_unmk _)).2 ⟨_, hbM, rfl⟩
  refine ⟨by rw [hg1]; rfl, ?_⟩
  rcases mStep_ways (begS (smlOf A M K)) (begC (smlOf A M K)) with ⟨h, _⟩ | ⟨d, rest, h, hn, _⟩ | ⟨d, rest, i, hi, h, _, _, hm, _⟩ | ⟨d, rest, i, hi, h, _, _, _, e⟩
  · rw [hg1] at h; cases h
  · rw [hg1] at h; cases h; exact absurd hin hn
  · exfalso
    obtain ⟨a, _, e⟩ := List.mem_map.1 (List.getElem_mem hi)
    have hm' : (begS (smlOf A M K)).blobs[i].mark = true := hm
    have e' : (begS (smlOf A M K)).blobs[i] = { a with mark := false } := e.symm
    rw [e'] at hm'; cases hm'
  · rw [hg1] at h; cases h
    rw [e]
    refine ⟨?_, rfl⟩
    show (uni ([] ++ kids (begS (smlOf A M K)).blobs (shaS M))).length = 1
    rw [show kids (begS (smlOf A M K)).blobs (shaS M) = kids (smlOf A M K).blobs (shaS M) from eqM_kids (eqM_unmk _) _, kM, List.nil_append]
    rw [StrL.uniq (uni_str [shaS A]) (one_str (shaS A))]; rfl
theorem two_new2 (w : World) (e1 e2 : TypeId) (c1 c2 : List Value) : ∃ W, W = (w.alloc (.cells c1.toArray e1)).alloc (.cells c2.toArray e2) ∧ Arr W w.heap.size e1 c1 ∧ Arr W (w.heap.size + 1) e2 c2 ∧ Below w.heap.size w W := by
  have b1 := (Below.refl w.heap.size w).alloc (Nat.le_refl _) (.cells c1.toArray e1)
  have b2 := b1.alloc b1.size (.cells c2.toArray e2)
  have a1 := (Arr.new w e1 c1).alloc (.cells c2.toArray e2)
  have a2 := Arr.new (w.alloc (.cells c1.toArray e1)) e2 c2
  rw [World.size_alloc] at a2
  exact ⟨_, rfl, a1, a2, b2⟩
theorem begS_blen (s : StoP) : (begS s).blobs.length = s.blobs.length := by show (unmk s.blobs).length = _; simp [unmk]
set_option maxHeartbeats 8000000 in
theorem marks_ok (w : World) : Calls Tryz.prog 33 #[] w fun e w' => e = .returned (.bool true) ∧ Below w.heap.size w w' := by
  obtain ⟨A, hA⟩ : ∃ A : List UInt8, A = [97, 98, 99] := ⟨_, rfl⟩
  obtain ⟨M, hM⟩ : ∃ M, M = enc [⟨[120], shaS A, 3⟩] := ⟨_, rfl⟩
  obtain ⟨K, hK⟩ : ∃ K, K = keyS 0 := ⟨_, rfl⟩
  have hAL : A.length = 3 := by rw [hA]; rfl
  have hg : GoodS (smlOf A M K) := sml_good hAL (sml_len hA hM) (sml_ne hA hM) (by rw [hK]; exact hexC_sha _)
  obtain ⟨m1, m2, m3⟩ := sml_marks hA hM hg
  have HSM := Lib.hid (show ∀ w, Calls Tryz.prog 58 #[] w fun e w' => ∃ X c Y d, e = .returned (.agg #[.slice X (smlOf A M K).blobs.length c, .slice Y (smlOf A M K).ents.length d, .int .i64 ((smlOf A M K).room : Int), .int .i64 ((smlOf A M K).clock : Int)]) ∧ RdSt w' X c Y d (smlOf A M K) ∧ Below w.heap.size w w' from fun w => small_ok A M K hA hM hK w)
  have HBG := Lib.hid (show ∀ X c Y d W, RdSt W X c Y d (smlOf A M K) → Calls Tryz.prog 32 #[.agg #[.slice X (smlOf A M K).blobs.length c, .slice Y (smlOf A M K).ents.length d, .int .i64 ((smlOf A M K).room : Int), .int .i64 ((smlOf A M K).clock : Int)]] W fun e w' => ∃ v1 v2 v3, e = .returned (.tuple #[stV v1 v2 (begS (smlOf A M K)), coV v3 (begC (smlOf A M K)), .int .i64 0]) ∧ OwSt w' W.heap.size v1 v2 (begS (smlOf A M K)) (fun b => b < W.heap.size) ∧ w'.ownsRow W.heap.size 9 1 v3 (begC (smlOf A M K)).grey.length (strs (begC (smlOf A M K)).grey) ∧ Below W.heap.size W w' from fun X c Y d W h => Begin_ok X c Y d _ W hg h)
  have HMS := Lib.hid (fun X c Y d Ag ng W (h : RdSt W X c Y d (begS (smlOf A M K))) (hc : RdC W Ag ng (begC (smlOf A M K))) => MStep_ok X c Y d _ Ag ng (begC (smlOf A M K)) W (beg_good hg) h rfl rfl (by rw [m1]; omega) hc)
  have g1 : (((begC (smlOf A M K)).phase : Int) == 1) = true := rfl
  have g2 : (((begC (smlOf A M K)).grey.length : Int) == 1) = true := by rw [m1]; rfl
  have g3 : (((mStep (begS (smlOf A M K)) (begC (smlOf A M K))).2.grey.length : Int) == 1) = true := by rw [m2]; rfl
  clear hA hM hK hAL hg m1 m2 m3
  generalize begS (smlOf A M K) = t at *
  generalize begC (smlOf A M K) = cc at *
  generalize smlOf A M K = s at *
  go_enter Tryz.func33, Tryz.ntmps33
  repeat' ((fail_if_success at_builtin); (fail_if_success at_make); (first | go_values | go_skip | go_guarded | go_step | go_upon | go_back))
  refine ((HSM.out w)).mono ?_; rintro e_ w1 ⟨X, c, Y, d, rfl, hr1, hb1⟩; dsimp only
  have HB1 := Lib.hid (HBG.out X c Y d w1 hr1)
  clear hr1
  repeat' ((fail_if_success at_builtin); (fail_if_success at_make); (first | go_values | go_skip | go_guarded | go_step | go_upon | go_back))
  refine ((HB1.out)).mono ?_; rintro e_ w2 ⟨v1, v2, v3, rfl, ho2, hl2, hb2⟩; dsimp only
  obtain ⟨X2, c2, Y2, d2, e1, e2, hr2⟩ := ho2.rows
  obtain ⟨A3, n3, e3, hc3⟩ := RdC.of_own (c := cc) hl2
  subst e1 e2 e3
  have hb12 := hb1.trans (hb2.mono hb1.size)
  obtain ⟨W3, hW3, hA3, hC3, hb3⟩ := two_new2 w2 26 60 [.slice X2 t.blobs.length c2, .slice Y2 t.ents.length d2, .int .i64 (t.room : Int), .int .i64 (t.clock : Int)] [.int .i64 (cc.phase : Int), .slice A3 cc.grey.length n3, .string ⟨cc.at_.toArray⟩]
  have x0 := hA3.cell (k := 0) rfl
  have x1 := hA3.cell (k := 1) rfl
  have x2 := hA3.cell (k := 2) rfl
  have x3 := hA3.cell (k := 3) rfl
  have y0 := hC3.cell (k := 0) rfl
  have y1 := hC3.cell (k := 1) rfl
  have y2 := hC3.cell (k := 2) rfl
  have HM3 := Lib.hid (HMS.out X2 c2 Y2 d2 A3 n3 W3 (hr2.below hb3) (hc3.below hb3))
  have hb13 := hb12.trans (hb3.mono hb12.size)
  have HC3 := Lib.hid hC3
  rw [hW3] at x0 x1 x2 x3 y0 y1 y2
  clear ho2 hl2 hr2 hc3 hb2 hb1 hb12 hb3 hA3 hC3 HBG HSM HB1
  repeat' ((fail_if_success at_builtin); (fail_if_success at_make); (first | go_values | go_skip | go_guarded | go_step | go_upon | go_back))
  rw [← hW3]
  clear x0 x1 x2 x3 y0 y1 y2 hW3
  refine ((HM3.out)).mono ?_; rintro e_ w4 ⟨v4, v5, v6, rfl, ho4, hl4, hb4⟩; dsimp only
  obtain ⟨X4, c4, Y4, d4, e1, e2, _⟩ := ho4.rows
  obtain ⟨A6, n6, e3, _, _⟩ := Rd.of_own' hl4
  subst e1 e2 e3
  have hb14 := hb13.trans (hb4.mono hb13.size)
  have hC4 := HC3.out.below hb4
  obtain ⟨W5, hW5, _, hC5, hb5⟩ := two_new2 w4 26 60 [.slice X4 (mStep t cc).1.blobs.length c4, .slice Y4 (mStep t cc).1.ents.length d4, .int .i64 (t.room : Int), .int .i64 (t.clock : Int)] [.int .i64 ((mStep t cc).2.phase : Int), .slice A6 (mStep t cc).2.grey.length n6, .string ⟨(mStep t cc).2.at_.toArray⟩]
  have y0 := (hC4.below hb5).cell (k := 0) rfl
  have y1 := (hC4.below hb5).cell (k := 1) rfl
  have z1 := hC5.cell (k := 1) rfl
  have hb15 := hb14.trans (hb5.mono hb14.size)
  rw [hW5] at y0 y1 z1
  clear ho4 hl4 hb4 hb13 hb14 hC4 hC5 hb5 HM3 HMS
  repeat' ((fail_if_success at_builtin); (fail_if_success at_make); (first | go_values | go_skip | go_guarded | go_step | go_upon | go_back))
  go_ret
  rw [← hW5]
  exact ⟨by simp, hb15⟩
end Go.Proofs.YtmjcoebfldmgnaaGreat
