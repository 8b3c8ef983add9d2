/- The walk of MarkAll. Conditions: the sizes. -/
import Derived.Test.YtmjcoebfldmgnaaGreatMks
import Derived.Test.YtmjcoebfldmgnaaGreatSmS
namespace Go.Proofs.YtmjcoebfldmgnaaGreat
open Go.RowKit Go.Maps
set_option linter.unusedVariables false
set_option linter.unusedSimpArgs false
set_option maxRecDepth 100000

theorem sto_bone (l : List RawP) : ∀ b ∈ (sto l).blobs, b.data.length ≤ 148 ∧ b.mark = false := fun b hb => by
  have h := (acc_take l 12).bone
  have pb : ((sto l).blobs).Perm (stAcc l).blobs := srt_perm _ _
  have := h b (pb.mem_iff.1 hb)
  exact ⟨this.2.1, this.2.2.2⟩
theorem rch_nil (bl : List BlobP) : ∀ y, ¬ Rch bl [] y := fun y hy => by
  induction hy with
  | root h1 _ => cases h1
  | step _ _ _ ih => exact ih
theorem eqM_same {l m : List BlobP} (h : EqM l m) : sameBL l m = true := by
  rw [sameBL_iff]; exact h
set_option maxHeartbeats 8000000 in
theorem MarkAll_walk (A : Option Addr) (n c : Nat) (l : List RawP) (m : Int) (w : World) (hl : l.length = n) (hc : n ≤ c) (hm : c ≤ maxLen) (hok : ∀ r ∈ l, RawOk r) (hr : Rd w 4 A n (rcs l)) (m0 : -9223372036854775808 ≤ m) (m1 : m ≤ 9223372036854775807) :
    Calls Tryz.prog 10 #[.slice A n c, .int .i64 m] w fun e w' => e = .returned (.bool true) ∧ Below w.heap.size w w' := by
  have HBO := Lib.hid (sto_bone l)
  have HS := Lib.hid (Store_ok A n c l w hl hc hm hok hr)
  have HGS := Lib.hid (sto_good l)
  clear hok hl hr hc hm
  generalize sto l = s at *
  have hbl := HGS.out.b.len
  have hel := HGS.out.e.len
  generalize hbls : s.blobs = bl at *
  have HGB := Lib.hid (show GoodB bl from hbls ▸ HGS.out.b)
  have HDG := Lib.hid (show ∀ x ∈ bl, x.dig.length ≤ 1000 from hbls ▸ HGS.out.rts.g)
  clear hbls
  generalize s.ents = el at *
  generalize s.room = rm at *
  generalize s.clock = ck at *
  go_enter Tryz.func10, Tryz.ntmps10
  repeat' ((fail_if_success at_builtin); (fail_if_success at_make); (first | go_values | go_skip | go_guarded | go_step | go_upon | go_back))
  refine ((HS.out)).mono ?_; rintro e_ w1 ⟨v1, v2, rfl, hb, he, hb1⟩; dsimp only
  obtain ⟨Ab, cb, rfl, hcb1, hcb2, hRb⟩ := hb.rows
  obtain ⟨Ae, ce, rfl, _, _, _⟩ := he.rows
  have hfl := fld_blobs Ab Ae bl.length el.length cb ce (rm : Int) (ck : Int) w1
  clear hb he
  repeat' ((fail_if_success at_builtin); (fail_if_success at_make); (first | go_values | go_skip | go_guarded | go_step | go_upon | go_back))
  clear hfl
  refine ((marks_ok w1)).mono ?_; rintro e_ w2 ⟨rfl, hb2⟩; dsimp only
  have hb12 := hb1.trans (hb2.mono hb1.size)
  have hR2 := hRb.below hb2
  clear hb1 hb2 hRb
  rcases Nat.eq_zero_or_pos bl.length with h0 | h0
  · have g0 : ((bl.length : Int) == 0) = true := by rw [h0]; rfl
    clear h0
    repeat' ((fail_if_success at_builtin); (fail_if_success at_make); (first | go_values | go_skip | go_guarded | go_step | go_upon | go_back))
    refine ((marks_ok w2)).mono ?_; rintro e_ w3 ⟨rfl, hb3⟩; dsimp only
    repeat' ((fail_if_success at_builtin); (fail_if_success at_make); (first | go_values | go_skip | go_guarded | go_step | go_upon | go_back))
    go_ret
    exact ⟨rfl, hb12.trans (hb3.mono hb12.size)⟩
  have g0 : ((bl.length : Int) == 0) = false := by rw [beq_eq_false_iff_ne]; omega
  have HP1 := Lib.hid (fun w' => Picked_ok m bl.length (bl.length : Int) rfl w' m0 m1 (by omega) (by omega))
  have hp1 := pk_lt m (m := bl.length) (by omega)
  clear m0 m1
  generalize pk m bl.length = k at *
  repeat' ((fail_if_success at_builtin); (fail_if_success at_make); (first | go_values | go_skip | go_guarded | go_step | go_upon | go_back))
  refine ((HP1.out w2)).mono ?_; rintro e_ _ ⟨rfl, rfl⟩; dsimp only
  obtain ⟨bq, oq, Bq, cq, hA, hbq, d0, d1, d2, d3, hsl⟩ := hR2.blob_at k hp1
  subst hA
  have hk0 : (0 : Int) ≤ (k : Int) := by omega
  have hk1 : (k : Int) < (bl.length : Int) := by omega
  have HMB := Lib.hid (List.getElem_mem hp1)
  generalize hdk : bl[k].dig = dk at *
  have HIN := Lib.hid (show InB bl dk from ⟨_, HMB.out, hdk⟩)
  have HR2 := Lib.hid hR2
  have HDA := Lib.hid (show ∀ b ∈ bl, b.data.length ≤ 1000000 from fun b hb => by have := (HBO.out b hb).1; omega)
  clear hsl HP1 hdk hR2 HMB g0 h0 d1 d2 d3
  have hbx := (Below.refl w2.heap.size w2).alloc (Nat.le_refl _) (.cells #[.string ⟨dk.toArray⟩] 9)
  have hxr : Rd (w2.alloc (.cells #[.string ⟨dk.toArray⟩] 9)) 1 (some ⟨w2.heap.size, 0, none⟩) [dk].length (strs [dk]) := Rd.newN (e := 9) [.string ⟨dk.toArray⟩] rfl
  have HM1 := Lib.hid (MAll_ok (some ⟨bq, oq, none⟩) (some ⟨w2.heap.size, 0, none⟩) cb 1 bl [dk] _ (by omega) hcb1 hcb2 HGB.out.ris HDA.out HDG.out (HR2.out.below hbx) (by simp) hxr)
  clear hxr
  repeat' ((fail_if_success at_builtin); (fail_if_success at_make); (first | go_values | go_skip | go_guarded | go_step | go_upon | go_back))
  refine ((HM1.out)).mono ?_; rintro e_ w4 ⟨g4, L, rfl, hL, hx4, hb4⟩; dsimp only
  have hb14 := hb12.trans ((hbx.trans (hb4.mono hbx.size)).mono hb12.size)
  have hB24 := hbx.trans (hb4.mono hbx.size)
  have HX4 := Lib.hid hx4.rwo
  have HL := Lib.hid hL
  clear hx4 hL hb4 hbx HM1
  have hby := (Below.refl w4.heap.size w4).alloc (Nat.le_refl _) (.cells #[.string ⟨dk.toArray⟩] 9)
  have hyr : Rd (w4.alloc (.cells #[.string ⟨dk.toArray⟩] 9)) 1 (some ⟨w4.heap.size, 0, none⟩) [dk].length (strs [dk]) := Rd.newN (e := 9) [.string ⟨dk.toArray⟩] rfl
  have HF1 := Lib.hid (From_ok (some ⟨bq, oq, none⟩) (some ⟨w4.heap.size, 0, none⟩) cb 1 bl [dk] _ (by omega) hcb1 hcb2 HDG.out (HR2.out.below (hB24.trans (hby.mono hB24.size))) (by simp) hyr)
  clear hyr
  repeat' ((fail_if_success at_builtin); (fail_if_success at_make); (first | go_values | go_skip | go_guarded | go_step | go_upon | go_back))
  refine ((HF1.out)).mono ?_; rintro e_ w5 ⟨v5, L5, rfl, hL5, hLl, ho5, hb5⟩; dsimp only
  obtain rfl : L5 = L := StrL.uniq hL5 HL.out
  obtain ⟨A5, c5, rfl, _, hr5⟩ := Rd.of_own' ho5
  have hB45 := hby.trans (hb5.mono hby.size)
  have hb15 := hb14.trans (hB45.mono hb14.size)
  have hB25 := hB24.trans (hB45.mono hB24.size)
  have HR5 := Lib.hid hr5
  obtain ⟨A4, c4, e4, hx4a, hx4b, hrw4⟩ := HX4.out.rows
  rw [mkAll_len] at e4 hx4a
  injection e4 with e41 e42 e43
  subst e41 e43
  clear e42
  have HX5 := Lib.hid (hrw4.below hB45)
  have hEQ := mkAll_eqM bl L5
  have HXR := Lib.hid (eqM_ris hEQ HGB.out.ris)
  have HXD := Lib.hid (show ∀ b ∈ mkAll bl L5, b.data.length ≤ 1000000 ∧ b.dig.length ≤ 1000 from fun b hb => by
    obtain ⟨b', hb', e1, e2, _⟩ := hEQ.symm.mem hb
    rw [← e1, ← e2]; exact ⟨HDA.out b' hb', HDG.out b' hb'⟩)
  have hm2 := MAll_ok (some ⟨g4, 0, none⟩) none bl.length 0 (mkAll bl L5) [] w5 (by rw [mkAll_len]; omega) (by rw [mkAll_len]; exact Nat.le_refl _) (by have : maxLen = 9223372036854775807 := rfl; omega) HXR.out (fun b hb => (HXD.out b hb).1) (fun b hb => (HXD.out b hb).2) HX5.out (by simp) Rd.nil_
  rw [mkAll_len] at hm2
  have HM2 := Lib.hid hm2
  clear hL5 ho5 hr5 hb5 hby hB45 hB24 hb14 hrw4 hEQ hm2 HF1
  repeat' ((fail_if_success at_builtin); (fail_if_success at_make); (first | go_values | go_skip | go_guarded | go_step | go_upon | go_back))
  refine ((HM2.out)).mono ?_; rintro e_ w6 ⟨g6, L6, rfl, hL6, hx6, hb6⟩; dsimp only
  have hb16 := hb15.trans (hb6.mono hb15.size)
  have hB26 := hB25.trans (hb6.mono hB25.size)
  have HL6 := Lib.hid (show L6 = [] from List.eq_nil_iff_forall_not_mem.2 fun x hx => rch_nil _ x ((hL6.mem x).1 hx))
  obtain ⟨A6, c6, e6, _, _, hrw6⟩ := hx6.rwo.rows
  injection e6 with e61 e62 e63
  subst e61
  clear e62 e63
  have HX6 := Lib.hid hrw6
  have HX56 := Lib.hid (HX5.out.below hb6)
  have HR56 := Lib.hid (HR5.out.below hb6)
  have HR26 := Lib.hid (HR2.out.below hB26)
  have hb63 : (bl.length : Int) ≤ 9223372036854775807 := by omega
  have hLpos : 0 < L5.length := List.length_pos_of_mem ((HL.out.mem dk).2 (.root (by simp) HIN.out))
  have hL24 : L5.length ≤ 1000 := by omega
  clear hL6 hx6 hb6 hrw6 hb15 hB25 HM2 hB26
  repeat' ((fail_if_success at_builtin); (fail_if_success at_make); (first | go_values | go_skip | go_guarded | go_step | go_upon | go_back))
  go_loopg [42] bl.length (fun gn i wr => ∃ j : Nat, gn = bl.length - j ∧ i = .int .i64 j ∧ j ≤ bl.length ∧ Below w6.heap.size w6 wr)
  case atStart => exact ⟨0, rfl, rfl, by omega, Below.refl _ _⟩
  case round =>
    obtain ⟨j, hgj, rfl, hj, hbj⟩ := hrel
    have HGJ := Lib.hid hgj
    clear hgj
    by_cases hlt : j < bl.length
    rotate_left
    · obtain rfl : j = bl.length := by omega
      have hlb : decide (bl.length < bl.length) = false := by simp
      have hsb := SameBlobs_ok (some ⟨bq, oq, none⟩) (some ⟨g4, 0, none⟩) cb bl.length bl (mkAll bl L5) wr (by omega) (by rw [mkAll_len]; omega) HDA.out (fun b hb => (HXD.out b hb).1) (HR26.out.below hbj) (HX56.out.below hbj)
      rw [mkAll_len, eqM_same (mkAll_eqM bl L5)] at hsb
      have HSB := Lib.hid hsb
      have g1 : decide ((L5.length : Int) > 0) = true := decide_eq_true (by omega)
      have g2 : decide ((0 : Int) < (L5.length : Int)) = true := decide_eq_true (by omega)
      have g3 : decide (0 < L5.length) = true := decide_eq_true (by omega)
      clear hsb
      repeat' ((fail_if_success at_builtin); (fail_if_success at_make); (first | go_values | go_skip | go_guarded | go_step | go_upon | go_back))
      refine ((HSB.out)).mono ?_; rintro e_ w7 ⟨rfl, hb7⟩; dsimp only
      repeat' ((fail_if_success at_builtin); (fail_if_success at_make); (first | go_values | go_skip | go_guarded | go_step | go_upon | go_back))
      go_ret
      exact ⟨rfl, hb16.trans ((hbj.trans (hb7.mono hbj.size)).mono hb16.size)⟩
    have hlb : decide (j < bl.length) = true := decide_eq_true hlt
    have hj0 : (0 : Int) ≤ (j : Int) := by omega
    have hj1 : (j : Int) < (bl.length : Int) := by omega
    have hjx : j < (mkAll bl L5).length := by rw [mkAll_len]; exact hlt
    have hjy : j < (mkAll (mkAll bl L5) L6).length := by rw [mkAll_len, mkAll_len]; exact hlt
    obtain ⟨ba, oa, Ba, ca, eA, _, a0, _, _, _, _⟩ := (HR26.out.below hbj).blob_at j hlt
    cases eA
    obtain ⟨bb, ob, Bb, cb', eB, _, _, _, _, b3, _⟩ := (HX56.out.below hbj).blob_at j hjx
    cases eB
    obtain ⟨bc, oc, Bc, cc, eC, _, _, _, _, c3, _⟩ := (HX6.out.below hbj).blob_at j hjy
    cases eC
    have hmx : (mkAll bl L5)[j].mark = decide (bl[j].dig ∈ L5) := by rw [mkAll_mark bl L5 j hlt hjx, (HBO.out _ (List.getElem_mem hlt)).2, Bool.false_or]
    have hmy : (mkAll (mkAll bl L5) L6)[j].mark = decide (bl[j].dig ∈ L5) := by
      rw [mkAll_mark (mkAll bl L5) L6 j hjx hjy, hmx, HL6.out]; simp
    rw [hmx] at b3
    rw [hmy] at c3
    simp only [Nat.zero_add] at b3 c3
    have HKL := Lib.hid hlt
    have HCT := Lib.hid (fun q => Has_str A5 c5 L5 bl[j].dig (wr.drewN q) (by omega) (HR56.out.below (bdrewN hbj q)))
    generalize bl[j].dig = dj at *
    generalize hdd : decide (dj ∈ L5) = dd at *
    clear hmx hmy hdd
    repeat' ((fail_if_success at_builtin); (fail_if_success at_make); (first | go_values | go_skip | go_guarded | go_step | go_upon | go_back))
    go_quiet ((go_at_call 25; exact Calls.quiet_of_same (HCT.out _)))
    dsimp only [Exit.then]
    have hbn := bdrewN hbj nq
    have e1 : (dd != dd) = false := by cases dd <;> rfl
    clear a0 b3 c3 hbj
    repeat' ((fail_if_success at_builtin); (fail_if_success at_make); (first | go_values | go_skip | go_guarded | go_step | go_upon | go_back))
    go_roundg (bl.length - (j + 1))
    case measure => have := HGJ.out; have := HKL.out; omega
    case rel => exact ⟨j + 1, rfl, by go_num, by have := HKL.out; omega, hbn⟩
end Go.Proofs.YtmjcoebfldmgnaaGreat
