/- blob.Check, index.Check of lists that may be. Conditions: such lists. -/
import Derived.Test.YtmjcoebfldmgnaaGreatIns
import Derived.Test.YtmjcoebfldmgnaaGreatSort
import Derived.Test.YtmjcoebfldmgnaaGreatBlob
import Derived.Test.YtmjcoebfldmgnaaGreatEqP
import Derived.Deep.QuietTactic
import Derived.BigQuiet
namespace Go.Proofs.YtmjcoebfldmgnaaGreat
open Go.RowKit
set_option linter.unusedVariables false
set_option linter.unusedSimpArgs false
set_option maxRecDepth 100000

theorem hexC_len {d : List UInt8} (h : hexC d = 0) : d.length = 64 := by
  unfold hexC at h
  by_cases h64 : d.length = 64
  · exact h64
  · rw [if_pos (by omega)] at h; cases h
theorem parts_ok {x : List PartP} (h : chk x = 0) : PartsOk x := fun p hp => by
  obtain ⟨h1, h2, h3⟩ := (chk_zero h).2 p hp
  have e1 := nameC_zero h1
  have e2 := hexC_len h2
  exact ⟨by omega, by omega, by omega⟩
theorem right_zero (l : List UInt8) : rightC (shaS l) l = 0 := by
  rw [rightC, hexC_sha, if_neg (by decide), if_neg (by simp)]
set_option maxHeartbeats 8000000 in
theorem CheckB_ok (A : Option Addr) (c : Nat) (l : List BlobP) (w : World) (hg : GoodB l) (hA : Rw BlobS w A l) :
    Calls Tryz.prog 62 #[.slice A l.length c] w fun e w' => e = .returned (.int .i64 0) ∧ Below w.heap.size w w' := by
  have HG := Lib.hid hg
  have hl := hg.len
  have hps := List.pairwise_iff_getElem.1 hg.ris
  have HPS := Lib.hid hps
  clear hg hps
  go_enter Tryz.func62, Tryz.ntmps62
  repeat' ((fail_if_success at_builtin); (fail_if_success at_make); (first | go_values | go_skip | go_guarded | go_step | go_upon | go_back))
  go_loopg [11] l.length (fun gn i wr => ∃ j : Nat, gn = l.length - j ∧ i = .int .i64 j ∧ j ≤ l.length ∧ Below w.heap.size w wr)
  case atStart => exact ⟨0, rfl, rfl, by omega, Below.refl _ _⟩
  case round =>
    obtain ⟨j, hgk, rfl, hj, hbl⟩ := hrel
    have HGK := Lib.hid hgk
    clear hgk
    by_cases hlt : j < l.length
    · have hcc : decide (j < l.length) = true := decide_eq_true hlt
      have hA2 := hA.below hbl
      obtain ⟨b, off, B, cb, rfl, hbb, c0, c1, c2, c3, hs⟩ := hA2.blob_at j hlt
      have hj0 : (0 : Int) ≤ (j : Int) := by omega
      have hj1 : (j : Int) < (l.length : Int) := by omega
      have HG1 := Lib.hid (HG.out.one l[j] (List.getElem_mem hlt))
      have hprev : 0 < j → ∃ q : List UInt8, Op.bytesLess q l[j].dig = true ∧ wr.cell? ⟨b, off + (j - 1) * 4, none⟩ = some (.string ⟨q.toArray⟩) := fun h0 => by
        obtain ⟨b', off', B', cb', e1, _, d0, _⟩ := hA2.blob_at (j - 1) (by omega)
        cases e1
        exact ⟨_, HPS.out (j - 1) j (by omega) hlt (by omega), d0⟩
      generalize l[j] = x at *
      obtain ⟨sx, hsx⟩ : ∃ s : ByteArray, s = ⟨x.dig.toArray⟩ := ⟨_, rfl⟩
      rw [← hsx] at c0
      have HSX := Lib.hid hsx
      have HSL := Lib.hid (show sx.data.toList = x.dig by rw [hsx])
      clear hsx hA2
      have hX : Arr (wr.alloc (.cells #[.string sx, .slice B x.data.length cb, .int .i64 (x.pins : Int), (.bool x.mark)] 51)) wr.heap.size 51 [.string sx, .slice B x.data.length cb, .int .i64 (x.pins : Int), (.bool x.mark)] := Arr.new wr 51 _
      have hba := (Below.refl wr.heap.size wr).alloc (Nat.le_refl _) (.cells #[.string sx, .slice B x.data.length cb, .int .i64 (x.pins : Int), (.bool x.mark)] 51)
      have hb2 := hbl.trans (hba.mono hbl.size)
      have hs2 := hs.below hba
      have hq2 : 0 < j → ∃ q : List UInt8, Op.bytesLess q x.dig = true ∧ (wr.alloc (.cells #[.string sx, .slice B x.data.length cb, .int .i64 (x.pins : Int), (.bool x.mark)] 51)).cell? ⟨b, off + (j - 1) * 4, none⟩ = some (.string ⟨q.toArray⟩) := fun h0 => by
        obtain ⟨q, q1, q2⟩ := hprev h0
        exact ⟨q, q1, (hba.cell (p := ⟨b, off + (j - 1) * 4, none⟩) hbb).trans q2⟩
      have hbb2 : b < (wr.alloc (.cells #[.string sx, .slice B x.data.length cb, .int .i64 (x.pins : Int), (.bool x.mark)] 51)).heap.size := by simp; omega
      have x0 := hX.cell (k := 0) rfl
      have x1 := hX.cell (k := 1) rfl
      have x2 := hX.cell (k := 2) rfl
      have x3 := hX.cell (k := 3) rfl
      clear hprev hbl hba hs
      repeat' ((fail_if_success at_builtin); (fail_if_success at_make); (first | go_values | go_skip | go_guarded | go_step | go_upon | go_back))
      generalize wr.alloc (.cells #[.string sx, .slice B x.data.length cb, .int .i64 (x.pins : Int), (.bool x.mark)] 51) = w2 at *
      generalize wr.heap.size = gx at *
      clear c0 c1 c2 c3 x0 x1 x2 x3
      obtain ⟨g1, g2, g3⟩ := HG1.out
      have hsz : sx.size ≤ 140737488351232 := by
        rw [HSX.out]; show (x.dig.toArray).size ≤ _; rw [List.size_toArray, g1, shaS_len]; decide
      have HRT := Right_ok sx B x.data.length cb x.data (x.pins : Int) x.mark w2 (by omega) (by omega) hsz rfl g2 hs2.cap hs2.rd
      rw [HSL.out, g1, right_zero] at HRT
      have HRT := Lib.hid HRT
      clear g1 g2 g3 hsz hs2
      refine ((HRT.out)).mono ?_; rintro e_ w3 ⟨rfl, hb3⟩; dsimp only
      have hb23 := hb2.trans (hb3.mono hb2.size)
      have hX3 := hX.below hb3
      clear hX hb2
      by_cases h0 : 0 < j
      · obtain ⟨q, q1, q2⟩ := hq2 h0
        have hkb : decide (0 < (j : Int)) = true := decide_eq_true (by omega)
        have hkc : decide ((j : Int) > 0) = true := decide_eq_true (by omega)
        have hkd : decide (0 < j) = true := decide_eq_true h0
        have hm1 : IntKind.i64.wrap ((j : Int) - 1) = (j : Int) - 1 := IntWalk.i64_in _ (by omega)
        have hm2 : ((j : Int) - 1).toNat = j - 1 := by omega
        have hm3 : (0 : Int) ≤ (j : Int) - 1 := by omega
        have hm4 : (j : Int) - 1 < (l.length : Int) := by omega
        have hm5 : (1 : Int) ≤ (j : Int) := by omega
        obtain ⟨sq, hsq⟩ : ∃ s : ByteArray, s = ⟨q.toArray⟩ := ⟨_, rfl⟩
        rw [← hsq] at q2
        have q3 := (hb3.cell (p := ⟨b, off + (j - 1) * 4, none⟩) hbb2).trans q2
        have l1 : Op.bytesLess sx.toList sq.toList = false := by
          rw [HSX.out, hsq, ByteArray.toList_eq, ByteArray.toList_eq]; exact bl_asym q1
        have l2 : (sx.toList == sq.toList) = false := by
          rw [HSX.out, hsq, ByteArray.toList_eq, ByteArray.toList_eq, beq_eq_false_iff_ne]; exact (bl_ne q1).symm
        have y0 := hX3.cell (k := 0) rfl
        clear hsq q1 q2 hq2
        repeat' ((fail_if_success at_builtin); (fail_if_success at_make); (first | go_values | go_skip | go_guarded | go_step | go_upon | go_back))
        go_quiet (fail)
        repeat' ((fail_if_success at_builtin); (fail_if_success at_make); (first | go_values | go_skip | go_guarded | go_step | go_upon | go_back))
        go_roundg (l.length - (j + 1))
        case measure => have := HGK.out; omega
        case rel => exact ⟨j + 1, rfl, by go_num, by omega, bdrewN hb23 _⟩
      · have hkb : decide (0 < (j : Int)) = false := decide_eq_false (by omega)
        have hkc : decide ((j : Int) > 0) = false := decide_eq_false (by omega)
        have hkd : decide (0 < j) = false := decide_eq_false h0
        clear hq2
        repeat' ((fail_if_success at_builtin); (fail_if_success at_make); (first | go_values | go_skip | go_guarded | go_step | go_upon | go_back))
        go_quiet (fail)
        repeat' ((fail_if_success at_builtin); (fail_if_success at_make); (first | go_values | go_skip | go_guarded | go_step | go_upon | go_back))
        go_roundg (l.length - (j + 1))
        case measure => have := HGK.out; omega
        case rel => exact ⟨j + 1, rfl, by go_num, by omega, bdrewN hb23 _⟩
    · obtain rfl : j = l.length := by omega
      have hcc : decide (l.length < l.length) = false := by simp
      repeat' ((fail_if_success at_builtin); (fail_if_success at_make); (first | go_values | go_skip | go_guarded | go_step | go_upon | go_back))
      go_ret
      exact ⟨rfl, hbl⟩
set_option maxHeartbeats 8000000 in
theorem CheckE_ok (A : Option Addr) (c : Nat) (l : List EntP) (w : World) (hg : GoodE l) (hA : Rw EntS w A l) :
    Calls Tryz.prog 63 #[.slice A l.length c] w fun e w' => e = .returned (.int .i64 0) ∧ Below w.heap.size w w' := by
  have HG := Lib.hid hg
  have hl := hg.len
  have hps := List.pairwise_iff_getElem.1 hg.ris
  have HPS := Lib.hid hps
  clear hg hps
  go_enter Tryz.func63, Tryz.ntmps63
  repeat' ((fail_if_success at_builtin); (fail_if_success at_make); (first | go_values | go_skip | go_guarded | go_step | go_upon | go_back))
  go_loopg [13] l.length (fun gn i wr => ∃ j : Nat, gn = l.length - j ∧ i = .int .i64 j ∧ j ≤ l.length ∧ Below w.heap.size w wr)
  case atStart => exact ⟨0, rfl, rfl, by omega, Below.refl _ _⟩
  case round =>
    obtain ⟨j, hgk, rfl, hj, hbl⟩ := hrel
    have HGK := Lib.hid hgk
    clear hgk
    by_cases hlt : j < l.length
    · have hcc : decide (j < l.length) = true := decide_eq_true hlt
      have hA2 := hA.below hbl
      obtain ⟨b, off, B, cb, rfl, hbb, c0, c1, c2, c3, hs⟩ := hA2.ent_at j hlt
      have hj0 : (0 : Int) ≤ (j : Int) := by omega
      have hj1 : (j : Int) < (l.length : Int) := by omega
      have HG1 := Lib.hid (HG.out.one l[j] (List.getElem_mem hlt))
      have hprev : 0 < j → ∃ q : List UInt8, Op.bytesLess q l[j].key = true ∧ wr.cell? ⟨b, off + (j - 1) * 4, none⟩ = some (.string ⟨q.toArray⟩) := fun h0 => by
        obtain ⟨b', off', B', cb', e1, _, d0, _⟩ := hA2.ent_at (j - 1) (by omega)
        cases e1
        exact ⟨_, HPS.out (j - 1) j (by omega) hlt (by omega), d0⟩
      generalize l[j] = x at *
      obtain ⟨sx, hsx⟩ : ∃ s : ByteArray, s = ⟨x.key.toArray⟩ := ⟨_, rfl⟩
      rw [← hsx] at c0
      have HSX := Lib.hid hsx
      have HSL := Lib.hid (show sx.data.toList = x.key by rw [hsx])
      clear hsx hA2
      have hX : Arr (wr.alloc (.cells #[.string sx, .slice B x.parts.length cb, .int .i64 (x.pins : Int), (.int .i64 (x.stamp : Int))] 45)) wr.heap.size 45 [.string sx, .slice B x.parts.length cb, .int .i64 (x.pins : Int), (.int .i64 (x.stamp : Int))] := Arr.new wr 45 _
      have hba := (Below.refl wr.heap.size wr).alloc (Nat.le_refl _) (.cells #[.string sx, .slice B x.parts.length cb, .int .i64 (x.pins : Int), (.int .i64 (x.stamp : Int))] 45)
      have hb2 := hbl.trans (hba.mono hbl.size)
      have hs2 := hs.below hba
      have hq2 : 0 < j → ∃ q : List UInt8, Op.bytesLess q x.key = true ∧ (wr.alloc (.cells #[.string sx, .slice B x.parts.length cb, .int .i64 (x.pins : Int), (.int .i64 (x.stamp : Int))] 45)).cell? ⟨b, off + (j - 1) * 4, none⟩ = some (.string ⟨q.toArray⟩) := fun h0 => by
        obtain ⟨q, q1, q2⟩ := hprev h0
        exact ⟨q, q1, (hba.cell (p := ⟨b, off + (j - 1) * 4, none⟩) hbb).trans q2⟩
      have hbb2 : b < (wr.alloc (.cells #[.string sx, .slice B x.parts.length cb, .int .i64 (x.pins : Int), (.int .i64 (x.stamp : Int))] 45)).heap.size := by simp; omega
      have x0 := hX.cell (k := 0) rfl
      have x1 := hX.cell (k := 1) rfl
      have x2 := hX.cell (k := 2) rfl
      have x3 := hX.cell (k := 3) rfl
      clear hprev hbl hba hs
      repeat' ((fail_if_success at_builtin); (fail_if_success at_make); (first | go_values | go_skip | go_guarded | go_step | go_upon | go_back))
      generalize wr.alloc (.cells #[.string sx, .slice B x.parts.length cb, .int .i64 (x.pins : Int), (.int .i64 (x.stamp : Int))] 45) = w2 at *
      generalize wr.heap.size = gx at *
      clear c0 c1 c2 c3 x0 x1 x2 x3
      obtain ⟨g1, g2, g3, g4⟩ := HG1.out
      have hsz : sx.size ≤ 140737488351232 := by
        have := hexC_len g1
        rw [HSX.out]; show (x.key.toArray).size ≤ _; rw [List.size_toArray]; omega
      have HRT := hCheck_ok sx w2 hsz
      rw [HSL.out, g1] at HRT
      have HRT := Lib.hid HRT
      have hpl := (chk_zero g2).1
      have HPO := Lib.hid (parts_ok g2)
      have HG2 := Lib.hid g2
      have HPN := Lib.hid (fun w' => PinIn_ok (x.pins : Int) (by omega) (by omega) w')
      have st1 : decide ((x.stamp : Int) < 0) = false := decide_eq_false (by omega)
      have st2 : decide ((x.stamp : Int) > 1099511627776) = false := decide_eq_false (by omega)
      have st3 : decide ((1099511627776 : Int) < (x.stamp : Int)) = false := decide_eq_false (by omega)
      have st4 : decide (1099511627776 < x.stamp) = false := decide_eq_false (by omega)
      clear g1 g2 hsz
      refine ((HRT.out)).mono ?_; rintro e_ w3 ⟨rfl, hb3⟩; dsimp only
      have hb23 := hb2.trans (hb3.mono hb2.size)
      have hX3 := hX.below hb3
      have hs3 := hs2.below hb3
      have HMC := Lib.hid (show ∀ w', Below w3.heap.size w3 w' → Calls Tryz.prog 104 #[.slice B x.parts.length cb] w' fun e w'' => e = .returned (.int .i64 0) ∧ Below w'.heap.size w' w'' from fun w' hb => by
        have := Check_ok B x.parts.length cb x.parts w' rfl hs3.cap (by omega) HPO.out (hs3.below hb).rd
        rwa [HG2.out] at this)
      clear hX hb2 hs2 hs3
      by_cases h0 : 0 < j
      · obtain ⟨q, q1, q2⟩ := hq2 h0
        have hkb : decide (0 < (j : Int)) = true := decide_eq_true (by omega)
        have hkc : decide ((j : Int) > 0) = true := decide_eq_true (by omega)
        have hkd : decide (0 < j) = true := decide_eq_true h0
        have hm1 : IntKind.i64.wrap ((j : Int) - 1) = (j : Int) - 1 := IntWalk.i64_in _ (by omega)
        have hm2 : ((j : Int) - 1).toNat = j - 1 := by omega
        have hm3 : (0 : Int) ≤ (j : Int) - 1 := by omega
        have hm4 : (j : Int) - 1 < (l.length : Int) := by omega
        have hm5 : (1 : Int) ≤ (j : Int) := by omega
        obtain ⟨sq, hsq⟩ : ∃ s : ByteArray, s = ⟨q.toArray⟩ := ⟨_, rfl⟩
        rw [← hsq] at q2
        have q3 := (hb3.cell (p := ⟨b, off + (j - 1) * 4, none⟩) hbb2).trans q2
        have l1 : Op.bytesLess sx.toList sq.toList = false := by
          rw [HSX.out, hsq, ByteArray.toList_eq, ByteArray.toList_eq]; exact bl_asym q1
        have l2 : (sx.toList == sq.toList) = false := by
          rw [HSX.out, hsq, ByteArray.toList_eq, ByteArray.toList_eq, beq_eq_false_iff_ne]; exact (bl_ne q1).symm
        have y0 := hX3.cell (k := 0) rfl
        clear hsq q1 q2 hq2
        repeat' ((fail_if_success at_builtin); (fail_if_success at_make); (first | go_values | go_skip | go_guarded | go_step | go_upon | go_back))
        go_quiet (fail)
        have hb34 := fun n => bdrewN (Below.refl w3.heap.size w3) n
        have hb24 := fun n => bdrewN hb23 n
        have y1 := fun n => (hX3.drewN n).cell (k := 1) rfl
        repeat' ((fail_if_success at_builtin); (fail_if_success at_make); (first | go_values | go_skip | go_guarded | go_step | go_upon | go_back))
        refine ((HMC.out _ (hb34 _))).mono ?_; rintro e_ w5 ⟨rfl, hb5⟩; dsimp only
        have hb25 := (hb24 _).trans (hb5.mono (hb24 _).size)
        have hX5 := (hX3.below (hb34 _)).below hb5
        clear y1 hb34 hb24
        have y2 := hX5.cell (k := 2) rfl
        have y3 := hX5.cell (k := 3) rfl
        repeat' ((fail_if_success at_builtin); (fail_if_success at_make); (first | go_values | go_skip | go_guarded | go_step | go_upon | go_back))
        refine ((HPN.out w5)).mono ?_; rintro e_ _ ⟨rfl, rfl⟩; dsimp only
        repeat' ((fail_if_success at_builtin); (fail_if_success at_make); (first | go_values | go_skip | go_guarded | go_step | go_upon | go_back))
        go_roundg (l.length - (j + 1))
        case measure => have := HGK.out; omega
        case rel => exact ⟨j + 1, rfl, by go_num, by omega, hb25⟩
      · have hkb : decide (0 < (j : Int)) = false := decide_eq_false (by omega)
        have hkc : decide ((j : Int) > 0) = false := decide_eq_false (by omega)
        have hkd : decide (0 < j) = false := decide_eq_false h0
        clear hq2
        repeat' ((fail_if_success at_builtin); (fail_if_success at_make); (first | go_values | go_skip | go_guarded | go_step | go_upon | go_back))
        go_quiet (fail)
        have hb34 := fun n => bdrewN (Below.refl w3.heap.size w3) n
        have hb24 := fun n => bdrewN hb23 n
        have y1 := fun n => (hX3.drewN n).cell (k := 1) rfl
        repeat' ((fail_if_success at_builtin); (fail_if_success at_make); (first | go_values | go_skip | go_guarded | go_step | go_upon | go_back))
        refine ((HMC.out _ (hb34 _))).mono ?_; rintro e_ w5 ⟨rfl, hb5⟩; dsimp only
        have hb25 := (hb24 _).trans (hb5.mono (hb24 _).size)
        have hX5 := (hX3.below (hb34 _)).below hb5
        clear y1 hb34 hb24
        have y2 := hX5.cell (k := 2) rfl
        have y3 := hX5.cell (k := 3) rfl
        repeat' ((fail_if_success at_builtin); (fail_if_success at_make); (first | go_values | go_skip | go_guarded | go_step | go_upon | go_back))
        refine ((HPN.out w5)).mono ?_; rintro e_ _ ⟨rfl, rfl⟩; dsimp only
        repeat' ((fail_if_success at_builtin); (fail_if_success at_make); (first | go_values | go_skip | go_guarded | go_step | go_upon | go_back))
        go_roundg (l.length - (j + 1))
        case measure => have := HGK.out; omega
        case rel => exact ⟨j + 1, rfl, by go_num, by omega, hb25⟩
    · obtain rfl : j = l.length := by omega
      have hcc : decide (l.length < l.length) = false := by simp
      repeat' ((fail_if_success at_builtin); (fail_if_success at_make); (first | go_values | go_skip | go_guarded | go_step | go_upon | go_back))
      go_ret
      exact ⟨rfl, hbl⟩
end Go.Proofs.YtmjcoebfldmgnaaGreat
