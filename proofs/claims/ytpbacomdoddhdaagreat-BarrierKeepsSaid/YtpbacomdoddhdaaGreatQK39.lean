/- Lemmas of the proof. Conditions: as stated. -/
import Derived.Test.YtpbacomdoddhdaaGreatQK38
set_option linter.unusedVariables false
set_option linter.unusedSimpArgs false
set_option maxRecDepth 100000
namespace Go.Proofs.YtpbacomdoddhdaaGreat
open Go.RowKit Go.Maps
theorem UH (l : List RawP) : ∀ x ∈ (sto l).ents, ∃ j, j < 7 ∧ x.key = keyS j := fun x hx => ((Zq l).eone x ((zw _ _).mem_iff.1 hx)).1
theorem Uo : XJ 19 := ⟨fun _ _ => rfl, fun m x d X cX Y dY Ag ng W hm hb hr hc => by
 go_enter Tryz.func19, Tryz.ntmps19
 go_wp2_with fail
 go_ret
 have hb1 := (Below.refl W.heap.size W).alloc (Nat.le_refl _) (.cells #[.slice X x.blobs.length cX, .slice Y x.ents.length dY, .int .i64 (x.room : Int), .int .i64 (x.clock : Int)] 26)
 exact ⟨rfl, hb1.alloc hb1.size _⟩⟩
set_option maxHeartbeats 16000000 in
theorem yL (A : Option Addr) (n c : Nat) (l : List RawP) (A' : Option Addr) (n' c' : Nat) (l' : List RawP) (r : RawP) (w : World) (hl : l.length = n) (hc : n ≤ c) (hm : c ≤ maxLen) (hok : ∀ r ∈ l, RawOk r) (hr : Rd w 4 A n (rcs l)) (hl' : l'.length = n') (hc' : n' ≤ c') (hm' : c' ≤ maxLen) (hok' : ∀ r ∈ l', RawOk r) (hr' : Rd w 4 A' n' (rcs l')) (hro : RawOk r) :
  Calls Tryz.prog 4 #[.slice A n c, .slice A' n' c', XP r] w fun e w' => e = .returned (.bool true) ∧ Below w.heap.size w w' := by
 obtain ⟨w0, hw0⟩ : ∃ w0, w0 = w.alloc (.cells #[.int .i64 r.kind, .int .i64 r.a, .int .i64 r.b, .string r.text] 42) := ⟨_, rfl⟩
 have hb0 : Below w.heap.size w w0 := by rw [hw0]; exact (Below.refl _ _).alloc (Nat.le_refl _) _
 obtain ⟨gr, hgr⟩ : ∃ g, g = w.heap.size := ⟨_, rfl⟩
 have hRb : Arr w0 gr 42 [.int .i64 r.kind, .int .i64 r.a, .int .i64 r.b, .string r.text] := by rw [hw0, hgr]; exact Arr.new w 42 _
 have HS := Lib.hid (Xi A n c l w0 hl hc hm hok (hr.below hb0))
 have hbs := Kb (Zl l) (UH l) (Vz l)
 have HGS := Lib.hid (Zl l)
 have HBU := Lib.hid (fun X cX Y dY s Ag ng c wA W hA (h : Below w0.heap.size w0 W) hb h1 h2 => VF 19 Uo A' n' c' l' X cX Y dY s Ag ng c wA W hA hl' hc' hm' hok' ((hr'.below hb0).below h) hb h1 h2)
 rw [← hgr] at hb0 ⊢
 have HB0 := Lib.hid hb0
 have hgl : gr < w0.heap.size := hRb.lt
 have HRB := Lib.hid hRb
 have HRO := Lib.hid hro
 obtain ⟨rk, ra, rb, rt⟩ := r
 unfold XP
 dsimp only at hw0 HRB
 have HW0 := Lib.hid hw0
 have HGR := Lib.hid hgr
 clear hok hl hr hc hm hok' hl' hr' hc' hm' hro hRb hb0 hw0 hgr
 generalize sto l = s at *
 have HBS := Lib.hid hbs
 clear hbs
 go_enter Tryz.func4, Tryz.ntmps4
 go_wp2_with fail
 rw [← HW0.out, ← HGR.out]
 clear HW0
 refine ((HS.out)).mono ?_; rintro e_ w1 ⟨v1, v2, rfl, hb, he, hb1⟩; dsimp only
 obtain ⟨Ab, cb, rfl, hcb1, hcb2, hRb⟩ := hb.rows
 obtain ⟨Ae, ce, rfl, hce1, hce2, hRe⟩ := he.rows
 have HBG := Lib.hid (ZH Ab cb Ae ce s w1 HGS.out ⟨hRb, hRe, hcb1, hcb2, hce1, hce2⟩)
 have HB1 := Lib.hid hb1
 clear hb he hRb hRe hb1 hcb1 hcb2 hce1 hce2 HS
 generalize kX s = t at *
 generalize ye s = k at *
 go_wp2_with fail
 refine ((HBG.out)).mono ?_; rintro e_ w2 ⟨Xa, ca, Ya, da, Ga, na, rfl, ho, hl2, hb2⟩; dsimp only
 have hrd : RdSt w2 Xa ca Ya da t := by
  obtain ⟨_, _, _, _, e1, e2, h3⟩ := ho.rows
  cases e1; cases e2
  exact h3
 have hrc : RdC w2 Ga na k := by
  obtain ⟨_, _, e3, h4⟩ := RdC.of_own (c := k) hl2
  cases e3
  exact h4
 obtain ⟨W3, hW3, hA, hC, hbw⟩ := qu w2 26 29 [.slice Xa t.blobs.length ca, .slice Ya t.ents.length da, .int .i64 (t.room : Int), .int .i64 (t.clock : Int)] [.int .i64 (k.phase : Int), .slice Ga k.grey.length na, .string ⟨k.at_.toArray⟩]
 have HMK := Lib.hid (Yz W3)
 have HB2 := Lib.hid ((HB1.out.trans (hb2.mono HB1.out.size)).trans (hbw.mono (HB1.out.trans (hb2.mono HB1.out.size)).size))
 have HB2a := Lib.hid (HB1.out.trans (hb2.mono HB1.out.size))
 have HBW := Lib.hid hbw
 have HRD := Lib.hid hrd
 have HRC := Lib.hid hrc
 have HA := Lib.hid hA
 have HC := Lib.hid hC
 have HW3 := Lib.hid hW3
 clear ho hl2 hb2 hrd hrc hA hC hW3 hbw
 go_wp2_with fail
 rw [← HW3.out]
 refine ((HMK.out)).mono ?_; rintro e_ w3 ⟨rfl, hb3⟩; dsimp only
 have x0 := (HA.out.below hb3).cell (k := 0) rfl
 have x1 := (HA.out.below hb3).cell (k := 1) rfl
 have x2 := (HA.out.below hb3).cell (k := 2) rfl
 have x3 := (HA.out.below hb3).cell (k := 3) rfl
 have y0 := (HC.out.below hb3).cell (k := 0) rfl
 have y1 := (HC.out.below hb3).cell (k := 1) rfl
 have y2 := (HC.out.below hb3).cell (k := 2) rfl
 have HB3 := Lib.hid (HB2.out.trans (hb3.mono HB2.out.size))
 have HB23 := Lib.hid (HBW.out.trans (hb3.mono HBW.out.size))
 have HBZ := Lib.hid (HBU.out Xa ca Ya da t Ga na k w2 w3 HB23.out HB3.out HBS.out HRD.out HRC.out)
 have HA3 := Lib.hid (HA.out.below hb3)
 have HC3 := Lib.hid (HC.out.below hb3)
 clear hb3 HBU HMK HBG
 go_wp2_with fail
 clear x0 x1 x2 x3 y0 y1 y2
 refine ((HBZ.out)).mono ?_; rintro e_ w4 ⟨X5, c5, Y5, d5, s5, A5, n5, k5, rfl, hRw, hBs, hb4⟩; dsimp only
 have hA4 := HA3.out.below hb4
 have hC4 := HC3.out.below hb4
 have hne : w2.heap.size ≠ w2.heap.size + 1 := by omega
 have hg3 : w2.heap.size < w3.heap.size := HA3.out.lt
 have hh3 : w2.heap.size + 1 < w3.heap.size := HC3.out.lt
 have hB4 := HB23.out.trans (hb4.mono HB23.out.size)
 have hA5 := zW (u0 := .slice X5 s5.blobs.length c5) (u1 := .slice Y5 s5.ents.length d5) (u2 := .int .i64 (s5.room : Int)) (u3 := .int .i64 (s5.clock : Int)) (x0 := .int .i64 (k5.phase : Int)) (x1 := .slice A5 k5.grey.length n5) (x2 := .string ⟨k5.at_.toArray⟩) hA4 hne
 have hC5 := zV (u0 := .slice X5 s5.blobs.length c5) (u1 := .slice Y5 s5.ents.length d5) (u2 := .int .i64 (s5.room : Int)) (u3 := .int .i64 (s5.clock : Int)) (x0 := .int .i64 (k5.phase : Int)) (x1 := .slice A5 k5.grey.length n5) (x2 := .string ⟨k5.at_.toArray⟩) hC4 hne
 have hR5 := hRw.put7 hA4 hC4 hg3 hh3 (.slice X5 s5.blobs.length c5) (.slice Y5 s5.ents.length d5) (.int .i64 (s5.room : Int)) (.int .i64 (s5.clock : Int)) (.int .i64 (k5.phase : Int)) (.slice A5 k5.grey.length n5) (.string ⟨k5.at_.toArray⟩)
 have hB5 := zo (u0 := .slice X5 s5.blobs.length c5) (u1 := .slice Y5 s5.ents.length d5) (u2 := .int .i64 (s5.room : Int)) (u3 := .int .i64 (s5.clock : Int)) (x0 := .int .i64 (k5.phase : Int)) (x1 := .slice A5 k5.grey.length n5) (x2 := .string ⟨k5.at_.toArray⟩) hB4 (show w2.heap.size ≤ w2.heap.size from Nat.le_refl _) (show w2.heap.size ≤ w2.heap.size + 1 by omega)
 have hR6 := hR5.rd hB5
 have HX := Lib.hid (And.intro hA5 (And.intro hC5 (And.intro hR6 hB5)))
 have z0 := hA4.cell (k := 0) rfl
 have z1 := hA4.cell (k := 1) rfl
 have z2 := hA4.cell (k := 2) rfl
 have z3 := hA4.cell (k := 3) rfl
 have f0 := hA4.frozen 0
 have f1 := hA4.frozen 1
 have f2 := hA4.frozen 2
 have f3 := hA4.frozen 3
 have r0 := hC4.cell (k := 0) rfl
 have r1 := hC4.cell (k := 1) rfl
 have r2 := hC4.cell (k := 2) rfl
 have e0 := hC4.frozen 0
 have e1 := hC4.frozen 1
 have e2 := hC4.frozen 2
 have HBY := Lib.hid hBs
 clear hRw hBs hb4 hA4 hC4 hB4 hA5 hC5 hR5 hB5 hR6 HBZ HA HC HA3 HC3
 repeat' ((fail_if_success (with_reducible refine vi 5 ?_)); (fail_if_success (with_reducible refine vr 5 ?_)); (fail_if_success (with_reducible refine vj 5 ?_)); (fail_if_success (with_reducible refine xQ 5 ?_)); (fail_if_success (with_reducible refine vl 5 ?_)); (fail_if_success (with_reducible refine va 5 ?_)); (fail_if_success at_builtin); (fail_if_success at_make); (first | go_values | go_skip | go_guarded | go_step | go_upon | go_back))
 clear z0 z1 z2 z3 f0 f1 f2 f3 r0 r1 r2 e0 e1 e2
 obtain ⟨hA5, hC5, ⟨hRs, hRc⟩, hB5⟩ := HX.out
 clear HX
 dsimp only [put7] at hA5 hC5 hRs hRc hB5
 generalize (((((((w4.setCell ⟨w2.heap.size, 0, none⟩ (.slice X5 s5.blobs.length c5)).setCell ⟨w2.heap.size, 1, none⟩ (.slice Y5 s5.ents.length d5)).setCell ⟨w2.heap.size, 2, none⟩ (.int .i64 (s5.room : Int))).setCell ⟨w2.heap.size, 3, none⟩ (.int .i64 (s5.clock : Int))).setCell ⟨w2.heap.size + 1, 0, none⟩ (.int .i64 (k5.phase : Int))).setCell ⟨w2.heap.size + 1, 1, none⟩ (.slice A5 k5.grey.length n5)).setCell ⟨w2.heap.size + 1, 2, none⟩ (.string ⟨k5.at_.toArray⟩)) = w5 at *
 have HB25 := Lib.hid (HB2a.out.trans (hB5.mono HB2a.out.size))
 clear hB5 HRD HRC HW3 HBW HB2 HB23 HB3 HB1 HB2a
 generalize w2.heap.size = g at *
 have HK5 := Lib.hid (show ∀ W, Below w5.heap.size w5 W → Arr W g 26 [.slice X5 s5.blobs.length c5, .slice Y5 s5.ents.length d5, .int .i64 (s5.room : Int), .int .i64 (s5.clock : Int)] ∧ Arr W (g + 1) 29 [.int .i64 (k5.phase : Int), .slice A5 k5.grey.length n5, .string ⟨k5.at_.toArray⟩] ∧ RdSt W X5 c5 Y5 d5 s5 ∧ RdC W A5 n5 k5 ∧ Arr W gr 42 [.int .i64 rk, .int .i64 ra, .int .i64 rb, .string rt] from fun W h => ⟨hA5.below h, hC5.below h, hRs.below h, hRc.below h, HRB.out.below (HB25.out.trans (h.mono HB25.out.size))⟩)
 have p0 := hC5.cell (k := 0) rfl
 have q0 := hA5.cell (k := 0) rfl
 have hr5 := HRB.out.below HB25.out
 have r0 := hr5.cell (k := 0) rfl
 have r1 := hr5.cell (k := 1) rfl
 have r2 := hr5.cell (k := 2) rfl
 have r3 := hr5.cell (k := 3) rfl
 clear hA5 hC5 hRs hRc hr5
 by_cases h0 : k5.phase = 0
 ·have hz : ((k5.phase : Int) == 0) = true := by rw [h0]; rfl
  go_wp2_with fail
  go_ret
  exact ⟨rfl, HB0.out.trans (HB25.out.mono (Nat.le_of_lt hgl))⟩
 have hz : ((k5.phase : Int) == 0) = false := by rw [beq_eq_false_iff_ne]; omega
 obtain ⟨ps, hps⟩ : ∃ ps, ps = zy s5.blobs ⟨rk, ra, rb, rt⟩ := ⟨_, rfl⟩
 have hcz : chk ps = 0 := by rw [hps]; exact yK (fun b hb => ⟨by rw [(HBY.out.g.b.one b hb).1]; exact zv _, (HBY.out.g.b.one b hb).2.1⟩) _
 have hen : (enc ps).length ≤ 148 := XU hcz (by rw [hps]; exact yQ _ _)
 have hpt := uj X5 c5 s5.blobs ⟨rk, ra, rb, rt⟩ w5 HBY.out.g.b (HK5.out _ (Below.refl _ _)).2.2.1.bc (HK5.out _ (Below.refl _ _)).2.2.1.bm (HK5.out _ (Below.refl _ _)).2.2.1.b HRO.out
 rw [← hps] at hpt
 obtain ⟨D, hD⟩ : ∃ D, D = enc ps := ⟨_, rfl⟩
 have hmn := fun W P3 p3 (h : Sl W 3 P3 ps.length p3 (pcs ps)) => k8 P3 ps.length p3 ps W rfl (by have := (zi hcz).1; omega) (QA hcz) h.rd
 rw [← hD] at hmn hen
 have HPT := Lib.hid hpt
 have HMN := Lib.hid hmn
 have H0 := Lib.hid h0
 clear hD hmn hpt hcz hps h0
 go_wp2_with fail
 clear q0 r0 r1 r2 r3 p0 hz
 refine ((HPT.out)).mono ?_; rintro e_ w6 ⟨P3, p3, rfl, hP3, hb6⟩; dsimp only
 have HMN6 := Lib.hid (HMN.out w6 P3 p3 hP3)
 have HB6 := Lib.hid hb6
 clear hP3 hb6 HMN HPT
 go_wp2_with fail
 refine ((HMN6.out)).mono ?_; rintro e_ w7 ⟨A3, c3, rfl, hD3, hb7⟩; dsimp only
 have HB7 := Lib.hid (HB6.out.trans (hb7.mono HB6.out.size))
 have HD3 := Lib.hid hD3
 clear hb7 HMN6 HB6 hD3
 have hk7 := HK5.out w7 HB7.out
 have x0 := hk7.1.cell (k := 0) rfl
 have x1 := hk7.1.cell (k := 1) rfl
 have x2 := hk7.1.cell (k := 2) rfl
 have x3 := hk7.1.cell (k := 3) rfl
 have y0 := hk7.2.1.cell (k := 0) rfl
 have y1 := hk7.2.1.cell (k := 1) rfl
 have y2 := hk7.2.1.cell (k := 2) rfl
 have HK7 := Lib.hid hk7
 clear hk7
 rcases jK HBY.out.g (show D.length ≤ 300 by omega) with hf | hf
 rotate_left
 ·have HPB := Lib.hid (ke X5 c5 Y5 d5 s5 A5 n5 k5 D A3 c3 w7 HBY.out.g HK7.out.2.2.1 (by have := HBY.out.gr; omega) HBY.out.gc HK7.out.2.2.2.1 (by omega) hf HD3.out.sl.1)
  clear hf
  go_wp2_with fail
  refine ((HPB.out)).mono ?_; rintro e_ w8 ⟨rfl, hb8⟩; dsimp only
  go_wp2_with fail
  go_ret
  have hB8 := HB25.out.trans ((HB7.out.trans (hb8.mono HB7.out.size)).mono HB25.out.size)
  have hB9 := HB0.out.trans (hB8.mono (Nat.le_of_lt hgl))
  have hz8 : gr ≤ w8.heap.size := Nat.le_trans (Nat.le_of_lt hgl) hB8.size
  exact ⟨rfl, (hB9.alloc hz8 _).alloc (by rw [World.size_alloc]; omega) _⟩
 obtain ⟨t, c1, htc⟩ : ∃ t c1, zm (zp s5 D) k5 [shaS D] = (t, c1) := ⟨_, _, rfl⟩
 have hbs : Bsy 32 t c1 := by have := HBY.out.put hf; rw [htc] at this; exact this
 have HPB := Lib.hid (u4 X5 c5 Y5 d5 s5 A5 n5 k5 D A3 c3 w7 31 (Nat.le_refl _) HBY.out HK7.out.2.2.1 HK7.out.2.2.2.1 hf HD3.out.sl.1 t c1 htc)
 have HIN := Lib.hid (fun z (hz : Rch t.blobs [shaS D] z) => Xe HBY.out hf H0.out htc hz)
 have HHS := Lib.hid (KF htc)
 have HBT := Lib.hid hbs
 clear hf hbs htc H0 HBY
 have hrm : t.blobs.length ≤ 24 := HBT.out.g.b.len
 go_wp2_with fail
 clear x0 x1 x2 x3 y0 y1 y2
 refine ((HPB.out)).mono ?_; rintro e_ w8 ⟨Xa, ca, Ya, da, Ga, na, rfl, ho8, hl8, hb8⟩; dsimp only
 obtain ⟨_, _, _, _, e1, e2, hr8⟩ := ho8.rows
 obtain ⟨_, _, e3, hc8⟩ := RdC.of_own (c := c1) hl8
 cases e1; cases e2; cases e3
 obtain ⟨W9, hW9, hA9, hC9, hb9⟩ := qu w8 26 29 [.slice Xa t.blobs.length ca, .slice Ya t.ents.length da, .int .i64 (t.room : Int), .int .i64 (t.clock : Int)] [.int .i64 (c1.phase : Int), .slice Ga c1.grey.length na, .string ⟨c1.at_.toArray⟩]
 have hb89 := hb8.trans (hb9.mono hb8.size)
 have HB9 := Lib.hid (HB25.out.trans ((HB7.out.trans (hb89.mono HB7.out.size)).mono HB25.out.size))
 have HR9 := Lib.hid (show ∀ W, Below W9.heap.size W9 W → Arr W w8.heap.size 26 [.slice Xa t.blobs.length ca, .slice Ya t.ents.length da, .int .i64 (t.room : Int), .int .i64 (t.clock : Int)] ∧ Arr W (w8.heap.size + 1) 29 [.int .i64 (c1.phase : Int), .slice Ga c1.grey.length na, .string ⟨c1.at_.toArray⟩] ∧ RdSt W Xa ca Ya da t ∧ RdC W Ga na c1 from fun W h => ⟨hA9.below h, hC9.below h, (hr8.below hb9).below h, (hc8.below hb9).below h⟩)
 have HW9 := Lib.hid hW9
 clear ho8 hl8 hb8 hr8 hc8 hW9 hA9 hC9 hb9 hb89 HPB
 repeat' ((fail_if_success (with_reducible refine vi 11 ?_)); (fail_if_success (with_reducible refine vr 11 ?_)); (fail_if_success (with_reducible refine vj 11 ?_)); (fail_if_success (with_reducible refine xQ 11 ?_)); (fail_if_success (with_reducible refine vl 11 ?_)); (fail_if_success (with_reducible refine va 11 ?_)); (fail_if_success at_builtin); (fail_if_success at_make); (first | go_values | go_skip | go_guarded | go_step | go_upon | go_back))
 rw [← HW9.out]
 clear HW9
 have x0 := (HR9.out _ (Below.refl _ _)).1.cell (k := 0) rfl
 have hwd : Below W9.heap.size W9 (W9.alloc (.cells #[.string ⟨(shaS D).toArray⟩] 9)) := (Below.refl _ _).alloc (Nat.le_refl _) _
 have hrd10 : Rd (W9.alloc (.cells #[.string ⟨(shaS D).toArray⟩] 9)) 1 (some ⟨W9.heap.size, 0, none⟩) [shaS D].length (strs [shaS D]) := Rd.newN (e := 9) [.string ⟨(shaS D).toArray⟩] rfl
 have HFR := Lib.hid (um Xa (some ⟨W9.heap.size, 0, none⟩) ca 1 t.blobs [shaS D] _ (by omega) (HR9.out _ hwd).2.2.1.bc (HR9.out _ hwd).2.2.1.bm (fun b hb => by rw [(HBT.out.g.b.one b hb).1, ut]; omega) (HR9.out _ hwd).2.2.1.b (by simp) hrd10)
 have HWD := Lib.hid hwd
 clear hwd hrd10
 go_wp2_with fail
 clear x0
 refine ((HFR.out)).mono ?_; rintro e_ w10 ⟨v10, L, rfl, hL, hLl, ho10, hb10⟩; dsimp only
 obtain ⟨A10, n10, rfl, hLn, hr10⟩ := Rd.of_own' ho10
 have hb910 := HWD.out.trans (hb10.mono HWD.out.size)
 have hk10 := HR9.out w10 hb910
 have x0 := hk10.1.cell (k := 0) rfl
 have x1 := hk10.1.cell (k := 1) rfl
 have x2 := hk10.1.cell (k := 2) rfl
 have x3 := hk10.1.cell (k := 3) rfl
 have y0 := hk10.2.1.cell (k := 0) rfl
 have y1 := hk10.2.1.cell (k := 1) rfl
 have y2 := hk10.2.1.cell (k := 2) rfl
 have hrn := Vq Xa ca Ya da t Ga na c1 w10 HBT.out.g hk10.2.2.1 (by have := HBT.out.gr; omega) HBT.out.gc hk10.2.2.2
 have hyb : (xS t c1).1.blobs.length ≤ 24 := (ZT (qW 8 t c1) t c1 HBT.out.g HBT.out.gc (Nat.le_refl _)).1.b.len
 have hL0 : 0 < L.length := by
  have : shaS D ∈ L := (hL.mem _).2 HHS.out
  exact List.length_pos_of_mem this
 have hall : ∀ z ∈ L, InB (xS t c1).1.blobs z := fun z hz => HIN.out z ((hL.mem z).1 hz)
 generalize (xS t c1).1 = y at *
 generalize (xS t c1).2 = gn at *
 have HRN := Lib.hid hrn
 have HALL := Lib.hid hall
 have HB10 := Lib.hid (HB9.out.trans (hb910.mono HB9.out.size))
 have HR10 := Lib.hid hr10
 clear hL ho10 hb10 hr10 hb910 hk10 hrn hall HFR HIN HHS HBT
 go_wp2_with fail
 clear x0 x1 x2 x3 y0 y1 y2
 refine ((HRN.out)).mono ?_; rintro e_ w11 ⟨v11, u11, t11, rfl, ho11, hl11, hb11⟩; dsimp only
 obtain ⟨X11, c11, Y11, d11, rfl, rfl, hr11⟩ := ho11.rows
 obtain ⟨A11, n11, rfl, _, _⟩ := Rd.of_own' hl11
 obtain ⟨w12, hw12⟩ : ∃ W, W = w11.alloc (.cells #[.slice X11 y.blobs.length c11, .slice Y11 y.ents.length d11, .int .i64 (t.room : Int), .int .i64 (t.clock : Int)] 26) := ⟨_, rfl⟩
 have hA12 : Arr w12 w11.heap.size 26 [.slice X11 y.blobs.length c11, .slice Y11 y.ents.length d11, .int .i64 (t.room : Int), .int .i64 (t.clock : Int)] := by rw [hw12]; exact Arr.new w11 26 _
 have hb1112 : Below w11.heap.size w11 w12 := by rw [hw12]; exact (Below.refl _ _).alloc (Nat.le_refl _) _
 have hb1012 := hb11.trans (hb1112.mono hb11.size)
 obtain ⟨gy, hgy⟩ : ∃ g, g = w11.heap.size := ⟨_, rfl⟩
 rw [← hgy] at hA12
 have HK12 := Lib.hid (show ∀ W, Below w12.heap.size w12 W → Arr W gy 26 [.slice X11 y.blobs.length c11, .slice Y11 y.ents.length d11, .int .i64 (t.room : Int), .int .i64 (t.clock : Int)] ∧ Rw BlobS W X11 y.blobs ∧ Rd W 1 A10 L.length (strs L) from fun W h => ⟨hA12.below h, ((hr11.below hb1112).below h).b, (HR10.out.below hb1012).below h⟩)
 have HB12 := Lib.hid (HB10.out.trans (hb1012.mono HB10.out.size))
 have HW12 := Lib.hid hw12
 have HGY := Lib.hid hgy
 have hL63 : (L.length : Int) ≤ 9223372036854775807 := by omega
 have hLp : decide (0 < L.length) = true := decide_eq_true hL0
 have hLq : decide ((L.length : Int) > 0) = true := decide_eq_true (by omega)
 have hLr : decide ((0 : Int) < (L.length : Int)) = true := decide_eq_true (by omega)
 clear ho11 hl11 hb11 hr11 hw12 hgy hA12 hb1112 hb1012 HR10 HRN
 repeat' ((fail_if_success (with_reducible refine vi 15 ?_)); (fail_if_success (with_reducible refine vr 15 ?_)); (fail_if_success (with_reducible refine vj 15 ?_)); (fail_if_success (with_reducible refine xQ 15 ?_)); (fail_if_success (with_reducible refine vl 15 ?_)); (fail_if_success (with_reducible refine va 15 ?_)); (fail_if_success at_builtin); (fail_if_success at_make); (first | go_values | go_skip | go_guarded | go_step | go_upon | go_back))
 rw [← HW12.out, ← HGY.out]
 clear HW12
 go_wp2_with fail
 go_loopg [80] L.length (fun gn i wr => ∃ k : Nat, gn = L.length - k ∧ i = .int .i64 k ∧ k ≤ L.length ∧ Below w12.heap.size w12 wr)
 case atStart => exact ⟨0, rfl, rfl, by omega, Below.refl _ _⟩
 case round =>
  obtain ⟨j, hgj, rfl, hj, hbj⟩ := hrel
  have HGJ := Lib.hid hgj
  clear hgj
  by_cases hlt3 : j < L.length
  rotate_left
  ·obtain rfl : j = L.length := by omega
   have hlb3 : decide (L.length < L.length) = false := by simp
   go_wp2_with fail
   go_ret
   have hz1 := HB12.out.trans (hbj.mono HB12.out.size)
   exact ⟨rfl, HB0.out.trans (hz1.mono (Nat.le_of_lt hgl))⟩
  have hlb3 : decide (j < L.length) = true := decide_eq_true hlt3
  have hj0 : (0 : Int) ≤ (j : Int) := by omega
  have hj1 : (j : Int) < (L.length : Int) := by omega
  obtain ⟨hay, hrb, hrl⟩ := HK12.out wr hbj
  obtain ⟨bb, off, hAb, _, hcell⟩ := hrl.2 (by omega)
  subst hAb
  have c0 := hcell j _ (qL L j hlt3)
  have hq0 := hay.cell (k := 0) rfl
  have hin := HALL.out _ (List.getElem_mem hlt3)
  have hhs := UG X11 c11 y.blobs L[j] wr (by omega) hrb
  rw [show y.blobs.any (fun x => x.dig == L[j]) = true from by
   obtain ⟨b, hb, e⟩ := hin
   exact List.any_eq_true.2 ⟨b, hb, by simpa using e⟩] at hhs
  have HHS := Lib.hid hhs
  have HJL := Lib.hid hlt3
  generalize L[j] = dj at *
  clear hin hhs hcell hay hrb hrl
  go_wp2_with fail
  clear c0 hq0
  refine ((HHS.out)).mono ?_; rintro e_ w13 ⟨rfl, hb13⟩; dsimp only
  have hbj13 := hbj.trans (hb13.mono hbj.size)
  clear hb13 hbj
  go_wp2_with fail
  go_roundg (L.length - (j + 1))
  case measure => have := HGJ.out; have := HJL.out; omega
  case rel => exact ⟨j + 1, rfl, by go_num, by have := HJL.out; omega, hbj13⟩
end Go.Proofs.YtpbacomdoddhdaaGreat
