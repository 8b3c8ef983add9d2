/- The walk of ActionTurns. Conditions: the sizes. -/
import Derived.Test.YtkfipkmkmhkfaaaActO
import Derived.Test.YtkfipkmkmhkfaaaTurn1
namespace Go.Proofs.Ytkfipkmkmhkfaaa
open Go.RowKit
set_option linter.unusedVariables false
set_option linter.unusedSimpArgs false
set_option maxRecDepth 100000

set_option maxHeartbeats 2000000 in
theorem ActionTurns_walk (r : RawP) (A : Option Addr) (n c : Nat) (l : List RawP) (m : Int) (y : UInt8) (w : World) (hro : RawOk r) (hl : l.length = n) (hc : n ≤ c) (hm : c ≤ maxLen) (hok : ∀ r ∈ l, RawOk r) (hr : Rd w 4 A n (rcs l)) (hm0 : -9223372036854775808 ≤ m) (hm1 : m ≤ 9223372036854775807) :
    Calls Try.prog 4 #[rval r, .slice A n c, .int .i64 m, .int .u8 (y.toNat : Int)] w fun e w' => e = .returned (.bool true) ∧ Below w.heap.size w w' := by
  have HACT := Lib.hid (fun w' hr' => ActOf_ok r A n c l w' hro hl hc hm hok hr')
  have hac := cmdOf_ok r l
  have hcl := cmdOf_len r
  have hpk := pk_lt r.a (m := 50) (by omega)
  have hx8 := lst_le l
  obtain ⟨rk, ra, rb, rt⟩ := r
  dsimp only [rval] at HACT ⊢
  obtain ⟨w0, hw0⟩ : ∃ w0, w0 = w.alloc (.cells #[.int .i64 rk, .int .i64 ra, .int .i64 rb, .string rt] 33) := ⟨_, rfl⟩
  have hb0 : Below w.heap.size w w0 := by rw [hw0]; exact (Below.refl _ _).alloc (Nat.le_refl _) _
  have hr0 : Rd w0 4 A n (rcs l) := by rw [hw0]; exact hr.alloc _
  have HW := Lib.hid hw0
  clear hw0 hro hl hok hr
  generalize cmdOf ⟨rk, ra, rb, rt⟩ = C at *
  generalize lst l = x at *
  obtain ⟨S, hS⟩ : ∃ S : ByteArray, S = ⟨C.toArray⟩ := ⟨_, rfl⟩
  have hSd : S.data.toList = C := by rw [hS]
  have hSs : S.size ≤ 140737488351232 := by
    have h2 : S.data.toList.length = S.size := by rw [Array.length_toList]; rfl
    rw [hSd] at h2; omega
  have hlen := encA_le C x hac
  have HAC := Lib.hid (show actC S.data.toList x = 0 from by rw [hSd]; exact hac)
  have HSD := Lib.hid hSd
  have hv : ∀ v, actV C v = .agg #[.string S, v] := fun v => by rw [actV, ← hS]
  have HV := Lib.hid hv
  clear hS hSd hac hv hcl
  go_enter Try.func4, Try.ntmps4
  repeat' ((fail_if_success at_builtin); (fail_if_success at_make); (first | go_values | go_skip | go_guarded | go_step | go_upon | go_back))
  rw [← HW.out]
  refine ((HACT.out w0 hr0)).mono ?_; rintro e_ w1 ⟨v1, rfl, ho1, hb1⟩; dsimp only
  rw [HV.out]
  have hb01 := hb0.trans (hb1.mono hb0.size)
  obtain ⟨A1, c1, rfl, hc1, hr1⟩ := Rd.of_own' ho1
  have HE := AEncode_ok S A1 x.length c1 x w1 hSs rfl hc1 hr1 HAC.out
  rw [HSD.out] at HE
  clear ho1 hb1
  repeat' ((fail_if_success at_builtin); (fail_if_success at_make); (first | go_values | go_skip | go_guarded | go_step | go_upon | go_back))
  refine ((HE)).mono ?_; rintro e_ w3 ⟨A3, c3, rfl, hr3, hc3, hm3, hb3⟩; dsimp only
  have hb03 := hb01.trans (hb3.mono hb01.size)
  have HT := Lib.hid (Turned_ok A3 (encA C x).length c3 (encA C x) m y w3 rfl (by omega) hc3 (by omega) hr3 hm0 hm1)
  obtain ⟨D, hD⟩ : ∃ D, turn1 (encA C x) (pk m (encA C x).length) (max y 1) = D := ⟨_, rfl⟩
  have hDl : D.length = (encA C x).length := by rw [← hD, turn1_len]
  rw [hD, ← hDl] at HT
  rw [← hDl]
  rw [← hDl] at hlen hc3
  clear hD hDl hr3 HE
  have i4 : decide ((D.length : Int) < 4) = false := decide_eq_false (by omega)
  have i4' : decide (D.length < 4) = false := decide_eq_false (by omega)
  repeat' ((fail_if_success at_builtin); (fail_if_success at_make); (first | go_values | go_skip | go_guarded | go_step | go_upon | go_back))
  refine ((HT.out)).mono ?_; rintro e_ w4 ⟨A4, c4, rfl, hc4, hcm4, hr4, hb4⟩; dsimp only
  have hb04 := hb03.trans (hb4.mono hb03.size)
  have HDD := Lib.hid (ADecode_ok A4 D.length c4 D w4 rfl hc4 hcm4 hr4)
  have HER := Lib.hid (decA_err D)
  have HIN := Lib.hid (fun (c : List UInt8) (x : List PartP) => decA_inv (b := D) (c := c) (x := x))
  generalize decA D = R at *
  obtain ⟨C5, X, er⟩ := R
  dsimp only at HER HDD HIN
  clear HT hb03 hb4
  repeat' ((fail_if_success at_builtin); (fail_if_success at_make); (first | go_values | go_skip | go_guarded | go_step | go_upon | go_back))
  refine ((HDD.out)).mono ?_; rintro e_ w5 ⟨v5, rfl, ho5, hb5⟩; dsimp only
  have hb05 := hb04.trans (hb5.mono hb04.size)
  have hr5 := hr4.below hb5
  obtain ⟨A5, c5, rfl, hc5, hrx5⟩ := Rd.of_own' ho5
  obtain ⟨S5, hS5⟩ : ∃ S : ByteArray, S = ⟨C5.toArray⟩ := ⟨_, rfl⟩
  have hS5d : S5.data.toList = C5 := by rw [hS5]
  rw [actV, ← hS5]
  have hP6 : Arr (w5.alloc (.cells #[.string S5, .slice A5 X.length c5] 26)) w5.heap.size 26 [.string S5, .slice A5 X.length c5] := Arr.new w5 _ _
  have hb6 := hb05.alloc hb05.size (.cells #[.string S5, .slice A5 X.length c5] 26)
  have hr6 := hr5.alloc (.cells #[.string S5, .slice A5 X.length c5] 26)
  have hrx6 := hrx5.alloc (.cells #[.string S5, .slice A5 X.length c5] 26)
  obtain ⟨w6, hw6⟩ : ∃ w6, w6 = w5.alloc (.cells #[.string S5, .slice A5 X.length c5] 26) := ⟨_, rfl⟩
  have HW6 := Lib.hid hw6
  have f0 := hP6.cell (k := 0) rfl
  have f1 := hP6.cell (k := 1) rfl
  rw [← hw6] at hb6 hr6 hrx6
  have HS5 := Lib.hid hS5
  clear HDD ho5 hw6 hr5 hrx5 hr4 hb04 hb05 hb5 hS5 hP6
  by_cases her : er = 0
  · have e1 : ((er : Int) != 0) = false := by rw [bne_eq_false_iff_eq]; omega
    subst her
    obtain ⟨hEX, hAX⟩ := HIN.out C5 X rfl
    have hz := actC_zero hAX
    have hX8 := (chk_zero hz.2.1).1
    have hS5s : S5.size ≤ 140737488351232 := by
      have h2 : S5.data.toList.length = S5.size := by rw [Array.length_toList]; rfl
      rw [hS5d] at h2; omega
    have HE2 := AEncode_ok S5 A5 X.length c5 X w6 hS5s rfl hc5 hrx6 (by rw [hS5d]; exact hAX)
    rw [hS5d, hEX] at HE2
    have HE3 := Lib.hid HE2
    clear HE2 hEX hAX hz hS5d HER HIN hrx6
    repeat' ((fail_if_success at_builtin); (fail_if_success at_make); (first | go_values | go_skip | go_guarded | go_step | go_upon | go_back))
    rw [← HW6.out]
    refine ((HE3.out)).mono ?_; rintro e_ w7 ⟨A7, c7, rfl, hr7, hc7, hm7, hb7⟩; dsimp only
    have hr77 := hr6.below hb7
    have q1 := run_str (P := Try.prog) (c := c7) (src := 35) (dst := 9) Try.underlying35 Try.underlying5 Try.underlying9 rfl hr7
    have q2 := run_str (P := Try.prog) (c := c4) (src := 35) (dst := 9) Try.underlying35 Try.underlying5 Try.underlying9 rfl hr77
    generalize (⟨D.toArray⟩ : ByteArray) = T at *
    repeat' ((fail_if_success at_builtin); (fail_if_success at_make); (first | go_values | go_skip | go_guarded | go_step | go_upon | go_back))
    go_ret
    exact ⟨rfl, hb6.trans (hb7.mono hb6.size)⟩
  · have e1 : ((er : Int) != 0) = true := by rw [bne_iff_ne]; omega
    obtain ⟨hC0, hX0⟩ := HER.out her
    subst hX0
    have hSe : S5 = ⟨#[]⟩ := by rw [HS5.out, hC0]
    subst hSe
    clear her HER HIN hS5d HS5 hC0
    have hw6' := HW6.out
    rw [List.length_nil] at hw6' f0 f1 ⊢
    have HW7 := Lib.hid hw6'
    clear hw6' HW6
    repeat' ((fail_if_success at_builtin); (fail_if_success at_make); (first | go_values | go_skip | go_guarded | go_step | go_upon | go_back))
    rw [← HW7.out]
    go_ret
    exact ⟨rfl, hb6⟩
end Go.Proofs.Ytkfipkmkmhkfaaa
