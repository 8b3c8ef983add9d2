/- The walk of ActionBack. Conditions: the sizes. -/
import Derived.Test.YtkfipkmkmhkfaaaActO
import Derived.Test.YtkfipkmkmhkfaaaEqP
namespace Go.Proofs.Ytkfipkmkmhkfaaa
open Go.RowKit
set_option linter.unusedVariables false
set_option linter.unusedSimpArgs false
set_option maxRecDepth 100000

set_option maxHeartbeats 2000000 in
theorem ActionBack_walk (r : RawP) (A : Option Addr) (n c : Nat) (l : List RawP) (w : World) (hro : RawOk r) (hl : l.length = n) (hc : n ≤ c) (hm : c ≤ maxLen) (hok : ∀ r ∈ l, RawOk r) (hr : Rd w 4 A n (rcs l)) :
    Calls Try.prog 6 #[rval r, .slice A n c] w fun e w' => e = .returned (.bool true) ∧ Below w.heap.size w w' := by
  have HACT := Lib.hid (fun w' hr' => ActOf_ok r A n c l w' hro hl hc hm hok hr')
  have hac := cmdOf_ok r l
  have hcl := cmdOf_len r
  have hpk := pk_lt r.a (m := 50) (by omega)
  have hx8 := lst_le l
  obtain ⟨rk, ra, rb, rt⟩ := r
  dsimp only [rval] at HACT ⊢
  obtain ⟨w0, hw0⟩ : ∃ w0, w0 = w.alloc (.cells #[.int .i64 rk, .int .i64 ra, .int .i64 rb, .string rt] 33) := ⟨_, rfl⟩
  have hb0 : Below w.heap.size w w0 := by rw [hw0]; exact (Below.refl _ _).alloc (Nat.le_refl _) _
  have hr0 : Rd w0 4 A n (rcs l) := by rw [hw0]; exact hr.alloc _
  have HW := Lib.hid hw0
  clear hw0 hro hl hok hr
  generalize cmdOf ⟨rk, ra, rb, rt⟩ = C at *
  generalize lst l = x at *
  obtain ⟨S, hS⟩ : ∃ S : ByteArray, S = ⟨C.toArray⟩ := ⟨_, rfl⟩
  have hSd : S.data.toList = C := by rw [hS]
  have hSs : S.size ≤ 140737488351232 := by
    have h2 : S.data.toList.length = S.size := by rw [Array.length_toList]; rfl
    rw [hSd] at h2; omega
  have hdec := decA_enc C x hac
  have hlen := encA_le C x hac
  have HDEC := Lib.hid hdec
  have HAC := Lib.hid (show actC S.data.toList x = 0 from by rw [hSd]; exact hac)
  have HS := Lib.hid hS
  have HSD := Lib.hid hSd
  have hv : ∀ v, actV C v = .agg #[.string S, v] := fun v => by rw [actV, ← hS]
  have HV := Lib.hid hv
  clear hS hSd hac hdec hv hcl
  go_enter Try.func6, Try.ntmps6
  repeat' ((fail_if_success at_builtin); (fail_if_success at_make); (first | go_values | go_skip | go_guarded | go_step | go_upon | go_back))
  rw [← HW.out]
  refine ((HACT.out w0 hr0)).mono ?_; rintro e_ w1 ⟨v1, rfl, ho1, hb1⟩; dsimp only
  rw [HV.out]
  have hb01 := hb0.trans (hb1.mono hb0.size)
  obtain ⟨A1, c1, rfl, hc1, hr1⟩ := Rd.of_own' ho1
  have hP2 : Arr (w1.alloc (.cells #[.string S, .slice A1 x.length c1] 26)) w1.heap.size 26 [.string S, .slice A1 x.length c1] := Arr.new w1 _ _
  have hb2 := hb01.alloc hb01.size (.cells #[.string S, .slice A1 x.length c1] 26)
  have hr2 := hr1.alloc (.cells #[.string S, .slice A1 x.length c1] 26)
  obtain ⟨w2, hw2⟩ : ∃ w2, w2 = w1.alloc (.cells #[.string S, .slice A1 x.length c1] 26) := ⟨_, rfl⟩
  rw [← hw2] at hP2 hb2 hr2
  have HW2 := Lib.hid hw2
  have HE := AEncode_ok S A1 x.length c1 x w2 hSs rfl hc1 hr2 HAC.out
  rw [HSD.out] at HE
  have HEN := Lib.hid HE
  clear hw2 ho1 hr1 hb1 hb01 HE
  repeat' ((fail_if_success at_builtin); (fail_if_success at_make); (first | go_values | go_skip | go_guarded | go_step | go_upon | go_back))
  rw [← HW2.out]
  generalize w1.heap.size = g2 at *
  refine ((HEN.out)).mono ?_; rintro e_ w3 ⟨A3, c3, rfl, hr3, hc3, hm3, hb3⟩; dsimp only
  have hb23 := hb2.trans (hb3.mono hb2.size)
  have hP3 := hP2.below hb3
  have hrx3 := hr2.below hb3
  have HD := ADecode_ok A3 (encA C x).length c3 (encA C x) w3 rfl hc3 hm3 hr3
  rw [HDEC.out] at HD
  dsimp only at HD
  rw [show ((0 : Nat) : Int) = 0 from rfl] at HD
  have HDD := Lib.hid HD
  generalize encA C x = E at *
  clear HD hP2 hr2 hb2 hr3
  repeat' ((fail_if_success at_builtin); (fail_if_success at_make); (first | go_values | go_skip | go_guarded | go_step | go_upon | go_back))
  refine ((HDD.out)).mono ?_; rintro e_ w4 ⟨v4, rfl, ho4, hb4⟩; dsimp only
  rw [HV.out]
  have hb24 := hb23.trans (hb4.mono hb23.size)
  have hP4 := hP3.below hb4
  have hrx4 := hrx3.below hb4
  obtain ⟨A4, c4, rfl, hc4, hr4⟩ := Rd.of_own' ho4
  have hP5 := hP4.alloc (.cells #[.string S, .slice A4 x.length c4] 26)
  have hb5 := hb24.alloc hb24.size (.cells #[.string S, .slice A4 x.length c4] 26)
  have hrx5 := hrx4.alloc (.cells #[.string S, .slice A4 x.length c4] 26)
  have hr5 := hr4.alloc (.cells #[.string S, .slice A4 x.length c4] 26)
  have f0 := hP5.cell (k := 0) rfl
  have f1 := hP5.cell (k := 1) rfl
  have HEQ := Lib.hid (EqualP_same A1 A4 x.length c1 c4 x _ rfl (by omega) hrx5 hr5)
  clear ho4 hr4 hb4 hP4 hrx4 hrx3 hP3 hb3 hrx5 hr5
  repeat' ((fail_if_success at_builtin); (fail_if_success at_make); (first | go_values | go_skip | go_guarded | go_step | go_upon | go_back))
  refine ((HEQ.out)).mono ?_; rintro e_ w6 ⟨rfl, hb6⟩; dsimp only
  repeat' ((fail_if_success at_builtin); (fail_if_success at_make); (first | go_values | go_skip | go_guarded | go_step | go_upon | go_back))
  go_ret
  exact ⟨rfl, hb5.trans (hb6.mono hb5.size)⟩
end Go.Proofs.Ytkfipkmkmhkfaaa
