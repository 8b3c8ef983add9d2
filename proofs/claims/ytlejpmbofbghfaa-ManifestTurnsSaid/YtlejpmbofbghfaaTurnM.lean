/- The walk of ManifestTurns. Conditions: the sizes. -/
import Derived.Test.YtlejpmbofbghfaaDecP
import Derived.Test.YtlejpmbofbghfaaEqP
import Derived.Test.YtlejpmbofbghfaaBlob
namespace Go.Proofs.Ytlejpmbofbghfaa
open Go.RowKit
set_option linter.unusedVariables false
set_option linter.unusedSimpArgs false
set_option maxRecDepth 100000

theorem decL_err (b : List UInt8) (h : (decL b).2 ≠ 0) : (decL b).1 = [] := by
  unfold decL at h ⊢
  by_cases h1 : 2000 < b.length
  · rw [if_pos h1]
  rw [if_neg h1] at h ⊢
  by_cases h2 : [65, 77, 49].isPrefixOf b = false
  · rw [if_pos h2]
  rw [if_neg h2] at h ⊢
  by_cases h3 : (rdNum (b.drop 3)).2.2 ≠ 0
  · rw [if_pos h3]
  rw [if_neg h3] at h ⊢
  by_cases h4 : 8 < (rdNum (b.drop 3)).1
  · rw [if_pos h4]
  rw [if_neg h4] at h ⊢
  by_cases h5 : (decGo (rdNum (b.drop 3)).1 [] (rdNum (b.drop 3)).2.1).1 ≠ 0
  · rw [if_pos h5]
  rw [if_neg h5] at h ⊢
  by_cases h6 : 0 < (decGo (rdNum (b.drop 3)).1 [] (rdNum (b.drop 3)).2.1).2.2.length
  · rw [if_pos h6]
  rw [if_neg h6] at h ⊢
  by_cases h7 : chk (decGo (rdNum (b.drop 3)).1 [] (rdNum (b.drop 3)).2.1).2.1 ≠ 0
  · rw [if_pos h7]
  rw [if_neg h7] at h
  exact absurd rfl h

set_option maxHeartbeats 2000000 in
theorem ManifestTurns_walk (A : Option Addr) (n c : Nat) (l : List RawP) (m : Int) (y : UInt8) (w : World) (hl : l.length = n) (hc : n ≤ c) (hm : c ≤ maxLen) (hok : ∀ r ∈ l, RawOk r) (hr : Rd w 4 A n (rcs l)) (hm0 : -9223372036854775808 ≤ m) (hm1 : m ≤ 9223372036854775807) :
    Calls Try.prog 7 #[.slice A n c, .int .i64 m, .int .u8 (y.toNat : Int)] w fun e w' => e = .returned (.bool true) ∧ Below w.heap.size w w' := by
  have HLST := Lib.hid (fun w' hr' => listed_ok A n c l w' hl hc hm hok hr')
  have hx8 := lst_le l
  have hchk := chk_lst l
  have HRL := Lib.hid hr
  clear hl hok hr
  generalize lst l = x at *
  have hle := enc_le x hchk
  have hE := decL_enc x hchk
  have HCH := Lib.hid hchk
  go_enter Try.func7, Try.ntmps7
  repeat' ((fail_if_success at_builtin); (fail_if_success at_make); (first | go_values | go_skip | go_guarded | go_step | go_upon | go_back))
  refine ((HLST.out w HRL.out)).mono ?_; rintro e_ w1 ⟨v1, rfl, ho1, hb1⟩; dsimp only
  obtain ⟨Ao, co, rfl, hco, hro⟩ := Rd.of_own' ho1
  repeat' ((fail_if_success at_builtin); (fail_if_success at_make); (first | go_values | go_skip | go_guarded | go_step | go_upon | go_back))
  refine ((Encode_ok Ao x.length co x w1 rfl hco hro HCH.out)).mono ?_; rintro e_ w2 ⟨A2, c2, rfl, ho2, hb2⟩; dsimp only
  have hb12 := hb1.trans (hb2.mono hb1.size)
  have hr2 := ho2.rd
  have hcap2 := ho2.cap
  have HT := Lib.hid (Turned_ok A2 (enc x).length c2 (enc x) m y w2 rfl (by omega) hcap2 (by omega) hr2 hm0 hm1)
  obtain ⟨C, hC⟩ : ∃ C, turn1 (enc x) (pk m (enc x).length) (max y 1) = C := ⟨_, rfl⟩
  have hCl : C.length = (enc x).length := by rw [← hC, turn1_len]
  have hCne : C ≠ enc x := by
    rw [← hC]
    refine turn1_ne _ _ _ (pk_lt m (by omega)) ?_
    intro h
    have key : ∀ a : Fin 256, max (UInt8.ofNat a.val) 1 ≠ 0 := by decide +kernel
    have h' := key ⟨y.toNat, y.toNat_lt⟩
    simp only [UInt8.ofNat_toNat] at h'
    exact h' h
  rw [hC] at HT
  have hlen := hCl
  rw [← hCl] at HT hcap2
  have HX := Lib.hid (fun (e : enc x = C) => hCne e.symm)
  clear hC hCne hchk hE ho2 hr2 ho1 hro
  have hlen4 : 4 ≤ C.length ∧ C.length ≤ 388 := by omega
  have HLEN := Lib.hid hlen
  rw [← hCl]
  clear hle hCl hlen
  repeat' ((fail_if_success at_builtin); (fail_if_success at_make); (first | go_values | go_skip | go_guarded | go_step | go_upon | go_back))
  refine ((HT.out)).mono ?_; rintro e_ w3 ⟨A3, c3, rfl, hc3, hcm3, hr3, hb3⟩; dsimp only
  have hb13 := hb12.trans (hb3.mono hb12.size)
  have HD := Lib.hid (Decode_ok A3 C.length c3 C w3 rfl hc3 hcm3 hr3)
  have HDE := Lib.hid (decL_err C)
  have HDI := Lib.hid (fun (x : List PartP) => decL_inv (b := C) (x := x))
  generalize decL C = D at *
  obtain ⟨X, er⟩ := D
  have hb3' := hb3
  have i4 : decide ((C.length : Int) < 4) = false := decide_eq_false (by omega)
  have i4' : decide (C.length < 4) = false := decide_eq_false (by omega)
  repeat' ((fail_if_success at_builtin); (fail_if_success at_make); (first | go_values | go_skip | go_guarded | go_step | go_upon | go_back))
  refine ((HD.out)).mono ?_; rintro e_ w4 ⟨v4, rfl, ho4, hb4⟩; dsimp only
  have hb14 := hb13.trans (hb4.mono hb13.size)
  have hr4 := hr3.below hb4
  obtain ⟨A4, c4, rfl, hc4, hro4⟩ := Rd.of_own' ho4
  dsimp only at HDE HDI hc4 hro4 ho4 ⊢
  by_cases her : er = 0
  · have e1 : ((er : Int) != 0) = false := by rw [bne_eq_false_iff_eq]; omega
    subst her
    obtain ⟨hEX, hCX⟩ := HDI.out X rfl
    have hXx : X ≠ x := fun h => HX.out (by rw [← h]; exact hEX)
    have HXX := Lib.hid hXx
    have HE2 := Encode_ok A4 X.length c4 X w4 rfl hc4 hro4 hCX
    rw [hEX] at HE2
    have HE := Lib.hid HE2
    have hX8 := (chk_zero hCX).1
    clear hEX hCX hXx HE2 HDI HDE HD ho4 hr3 hb13 hb3 hb3'
    repeat' ((fail_if_success at_builtin); (fail_if_success at_make); (first | go_values | go_skip | go_guarded | go_step | go_upon | go_back))
    refine ((HE.out)).mono ?_; rintro e_ w5 ⟨A5, c5, rfl, ho5, hb5⟩; dsimp only
    have hb15 := hb14.trans (hb5.mono hb14.size)
    have hr5 := hr4.below hb5
    have hro5 := hro4.below hb5
    have q1 := run_str (P := Try.prog) (c := c5) (src := 24) (dst := 9) Try.underlying24 Try.underlying5 Try.underlying9 rfl ho5.rd
    have q2 := run_str (P := Try.prog) (c := c3) (src := 24) (dst := 9) Try.underlying24 Try.underlying5 Try.underlying9 rfl hr5
    generalize (⟨C.toArray⟩ : ByteArray) = S at *
    clear ho5
    repeat' ((fail_if_success at_builtin); (fail_if_success at_make); (first | go_values | go_skip | go_guarded | go_step | go_upon | go_back))
    refine ((HLST.out w5 (HRL.out.below hb15))).mono ?_; rintro e_ w6 ⟨v6, rfl, ho6, hb6⟩; dsimp only
    have hb16 := hb15.trans (hb6.mono hb15.size)
    have hro6 := hro5.below hb6
    obtain ⟨A6, c6, rfl, hc6, hr6⟩ := Rd.of_own' ho6
    repeat' ((fail_if_success at_builtin); (fail_if_success at_make); (first | go_values | go_skip | go_guarded | go_step | go_upon | go_back))
    refine ((EqualP_diff A4 A6 X.length x.length c4 c6 X x w6 rfl rfl (by omega) (by omega) hro6 hr6 HXX.out)).mono ?_; rintro e_ w7 ⟨rfl, hb7⟩; dsimp only
    repeat' ((fail_if_success at_builtin); (fail_if_success at_make); (first | go_values | go_skip | go_guarded | go_step | go_upon | go_back))
    go_ret
    exact ⟨rfl, hb16.trans (hb7.mono hb16.size)⟩
  · have e1 : ((er : Int) != 0) = true := by rw [bne_iff_ne]; omega
    have hX0 : X = [] := HDE.out her
    subst hX0
    clear her HDE HDI HD
    repeat' ((fail_if_success at_builtin); (fail_if_success at_make); (first | go_values | go_skip | go_guarded | go_step | go_upon | go_back))
    go_ret
    exact ⟨rfl, hb14⟩
end Go.Proofs.Ytlejpmbofbghfaa
