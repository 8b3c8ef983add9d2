/- sha.Sum: it is the plain digest. Conditions: the size. -/
import Derived.Test.YtpcpffkbbhmahaaGreatStep
import Derived.Test.YtpcpffkbbhmahaaGreatDig
namespace Go.Proofs.YtpcpffkbbhmahaaGreat
open Go.RowKit
set_option linter.unusedVariables false
set_option linter.unusedSimpArgs false
set_option maxRecDepth 20000

theorem Sum_big (A : Option Addr) (n c : Nat) (w : World) (hn : 2000 < n) (hc : n ≤ c) (hm : c ≤ 140737488355328) :
    Calls Tryz.prog 84 #[.slice A n c] w fun e w' => e = .returned (.tuple #[.string ⟨#[]⟩, .int .i64 1]) ∧ w = w' := by
  go_enter Tryz.func84, Tryz.ntmps84
  repeat' ((fail_if_success at_builtin); (fail_if_success at_make); (first | go_values | go_skip | go_guarded | go_step | go_upon | go_back))
  refine ((Pad_big A n c w hn hc hm)).mono ?_; rintro e_ _ ⟨rfl, rfl⟩; dsimp only
  repeat' ((fail_if_success at_builtin); (fail_if_success at_make); (first | go_values | go_skip | go_guarded | go_step | go_upon | go_back))
  go_ret2
  exact ⟨rfl, rfl⟩

theorem wsOf_all (P : List UInt8) (q k : Nat) (hP : P.length = 64 * q) (hk : k < q) : (((wsOf P).drop (16 * k)).take 16).length = 16 := by
  have := wsOf_len (16 * q) P (by omega)
  rw [List.length_take, List.length_drop]; omega

theorem Sum_ok (A : Option Addr) (n c : Nat) (l : List UInt8) (w : World) (hl : l.length = n) (hn : n ≤ 2000) (hc : n ≤ c) (hr : Rd w 1 A n (bys l)) :
    Calls Tryz.prog 84 #[.slice A n c] w fun e w' => e = .returned (.tuple #[.string ⟨(shaS l).toArray⟩, .int .i64 0]) ∧ Below w.heap.size w w' := by
  have hpl := shaPad_len l
  obtain ⟨q, hq⟩ : ∃ q, (shaPad l).length = 64 * q := ⟨(shaPad l).length / 64, by omega⟩
  have hfin : shaS l = hexs (wbs (chain h0s (wsOf (shaPad l)) q)) := by
    unfold shaS shaWs; rw [hq, Nat.mul_div_cancel_left _ (by omega)]
  have HFIN := Lib.hid hfin
  have HPAD := Lib.hid (Pad_ok A n c l w hl hn hc hr)
  clear hfin
  generalize shaPad l = P at *
  have HQ := Lib.hid hq
  have hq0 : 1 ≤ q := by omega
  have hqm : 64 * q ≤ 2072 := by omega
  clear hq hpl hl
  go_enter Tryz.func84, Tryz.ntmps84
  repeat' ((fail_if_success at_builtin); (fail_if_success at_make); (first | go_values | go_skip | go_guarded | go_step | go_upon | go_back))
  refine ((HPAD.out)).mono ?_; rintro e_ w1 ⟨A1, c1, rfl, ho1, hb1⟩; dsimp only
  repeat' ((fail_if_success at_builtin); (fail_if_success at_make); (first | go_values | go_skip | go_guarded | go_step | go_upon | go_back))
  have hcap1 := ho1.cap
  refine ((Words_ok A1 P.length c1 P _ rfl (by have := HQ.out; omega) (by have := HQ.out; omega) hcap1 ho1.rd)).mono ?_; rintro e_ w2 ⟨v2, rfl, ho2, hb2⟩; dsimp only
  have hw4 : P.length / 4 = 16 * q := by have := HQ.out; omega
  rw [hw4] at ho2
  obtain ⟨gw, cw, rest, rfl, hgw, hcw, hcm, qw⟩ := own_arr ho2 (by omega)
  have hrw : Rd w2 1 (some ⟨gw, 0, none⟩) (16 * q) (wds (wsOf P)) := qw.rd (16 * q) (by rw [wds_len]; exact wsOf_len (16 * q) P (by have := HQ.out; omega))
  have hb12 := hb1.trans (hb2.mono hb1.size)
  clear qw ho2 ho1 hb2 hw4
  generalize hLW : 16 * q = lw at *
  have HLW := Lib.hid hLW
  have hlw1 : lw ≤ 600 := by omega
  clear hLW
  repeat' ((fail_if_success at_builtin); (fail_if_success at_make); (first | go_values | go_skip | go_guarded | go_step | go_upon | go_back))
  refine ((Start_ok _)).mono ?_; rintro e_ w3 ⟨rfl, hr3, hb3⟩; dsimp only
  have hr3w := hrw.below hb3
  have hb13 := hb12.trans (hb3.mono hb12.size)
  have hcwi : (lw : Int) ≤ (cw : Int) := by omega
  have hcmi : (cw : Int) ≤ 9223372036854775807 := by unfold maxLen at hcm; omega
  clear hrw hb3 hb12 hcm
  repeat' ((fail_if_success at_builtin); (fail_if_success at_make); (first | go_values | go_skip | go_guarded | go_step | go_upon | go_back))
  go_loopg [8, 9] q (fun gn v i wr => ∃ k A' c', gn = q - k ∧ i = .int .i64 ((16 * k : Nat) : Int) ∧ k ≤ q ∧ v = .slice A' 8 c' ∧ 8 ≤ c' ∧ Rd wr 1 A' 8 (wds (chain h0s (wsOf P) k)) ∧ Below w3.heap.size w3 wr)
  case atStart => exact ⟨0, _, 8, rfl, rfl, by omega, rfl, by omega, hr3, Below.refl _ _⟩
  case round =>
    clear hr3
    obtain ⟨k, A', c', hgk, rfl, hk, rfl, hc', hrk, hbel⟩ := hrel
    have HGK := Lib.hid hgk
    clear hgk
    by_cases hkq : k < q
    · have hrw := hr3w.below hbel
      have hm16 : 16 * k + 16 ≤ lw := by have := HLW.out; omega
      have hwl := wsOf_all P q k HQ.out hkq
      have hchl := chain_len h0s (wsOf P) rfl k
      have hnx : chain h0s (wsOf P) (k + 1) = stepS (chain h0s (wsOf P) k) (((wsOf P).drop (16 * k)).take 16) := rfl
      have HNX := Lib.hid hnx
      have HWL := Lib.hid hwl
      have HCH := Lib.hid hchl
      have hcut := (hrw.cutAt (k := 16 * k) (c := cw) (by omega) hcw).pre (k := 16) (by omega)
      have hcut2 : Rd wr 1 (if cw = 16 * k then some ⟨gw, 0, none⟩ else some ⟨gw, 0 + 16 * k, none⟩) 16 (wds (((wsOf P).drop (16 * k)).take 16)) := by
        have e : (List.drop (16 * k) (wds (wsOf P))).take (16 * 1) = wds (((wsOf P).drop (16 * k)).take 16) := by simp [wds]
        rw [e] at hcut; exact hcut
      clear hcut hnx hwl hchl hrw
      generalize hm : 16 * k = m at *
      have HM := Lib.hid hm
      clear hm
      have i1 : (0 : Int) ≤ (m : Int) := by omega
      have i2 : (m : Int) + 16 ≤ (cw : Int) := by omega
      have i3 : (m : Int) < (lw : Int) := by omega
      rw [if_neg (by omega), Nat.zero_add] at hcut2
      have hd16 : 16 ≤ cw - m := by omega
      repeat' ((fail_if_success at_builtin); (fail_if_success at_make); (first | go_values | go_skip | go_guarded | go_step | go_upon | go_back))
      refine ((Step_ok A' c' _ _ _ _ _ HCH.out hc' hrk HWL.out hd16 hcut2)).mono ?_; rintro e_ w5 ⟨g5, c5, rfl, hc5, hr5, hb5⟩; dsimp only
      have hb6 := hbel.trans (hb5.mono hbel.size)
      rw [← HNX.out] at hr5
      clear hrk hcut2 hbel hb5
      repeat' ((fail_if_success at_builtin); (fail_if_success at_make); (first | go_values | go_skip | go_guarded | go_step | go_upon | go_back))
      go_roundg (q - (k + 1))
      case measure => have := HGK.out; omega
      case rel => exact ⟨k + 1, _, c5, rfl, by have := HM.out; go_num, by omega, rfl, hc5, hr5, hb6⟩
    · obtain rfl : k = q := by omega
      have hge : lw ≤ 16 * k := by have := HLW.out; omega
      generalize hm : 16 * k = m at *
      have hchl := chain_len h0s (wsOf P) rfl k
      have HCH := Lib.hid hchl
      clear hm hchl
      generalize chain h0s (wsOf P) k = H at *
      have hb7 := hb13.trans (hbel.mono hb13.size)
      repeat' ((fail_if_success at_builtin); (fail_if_success at_make); (first | go_values | go_skip | go_guarded | go_step | go_upon | go_back))
      refine ((wBytes_ok A' 8 c' H _ HCH.out (by omega) hc' hrk)).mono ?_; rintro e_ w5 ⟨A5, c5, rfl, ho5, hb5⟩; dsimp only
      have hb8 := hb7.trans (hb5.mono hb7.size)
      have hcap5 := ho5.cap
      repeat' ((fail_if_success at_builtin); (fail_if_success at_make); (first | go_values | go_skip | go_guarded | go_step | go_upon | go_back))
      refine ((Text_ok A5 _ c5 _ _ rfl (by rw [wbs_len, HCH.out]; omega) hcap5 ho5.rd)).mono ?_; rintro e_ w6 ⟨rfl, hb6⟩; dsimp only
      have hb9 := hb8.trans (hb6.mono hb8.size)
      repeat' ((fail_if_success at_builtin); (fail_if_success at_make); (first | go_values | go_skip | go_guarded | go_step | go_upon | go_back))
      go_ret2
      rw [HFIN.out]
      exact ⟨rfl, hb9⟩
end Go.Proofs.YtpcpffkbbhmahaaGreat
