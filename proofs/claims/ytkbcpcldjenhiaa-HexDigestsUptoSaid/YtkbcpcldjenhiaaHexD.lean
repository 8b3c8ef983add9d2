/- The walk of HexDigests. Conditions: the slice's size (at most 1048576). -/
import Derived.Test.YtkbcpcldjenhiaaDig
import Derived.Test.YtkbcpcldjenhiaaHexP
namespace Go.Proofs.Ytkbcpcldjenhiaa
open Go.RowKit
set_option linter.unusedVariables false
set_option linter.unusedSimpArgs false
set_option maxRecDepth 20000

theorem HexDigests_walk (A : Option Addr) (n c : Nat) (l : List UInt8) (w : World) (hl : l.length = n) (hc : n ≤ c) (hm : c ≤ 140737488351232) (hr : Rd w 1 A n (bys l)) (hn : n ≤ 1048576) :
    Calls Try.prog 13 #[.slice A n c] w fun e w' => e = .returned (.bool true) ∧ Below w.heap.size w w' := by
  have hT := Text_ok A n c l w hl (by omega) hc hr
  have hD := fun (w1 : World) (hb : Below w.heap.size w w1) => Digest_ok A n c l w1 hl hc (by omega) (hr.below hb)
  have hcs := hexC_sha l
  have hct := hexC_hexs l
  have hsl := shaS_len l
  have htl := hexs_len l
  obtain ⟨t, ht⟩ : ∃ t : ByteArray, t = ⟨(hexs l).toArray⟩ := ⟨_, rfl⟩
  obtain ⟨s, hs⟩ : ∃ s : ByteArray, s = ⟨(shaS l).toArray⟩ := ⟨_, rfl⟩
  have hts : t.size = 2 * n := by rw [ht, ← hl, ← htl]; rfl
  have hss : s.size = 64 := by rw [hs, ← hsl]; rfl
  have htd : t.data.toList = hexs l := by rw [ht]
  have hsd : s.data.toList = shaS l := by rw [hs]
  rw [← htd, hl] at hct
  rw [← hsd] at hcs
  rw [← ht] at hT
  rw [← hs] at hD
  have hC1 := fun (w1 : World) => hCheck_at (s := s) 0 rfl hcs w1 (by omega)
  have hrep := fun (w1 : World) => Try.strings_Repeat ⟨#[71]⟩ 64 w1 (by omega) (by decide)
  have hC3 := fun (w1 : World) => hCheck_at (s := ⟨(Lib.repeatL [71] 64).toArray⟩) (r := 3) 3 rfl (by decide +kernel) w1 (by decide +kernel)
  have HT := Lib.hid hT
  have HD := Lib.hid hD
  have HC1 := Lib.hid hC1
  have HRP := Lib.hid hrep
  have HC3 := Lib.hid hC3
  have htn : t.size ≤ 140737488351232 := by omega
  clear hT hD hC1 hrep hC3 hcs hsl htl ht hs hss htd hsd hts hl
  by_cases h32 : n = 32
  · rw [if_pos h32] at hct
    have hC2 := fun (w1 : World) => hCheck_at (s := t) 0 rfl hct w1 htn
    have HC2 := Lib.hid hC2
    have hb32 : ((n : Int) == 32) = true := by rw [beq_iff_eq]; omega
    clear hC2 hct h32
    go_enter Try.func13, Try.ntmps13
    repeat' ((fail_if_success at_builtin); (fail_if_success at_make); (first | go_values | go_skip | go_guarded | go_step | go_upon | go_back))
    refine ((HT.out)).mono ?_; rintro e_ w1 ⟨rfl, hb1⟩; dsimp only
    repeat' ((fail_if_success at_builtin); (fail_if_success at_make); (first | go_values | go_skip | go_guarded | go_step | go_upon | go_back))
    refine ((HD.out _ hb1)).mono ?_; rintro e_ w2 ⟨rfl, hb2⟩; dsimp only
    have hb12 := hb1.trans (hb2.mono hb1.size)
    repeat' ((fail_if_success at_builtin); (fail_if_success at_make); (first | go_values | go_skip | go_guarded | go_step | go_upon | go_back))
    refine ((HC1.out _)).mono ?_; rintro e_ w3 ⟨rfl, hb3⟩; dsimp only
    have hb13 := hb12.trans (hb3.mono hb12.size)
    repeat' ((fail_if_success at_builtin); (fail_if_success at_make); (first | go_values | go_skip | go_guarded | go_step | go_upon | go_back))
    refine ((HC2.out _)).mono ?_; rintro e_ w4 ⟨rfl, hb4⟩; dsimp only
    have hb14 := hb13.trans (hb4.mono hb13.size)
    repeat' ((fail_if_success at_builtin); (fail_if_success at_make); (first | go_values | go_skip | go_guarded | go_step | go_upon | go_back))
    refine ((HRP.out _)).mono ?_; rintro e_ w5 ⟨rfl, hb5⟩; dsimp only
    have hb15 := hb14.trans (hb5.mono hb14.size)
    repeat' ((fail_if_success at_builtin); (fail_if_success at_make); (first | go_values | go_skip | go_guarded | go_step | go_upon | go_back))
    refine ((HC3.out _)).mono ?_; rintro e_ w6 ⟨rfl, hb6⟩; dsimp only
    have hb16 := hb15.trans (hb6.mono hb15.size)
    repeat' ((fail_if_success at_builtin); (fail_if_success at_make); (first | go_values | go_skip | go_guarded | go_step | go_upon | go_back))
    go_ret
    exact ⟨rfl, hb16⟩
  · rw [if_neg h32] at hct
    have hC2 := fun (w1 : World) => hCheck_at (s := t) 1 rfl hct w1 htn
    have HC2 := Lib.hid hC2
    have hb32 : ((n : Int) == 32) = false := by rw [beq_eq_false_iff_ne]; omega
    clear hC2 hct h32
    go_enter Try.func13, Try.ntmps13
    repeat' ((fail_if_success at_builtin); (fail_if_success at_make); (first | go_values | go_skip | go_guarded | go_step | go_upon | go_back))
    refine ((HT.out)).mono ?_; rintro e_ w1 ⟨rfl, hb1⟩; dsimp only
    repeat' ((fail_if_success at_builtin); (fail_if_success at_make); (first | go_values | go_skip | go_guarded | go_step | go_upon | go_back))
    refine ((HD.out _ hb1)).mono ?_; rintro e_ w2 ⟨rfl, hb2⟩; dsimp only
    have hb12 := hb1.trans (hb2.mono hb1.size)
    repeat' ((fail_if_success at_builtin); (fail_if_success at_make); (first | go_values | go_skip | go_guarded | go_step | go_upon | go_back))
    refine ((HC1.out _)).mono ?_; rintro e_ w3 ⟨rfl, hb3⟩; dsimp only
    have hb13 := hb12.trans (hb3.mono hb12.size)
    repeat' ((fail_if_success at_builtin); (fail_if_success at_make); (first | go_values | go_skip | go_guarded | go_step | go_upon | go_back))
    refine ((HC2.out _)).mono ?_; rintro e_ w4 ⟨rfl, hb4⟩; dsimp only
    have hb14 := hb13.trans (hb4.mono hb13.size)
    repeat' ((fail_if_success at_builtin); (fail_if_success at_make); (first | go_values | go_skip | go_guarded | go_step | go_upon | go_back))
    refine ((HRP.out _)).mono ?_; rintro e_ w5 ⟨rfl, hb5⟩; dsimp only
    have hb15 := hb14.trans (hb5.mono hb14.size)
    repeat' ((fail_if_success at_builtin); (fail_if_success at_make); (first | go_values | go_skip | go_guarded | go_step | go_upon | go_back))
    refine ((HC3.out _)).mono ?_; rintro e_ w6 ⟨rfl, hb6⟩; dsimp only
    have hb16 := hb15.trans (hb6.mono hb15.size)
    repeat' ((fail_if_success at_builtin); (fail_if_success at_make); (first | go_values | go_skip | go_guarded | go_step | go_upon | go_back))
    go_ret
    exact ⟨rfl, hb16⟩
end Go.Proofs.Ytkbcpcldjenhiaa
