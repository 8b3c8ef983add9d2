/- mark.Add; the walk of MarkAdds. Conditions: the sizes. -/
import Derived.Test.YtdpedkgdobfemaaCon
namespace Go.Proofs.Ytdpedkgdobfemaa
open Go.RowKit
set_option linter.unusedVariables false
set_option linter.unusedSimpArgs false
set_option maxRecDepth 100000

set_option maxHeartbeats 4000000 in
theorem Add_ok (A B : Option Addr) (c d : Nat) (L M : List (List UInt8)) (w : World) (hc : L.length ≤ c) (hd : M.length ≤ d) (hl : L.length ≤ 100000000) (hm : M.length ≤ 100000000) (hr : Rd w 1 A L.length (strs L)) (hr' : Rd w 1 B M.length (strs M)) :
    Calls Try.prog 14 #[.slice A L.length c, .slice B M.length d] w fun e w' => ∃ v N, e = .returned v ∧ StrL N (fun x => x ∈ L ∨ x ∈ M) ∧ N.length ≤ L.length + M.length ∧ w'.ownsRow w.heap.size 9 1 v N.length (strs N) ∧ Below w.heap.size w w' := by
  have hbox : Arr (w.alloc (.cells #[.slice A L.length c, .slice B M.length d] 42)) w.heap.size 42 [.slice A L.length c, .slice B M.length d] := Arr.new w 42 _
  have hb1 := (Below.refl w.heap.size w).alloc (Nat.le_refl _) (.cells #[.slice A L.length c, .slice B M.length d] 42)
  have hr1 := hr.below hb1
  have hr1' := hr'.below hb1
  have HCC := Lib.hid (ConcatS_ok w.heap.size A B c d L M _ hc hd (by omega) (by omega) (hbox.cell (k := 0) rfl) (hbox.cell (k := 1) rfl) hr1 hr1')
  have hlm : (L ++ M).length ≤ 200000000 := by rw [List.length_append]; omega
  have HLM := Lib.hid (show (L ++ M).length = L.length + M.length from List.length_append)
  have HMM := Lib.hid (fun x => show x ∈ L ++ M ↔ x ∈ L ∨ x ∈ M from List.mem_append)
  clear hr hr' hr1 hr1' hbox
  go_enter Try.func14, Try.ntmps14
  repeat' ((fail_if_success at_builtin); (fail_if_success at_make); (first | go_values | go_skip | go_guarded | go_step | go_upon | go_back))
  generalize (w.alloc (.cells #[.slice A L.length c, .slice B M.length d] 42)) = w1 at *
  refine ((HCC.out)).mono ?_; rintro e_ w2 ⟨v2, rfl, ho2, hb2⟩; dsimp only
  have hb12 := hb1.trans (hb2.mono hb1.size)
  have hs1 := hb1.size
  generalize L ++ M = K at *
  clear HCC hb1 hb2
  repeat' ((fail_if_success at_builtin); (fail_if_success at_make); (first | go_values | go_skip | go_guarded | go_step | go_upon | go_back))
  refine ((Sort_own _ v2 K w2 (by omega) ho2)).mono ?_; rintro e_ w3 ⟨rfl, ho3, hg3⟩; dsimp only
  have hb13 := below_own hb12 ho2 hs1 hg3
  have hp := sorted_pw K
  have hperm := List.mergeSort_perm K leB
  have hkl : (K.mergeSort leB).length = K.length := List.length_mergeSort K
  rw [← hkl] at ho3
  have HKP := Lib.hid (And.intro hp (And.intro hperm hkl))
  generalize K.mergeSort leB = Q at *
  clear ho2 hg3 hb12 hp hperm
  repeat' ((fail_if_success at_builtin); (fail_if_success at_make); (first | go_values | go_skip | go_guarded | go_step | go_upon | go_back))
  refine ((Compact_own _ v2 Q w3 (by omega) ho3)).mono ?_; rintro e_ w4 ⟨v4, rfl, ho4, hg4⟩; dsimp only
  have hb14 := below_own hb13 ho3 hs1 hg4
  have HST := Lib.hid (compact_strL HKP.out.1)
  have hcl := Lib.compact_length_le Q
  obtain ⟨A4, c4, rfl, _, hr4⟩ := Rd.of_own' ho4
  generalize Lib.compact Q = N at *
  clear ho3 hg4 hb13 ho4
  repeat' ((fail_if_success at_builtin); (fail_if_success at_make); (first | go_values | go_skip | go_guarded | go_step | go_upon | go_back))
  refine ((Clone_str A4 c4 N w4 (by omega) hr4)).mono ?_; rintro e_ w5 ⟨v5, rfl, ho5, hb5⟩; dsimp only
  have hb15 := hb14.trans (hb5.mono hb14.size)
  have hs4 := hb14.size
  clear hb14 hb5 hr4
  repeat' ((fail_if_success at_builtin); (fail_if_success at_make); (first | go_values | go_skip | go_guarded | go_step | go_upon | go_back))
  go_ret
  refine ⟨v5, N, rfl, ⟨HST.out.nd, HST.out.le, fun x => ?_⟩, by have := HLM.out; omega, own_lower ho5 hs4, hb15⟩
  rw [HST.out.mem, HKP.out.2.1.mem_iff, HMM.out]
set_option maxHeartbeats 8000000 in
theorem MarkAdds_walk (A : Option Addr) (n c : Nat) (L : List (List UInt8)) (B : Option Addr) (m d : Nat) (M : List (List UInt8)) (w : World) (hl : L.length = n) (hc : n ≤ c) (hr : Rd w 1 A n (strs L)) (hm : M.length = m) (hd : m ≤ d) (hr' : Rd w 1 B m (strs M)) (hn : n ≤ 1048576) (hmm : m ≤ 1048576) :
    Calls Try.prog 6 #[.slice A n c, .slice B m d] w fun e w' => e = .returned (.bool true) ∧ Below w.heap.size w w' := by
  subst hl
  subst hm
  have HRA := Lib.hid (fun w' (h : Below w.heap.size w w') => hr.below h)
  have HRB := Lib.hid (fun w' (h : Below w.heap.size w w') => hr'.below h)
  clear hr hr'
  have h63 : (L.length : Int) ≤ 9223372036854775807 := by omega
  have h63' : (M.length : Int) ≤ 9223372036854775807 := by omega
  go_enter Try.func6, Try.ntmps6
  repeat' ((fail_if_success at_builtin); (fail_if_success at_make); (first | go_values | go_skip | go_guarded | go_step | go_upon | go_back))
  refine ((Add_ok A B c d L M w hc hd (by omega) (by omega) (HRA.out w (Below.refl _ _)) (HRB.out w (Below.refl _ _)))).mono ?_; rintro e_ w1 ⟨v1, X, rfl, hX, hXl, ho1, hb1⟩; dsimp only
  obtain ⟨A1, c1, rfl, hc1, hr1⟩ := Rd.of_own' ho1
  have HRX := Lib.hid (fun w' (h : Below w1.heap.size w1 w') => hr1.below h)
  have HX := Lib.hid hX
  clear ho1 hr1 hX
  repeat' ((fail_if_success at_builtin); (fail_if_success at_make); (first | go_values | go_skip | go_guarded | go_step | go_upon | go_back))
  refine ((Add_ok B A d c M L w1 hd hc (by omega) (by omega) (HRB.out w1 hb1) (HRA.out w1 hb1))).mono ?_; rintro e_ w2 ⟨v2, Y, rfl, hY, _, ho2, hb2⟩; dsimp only
  have hYX : Y = X := StrL.uniq (p := fun x => x ∈ L ∨ x ∈ M) ⟨hY.nd, hY.le, fun x => by rw [hY.mem]; exact Or.comm⟩ HX.out
  subst hYX
  obtain ⟨A2, c2, rfl, hc2, hr2⟩ := Rd.of_own' ho2
  have hb02 := hb1.trans (hb2.mono hb1.size)
  clear ho2 hY
  repeat' ((fail_if_success at_builtin); (fail_if_success at_make); (first | go_values | go_skip | go_guarded | go_step | go_upon | go_back))
  refine ((Add_ok A1 B c1 d Y M w2 hc1 hd (by omega) (by omega) (HRX.out w2 hb2) (HRB.out w2 hb02))).mono ?_; rintro e_ w3 ⟨v3, Z, rfl, hZ, _, ho3, hb3⟩; dsimp only
  have hZY : Z = Y := StrL.uniq (p := fun x => x ∈ L ∨ x ∈ M) ⟨hZ.nd, hZ.le, fun x => by
    rw [hZ.mem, HX.out.mem]
    exact ⟨fun h => h.elim id .inr, fun h => h.elim (fun h => .inl (.inl h)) .inr⟩⟩ HX.out
  subst hZY
  obtain ⟨A3, c3, rfl, hc3, hr3⟩ := Rd.of_own' ho3
  have hb13 := hb2.trans (hb3.mono hb2.size)
  have hb03 := hb1.trans (hb13.mono hb1.size)
  have HQ1 := Eq_str A1 A2 c1 c2 Z Z w3 (by omega) (by omega) (HRX.out w3 hb13) (hr2.below hb3)
  rw [decide_eq_true rfl] at HQ1
  have HEQ1 := Lib.hid HQ1
  have HR3 := Lib.hid (fun w' (h : Below w3.heap.size w3 w') => hr3.below h)
  clear ho3 hZ hr2 hr3 HQ1 hb02 hb2 hb3
  repeat' ((fail_if_success at_builtin); (fail_if_success at_make); (first | go_values | go_skip | go_guarded | go_step | go_upon | go_back))
  refine ((HEQ1.out)).mono ?_; rintro e_ w4 ⟨rfl, hb4⟩; dsimp only
  have hb14 := hb13.trans (hb4.mono hb13.size)
  have HQ2 := Eq_str A1 A3 c1 c3 Z Z w4 (by omega) (by omega) (HRX.out w4 hb14) (HR3.out w4 hb4)
  rw [decide_eq_true rfl] at HQ2
  have HEQ2 := Lib.hid HQ2
  clear HQ2 HEQ1 hb13 hb4
  repeat' ((fail_if_success at_builtin); (fail_if_success at_make); (first | go_values | go_skip | go_guarded | go_step | go_upon | go_back))
  refine ((HEQ2.out)).mono ?_; rintro e_ w5 ⟨rfl, hb5⟩; dsimp only
  have hb15 := hb14.trans (hb5.mono hb14.size)
  clear HEQ2 hb14 hb5
  repeat' ((fail_if_success at_builtin); (fail_if_success at_make); (first | go_values | go_skip | go_guarded | go_step | go_upon | go_back))
  refine ((Sorted_str A1 c1 Z w5 (by omega) (HRX.out w5 hb15) HX.out.le)).mono ?_; rintro e_ w6 ⟨rfl, hb6⟩; dsimp only
  have hb16 := hb15.trans (hb6.mono hb15.size)
  clear hb15 hb6
  have hx7 : Arr (w6.alloc (.cells #[.string ⟨#[98]⟩] 9)) w6.heap.size 9 [.string ⟨#[98]⟩] := Arr.new w6 9 _
  have hb7 := hb16.alloc hb16.size (.cells #[.string ⟨#[98]⟩] 9)
  have hx8 := hx7.alloc (.cells #[.string ⟨#[97]⟩, .string ⟨#[98]⟩] 9)
  have hy8 : Arr ((w6.alloc (.cells #[.string ⟨#[98]⟩] 9)).alloc (.cells #[.string ⟨#[97]⟩, .string ⟨#[98]⟩] 9)) (w6.alloc (.cells #[.string ⟨#[98]⟩] 9)).heap.size 9 [.string ⟨#[97]⟩, .string ⟨#[98]⟩] := Arr.new _ _ _
  rw [World.size_alloc] at hy8
  have hb8 := hb7.alloc hb7.size (.cells #[.string ⟨#[97]⟩, .string ⟨#[98]⟩] 9)
  have hrx8 : Rd _ 1 (some ⟨w6.heap.size, 0, none⟩) 1 (strs [[98]]) := Rd.of_arr (cs := [.string ⟨#[98]⟩]) hx8 rfl rfl
  have hry8 : Rd _ 1 (some ⟨w6.heap.size + 1, 0, none⟩) 2 (strs [[97], [98]]) := Rd.of_arr (cs := [.string ⟨#[97]⟩, .string ⟨#[98]⟩]) hy8 rfl rfl
  have HAD := Lib.hid (Add_ok (some ⟨w6.heap.size, 0, none⟩) (some ⟨w6.heap.size + 1, 0, none⟩) 1 2 [[98]] [[97], [98]] _ (by simp) (by simp) (by simp) (by simp) hrx8 hry8)
  clear hx7 hx8 hy8 hrx8 hry8 hb7 hb16
  repeat' ((fail_if_success at_builtin); (fail_if_success at_make); (first | go_values | go_skip | go_guarded | go_step | go_upon | go_back))
  generalize ((w6.alloc (.cells #[.string ⟨#[98]⟩] 9)).alloc (.cells #[.string ⟨#[97]⟩, .string ⟨#[98]⟩] 9)) = w8 at *
  refine ((HAD.out)).mono ?_; rintro e_ w9 ⟨v9, N9, rfl, hN9, _, ho9, hb9⟩; dsimp only
  have hn2 : N9.length = 2 := hN9.len (N := [[97], [98]]) (by decide) (fun x => by simp; intro h; exact .inr h)
  obtain ⟨A9, c9, rfl, _, _⟩ := Rd.of_own' ho9
  have hb19 := hb8.trans (hb9.mono hb8.size)
  have hb09 := hb1.trans (hb19.mono hb1.size)
  rw [hn2]
  clear HAD hN9 ho9 hb8 hb9 hn2 hb03
  have hx10 : Arr (w9.alloc (.cells #[.slice A L.length c, .slice B M.length d] 42)) w9.heap.size 42 [.slice A L.length c, .slice B M.length d] := Arr.new w9 42 _
  have hb10 := hb09.alloc hb09.size (.cells #[.slice A L.length c, .slice B M.length d] 42)
  have hb110 := hb19.alloc hb19.size (.cells #[.slice A L.length c, .slice B M.length d] 42)
  have HCC := Lib.hid (ConcatS_ok w9.heap.size A B c d L M _ hc hd (by omega) (by omega) (hx10.cell (k := 0) rfl) (hx10.cell (k := 1) rfl) (HRA.out _ hb10) (HRB.out _ hb10))
  clear hx10 hb19
  repeat' ((fail_if_success at_builtin); (fail_if_success at_make); (first | go_values | go_skip | go_guarded | go_step | go_upon | go_back))
  generalize (w9.alloc (.cells #[.slice A L.length c, .slice B M.length d] 42)) = w10 at *
  refine ((HCC.out)).mono ?_; rintro e_ w11 ⟨v11, rfl, ho11, hb11⟩; dsimp only
  obtain ⟨A11, c11, rfl, _, hr11⟩ := Rd.of_own' ho11
  have hb011 := hb10.trans (hb11.mono hb10.size)
  have hb111 := hb110.trans (hb11.mono hb110.size)
  have hKl : (L ++ M).length ≤ 2097152 := by rw [List.length_append]; omega
  have HKM := Lib.hid (fun x => show x ∈ L ++ M ↔ x ∈ L ∨ x ∈ M from List.mem_append)
  generalize L ++ M = K at *
  have hK63 : (K.length : Int) ≤ 9223372036854775807 := by omega
  clear HCC ho11 hb11 hb10 hb110 hb09
  repeat' ((fail_if_success at_builtin); (fail_if_success at_make); (first | go_values | go_skip | go_guarded | go_step | go_upon | go_back))
  go_loopg [46] K.length (fun gn i wr => ∃ k : Nat, gn = K.length - k ∧ i = .int .i64 k ∧ k ≤ K.length ∧ Below w11.heap.size w11 wr)
  case atStart => exact ⟨0, rfl, rfl, by omega, Below.refl _ _⟩
  case round =>
    obtain ⟨k, hgk, rfl, hk, hbel⟩ := hrel
    have HGK := Lib.hid hgk
    have hb1r := hb111.trans (hbel.mono hb111.size)
    clear hgk
    by_cases hlt : k < K.length
    rotate_left
    · obtain rfl : k = K.length := by omega
      have hlb : decide (K.length < K.length) = false := by simp
      repeat' ((fail_if_success at_builtin); (fail_if_success at_make); (first | go_values | go_skip | go_guarded | go_step | go_upon | go_back))
      refine ((Clone_str A1 c1 Z wr (by omega) (HRX.out wr hb1r))).mono ?_; rintro e_ w12 ⟨v12, rfl, ho12, hb12⟩; dsimp only
      have hb012 := hb011.trans ((hbel.trans (hb12.mono hbel.size)).mono hb011.size)
      have hs12 := (hb011.trans (hbel.mono hb011.size)).size
      repeat' ((fail_if_success at_builtin); (fail_if_success at_make); (first | go_values | go_skip | go_guarded | go_step | go_upon | go_back))
      refine ((Compact_own _ v12 Z w12 (by omega) ho12)).mono ?_; rintro e_ w13 ⟨v13, rfl, ho13, hg13⟩; dsimp only
      have hb013 := below_own hb012 ho12 hs12 hg13
      have hcz : Lib.compact Z = Z := StrL.uniq (compact_strL HX.out.le) ⟨HX.out.nd, HX.out.le, fun x => Iff.rfl⟩
      rw [hcz] at ho13
      obtain ⟨A13, c13, rfl, _, _⟩ := Rd.of_own' ho13
      repeat' ((fail_if_success at_builtin); (fail_if_success at_make); (first | go_values | go_skip | go_guarded | go_step | go_upon | go_back))
      go_ret
      exact ⟨rfl, hb013⟩
    have hlb : decide (k < K.length) = true := decide_eq_true hlt
    have hk0 : (0 : Int) ≤ (k : Int) := by omega
    have hk1 : (k : Int) < (K.length : Int) := by omega
    obtain ⟨bb, off, hAb, _, hcell⟩ := (hr11.below hbel).2 (by omega)
    subst hAb
    have e0 := hcell k _ (strs_at K k hlt)
    have hin : K[k] ∈ Z := (HX.out.mem _).2 ((HKM.out _).1 (List.getElem_mem hlt))
    have HKL := Lib.hid hlt
    generalize K[k] = q at *
    have hct := Has_str A1 c1 Z q wr (by omega) (HRX.out wr hb1r)
    rw [decide_eq_true hin] at hct
    have HCT := Lib.hid hct
    clear hcell hct hin
    repeat' ((fail_if_success at_builtin); (fail_if_success at_make); (first | go_values | go_skip | go_guarded | go_step | go_upon | go_back))
    refine ((HCT.out)).mono ?_; rintro e_ wx ⟨rfl, rfl⟩; dsimp only
    repeat' ((fail_if_success at_builtin); (fail_if_success at_make); (first | go_values | go_skip | go_guarded | go_step | go_upon | go_back))
    go_roundg (K.length - (k + 1))
    case measure => have := HGK.out; have := HKL.out; omega
    case rel => exact ⟨k + 1, rfl, by go_num, by have := HKL.out; omega, hbel⟩
end Go.Proofs.Ytdpedkgdobfemaa
