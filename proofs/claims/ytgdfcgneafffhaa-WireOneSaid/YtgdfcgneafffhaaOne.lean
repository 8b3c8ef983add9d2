/- The walk of WireOne. Conditions: an int64's bounds, a slice's size. -/
import Derived.Test.YtgdfcgneafffhaaShort
namespace Go.Proofs.Ytgdfcgneafffhaa
open Go.RowKit
set_option linter.unusedVariables false
set_option maxRecDepth 20000
theorem WireOne_walk (A : Option Addr) (n c : Nat) (l : List UInt8) (p q : Int) (w : World) (hl : l.length = n) (hc : n ≤ c) (hm : c ≤ 140737488351232) (hr : Rd w 1 A n (bys l))
    (h0 : -9223372036854775808 ≤ p) (h1 : p ≤ 9223372036854775807) (h2 : -9223372036854775808 ≤ q) (h3 : q ≤ 9223372036854775807) :
    Calls Try.prog 10 #[.slice A n c, .int .i64 p, .int .i64 q] w fun e w' => e = .returned (.bool true) ∧ Below w.heap.size w w' := by
  obtain ⟨m, rest, er, hrd⟩ : ∃ m rest er, rdNum l = (m, rest, er) := ⟨_, _, _, rfl⟩
  by_cases her : er = 0
  · subst her
    obtain ⟨hmb, hlr⟩ := rdNum_inv hrd
    have hln : (num m).length + rest.length = n := by rw [← hl, hlr]; simp
    have htk : l.take (n - rest.length) = num m := by rw [hlr, show n - rest.length = (num m).length by omega]; simp
    have HR := Lib.hid (ReadNumber_at 0 rfl hrd hl hc (by omega) hr); clear hrd hlr
    have hle : rest.length ≤ n := by omega
    clear hln
    go_enter Try.func10, Try.ntmps10
    repeat' ((fail_if_success at_builtin); (fail_if_success at_make); (first | go_values | go_skip | go_guarded | go_step | go_upon | go_back))
    refine ((HR.out)).mono ?_; rintro e_ w1 ⟨A1, c1, rfl, ho1, hb1⟩; dsimp only
    repeat' ((fail_if_success at_builtin); (fail_if_success at_make); (first | go_values | go_skip | go_guarded | go_step | go_upon | go_back))
    have hr2 : Rd (w1.alloc (.cells #[.int .u8 128, .int .u8 0] 5)) 1 (some ⟨w1.heap.size, 0, none⟩) 2 (bys [128, 0]) := Rd.newN (us := [.int .u8 128, .int .u8 0]) (m := 2) rfl
    have HR2 := Lib.hid (ReadNumber_at 3 (n := 2) (c := 2) rfl (show rdNum [128, 0] = (0, [], 3) by decide) rfl (by omega) (by omega) hr2); clear hr2
    refine ((HR2.out)).mono ?_; rintro e_ w2 ⟨A2, c2, rfl, ho2, hb2⟩; dsimp only
    have hb12 := hb1.trans ((((Below.refl _ w1).alloc (Nat.le_refl _) _).trans (hb2.mono (by simp))).mono hb1.size)
    clear HR2 HR
    repeat' ((fail_if_success at_builtin); (fail_if_success at_make); (first | go_values | go_skip | go_guarded | go_step | go_upon | go_back))
    refine ((Number_own m _ rfl _ hmb)).mono ?_; rintro e_ w3 ⟨A3, c3, rfl, ho3, hb3⟩; dsimp only
    have hb13 := hb12.trans (hb3.mono hb12.size)
    have hr1 := ((hr.below hb13).pre (k := n - rest.length) (by omega))
    rw [Nat.mul_one, bys_take, htk] at hr1
    have hs1 := fun nq => run_str (P := Try.prog) (w := w3.drewN nq) (c := c3) (src := 31) (dst := 9) Try.underlying31 Try.underlying5 Try.underlying9 rfl (l := num m) ho3.rd
    have hs2 := fun nq => run_str (P := Try.prog) (w := w3.drewN nq) (c := c) (src := 31) (dst := 9) Try.underlying31 Try.underlying5 Try.underlying9 (by have := hr1.1; rw [bys_len] at this; omega) (l := num m) hr1
    clear hr1 htk
    repeat' ((fail_if_success at_builtin); (fail_if_success at_make); (first | go_values | go_skip | go_guarded | go_step | go_upon | go_back))
    go_quiet (fail)
    repeat' ((fail_if_success at_builtin); (fail_if_success at_make); (first | go_values | go_skip | go_guarded | go_step | go_upon | go_back))
    have hb14 := bdrewN hb13 nq
    refine ((Picked_ok p 4294967296 4294967296 rfl _ h0 h1 (by omega) (by omega))).mono ?_; rintro e_ w_ ⟨rfl, rfl⟩; dsimp only
    have hp := pk_lt p (show 0 < 4294967296 by omega)
    generalize pk p 4294967296 = P at *
    repeat' ((fail_if_success at_builtin); (fail_if_success at_make); (first | go_values | go_skip | go_guarded | go_step | go_upon | go_back))
    refine ((Number_own P _ rfl _ (by omega))).mono ?_; rintro e_ w4 ⟨A4, c4, rfl, ho4, hb4⟩; dsimp only
    have hl4 := (num_len P 4 (by omega)).1
    have hl5 := (num_len P 4 (by omega)).2
    have hne : (((num P).length : Int) == 0) = false := beq_eq_false_iff_ne.2 (by omega)
    repeat' ((fail_if_success at_builtin); (fail_if_success at_make); (first | go_values | go_skip | go_guarded | go_step | go_upon | go_back))
    refine ((Picked_ok q (num P).length _ rfl _ h2 h3 (by omega) (by omega))).mono ?_; rintro e_ w_ ⟨rfl, rfl⟩; dsimp only
    have hq := pk_lt q (show 0 < (num P).length by omega)
    generalize pk q (num P).length = Q at *
    have hsh := rdNum_short P Q (by omega) hq
    have hr4 := (ho4.rd.pre (k := Q) (by omega))
    rw [Nat.mul_one, bys_take] at hr4
    have hc4 := ho4.cap
    repeat' ((fail_if_success at_builtin); (fail_if_success at_make); (first | go_values | go_skip | go_guarded | go_step | go_upon | go_back))
    refine ((ReadNumber_at 8 rfl hsh (by rw [List.length_take]; omega) (by omega) (by omega) hr4)).mono ?_; rintro e_ w5 ⟨A5, c5, rfl, ho5, hb5⟩; dsimp only
    repeat' ((fail_if_success at_builtin); (fail_if_success at_make); (first | go_values | go_skip | go_guarded | go_step | go_upon | go_back))
    go_ret
    exact ⟨rfl, hb14.trans ((hb4.trans (hb5.mono hb4.size)).mono hb14.size)⟩
  · have he1 : ((er : Int) == 0) = false := beq_eq_false_iff_ne.2 (by omega)
    have HR := Lib.hid (ReadNumber_at _ rfl hrd hl hc (by omega) hr); clear hrd
    go_enter Try.func10, Try.ntmps10
    repeat' ((fail_if_success at_builtin); (fail_if_success at_make); (first | go_values | go_skip | go_guarded | go_step | go_upon | go_back))
    refine ((HR.out)).mono ?_; rintro e_ w1 ⟨A1, c1, rfl, ho1, hb1⟩; dsimp only
    repeat' ((fail_if_success at_builtin); (fail_if_success at_make); (first | go_values | go_skip | go_guarded | go_step | go_upon | go_back))
    have hr2 : Rd (w1.alloc (.cells #[.int .u8 128, .int .u8 0] 5)) 1 (some ⟨w1.heap.size, 0, none⟩) 2 (bys [128, 0]) := Rd.newN (us := [.int .u8 128, .int .u8 0]) (m := 2) rfl
    have HR2 := Lib.hid (ReadNumber_at 3 (n := 2) (c := 2) rfl (show rdNum [128, 0] = (0, [], 3) by decide) rfl (by omega) (by omega) hr2); clear hr2
    refine ((HR2.out)).mono ?_; rintro e_ w2 ⟨A2, c2, rfl, ho2, hb2⟩; dsimp only
    have hb12 := hb1.trans ((((Below.refl _ w1).alloc (Nat.le_refl _) _).trans (hb2.mono (by simp))).mono hb1.size)
    clear HR2 HR
    repeat' ((fail_if_success at_builtin); (fail_if_success at_make); (first | go_values | go_skip | go_guarded | go_step | go_upon | go_back))
    refine ((Picked_ok p 4294967296 4294967296 rfl _ h0 h1 (by omega) (by omega))).mono ?_; rintro e_ w_ ⟨rfl, rfl⟩; dsimp only
    have hp := pk_lt p (show 0 < 4294967296 by omega)
    generalize pk p 4294967296 = P at *
    repeat' ((fail_if_success at_builtin); (fail_if_success at_make); (first | go_values | go_skip | go_guarded | go_step | go_upon | go_back))
    refine ((Number_own P _ rfl _ (by omega))).mono ?_; rintro e_ w4 ⟨A4, c4, rfl, ho4, hb4⟩; dsimp only
    have hl4 := (num_len P 4 (by omega)).1
    have hl5 := (num_len P 4 (by omega)).2
    have hne : (((num P).length : Int) == 0) = false := beq_eq_false_iff_ne.2 (by omega)
    repeat' ((fail_if_success at_builtin); (fail_if_success at_make); (first | go_values | go_skip | go_guarded | go_step | go_upon | go_back))
    refine ((Picked_ok q (num P).length _ rfl _ h2 h3 (by omega) (by omega))).mono ?_; rintro e_ w_ ⟨rfl, rfl⟩; dsimp only
    have hq := pk_lt q (show 0 < (num P).length by omega)
    generalize pk q (num P).length = Q at *
    have hsh := rdNum_short P Q (by omega) hq
    have hr4 := (ho4.rd.pre (k := Q) (by omega))
    rw [Nat.mul_one, bys_take] at hr4
    have hc4 := ho4.cap
    repeat' ((fail_if_success at_builtin); (fail_if_success at_make); (first | go_values | go_skip | go_guarded | go_step | go_upon | go_back))
    refine ((ReadNumber_at 8 rfl hsh (by rw [List.length_take]; omega) (by omega) (by omega) hr4)).mono ?_; rintro e_ w5 ⟨A5, c5, rfl, ho5, hb5⟩; dsimp only
    repeat' ((fail_if_success at_builtin); (fail_if_success at_make); (first | go_values | go_skip | go_guarded | go_step | go_upon | go_back))
    go_ret
    exact ⟨rfl, hb12.trans ((hb4.trans (hb5.mono hb4.size)).mono hb12.size)⟩
end Go.Proofs.Ytgdfcgneafffhaa
