/- keep.actionOf. Conditions: the sizes. -/
import Derived.Test.YtkfipkmkmhkfaaaADec
import Derived.Test.YtkfipkmkmhkfaaaRval
namespace Go.Proofs.Ytkfipkmkmhkfaaa
open Go.RowKit
set_option linter.unusedVariables false
set_option linter.unusedSimpArgs false
set_option maxRecDepth 100000

def cmdOf (r : RawP) : List UInt8 := [114, 117, 110] ++ Lib.repeatL [120] (pk r.a 50)
theorem rep_all : ∀ k, (Lib.repeatL [120] k).all chA = true
  | 0 => rfl
  | k + 1 => by rw [Lib.repeatL, List.all_append, rep_all k]; decide
theorem cmdOf_len (r : RawP) : (cmdOf r).length = 3 + pk r.a 50 := by
  rw [cmdOf, List.length_append, Lib.repeatL_length]; simp
theorem cmdOf_ok (r : RawP) (l : List RawP) : actC (cmdOf r) (lst l) = 0 := by
  have h := pk_lt r.a (m := 50) (by omega)
  have hl := cmdOf_len r
  have hc : cmdC (cmdOf r) = 0 := by
    rw [cmdC, if_neg (by omega), if_pos]
    rw [cmdOf, List.all_append, rep_all]; decide
  rw [actC, hc, if_neg (by decide)]
  exact chk_lst l

set_option maxHeartbeats 2000000 in
theorem ActOf_ok (r : RawP) (A : Option Addr) (n c : Nat) (l : List RawP) (w : World) (hro : RawOk r) (hl : l.length = n) (hc : n ≤ c) (hm : c ≤ maxLen) (hok : ∀ r ∈ l, RawOk r) (hr : Rd w 4 A n (rcs l)) :
    Calls Try.prog 12 #[rval r, .slice A n c] w fun e w' => ∃ v, e = .returned (actV (cmdOf r) v) ∧ w'.ownsRow w.heap.size 45 3 v (lst l).length (pcs (lst l)) ∧ Below w.heap.size w w' := by
  have HLST := Lib.hid (fun w' hr' => listed_ok A n c l w' hl hc hm hok hr')
  have hk := pk_lt r.a (m := 50) (by omega)
  have HP := Lib.hid (fun w' => Picked_ok r.a 50 50 rfl w' hro.a0 hro.a1 (by omega) (by omega))
  have hcm : cmdOf r = [114, 117, 110] ++ Lib.repeatL [120] (pk r.a 50) := rfl
  have hcl := cmdOf_len r
  obtain ⟨rk, ra, rb, rt⟩ := r
  dsimp only [rval] at hk HP hcm hcl ⊢
  generalize cmdOf ⟨rk, ra, rb, rt⟩ = C at *
  generalize pk ra 50 = k at *
  have HREP := Lib.hid (fun w' => Try.strings_Repeat ⟨#[120]⟩ k w' (by omega) (by show 1 * k ≤ _; omega))
  obtain ⟨X, hX⟩ : ∃ X : ByteArray, X = ⟨(Lib.repeatL [120] k).toArray⟩ := ⟨_, rfl⟩
  obtain ⟨S, hS⟩ : ∃ S : ByteArray, S = (⟨#[114, 117, 110]⟩ : ByteArray) ++ X := ⟨_, rfl⟩
  have hXs : X.size = k := by rw [hX]; show (Lib.repeatL [120] k).toArray.size = k; rw [List.size_toArray, Lib.repeatL_length]; simp
  have hSC : S = ⟨C.toArray⟩ := by
    rw [hS, hX, hcm]
    cases h : ((⟨#[114, 117, 110]⟩ : ByteArray) ++ ⟨(Lib.repeatL [120] k).toArray⟩)
    have h2 := congrArg ByteArray.data h
    rw [ByteArray.data_append] at h2
    simp only [ByteArray.mk.injEq]
    exact h2.symm.trans (by simp)
  have qa := fun w' => run_string_add_sum (P := Try.prog) (w := w') ⟨#[114, 117, 110]⟩ X (by rw [hXs]; show 3 + k ≤ _; omega)
  rw [← hS] at qa
  have HX := Lib.hid (show (⟨(Lib.repeatL (⟨#[120]⟩ : ByteArray).data.toList k).toArray⟩ : ByteArray) = X from hX.symm)
  have HSC := Lib.hid hSC
  have HRL := Lib.hid hr
  clear hS hSC hX hcm hro hl hok hr
  have hA0 : Arr (w.alloc (.cells #[.int .i64 rk, .int .i64 ra, .int .i64 rb, .string rt] 33)) w.heap.size 33 [.int .i64 rk, .int .i64 ra, .int .i64 rb, .string rt] := Arr.new w _ _
  have hb0 := (Below.refl w.heap.size w).alloc (Nat.le_refl _) (.cells #[.int .i64 rk, .int .i64 ra, .int .i64 rb, .string rt] 33)
  have hs0 : (w.alloc (.cells #[.int .i64 rk, .int .i64 ra, .int .i64 rb, .string rt] 33)).heap.size = w.heap.size + 1 := World.size_alloc _ _
  obtain ⟨w0, hw0⟩ : ∃ w0, w0 = w.alloc (.cells #[.int .i64 rk, .int .i64 ra, .int .i64 rb, .string rt] 33) := ⟨_, rfl⟩
  rw [← hw0] at hA0 hb0 hs0
  have hA1 := Arr.new w0 26 [.string ⟨#[]⟩, .slice none 0 0]
  have hb1 := hb0.alloc hb0.size (.cells #[.string ⟨#[]⟩, .slice none 0 0] 26)
  have hr1 : Rd w0 4 A n (rcs l) := by rw [hw0]; exact HRL.out.alloc _
  have hr2 := hr1.alloc (.cells #[.string ⟨#[]⟩, .slice none 0 0] 26)
  obtain ⟨w1, hw1⟩ : ∃ w1, w1 = w0.alloc (.cells #[.string ⟨#[]⟩, .slice none 0 0] 26) := ⟨_, rfl⟩
  have hA1' : Arr w1 w0.heap.size 26 [.string ⟨#[]⟩, .slice none 0 0] := by rw [hw1]; exact hA1
  rw [← hw1] at hb1 hr2
  rw [hs0] at hA1'
  have HW1 := Lib.hid (show (w.alloc (.cells #[.int .i64 rk, .int .i64 ra, .int .i64 rb, .string rt] 33)).alloc (.cells #[.string ⟨#[]⟩, .slice none 0 0] 26) = w1 from by rw [hw1, hw0])
  clear hA1 hw1 hw0 hr1 hA0 hb0 hs0
  go_enter Try.func12, Try.ntmps12
  repeat' ((fail_if_success at_builtin); (fail_if_success at_make); (first | go_values | go_skip | go_guarded | go_step | go_upon | go_back))
  rw [HW1.out]
  obtain ⟨g, hg⟩ : ∃ g, g = w.heap.size + 1 := ⟨_, rfl⟩
  have hgw : w.heap.size ≤ g := by omega
  rw [← hg] at hA1' ⊢
  clear hg
  refine ((HP.out _)).mono ?_; rintro e_ _ ⟨rfl, rfl⟩; dsimp only
  repeat' ((fail_if_success at_builtin); (fail_if_success at_make); (first | go_values | go_skip | go_guarded | go_step | go_upon | go_back))
  refine ((HREP.out w1)).mono ?_; rintro e_ w2 ⟨rfl, hb2⟩; dsimp only
  rw [HX.out]
  have hb12 := hb1.trans (hb2.mono hb1.size)
  have hA2 := hA1'.below hb2
  have hr3 := hr2.below hb2
  repeat' ((fail_if_success at_builtin); (fail_if_success at_make); (first | go_values | go_skip | go_guarded | go_step | go_upon | go_back))
  refine ((HLST.out w2 hr3)).mono ?_; rintro e_ w3 ⟨v3, rfl, ho3, hb3⟩; dsimp only
  have hb13 := hb12.trans (hb3.mono hb12.size)
  have hA3 := hA2.below hb3
  have hneg : v3.ownBlock ≠ some g := fun h => by have := (ho3.lt g h).1; have := hA2.lt; omega
  have ho3' := own_lower ho3 hb12.size
  have hA9 := hA3.put2 (.string S) v3
  have hB9 := Below.put2 hb13 hgw (.string S) v3
  have ho9 := own_other (k := 1) (u := v3) (own_other (k := 0) (u := .string S) ho3' hneg) hneg
  have z0 := hA3.frozen 0
  have z1 := hA3.frozen 1
  have y0 := hA3.cell (k := 0) rfl
  have y1 := hA3.cell (k := 1) rfl
  have y2 := (hA3.set (k := 0) (by simp) (.string S)).cell (k := 1) rfl
  have y3 := (hA3.set (k := 0) (by simp) (.string S)).frozen 1
  obtain ⟨A3, c3, rfl, _, _⟩ := Rd.of_own' ho3
  repeat' ((fail_if_success at_builtin); (fail_if_success at_make); (first | go_values | go_skip | go_guarded | go_step | go_upon | go_back))
  refine bodyPost_ret (results_cell_row rfl _ _ g _ _ _ _ (by rfl) hA9 Try.underlying26 rfl (by kernel_rfl)) rfl ⟨_, ?_, ho9, hB9⟩
  rw [actV, ← HSC.out]
end Go.Proofs.Ytkfipkmkmhkfaaa
