/- The walk of BlobTrue. Conditions: the sizes. -/
import Derived.Test.YtlejpmbofbghfaaBlob
namespace Go.Proofs.Ytlejpmbofbghfaa
open Go.RowKit
set_option linter.unusedVariables false
set_option linter.unusedSimpArgs false
set_option maxRecDepth 100000

theorem Turned_one (A : Option Addr) (n c : Nat) (l : List UInt8) (at_ : Int) (w : World) (hl : l.length = n) (h0 : 0 < n) (hc : n ≤ c) (hm : n ≤ 140737488353280) (hr : Rd w 1 A n (bys l)) (ha0 : -9223372036854775808 ≤ at_) (ha1 : at_ ≤ 9223372036854775807) :
    Calls Try.prog 17 #[.slice A n c, .int .i64 at_, .int .u8 1] w fun e w' => ∃ T A' c', e = .returned (.slice A' n c') ∧ T.length = n ∧ T ≠ l ∧ n ≤ c' ∧ Rd w' 1 A' n (bys T) ∧ Below w.heap.size w w' := by
  have h := Turned_ok A n c l at_ 1 w hl h0 hc hm hr ha0 ha1
  refine h.mono fun e w' ⟨A', c', h1, h2, h3, h4⟩ => ⟨_, A', c', h1, ?_, ?_, h2, h3, h4⟩
  · rw [turn1_len, hl]
  · exact turn1_ne _ _ _ (by rw [hl]; exact pk_lt at_ h0) (by decide)

theorem BlobTrue_walk (r : RawP) (at_ : Int) (w : World) (ho : RawOk r) (ha0 : -9223372036854775808 ≤ at_) (ha1 : at_ ≤ 9223372036854775807) :
    Calls Try.prog 3 #[rval r, .int .i64 at_] w fun e w' => e = .returned (.bool true) ∧ Below w.heap.size w w' := by
  have HD := Lib.hid (fun w' => Data_ok r 60 60 rfl (by omega) ho w')
  have hdl := datL_len r 60
  generalize datL r 60 = d at *
  unfold rval
  obtain ⟨rk, ra, rb, rt⟩ := r
  dsimp only [rval] at HD
  go_enter Try.func3, Try.ntmps3
  repeat' ((fail_if_success at_builtin); (fail_if_success at_make); (first | go_values | go_skip | go_guarded | go_step | go_upon | go_back))
  have hb1 := (Below.refl w.heap.size w).alloc (Nat.le_refl _) (.cells #[.int .i64 rk, .int .i64 ra, .int .i64 rb, .string rt] 23)
  generalize w.alloc (.cells #[.int .i64 rk, .int .i64 ra, .int .i64 rb, .string rt] 23) = w1 at *
  refine ((HD.out w1)).mono ?_; rintro e_ w2 ⟨A2, c2, rfl, ho2, hb2⟩; dsimp only
  have hb12 := hb1.trans (hb2.mono hb1.size)
  repeat' ((fail_if_success at_builtin); (fail_if_success at_make); (first | go_values | go_skip | go_guarded | go_step | go_upon | go_back))
  have hsrc : Src Try.prog (w2.alloc (.cells #[.int .u8 120] 5)) 24 (.slice (some ⟨w2.heap.size, 0, none⟩) 1 1) 1 [120] := Src.sl Try.underlying24 1 (Rd.new1 _)
  have ho2a : OwnZ (w2.alloc (.cells #[.int .u8 120] 5)) w1.heap.size A2 c2 d := ho2.below ((Below.refl _ _).alloc (Nat.le_refl _) _)
  have hb2a := hb12.alloc hb12.size (.cells #[.int .u8 120] 5)
  refine wpList_apZ rfl (.tmp 9) (.tmp 10) rfl (by rfl) ho2a rfl hsrc (by omega) (by rw [World.size_alloc]; have := hb2.size; omega) ?_
  intro A3 c3 w3 ho3 hb3
  have hb13 := hb2a.trans (hb3.mono hb1.size)
  have hll : (d ++ [120]).length ≤ 61 := by rw [List.length_append]; simp only [List.length_cons, List.length_nil]; omega
  have hr3 := ho3.rd
  have hc3 := ho3.cap.1
  have hm3 := ho3.cap.2
  generalize d ++ [120] = l at *
  clear ho3 hb3 hb2a ho2a hsrc ho2 hb2 hb12 HD hdl
  repeat' ((fail_if_success at_builtin); (fail_if_success at_make); (first | go_values | go_skip | go_guarded | go_step | go_upon | go_back))
  refine ((Digest_ok A3 l.length c3 l w3 rfl hc3 (by omega) hr3)).mono ?_; rintro e_ w4 ⟨rfl, hb4⟩; dsimp only
  have hb14 := hb13.trans (hb4.mono hb13.size)
  have hr4 := hr3.below hb4
  obtain ⟨D, hD⟩ : ∃ D : ByteArray, D = ⟨(shaS l).toArray⟩ := ⟨_, rfl⟩
  have hDl : D.data.toList = shaS l := by rw [hD]
  rw [← hD]
  have HD := Lib.hid hDl
  clear hD hDl hb4 hb13 hr3
  obtain ⟨w5, hw5⟩ : ∃ w5, w5 = w4.alloc (.cells #[.string D, .slice A3 l.length c3, .int .i64 0, .bool false] 28) := ⟨_, rfl⟩
  have hA5 : Arr w5 w4.heap.size 28 [.string D, .slice A3 l.length c3, .int .i64 0, .bool false] := by rw [hw5]; exact Arr.new w4 _ _
  have hb15 : Below w.heap.size w w5 := by rw [hw5]; exact hb14.alloc hb14.size _
  have hr5 : Rd w5 1 A3 l.length (bys l) := by rw [hw5]; exact hr4.alloc _
  have hg4 : w.heap.size ≤ w4.heap.size := hb14.size
  have HR := Lib.hid (fun w' hr' => Right_ok D A3 l.length c3 l 0 false w' (by decide) (by decide) (by have := shaS_len l; have h2 : D.data.toList.length = D.size := (by rw [Array.length_toList]; rfl); rw [HD.out] at h2; omega) rfl (by omega) hc3 hr')
  have hr0 : rightC D.data.toList l = 0 := by rw [HD.out, rightC, hexC_sha, if_neg (by decide), if_neg (by simp)]
  rw [hr0] at HR
  clear hb14 hr4 hr0
  have WW := Lib.hid hw5
  clear hw5
  repeat' ((fail_if_success at_builtin); (fail_if_success at_make); (first | go_values | go_skip | go_guarded | go_step | go_upon | go_back))
  rw [← WW.out]
  generalize w4.heap.size = g at *
  refine ((HR.out w5 hr5)).mono ?_; rintro e_ w6 ⟨rfl, hb6⟩; dsimp only
  have hb16 := hb15.trans (hb6.mono hb15.size)
  have hA6 := hA5.below hb6
  have hr6 := hr5.below hb6
  obtain ⟨w7, hw7⟩ : ∃ w7, w7 = w6.alloc (.cells #[.string D, .slice A3 l.length c3, .int .i64 0, .bool false] 28) := ⟨_, rfl⟩
  have hA7 : Arr w7 w6.heap.size 28 [.string D, .slice A3 l.length c3, .int .i64 0, .bool false] := by rw [hw7]; exact Arr.new w6 _ _
  have hA7' : Arr w7 g 28 [.string D, .slice A3 l.length c3, .int .i64 0, .bool false] := by rw [hw7]; exact hA6.alloc _
  have hb17 : Below w.heap.size w w7 := by rw [hw7]; exact hb16.alloc hb16.size _
  have hr7 : Rd w7 1 A3 l.length (bys l) := by rw [hw7]; exact hr6.alloc _
  have hg6 : w.heap.size ≤ w6.heap.size := hb16.size
  obtain ⟨w8, qz, hz8, hb8⟩ := conv_Z D w7 (by have := shaS_len l; have h2 : D.data.toList.length = D.size := (by rw [Array.length_toList]; rfl); rw [HD.out] at h2; simp only [maxLen]; omega)
  have hb18 := hb17.trans (hb8.mono hb17.size)
  have hA8 := hA7.below hb8
  have hr8 := hr7.below hb8
  have hrz := hz8.rd
  have hcz := hz8.cap.1
  rw [HD.out] at qz hrz hcz
  have hd64 := shaS_len l
  rw [hd64] at qz hrz hcz
  generalize grownCap w7 D.size 0 5 = cz at qz hrz hcz hz8
  generalize w7.heap.size = gz at qz hrz hcz hz8
  rw [hw7] at qz
  have hr6' := hr6
  have f0 := hA6.cell (k := 0) rfl
  have f1 := hA6.cell (k := 1) rfl
  have f2 := hA6.cell (k := 2) rfl
  have f3 := hA6.cell (k := 3) rfl
  have F0 := hA7'.cell (k := 0) rfl
  rw [hw7] at F0
  clear hw7 hA7 hA7' hz8 hb8 hb17 hb16 hb6 hA5 hb15 hr5 hr6 hr7
  repeat' ((fail_if_success at_builtin); (fail_if_success at_make); (first | go_values | go_skip | go_guarded | go_step | go_upon | go_back))
  refine ((Turned_one (some ⟨gz, 0, none⟩) 64 cz (shaS l) at_ w8 hd64 (by omega) hcz (by omega) hrz ha0 ha1)).mono ?_; rintro e_ w9 ⟨T, A9, c9, rfl, hT64, hTne, hc9, hr9, hb9⟩; dsimp only
  have hb19 := hb18.trans (hb9.mono hb18.size)
  have hA9 := hA8.below hb9
  have hr9' := hr8.below hb9
  have qs := run_str (P := Try.prog) (c := c9) (src := 24) (dst := 9) Try.underlying24 Try.underlying5 Try.underlying9 hT64 hr9
  obtain ⟨E, hE⟩ : ∃ E : ByteArray, E = ⟨T.toArray⟩ := ⟨_, rfl⟩
  have hEl : E.data.toList = T := by rw [hE]
  rw [← hE] at qs
  have hEs : E.size = 64 := by
    have h2 : E.data.toList.length = E.size := (by rw [Array.length_toList]; rfl)
    rw [hEl] at h2; omega
  have hrc : rightC E.data.toList l = 9 ∨ rightC E.data.toList l = 3 := by
    rw [hEl, rightC]
    rcases hexC_64 T hT64 with h | h
    · left; rw [h, if_neg (by decide), if_pos (fun e => hTne e.symm)]
    · right; rw [h, if_pos (by decide)]
  obtain ⟨w10, hw10⟩ : ∃ w10, w10 = w9.setCell ⟨w6.heap.size, 0, none⟩ (.string E) := ⟨_, rfl⟩
  have hA10 : Arr w10 w6.heap.size 28 [.string E, .slice A3 l.length c3, .int .i64 0, .bool false] := by rw [hw10]; exact hA9.set (k := 0) (by simp) _
  have hb110 : Below w.heap.size w w10 := by rw [hw10]; exact Below.setCell hb19 hg6 _
  have hne : ∀ b off, A3 = some ⟨b, off, none⟩ → 0 < l.length → b ≠ w6.heap.size := fun b off e h => by
    obtain ⟨b', o', e', hb', hc'⟩ := hr6'.2 h
    rw [e] at e'; cases e'; omega
  have hr10 : Rd w10 1 A3 l.length (bys l) := by
    rw [hw10]
    rcases Nat.eq_zero_or_pos l.length with h | h
    · refine ⟨by rw [bys_len, Nat.mul_one], fun h' => by omega⟩
    · obtain ⟨b', o', e', hb', hc'⟩ := hr9'.2 h
      have hn := hne b' o' e' h
      rw [e'] at hr9' ⊢
      exact hr9'.other hn _
  have k0 := hA9.cell (k := 0) rfl
  have k1 := hA9.frozen 0
  have HR2 := Lib.hid (fun w' hr' => Right_ok E A3 l.length c3 l 0 false w' (by decide) (by decide) (by omega) rfl (by omega) hc3 hr')
  have f0 := hA10.cell (k := 0) rfl
  have f1 := hA10.cell (k := 1) rfl
  have f2 := hA10.cell (k := 2) rfl
  have f3 := hA10.cell (k := 3) rfl
  have HW := Lib.hid hw10
  rw [hw10] at f0 f1 f2 f3
  generalize rightC E.data.toList l = rc at *
  clear hw10 hE hEl hTne hA9 hr9' hr9 qz hb9
  repeat' ((fail_if_success at_builtin); (fail_if_success at_make); (first | go_values | go_skip | go_guarded | go_step | go_upon | go_back))
  rw [← HW.out]
  clear k0 k1 qs f0 f1 f2 f3
  refine ((HR2.out w10 hr10)).mono ?_; rintro e_ w11 ⟨rfl, hb11⟩; dsimp only
  have hb111 := hb110.trans (hb11.mono hb110.size)
  have hA11 := hA10.below hb11
  have hr11 := hr10.below hb11
  have f0 := hA11.cell (k := 0) rfl
  have f1 := hA11.cell (k := 1) rfl
  have f2 := hA11.cell (k := 2) rfl
  have f3 := hA11.cell (k := 3) rfl
  rcases hrc with h | h
  · have e0 : ((rc : Int) == 9) = true := by rw [beq_iff_eq]; omega
    clear h
    repeat' ((fail_if_success at_builtin); (fail_if_success at_make); (first | go_values | go_skip | go_guarded | go_step | go_upon | go_back))
    go_ret
    exact ⟨rfl, hb111⟩
  · have e0 : ((rc : Int) == 9) = false := by rw [beq_eq_false_iff_ne]; omega
    have e1 : ((rc : Int) == 3) = true := by rw [beq_iff_eq]; omega
    clear h
    repeat' ((fail_if_success at_builtin); (fail_if_success at_make); (first | go_values | go_skip | go_guarded | go_step | go_upon | go_back))
    refine ((HR2.out w11 hr11)).mono ?_; rintro e_ w12 ⟨rfl, hb12⟩; dsimp only
    repeat' ((fail_if_success at_builtin); (fail_if_success at_make); (first | go_values | go_skip | go_guarded | go_step | go_upon | go_back))
    go_ret
    exact ⟨rfl, hb111.trans (hb12.mono hb111.size)⟩
end Go.Proofs.Ytlejpmbofbghfaa
