/- Lofts of nothing but flights: the same. Conditions: the sizes. -/
import Derived.Test.YtefhbgbhknobjaaFOne
namespace Go.Proofs.Ytefhbgbhknobjaa
open Go.RowKit
set_option linter.unusedVariables false
set_option linter.unusedSimpArgs false
set_option maxRecDepth 100000

theorem EqNilB (cl : Value) (w : World) : Calls Try.prog 41 #[.slice none 0 0, .slice none 0 0, cl] w fun e w' => e = .returned (.bool true) ∧ Below w.heap.size w w' := by
  go_enter Try.func41, Try.ntmps41
  repeat' ((fail_if_success at_builtin); (fail_if_success at_make); (first | go_values | go_skip | go_guarded | go_step | go_upon | go_back))
  go_loopg [17] 0 (fun gn i wr => i = .int .i64 0 ∧ gn = 0 ∧ wr = w)
  case atStart => exact ⟨rfl, rfl, rfl⟩
  case round =>
    obtain ⟨rfl, rfl, rfl⟩ := hrel
    repeat' ((fail_if_success at_builtin); (fail_if_success at_make); (first | go_values | go_skip | go_guarded | go_step | go_upon | go_back))
    go_ret
    exact ⟨rfl, Below.refl _ _⟩
theorem EqNilE (cl : Value) (w : World) : Calls Try.prog 37 #[.slice none 0 0, .slice none 0 0, cl] w fun e w' => e = .returned (.bool true) ∧ Below w.heap.size w w' := by
  go_enter Try.func37, Try.ntmps37
  repeat' ((fail_if_success at_builtin); (fail_if_success at_make); (first | go_values | go_skip | go_guarded | go_step | go_upon | go_back))
  go_loopg [17] 0 (fun gn i wr => i = .int .i64 0 ∧ gn = 0 ∧ wr = w)
  case atStart => exact ⟨rfl, rfl, rfl⟩
  case round =>
    obtain ⟨rfl, rfl, rfl⟩ := hrel
    repeat' ((fail_if_success at_builtin); (fail_if_success at_make); (first | go_values | go_skip | go_guarded | go_step | go_upon | go_back))
    go_ret
    exact ⟨rfl, Below.refl _ _⟩
theorem SameBlobs_nil (w : World) : Calls Try.prog 36 #[.slice none 0 0, .slice none 0 0] w fun e w' => e = .returned (.bool true) ∧ Below w.heap.size w w' := by
  have HE := Lib.hid (fun cl => EqNilB cl w)
  go_enter Try.func36, Try.ntmps36
  repeat' ((fail_if_success at_builtin); (fail_if_success at_make); (first | go_values | go_skip | go_guarded | go_step | go_upon | go_back))
  refine ((HE.out _)).mono ?_; rintro e_ w1 ⟨rfl, hb1⟩; dsimp only
  repeat' ((fail_if_success at_builtin); (fail_if_success at_make); (first | go_values | go_skip | go_guarded | go_step | go_upon | go_back))
  go_ret
  exact ⟨rfl, hb1⟩
/-- two boxes laid one behind the other -/
theorem two_new (w : World) (e : TypeId) (c1 c2 : List Value) : ∃ W, W = (w.alloc (.cells c1.toArray e)).alloc (.cells c2.toArray e) ∧ Arr W w.heap.size e c1 ∧ Arr W (w.heap.size + 1) e c2 ∧ Below w.heap.size w W := by
  refine ⟨_, rfl, (Arr.new w e c1).below ((Below.refl _ _).alloc (Nat.le_refl _) _), ?_, ((Below.refl w.heap.size w).alloc (Nat.le_refl _) _).alloc ((Below.refl w.heap.size w).alloc (Nat.le_refl _) _).size _⟩
  have := Arr.new (w.alloc (.cells c1.toArray e)) e c2
  rwa [World.size_alloc] at this
theorem SameStore_nil (w : World) : Calls Try.prog 27 #[.agg #[.slice none 0 0, .slice none 0 0, .int .i64 0, .int .i64 0], .agg #[.slice none 0 0, .slice none 0 0, .int .i64 0, .int .i64 0]] w fun e w' => e = .returned (.bool true) ∧ Below w.heap.size w w' := by
  obtain ⟨W, hW, hA, hB, hb⟩ := two_new w 45 [.slice none 0 0, .slice none 0 0, .int .i64 0, .int .i64 0] [.slice none 0 0, .slice none 0 0, .int .i64 0, .int .i64 0]
  have HS := Lib.hid (fun w' => SameBlobs_nil w')
  have HE := Lib.hid (fun cl w' => EqNilE cl w')
  have a0 := hA.cell (k := 0) rfl
  have b0 := hB.cell (k := 0) rfl
  rw [hW] at a0 b0
  go_enter Try.func27, Try.ntmps27
  repeat' ((fail_if_success at_builtin); (fail_if_success at_make); (first | go_values | go_skip | go_guarded | go_step | go_upon | go_back))
  rw [← hW] at a0 b0 ⊢
  clear hW a0 b0
  refine ((HS.out _)).mono ?_; rintro e_ w1 ⟨rfl, hb1⟩; dsimp only
  have hA1 := hA.below hb1
  have hB1 := hB.below hb1
  have a1 := hA1.cell (k := 1) rfl
  have a2 := hA1.cell (k := 2) rfl
  have a3 := hA1.cell (k := 3) rfl
  have b1 := hB1.cell (k := 1) rfl
  have b2 := hB1.cell (k := 2) rfl
  have b3 := hB1.cell (k := 3) rfl
  repeat' ((fail_if_success at_builtin); (fail_if_success at_make); (first | go_values | go_skip | go_guarded | go_step | go_upon | go_back))
  refine ((HE.out _ _)).mono ?_; rintro e_ w2 ⟨rfl, hb2⟩; dsimp only
  repeat' ((fail_if_success at_builtin); (fail_if_success at_make); (first | go_values | go_skip | go_guarded | go_step | go_upon | go_back))
  go_ret
  have h1 := hb.trans (hb1.mono hb.size)
  exact ⟨rfl, h1.trans (hb2.mono h1.size)⟩

theorem EqStr_nil (w : World) : Calls Try.prog 28 #[.slice none 0 0, .slice none 0 0] w fun e w' => e = .returned (.bool true) ∧ w = w' := by
  refine (Try.slices_Equal_string_empty none none 0 0 0 w (by omega)).mono ?_
  rintro e w' ⟨rfl, rfl⟩
  exact ⟨by simp, rfl⟩

theorem SameF_ok (s : ByteArray) (ld : Int) (A B : Option Addr) (c d : Nat) (l : List Int) (w : World) (hn : l.length ≤ 9223372036854775807) (h1 : Rd w 1 A l.length (ins l)) (h2 : Rd w 1 B l.length (ins l)) :
    Calls Try.prog 30 #[.agg #[.string s, .int .i64 ld, .slice A l.length c], .agg #[.string s, .int .i64 ld, .slice B l.length d]] w fun e w' => e = .returned (.bool true) ∧ Below w.heap.size w w' := by
  obtain ⟨W, hW, hA, hB, hb⟩ := two_new w 31 [.string s, .int .i64 ld, .slice A l.length c] [.string s, .int .i64 ld, .slice B l.length d]
  have HE := Lib.hid (EqI_same A B c d l W hn (h1.below hb) (h2.below hb))
  have a0 := hA.cell (k := 0) rfl
  have a1 := hA.cell (k := 1) rfl
  have a2 := hA.cell (k := 2) rfl
  have b0 := hB.cell (k := 0) rfl
  have b1 := hB.cell (k := 1) rfl
  have b2 := hB.cell (k := 2) rfl
  rw [hW] at a0 a1 a2 b0 b1 b2
  go_enter Try.func30, Try.ntmps30
  repeat' ((fail_if_success at_builtin); (fail_if_success at_make); (first | go_values | go_skip | go_guarded | go_step | go_upon | go_back))
  rw [← hW] at a0 a1 a2 b0 b1 b2 ⊢
  clear hW
  refine ((HE.out)).mono ?_; rintro e_ w1 ⟨rfl, ⟨q1, hq1⟩⟩; dsimp only
  have hb1 : Below W.heap.size W w1 := by rw [hq1]; exact below_drewN (Below.refl _ _) q1
  clear hq1
  repeat' ((fail_if_success at_builtin); (fail_if_success at_make); (first | go_values | go_skip | go_guarded | go_step | go_upon | go_back))
  go_ret
  exact ⟨rfl, hb.trans (hb1.mono hb.size)⟩

set_option maxHeartbeats 4000000 in
theorem EqF_same (A B : Option Addr) (c d : Nat) (fs : List FlP) (w : World) (hn : fs.length ≤ 1000000) (hw : ∀ p ∈ fs, p.wait.length ≤ 1000000) (h1 : Fls w A fs) (h2 : Fls w B fs) :
    Calls Try.prog 29 #[.slice A fs.length c, .slice B fs.length d, .func (.func 30) #[] #[]] w fun e w' => e = .returned (.bool true) ∧ Below w.heap.size w w' := by
  have HWT := Lib.hid hw
  clear hw
  go_enter Try.func29, Try.ntmps29
  repeat' ((fail_if_success at_builtin); (fail_if_success at_make); (first | go_values | go_skip | go_guarded | go_step | go_upon | go_back))
  go_loopg [17] fs.length (fun gn i wr => ∃ j : Nat, gn = fs.length - j ∧ i = .int .i64 j ∧ j ≤ fs.length ∧ Below w.heap.size w wr)
  case atStart => exact ⟨0, rfl, rfl, by omega, Below.refl _ _⟩
  case round =>
    obtain ⟨j, hgk, rfl, hj, hbl⟩ := hrel
    have HGK := Lib.hid hgk
    clear hgk
    by_cases hlt : j < fs.length
    · have hcc : decide (j < fs.length) = true := decide_eq_true hlt
      obtain ⟨ba, oa, BA, ca, rfl, hba, c0, c1, c2, hra, _, _⟩ := (h1.below hbl).at_ j hlt
      obtain ⟨bb, ob, BB, cb, rfl, hbb, d0, d1, d2, hrb, _, _⟩ := (h2.below hbl).at_ j hlt
      have hwl := HWT.out _ (List.getElem_mem hlt)
      have hj0 : (0 : Int) ≤ (j : Int) := by omega
      have hj1 : (j : Int) < (fs.length : Int) := by omega
      generalize (⟨fs[j].key.toArray⟩ : ByteArray) = s at *
      generalize fs[j].lead = ld at *
      generalize fs[j].wait = wt at *
      obtain ⟨W, hW, hA, hB, hb⟩ := two_new wr 31 [.string s, .int .i64 ld, .slice BA wt.length ca] [.string s, .int .i64 ld, .slice BB wt.length cb]
      have HE := Lib.hid (SameF_ok s ld BA BB ca cb wt W (by omega) (hra.below hb) (hrb.below hb))
      have a0 := hA.cell (k := 0) rfl
      have a1 := hA.cell (k := 1) rfl
      have a2 := hA.cell (k := 2) rfl
      have b0 := hB.cell (k := 0) rfl
      have b1 := hB.cell (k := 1) rfl
      have b2 := hB.cell (k := 2) rfl
      have e0 : (wr.alloc (.cells #[.string s, .int .i64 ld, .slice BA wt.length ca] 31)).cell? ⟨bb, ob + j * 3, none⟩ = some (.string s) := (World.cell?_alloc_lt wr _ _ hbb).trans d0
      have e1 : (wr.alloc (.cells #[.string s, .int .i64 ld, .slice BA wt.length ca] 31)).cell? ⟨bb, ob + j * 3 + 1, none⟩ = some (.int .i64 ld) := (World.cell?_alloc_lt wr _ _ hbb).trans d1
      have e2 : (wr.alloc (.cells #[.string s, .int .i64 ld, .slice BA wt.length ca] 31)).cell? ⟨bb, ob + j * 3 + 2, none⟩ = some (.slice BB wt.length cb) := (World.cell?_alloc_lt wr _ _ hbb).trans d2
      rw [hW] at a0 a1 a2 b0 b1 b2
      have HW := Lib.hid hW
      clear hW hA hB d0 d1 d2 hra hrb
      repeat' ((fail_if_success at_builtin); (fail_if_success at_make); (first | go_values | go_skip | go_guarded | go_step | go_upon | go_back))
      rw [← HW.out] at a0 a1 a2 b0 b1 b2 ⊢
      refine ((HE.out)).mono ?_; rintro e_ w5 ⟨rfl, hb5⟩; dsimp only
      have hb05 := hbl.trans ((hb.trans (hb5.mono hb.size)).mono hbl.size)
      repeat' ((fail_if_success at_builtin); (fail_if_success at_make); (first | go_values | go_skip | go_guarded | go_step | go_upon | go_back))
      go_roundg (fs.length - (j + 1))
      case measure => have := HGK.out; omega
      case rel => exact ⟨j + 1, rfl, by go_num, by omega, hb05⟩
    · obtain rfl : j = fs.length := by omega
      have hcc : decide (fs.length < fs.length) = false := by simp
      repeat' ((fail_if_success at_builtin); (fail_if_success at_make); (first | go_values | go_skip | go_guarded | go_step | go_upon | go_back))
      go_ret
      exact ⟨rfl, hbl⟩

/-- a loft of flights -/
def loftF (A : Option Addr) (n c : Nat) : Value := .agg #[.slice none 0 0, .slice none 0 0, .int .i64 0, .int .i64 0, .int .i64 0, .slice none 0 0, .string ByteArray.empty, .slice A n c]
set_option maxHeartbeats 4000000 in
theorem SameLoft_flights (A B : Option Addr) (c d : Nat) (fs : List FlP) (w : World) (hn : fs.length ≤ 1000000) (hw : ∀ p ∈ fs, p.wait.length ≤ 1000000) (h1 : Fls w A fs) (h2 : Fls w B fs) :
    Calls Try.prog 13 #[loftF A fs.length c, loftF B fs.length d] w fun e w' => e = .returned (.bool true) ∧ Below w.heap.size w w' := by
  obtain ⟨W, hW, hA, hB, hb⟩ := two_new w 50 [.slice none 0 0, .slice none 0 0, .int .i64 0, .int .i64 0, .int .i64 0, .slice none 0 0, .string ByteArray.empty, .slice A fs.length c] [.slice none 0 0, .slice none 0 0, .int .i64 0, .int .i64 0, .int .i64 0, .slice none 0 0, .string ByteArray.empty, .slice B fs.length d]
  have HS := Lib.hid (SameStore_nil W)
  have HF := Lib.hid (fun w' hb' => EqF_same A B c d fs w' hn hw (h1.below hb') (h2.below hb'))
  have a0 := hA.cell (k := 0) rfl
  have a1 := hA.cell (k := 1) rfl
  have a2 := hA.cell (k := 2) rfl
  have a3 := hA.cell (k := 3) rfl
  have b0 := hB.cell (k := 0) rfl
  have b1 := hB.cell (k := 1) rfl
  have b2 := hB.cell (k := 2) rfl
  have b3 := hB.cell (k := 3) rfl
  rw [hW] at a0 a1 a2 a3 b0 b1 b2 b3
  unfold loftF
  go_enter Try.func13, Try.ntmps13
  repeat' ((fail_if_success at_builtin); (fail_if_success at_make); (first | go_values | go_skip | go_guarded | go_step | go_upon | go_back))
  rw [← hW] at a0 a1 a2 a3 b0 b1 b2 b3 ⊢
  clear hW a0 a1 a2 a3 b0 b1 b2 b3
  refine ((HS.out)).mono ?_; rintro e_ w1 ⟨rfl, hb1⟩; dsimp only
  have hA1 := hA.below hb1
  have hB1 := hB.below hb1
  have a4 := hA1.cell (k := 4) rfl
  have a5 := hA1.cell (k := 5) rfl
  have a7 := hA1.cell (k := 7) rfl
  have b4 := hB1.cell (k := 4) rfl
  have b5 := hB1.cell (k := 5) rfl
  have b7 := hB1.cell (k := 7) rfl
  have HN := Lib.hid (EqStr_nil w1)
  repeat' ((fail_if_success at_builtin); (fail_if_success at_make); (first | go_values | go_skip | go_guarded | go_step | go_upon | go_back))
  refine ((HN.out)).mono ?_; rintro e_ w2 ⟨rfl, hw2⟩; dsimp only
  subst hw2
  repeat' ((fail_if_success at_builtin); (fail_if_success at_make); (first | go_values | go_skip | go_guarded | go_step | go_upon | go_back))
  have h02 := hb.trans (hb1.mono hb.size)
  refine ((HF.out _ h02)).mono ?_; rintro e_ w3 ⟨rfl, hb3⟩; dsimp only
  repeat' ((fail_if_success at_builtin); (fail_if_success at_make); (first | go_values | go_skip | go_guarded | go_step | go_upon | go_back))
  go_ret
  exact ⟨rfl, h02.trans (hb3.mono h02.size)⟩
end Go.Proofs.Ytefhbgbhknobjaa
