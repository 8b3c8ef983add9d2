/- word.Choose and word.Most by their bits; WordPicks. No condition. -/
import Derived.Test.YtgdfcgneafffhaaBase
import Derived.Test.YtgdfcgneafffhaaProg
namespace Go.Proofs.Ytgdfcgneafffhaa
open Go.RowKit
set_option linter.unusedVariables false
set_option linter.unusedSimpArgs false
def choose32 (x y z : BitVec 32) : BitVec 32 := (x &&& y) ||| (~~~x &&& z)
def most32 (x y z : BitVec 32) : BitVec 32 := ((x &&& y) ||| (x &&& z)) ||| (y &&& z)
theorem Choose_any (x y z : BitVec 32) (w : World) : Calls Try.prog 15 #[.int .u32 (wd x), .int .u32 (wd y), .int .u32 (wd z)] w fun e w' => e = .returned (.int .u32 (wd (choose32 x y z))) ∧ w = w' := by
  go_enter Try.func15, Try.ntmps15
  go_wp2
  go_ret
  simp only [bits_and32, bits_or32, bits_not32, choose32]
  exact ⟨rfl, trivial⟩
theorem Most_any (x y z : BitVec 32) (w : World) : Calls Try.prog 16 #[.int .u32 (wd x), .int .u32 (wd y), .int .u32 (wd z)] w fun e w' => e = .returned (.int .u32 (wd (most32 x y z))) ∧ w = w' := by
  go_enter Try.func16, Try.ntmps16
  go_wp2
  go_ret
  simp only [bits_and32, bits_or32, most32]
  exact ⟨rfl, trivial⟩
theorem choose_same (x y : BitVec 32) : choose32 x y y = y := by
  unfold choose32; ext i hi; simp; cases x[i] <;> simp
theorem choose_zero (y z : BitVec 32) : choose32 0 y z = z := by
  show ((0#32 &&& y) ||| (~~~0#32 &&& z)) = z
  rw [BitVec.zero_and, BitVec.zero_or, BitVec.not_zero, BitVec.allOnes_and]
theorem most_same (x y : BitVec 32) : most32 x y y = y := by
  unfold most32; ext i hi; simp
theorem most_rot (x y z : BitVec 32) : most32 z x y = most32 x y z := by
  unfold most32; ext i hi; simp; cases x[i] <;> cases y[i] <;> simp
theorem most_swap (x y z : BitVec 32) : most32 y x z = most32 x y z := by
  unfold most32; ext i hi; simp; cases x[i] <;> cases y[i] <;> simp
theorem Choose_at {a b c : Int} {x y z : BitVec 32} (r : BitVec 32) (w : World) (ha : a = wd x) (hb : b = wd y) (hc : c = wd z) (hr : choose32 x y z = r) : Calls Try.prog 15 #[.int .u32 a, .int .u32 b, .int .u32 c] w fun e w' => e = .returned (.int .u32 (wd r)) ∧ w = w' := by
  subst ha hb hc hr; exact Choose_any _ _ _ _
theorem WordPicks_walk (x y z : BitVec 32) (w : World) : Calls Try.prog 3 #[.int .u32 (wd x), .int .u32 (wd y), .int .u32 (wd z)] w fun e w' => e = .returned (.bool true) ∧ Below w.heap.size w w' := by
  go_enter Try.func3, Try.ntmps3
  go_wp2_with fail
  refine (Choose_at y _ rfl rfl rfl (choose_same _ _)).mono ?_; rintro e w' ⟨rfl, rfl⟩
  go_wp2_with fail
  refine (Choose_at z _ (show (0 : Int) = wd 0 from rfl) rfl rfl (choose_zero _ _)).mono ?_; rintro e w' ⟨rfl, rfl⟩
  go_wp2_with fail
  refine (Most_any x y y _).mono ?_; rintro e w' ⟨rfl, rfl⟩; rw [most_same]
  go_wp2_with fail
  refine (Most_any x y z _).mono ?_; rintro e w' ⟨rfl, rfl⟩
  go_wp2_with fail
  refine (Most_any z x y _).mono ?_; rintro e w' ⟨rfl, rfl⟩; rw [most_rot]
  go_wp2_with fail
  refine (Most_any x y z _).mono ?_; rintro e w' ⟨rfl, rfl⟩
  go_wp2_with fail
  refine (Most_any y x z _).mono ?_; rintro e w' ⟨rfl, rfl⟩; rw [most_swap]
  go_wp2_with fail
  go_ret
  exact ⟨rfl, Below.refl _ _⟩
end Go.Proofs.Ytgdfcgneafffhaa
