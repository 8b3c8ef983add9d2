/- Numbers of 32 bits as the walk spells them, and other small facts. No condition. -/
import Derived.WalkKit
import Derived.WalkLawsBesides
import Derived.WalkSpells
import Derived.Deep.QuietTactic
import Derived.BigQuiet
import Derived.IntWalk
import Derived.Lib.Hide
namespace Go.Proofs.Ytefhbgbhknobjaa
open Go.RowKit
set_option linter.unusedVariables false
set_option linter.unusedSimpArgs false

/-- a word's value -/
abbrev wd (b : BitVec 32) : Int := (b.toNat : Int)

theorem wd_of (x : Int) (h0 : 0 ≤ x) (h1 : x < 4294967296) : ∃ b : BitVec 32, x = wd b := by
  refine ⟨BitVec.ofNat 32 x.toNat, ?_⟩
  simp only [wd, BitVec.toNat_ofNat]
  omega

theorem wd_lt (b : BitVec 32) : wd b < 4294967296 := by
  have := b.isLt
  simp only [wd]; omega
theorem wd_nn (b : BitVec 32) : 0 ≤ wd b := by simp only [wd]; omega
theorem wd_inj {a b : BitVec 32} : wd a = wd b ↔ a = b := by
  constructor
  · intro h; apply BitVec.eq_of_toNat_eq; simp only [wd] at h; omega
  · rintro rfl; rfl

theorem wrap_wd (n : Nat) : IntKind.u32.wrap (n : Int) = ((n % 4294967296 : Nat) : Int) := by
  rw [IntKind.wrap_u32]; omega
theorem bits_and32 (a b : BitVec 32) : bits .and .u32 (wd a) (wd b) = wd (a &&& b) := by
  show IntKind.u32.wrap ((BitVec.ofInt 32 (wd a) &&& BitVec.ofInt 32 (wd b)).toNat : Int) = _
  have ha : BitVec.ofInt 32 (wd a) = a := by simp [wd]
  have hb : BitVec.ofInt 32 (wd b) = b := by simp [wd]
  rw [ha, hb, wrap_wd, Nat.mod_eq_of_lt (a &&& b).isLt]
theorem bits_or32 (a b : BitVec 32) : bits .or .u32 (wd a) (wd b) = wd (a ||| b) := by
  show IntKind.u32.wrap ((BitVec.ofInt 32 (wd a) ||| BitVec.ofInt 32 (wd b)).toNat : Int) = _
  have ha : BitVec.ofInt 32 (wd a) = a := by simp [wd]
  have hb : BitVec.ofInt 32 (wd b) = b := by simp [wd]
  rw [ha, hb, wrap_wd, Nat.mod_eq_of_lt (a ||| b).isLt]
theorem bits_xor32 (a b : BitVec 32) : bits .xor .u32 (wd a) (wd b) = wd (a ^^^ b) := by
  show IntKind.u32.wrap ((BitVec.ofInt 32 (wd a) ^^^ BitVec.ofInt 32 (wd b)).toNat : Int) = _
  have ha : BitVec.ofInt 32 (wd a) = a := by simp [wd]
  have hb : BitVec.ofInt 32 (wd b) = b := by simp [wd]
  rw [ha, hb, wrap_wd, Nat.mod_eq_of_lt (a ^^^ b).isLt]
theorem max32 : IntKind.u32.max = wd (BitVec.allOnes 32) := by decide
theorem bits_not32 (a : BitVec 32) : bits .xor .u32 IntKind.u32.max (wd a) = wd (~~~a) := by
  rw [max32, bits_xor32, BitVec.allOnes_xor]
theorem shr32 (x : BitVec 32) (n : Nat) : wd x / 2 ^ n = wd (x >>> n) := by
  show ((x.toNat : Int) / 2 ^ n) = ((x >>> n).toNat : Int)
  rw [BitVec.toNat_ushiftRight, Nat.shiftRight_eq_div_pow, Int.natCast_ediv, Int.natCast_pow]; rfl
theorem shl32 (x : BitVec 32) (n : Nat) : wd x * 2 ^ n % 4294967296 = wd (x <<< n) := by
  show ((x.toNat : Int) * 2 ^ n % ((4294967296 : Nat) : Int)) = ((x <<< n).toNat : Int)
  rw [BitVec.toNat_shiftLeft, Nat.shiftLeft_eq, Int.natCast_emod, Int.natCast_mul, Int.natCast_pow]; rfl
theorem rot32 (x : BitVec 32) (n : Nat) (h : n ≤ 31) : bits .or .u32 (wd x / 2 ^ n) (wd x * 2 ^ (32 - n) % 4294967296) = wd (x.rotateRight n) := by
  rw [shr32, shl32, bits_or32]
  simp only [BitVec.rotateRight, BitVec.rotateRightAux, Nat.mod_eq_of_lt (show n < 32 by omega)]
end Go.Proofs.Ytefhbgbhknobjaa
