/- Numbers as bytes, plain. No condition. wire.Number gives a number's bytes. Condition: the number fits. word.Bytes, word.Words, slices.Equal over words; the walk of WordBack. Conditions: the slices' sizes. word.rotated and word.Mix. Conditions: the numbers fit. strings.Builder: copyCheck and WriteByte at a builder of the call's own; hex.Text. Conditions: the sizes. hex.Bytes. Condition: none (a string of any size). -/
import Derived.Test.YtpcpffkbbhmahaaDoorMem
import Derived.Test.YtpcpffkbbhmahaaDoorProg
import Derived.Deep.RegionHeld3
import Derived.Laws.Pointers
import Derived.StillTactics
import Derived.Test.YtpcpffkbbhmahaaDoorShelf
import Derived.Lib.Builder
import Derived.Lib.UnsafeStr
import Derived.Laws.Externs
/-! Numbers as bytes, plain. No condition -/
namespace Go.Proofs.YtpcpffkbbhmahaaDoor

/-- the bytes of a number (seven bits each, the least first) -/
def num (n : Nat) : List UInt8 := if n < 128 then [UInt8.ofNat n] else UInt8.ofNat (n % 128 + 128) :: num (n / 128)
theorem num_small {n : Nat} (h : n < 128) : num n = [UInt8.ofNat n] := by rw [num, if_pos h]
theorem num_big {n : Nat} (h : ¬ n < 128) : num n = UInt8.ofNat (n % 128 + 128) :: num (n / 128) := by rw [num, if_neg h]
theorem num_len (n : Nat) : ∀ k, n < 128 ^ (k + 1) → 1 ≤ (num n).length ∧ (num n).length ≤ k + 1 := by
  intro k
  induction k generalizing n with
  | zero => intro h; rw [num_small (by simpa using h)]; simp
  | succ k ih =>
    intro h
    by_cases hn : n < 128
    · rw [num_small hn]; simp
    · rw [num_big hn]
      have := ih (n / 128) (by rw [Nat.div_lt_iff_lt_mul (by omega)]; simpa [Nat.pow_succ] using h)
      simp only [List.length_cons]; omega
end Go.Proofs.YtpcpffkbbhmahaaDoor
/-! wire.Number gives a number's bytes. Condition: the number fits -/
namespace Go.Proofs.YtpcpffkbbhmahaaDoor
open Go.RowKit
theorem elU8 : El Tryd.prog 22 5 1 1 := El.mk' (z := .int .u8 0) Tryd.underlying22 (by kernel_rfl) rfl (by omega) (by omega)

theorem or128 (m : Nat) (h : m < 128) : bits .or .u8 (m : Int) 128 = ((m + 128 : Nat) : Int) := by
  have : ∀ m : Nat, m < 128 → bits .or .u8 (m : Int) 128 = ((m + 128 : Nat) : Int) := by decide +kernel
  exact this m h

end Go.Proofs.YtpcpffkbbhmahaaDoor
/-! word.Bytes, word.Words, slices.Equal over words; the walk of WordBack. Conditions: the slices' sizes -/
namespace Go.Proofs.YtpcpffkbbhmahaaDoor
open Go.RowKit
set_option linter.unusedVariables false
set_option linter.unusedSimpArgs false
set_option maxRecDepth 20000
def wds (l : List (BitVec 32)) : List Value := l.map fun b => .int .u32 (wd b)
theorem wds_at (l : List (BitVec 32)) (k : Nat) (h : k < l.length) : (wds l)[k]? = some (.int .u32 (wd l[k])) := by simp [wds, h]
theorem wds_one (l : List (BitVec 32)) : ∀ u ∈ wds l, u.oneCell' = true := by
  intro u hu; simp only [wds, List.mem_map] at hu; obtain ⟨_, _, rfl⟩ := hu; rfl
/-- four bytes of a word, the highest first -/
def wb (x : BitVec 32) : List UInt8 := [UInt8.ofNat (x.toNat / 16777216), UInt8.ofNat (x.toNat / 65536), UInt8.ofNat (x.toNat / 256), UInt8.ofNat x.toNat]
def wbs (l : List (BitVec 32)) : List UInt8 := l.flatMap wb
theorem wbs_len (l : List (BitVec 32)) : (wbs l).length = 4 * l.length := by
  induction l with
  | nil => rfl
  | cons x l ih => simp only [wbs, List.flatMap_cons, List.length_append, List.length_cons] at *; rw [ih]; simp [wb]; omega
theorem wbs_snoc (l : List (BitVec 32)) (k : Nat) (h : k < l.length) : wbs (l.take (k + 1)) = wbs (l.take k) ++ wb l[k] := by
  unfold wbs; rw [List.take_succ_eq_append_getElem h, List.flatMap_append, List.flatMap_cons, List.flatMap_nil, List.append_nil]

/-- words of bytes -/
def wOf (a b c d : UInt8) : BitVec 32 := BitVec.ofNat 32 (a.toNat * 16777216 + b.toNat * 65536 + c.toNat * 256 + d.toNat)
def wsOf : List UInt8 → List (BitVec 32)
  | a :: b :: c :: d :: r => wOf a b c d :: wsOf r
  | _ => []
theorem wsOf_len : ∀ (k : Nat) (l : List UInt8), l.length = 4 * k → (wsOf l).length = k
  | 0, l, h => by obtain rfl : l = [] := List.eq_nil_of_length_eq_zero (by omega); rfl
  | k + 1, a :: b :: c :: d :: r, h => by simp only [wsOf, List.length_cons] at *; rw [wsOf_len k r (by omega)]
  | k + 1, [], h => by simp at h
  | k + 1, [_], h => by simp at h; omega
  | k + 1, [_, _], h => by simp at h; omega
  | k + 1, [_, _, _], h => by simp at h; omega
theorem wsOf_snoc : ∀ (k : Nat) (l : List UInt8) (h : 4 * k + 3 < l.length), wsOf (l.take (4 * (k + 1))) = wsOf (l.take (4 * k)) ++ [wOf l[4 * k] l[4 * k + 1] l[4 * k + 2] l[4 * k + 3]]
  | 0, a :: b :: c :: d :: r, h => by simp [wsOf]
  | k + 1, a :: b :: c :: d :: r, h => by
    have h' : 4 * k + 3 < r.length := by simp at h; omega
    have e1 : (a :: b :: c :: d :: r).take (4 * (k + 1 + 1)) = a :: b :: c :: d :: r.take (4 * (k + 1)) := rfl
    have e2 : (a :: b :: c :: d :: r).take (4 * (k + 1)) = a :: b :: c :: d :: r.take (4 * k) := rfl
    rw [e1, e2, wsOf, wsOf, wsOf_snoc k r h']
    rfl
  | 0, [], h => by simp at h
  | 0, [_], h => by simp at h
  | 0, [_, _], h => by simp at h
  | 0, [_, _, _], h => by simp at h
  | k + 1, [], h => by simp at h
  | k + 1, [_], h => by simp at h
  | k + 1, [_, _], h => by simp at h; omega
  | k + 1, [_, _, _], h => by simp at h; omega

theorem wraps_u32 (n : Int) (h0 : 0 ≤ n) (h1 : n < 2 ^ 32) : IntKind.u32.wrap n = n := by
  rw [IntKind.wrap_u32]; simp at h1; omega
theorem wOf_bits (a b c d : UInt8) : bits BinOp.or IntKind.u32 (bits BinOp.or IntKind.u32 (bits BinOp.or IntKind.u32 (IntKind.u32.wrap (IntKind.u32.wrap (a.toNat : Int) * 16777216)) (IntKind.u32.wrap (IntKind.u32.wrap (b.toNat : Int) * 65536)))
    (IntKind.u32.wrap (IntKind.u32.wrap (c.toNat : Int) * 256))) (IntKind.u32.wrap (d.toNat : Int)) = wd (wOf a b c d) := by
  have ha := a.toNat_lt
  have hb := b.toNat_lt
  have hc := c.toNat_lt
  have hd := d.toNat_lt
  have hw : wd (wOf a b c d) = ((a.toNat * 16777216 + b.toNat * 65536 + c.toNat * 256 + d.toNat : Nat) : Int) := by
    simp only [wd, wOf, BitVec.toNat_ofNat]; omega
  rw [hw]
  clear hw
  generalize a.toNat = a at *
  generalize b.toNat = b at *
  generalize c.toNat = c at *
  generalize d.toNat = d at *
  have e1 : ∀ x : Nat, x < 256 → IntKind.u32.wrap (x : Int) = x := fun x h => by rw [IntKind.wrap_u32]; omega
  rw [e1 a ha, e1 b hb, e1 c hc, e1 d hd]
  have e2 : ∀ x y : Int, 0 ≤ x → x < 256 → 0 ≤ y → y ≤ 16777216 → IntKind.u32.wrap (x * y) = x * y := fun x y h1 h2 h3 h4 => by
    rw [IntKind.wrap_u32]
    have := Int.mul_nonneg h1 h3
    have h5 : x * y ≤ 255 * 16777216 := Int.mul_le_mul (by omega) h4 h3 (by omega)
    omega
  rw [e2 a 16777216 (by omega) (by omega) (by omega) (by omega), e2 b 65536 (by omega) (by omega) (by omega) (by omega), e2 c 256 (by omega) (by omega) (by omega) (by omega)]
  rw [bits_join .u32 32 (by decide) wraps_u32 24 ((a : Int) * 16777216) ((b : Int) * 65536) (by omega) (by omega) (by omega) (by omega) (by omega) (by omega)]
  rw [bits_join .u32 32 (by decide) wraps_u32 16 ((a : Int) * 16777216 + (b : Int) * 65536) ((c : Int) * 256) (by omega) (by omega) (by omega) (by omega) (by omega) (by omega)]
  rw [bits_join .u32 32 (by decide) wraps_u32 8 ((a : Int) * 16777216 + (b : Int) * 65536 + (c : Int) * 256) (d : Int) (by omega) (by omega) (by omega) (by omega) (by omega) (by omega)]
  omega

theorem wOf_wb (x : BitVec 32) : wOf (UInt8.ofNat (x.toNat / 16777216)) (UInt8.ofNat (x.toNat / 65536)) (UInt8.ofNat (x.toNat / 256)) (UInt8.ofNat x.toNat) = x := by
  have hx := x.isLt
  apply BitVec.eq_of_toNat_eq
  simp only [wOf, BitVec.toNat_ofNat, UInt8.toNat_ofNat']
  omega
theorem wsOf_wbs : ∀ l : List (BitVec 32), wsOf (wbs l) = l
  | [] => rfl
  | x :: l => by
    have := wsOf_wbs l
    show wsOf (wb x ++ wbs l) = x :: l
    simp only [wb, List.cons_append, List.nil_append, wsOf, this, wOf_wb]
end Go.Proofs.YtpcpffkbbhmahaaDoor
/-! word.rotated and word.Mix. Conditions: the numbers fit -/
namespace Go.Proofs.YtpcpffkbbhmahaaDoor
open Go.RowKit

def mix32 (x : BitVec 32) : Nat → BitVec 32
  | 0 => x.rotateRight 2 ^^^ x.rotateRight 13 ^^^ x.rotateRight 22
  | 1 => x.rotateRight 6 ^^^ x.rotateRight 11 ^^^ x.rotateRight 25
  | 2 => x.rotateRight 7 ^^^ x.rotateRight 18 ^^^ x >>> 3
  | _ => x.rotateRight 17 ^^^ x.rotateRight 19 ^^^ x >>> 10

end Go.Proofs.YtpcpffkbbhmahaaDoor
/-! strings.Builder: copyCheck and WriteByte at a builder of the call's own; hex.Text. Conditions: the sizes -/
namespace Go.Proofs.YtpcpffkbbhmahaaDoor
open Go.RowKit
set_option linter.unusedVariables false
set_option maxRecDepth 20000

/-! ### hex.Text -/
/-- a digit -/
def dig (n : Nat) : UInt8 := if n < 10 then UInt8.ofNat (48 + n) else UInt8.ofNat (87 + n)
def hx1 (c : UInt8) : List UInt8 := [dig (c.toNat / 16), dig (c.toNat % 16)]
def hexs (l : List UInt8) : List UInt8 := l.flatMap hx1
theorem hexs_len (l : List UInt8) : (hexs l).length = 2 * l.length := by
  induction l with
  | nil => rfl
  | cons x l ih => simp only [hexs, List.flatMap_cons, List.length_append, List.length_cons] at *; rw [ih]; simp [hx1]; omega
theorem hexs_snoc (l : List UInt8) (k : Nat) (h : k < l.length) : hexs (l.take (k + 1)) = hexs (l.take k) ++ hx1 l[k] := by
  unfold hexs; rw [List.take_succ_eq_append_getElem h, List.flatMap_append, List.flatMap_cons, List.flatMap_nil, List.append_nil]

theorem digAt (m : Nat) (h : m < (⟨#[48, 49, 50, 51, 52, 53, 54, 55, 56, 57, 97, 98, 99, 100, 101, 102]⟩ : ByteArray).size) :
    ((⟨#[48, 49, 50, 51, 52, 53, 54, 55, 56, 57, 97, 98, 99, 100, 101, 102]⟩ : ByteArray)[m]'h).toNat = (dig m).toNat := by
  have key : ∀ m : Fin 16, ((⟨#[48, 49, 50, 51, 52, 53, 54, 55, 56, 57, 97, 98, 99, 100, 101, 102]⟩ : ByteArray)[m.val]'m.isLt).toNat = (dig m.val).toNat := by decide
  exact key ⟨m, h⟩

end Go.Proofs.YtpcpffkbbhmahaaDoor
/-! hex.Bytes. Condition: none (a string of any size) -/
namespace Go.Proofs.YtpcpffkbbhmahaaDoor
open Go.RowKit
set_option linter.unusedVariables false
set_option maxRecDepth 20000

def digs : ByteArray := ⟨#[48, 49, 50, 51, 52, 53, 54, 55, 56, 57, 97, 98, 99, 100, 101, 102]⟩
/-- what a digit is worth; -1: it is none -/
def val (c : UInt8) : Int := Lib.indexByte [48, 49, 50, 51, 52, 53, 54, 55, 56, 57, 97, 98, 99, 100, 101, 102] c
def unhx : List UInt8 → Option (List UInt8)
  | [] => some []
  | [_] => none
  | a :: b :: r => if val a < 0 ∨ val b < 0 then none else (unhx r).map (UInt8.ofNat (16 * (val a).toNat + (val b).toNat) :: ·)
def hexB (l : List UInt8) : List UInt8 × Nat :=
  if 4000 < l.length then ([], 1) else if l.length % 2 = 1 then ([], 3) else match unhx l with | none => ([], 3) | some r => (r, 0)

theorem val_range (c : UInt8) : -1 ≤ val c ∧ val c ≤ 15 := by
  have key : ∀ n : Fin 256, -1 ≤ val (UInt8.ofNat n.val) ∧ val (UInt8.ofNat n.val) ≤ 15 := by decide +kernel
  have := key ⟨c.toNat, c.toNat_lt⟩
  rw [show UInt8.ofNat (c.toNat) = c from UInt8.ofNat_toNat] at this
  exact this

theorem IB_at (c : UInt8) (w : World) : Calls Tryd.prog 20 #[.string digs, .int .u8 (c.toNat : Int)] w fun e w' => e = .returned (.int .i64 (val c)) ∧ w' = w := by
  refine (Tryd.strings_IndexByte digs (c.toNat : Int) w).mono fun e w' ⟨he, hw⟩ => ⟨?_, hw⟩
  rw [he]
  have : ((c.toNat : Int)).toNat.toUInt8 = c := by rw [Int.toNat_natCast]; exact UInt8.ofNat_toNat
  rw [this]; rfl

end Go.Proofs.YtpcpffkbbhmahaaDoor
