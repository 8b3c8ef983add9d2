/- word.Bytes, word.Words, slices.Equal over words; the walk of WordBack. Conditions: the slices' sizes. -/
import Derived.Test.YtefhbgbhknobjaaNumW
import Derived.Deep.RegionHeld3
import Derived.Laws.Pointers
import Derived.StillTactics
namespace Go.Proofs.Ytefhbgbhknobjaa
open Go.RowKit
set_option linter.unusedVariables false
set_option linter.unusedSimpArgs false
set_option maxRecDepth 20000
theorem elU32 : El Try.prog 67 65 1 4 := El.mk' (z := .int .u32 0) Try.underlying67 (by kernel_rfl) rfl (by omega) (by omega)
def wds (l : List (BitVec 32)) : List Value := l.map fun b => .int .u32 (wd b)
theorem wds_at (l : List (BitVec 32)) (k : Nat) (h : k < l.length) : (wds l)[k]? = some (.int .u32 (wd l[k])) := by simp [wds, h]
theorem wds_one (l : List (BitVec 32)) : ∀ u ∈ wds l, u.oneCell' = true := by
  intro u hu; simp only [wds, List.mem_map] at hu; obtain ⟨_, _, rfl⟩ := hu; rfl
/-- four bytes of a word, the highest first -/
def wb (x : BitVec 32) : List UInt8 := [UInt8.ofNat (x.toNat / 16777216), UInt8.ofNat (x.toNat / 65536), UInt8.ofNat (x.toNat / 256), UInt8.ofNat x.toNat]
def wbs (l : List (BitVec 32)) : List UInt8 := l.flatMap wb
theorem wbs_len (l : List (BitVec 32)) : (wbs l).length = 4 * l.length := by
  induction l with
  | nil => rfl
  | cons x l ih => simp only [wbs, List.flatMap_cons, List.length_append, List.length_cons] at *; rw [ih]; simp [wb]; omega
theorem wbs_snoc (l : List (BitVec 32)) (k : Nat) (h : k < l.length) : wbs (l.take (k + 1)) = wbs (l.take k) ++ wb l[k] := by
  unfold wbs; rw [List.take_succ_eq_append_getElem h, List.flatMap_append, List.flatMap_cons, List.flatMap_nil, List.append_nil]

/-- words of bytes -/
def wOf (a b c d : UInt8) : BitVec 32 := BitVec.ofNat 32 (a.toNat * 16777216 + b.toNat * 65536 + c.toNat * 256 + d.toNat)
def wsOf : List UInt8 → List (BitVec 32)
  | a :: b :: c :: d :: r => wOf a b c d :: wsOf r
  | _ => []
theorem wsOf_len : ∀ (k : Nat) (l : List UInt8), l.length = 4 * k → (wsOf l).length = k
  | 0, l, h => by obtain rfl : l = [] := List.eq_nil_of_length_eq_zero (by omega); rfl
  | k + 1, a :: b :: c :: d :: r, h => by simp only [wsOf, List.length_cons] at *; rw [wsOf_len k r (by omega)]
  | k + 1, [], h => by simp at h
  | k + 1, [_], h => by simp at h; omega
  | k + 1, [_, _], h => by simp at h; omega
  | k + 1, [_, _, _], h => by simp at h; omega
theorem wsOf_snoc : ∀ (k : Nat) (l : List UInt8) (h : 4 * k + 3 < l.length), wsOf (l.take (4 * (k + 1))) = wsOf (l.take (4 * k)) ++ [wOf l[4 * k] l[4 * k + 1] l[4 * k + 2] l[4 * k + 3]]
  | 0, a :: b :: c :: d :: r, h => by simp [wsOf]
  | k + 1, a :: b :: c :: d :: r, h => by
    have h' : 4 * k + 3 < r.length := by simp at h; omega
    have e1 : (a :: b :: c :: d :: r).take (4 * (k + 1 + 1)) = a :: b :: c :: d :: r.take (4 * (k + 1)) := rfl
    have e2 : (a :: b :: c :: d :: r).take (4 * (k + 1)) = a :: b :: c :: d :: r.take (4 * k) := rfl
    rw [e1, e2, wsOf, wsOf, wsOf_snoc k r h']
    rfl
  | 0, [], h => by simp at h
  | 0, [_], h => by simp at h
  | 0, [_, _], h => by simp at h
  | 0, [_, _, _], h => by simp at h
  | k + 1, [], h => by simp at h
  | k + 1, [_], h => by simp at h
  | k + 1, [_, _], h => by simp at h; omega
  | k + 1, [_, _, _], h => by simp at h; omega

theorem wraps_u32 (n : Int) (h0 : 0 ≤ n) (h1 : n < 2 ^ 32) : IntKind.u32.wrap n = n := by
  rw [IntKind.wrap_u32]; simp at h1; omega
theorem wOf_bits (a b c d : UInt8) : bits BinOp.or IntKind.u32 (bits BinOp.or IntKind.u32 (bits BinOp.or IntKind.u32 (IntKind.u32.wrap (IntKind.u32.wrap (a.toNat : Int) * 16777216)) (IntKind.u32.wrap (IntKind.u32.wrap (b.toNat : Int) * 65536)))
    (IntKind.u32.wrap (IntKind.u32.wrap (c.toNat : Int) * 256))) (IntKind.u32.wrap (d.toNat : Int)) = wd (wOf a b c d) := by
  have ha := a.toNat_lt
  have hb := b.toNat_lt
  have hc := c.toNat_lt
  have hd := d.toNat_lt
  have hw : wd (wOf a b c d) = ((a.toNat * 16777216 + b.toNat * 65536 + c.toNat * 256 + d.toNat : Nat) : Int) := by
    simp only [wd, wOf, BitVec.toNat_ofNat]; omega
  rw [hw]
  clear hw
  generalize a.toNat = a at *
  generalize b.toNat = b at *
  generalize c.toNat = c at *
  generalize d.toNat = d at *
  have e1 : ∀ x : Nat, x < 256 → IntKind.u32.wrap (x : Int) = x := fun x h => by rw [IntKind.wrap_u32]; omega
  rw [e1 a ha, e1 b hb, e1 c hc, e1 d hd]
  have e2 : ∀ x y : Int, 0 ≤ x → x < 256 → 0 ≤ y → y ≤ 16777216 → IntKind.u32.wrap (x * y) = x * y := fun x y h1 h2 h3 h4 => by
    rw [IntKind.wrap_u32]
    have := Int.mul_nonneg h1 h3
    have h5 : x * y ≤ 255 * 16777216 := Int.mul_le_mul (by omega) h4 h3 (by omega)
    omega
  rw [e2 a 16777216 (by omega) (by omega) (by omega) (by omega), e2 b 65536 (by omega) (by omega) (by omega) (by omega), e2 c 256 (by omega) (by omega) (by omega) (by omega)]
  rw [bits_join .u32 32 (by decide) wraps_u32 24 ((a : Int) * 16777216) ((b : Int) * 65536) (by omega) (by omega) (by omega) (by omega) (by omega) (by omega)]
  rw [bits_join .u32 32 (by decide) wraps_u32 16 ((a : Int) * 16777216 + (b : Int) * 65536) ((c : Int) * 256) (by omega) (by omega) (by omega) (by omega) (by omega) (by omega)]
  rw [bits_join .u32 32 (by decide) wraps_u32 8 ((a : Int) * 16777216 + (b : Int) * 65536 + (c : Int) * 256) (d : Int) (by omega) (by omega) (by omega) (by omega) (by omega) (by omega)]
  omega

theorem wOf_wb (x : BitVec 32) : wOf (UInt8.ofNat (x.toNat / 16777216)) (UInt8.ofNat (x.toNat / 65536)) (UInt8.ofNat (x.toNat / 256)) (UInt8.ofNat x.toNat) = x := by
  have hx := x.isLt
  apply BitVec.eq_of_toNat_eq
  simp only [wOf, BitVec.toNat_ofNat, UInt8.toNat_ofNat']
  omega
theorem wsOf_wbs : ∀ l : List (BitVec 32), wsOf (wbs l) = l
  | [] => rfl
  | x :: l => by
    have := wsOf_wbs l
    show wsOf (wb x ++ wbs l) = x :: l
    simp only [wb, List.cons_append, List.nil_append, wsOf, this, wOf_wb]
end Go.Proofs.Ytefhbgbhknobjaa
