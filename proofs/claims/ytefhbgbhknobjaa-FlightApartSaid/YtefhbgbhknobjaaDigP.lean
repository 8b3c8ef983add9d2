/- Plain laws of a digest's words and signs. No condition. -/
import Derived.Test.YtefhbgbhknobjaaShaP
namespace Go.Proofs.Ytefhbgbhknobjaa
open Go.RowKit
set_option linter.unusedVariables false
set_option linter.unusedSimpArgs false

/-! plain -/
theorem wsOf_short (l : List UInt8) (h : l.length < 4) : wsOf l = [] := by
  match l, h with
  | [], _ => rfl
  | [_], _ => rfl
  | [_, _], _ => rfl
  | [_, _, _], _ => rfl
theorem wsOf_drop4 : ∀ (k : Nat) (l : List UInt8), wsOf (l.drop (4 * k)) = (wsOf l).drop k
  | 0, l => by simp
  | k + 1, l => by
    by_cases h : l.length < 4
    · rw [wsOf_short l h, List.drop_nil, List.drop_eq_nil_of_le (by omega)]; rfl
    · match l, h with
      | a :: b :: c :: d :: r, _ =>
        rw [show 4 * (k + 1) = 4 * k + 4 by omega]
        show wsOf (r.drop (4 * k)) = _
        rw [wsOf_drop4 k r, wsOf, List.drop_succ_cons]
      | [], h => simp at h
      | [_], h => simp at h
      | [_, _], h => simp at h
      | [_, _, _], h => simp at h
theorem wsOf_take4 : ∀ (k : Nat) (l : List UInt8), 4 * k ≤ l.length → wsOf (l.take (4 * k)) = (wsOf l).take k
  | 0, l, _ => by simp [wsOf]
  | k + 1, a :: b :: c :: d :: r, h => by
    rw [show 4 * (k + 1) = 4 * k + 1 + 1 + 1 + 1 by omega]
    simp only [List.take_succ_cons, wsOf]
    rw [wsOf_take4 k r (by simp at h; omega)]
  | k + 1, [], h => by simp at h
  | k + 1, [_], h => by simp at h; omega
  | k + 1, [_, _], h => by simp at h; omega
  | k + 1, [_, _, _], h => by simp at h; omega
theorem chain_next (h : List W32) (P : List UInt8) (k : Nat) (hk : 64 * (k + 1) ≤ P.length) : stepS (chain h (wsOf P) k) (wsOf ((P.drop (64 * k)).take 64)) = chain h (wsOf P) (k + 1) := by
  have e : wsOf ((P.drop (64 * k)).take 64) = ((wsOf P).drop (16 * k)).take 16 := by
    rw [show (64 : Nat) = 4 * 16 from rfl, wsOf_take4 16 _ (by rw [List.length_drop]; omega), show 4 * 16 * k = 4 * (16 * k) by omega, wsOf_drop4]
  rw [e]; rfl
def nib (x : W32) (i : Nat) : UInt8 := dig (x.toNat / 16 ^ (7 - i) % 16)
def nibs (x : W32) (k : Nat) : List UInt8 := (List.range k).map (nib x)
theorem nibs_len (x : W32) (k : Nat) : (nibs x k).length = k := by simp [nibs]
theorem nibs_succ (x : W32) (k : Nat) : nibs x (k + 1) = nibs x k ++ [nib x k] := by simp [nibs, List.range_succ]
theorem nibs_all (x : W32) : nibs x 8 = hexs (wb x) := by
  have hx := x.isLt
  show [nib x 0, nib x 1, nib x 2, nib x 3, nib x 4, nib x 5, nib x 6, nib x 7] = hexs [_, _, _, _]
  simp only [hexs, List.flatMap_cons, List.flatMap_nil, hx1, List.append_nil, List.cons_append, List.nil_append, nib, UInt8.toNat_ofNat']
  generalize x.toNat = n at *
  have e (i : Nat) : (2 : Nat) ^ 8 = 256 := rfl
  rw [show n / 16777216 % 2 ^ 8 / 16 = n / 16 ^ (7 - 0) % 16 by simp only [Nat.reduceSub, Nat.reducePow]; omega, show n / 16777216 % 2 ^ 8 % 16 = n / 16 ^ (7 - 1) % 16 by simp only [Nat.reduceSub, Nat.reducePow]; omega,
    show n / 65536 % 2 ^ 8 / 16 = n / 16 ^ (7 - 2) % 16 by simp only [Nat.reduceSub, Nat.reducePow]; omega, show n / 65536 % 2 ^ 8 % 16 = n / 16 ^ (7 - 3) % 16 by simp only [Nat.reduceSub, Nat.reducePow]; omega,
    show n / 256 % 2 ^ 8 / 16 = n / 16 ^ (7 - 4) % 16 by simp only [Nat.reduceSub, Nat.reducePow]; omega, show n / 256 % 2 ^ 8 % 16 = n / 16 ^ (7 - 5) % 16 by simp only [Nat.reduceSub, Nat.reducePow]; omega,
    show n % 2 ^ 8 / 16 = n / 16 ^ (7 - 6) % 16 by simp only [Nat.reduceSub, Nat.reducePow]; omega, show n % 2 ^ 8 % 16 = n / 16 ^ (7 - 7) % 16 by simp only [Nat.reduceSub, Nat.reducePow]; omega]
theorem be_len (N : Nat) : (be64 N).length = 8 := by simp [be64]
theorem be_next (N k : Nat) (hk : k < 8) : (be64 N).take (k + 1) = (be64 N).take k ++ [UInt8.ofNat (N / 256 ^ (7 - k))] := by
  have h : k < (be64 N).length := by rw [be_len]; exact hk
  rw [List.take_succ_eq_append_getElem h]
  congr 2
  match k, hk with
  | 0, _ => rfl
  | 1, _ => rfl
  | 2, _ => rfl
  | 3, _ => rfl
  | 4, _ => rfl
  | 5, _ => rfl
  | 6, _ => rfl
  | 7, _ => rfl
theorem be_val (n k : Nat) (hk : k < 8) : (n : Int) * 8 / 2 ^ (56 - 8 * k) % 256 = ((UInt8.ofNat (8 * n / 256 ^ (7 - k))).toNat : Int) := by
  have e : (256 : Nat) ^ (7 - k) = 2 ^ (56 - 8 * k) := by
    rw [show (256 : Nat) = 2 ^ 8 by rfl, ← Nat.pow_mul]; congr 1; omega
  rw [UInt8.toNat_ofNat', e, show (n : Int) * 8 = ((8 * n : Nat) : Int) by omega, show (2 : Int) ^ (56 - 8 * k) = ((2 ^ (56 - 8 * k) : Nat) : Int) by simp]
  generalize 2 ^ (56 - 8 * k) = q
  rw [← Int.natCast_ediv, show (2 : Nat) ^ 8 = 256 by rfl]
  omega
theorem nib_bits (x : W32) (k : Nat) (hk : k < 8) : bits BinOp.and IntKind.u32 (wd x / 2 ^ (28 - 4 * k)) 15 = ((x.toNat / 16 ^ (7 - k) % 16 : Nat) : Int) := by
  have e : (16 : Nat) ^ (7 - k) = 2 ^ (28 - 4 * k) := by
    rw [show (16 : Nat) = 2 ^ 4 by rfl, ← Nat.pow_mul]; congr 1; omega
  have h15 : (15 : Int) = wd (15 : W32) := rfl
  rw [shr32, h15, bits_and32, e]
  show (((x >>> (28 - 4 * k)) &&& 15#32).toNat : Int) = _
  rw [BitVec.toNat_and, BitVec.toNat_ushiftRight, Nat.shiftRight_eq_div_pow]
  show (((x.toNat / 2 ^ (28 - 4 * k)) &&& (2 ^ 4 - 1) : Nat) : Int) = _
  rw [Nat.and_two_pow_sub_one_eq_mod]
theorem idx8 (a0 a1 a2 a3 a4 a5 a6 a7 : W32) (j : Nat) (hj : j < 8) : ∃ x, [a0, a1, a2, a3, a4, a5, a6, a7][j]? = some x ∧ ∀ w : World, (Instr.index 66 (.agg #[.int .u32 (wd a0), .int .u32 (wd a1), .int .u32 (wd a2), .int .u32 (wd a3), .int .u32 (wd a4), .int .u32 (wd a5), .int .u32 (wd a6), .int .u32 (wd a7)]) (.int .i64 (j : Int))).run Try.prog w = .ok (.int .u32 (wd x)) w :=
  match j, hj with
  | 0, _ => ⟨a0, rfl, fun _ => by kernel_rfl⟩
  | 1, _ => ⟨a1, rfl, fun _ => by kernel_rfl⟩
  | 2, _ => ⟨a2, rfl, fun _ => by kernel_rfl⟩
  | 3, _ => ⟨a3, rfl, fun _ => by kernel_rfl⟩
  | 4, _ => ⟨a4, rfl, fun _ => by kernel_rfl⟩
  | 5, _ => ⟨a5, rfl, fun _ => by kernel_rfl⟩
  | 6, _ => ⟨a6, rfl, fun _ => by kernel_rfl⟩
  | 7, _ => ⟨a7, rfl, fun _ => by kernel_rfl⟩
theorem hexs_app (a b : List UInt8) : hexs (a ++ b) = hexs a ++ hexs b := by simp [hexs]
theorem zpad_go (n k : Nat) (h : (n + 1 + k) % 64 ≠ 56) (hk : k ≤ zpad n) : k < zpad n := by unfold zpad at *; omega
theorem zpad_end (n k : Nat) (h : (n + 1 + k) % 64 = 56) (hk : k ≤ zpad n) : k = zpad n := by unfold zpad at *; omega

end Go.Proofs.Ytefhbgbhknobjaa
