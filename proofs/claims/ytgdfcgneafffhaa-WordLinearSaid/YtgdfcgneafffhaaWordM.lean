/- Rotations and mixes of words, plain. No condition. -/
import Derived.Test.YtgdfcgneafffhaaWord
namespace Go.Proofs.Ytgdfcgneafffhaa
theorem rot_get (x : BitVec 32) (n : Nat) (hn : n ≤ 31) (i : Nat) (hi : i < 32) : (x.rotateRight n).getLsbD i = x.getLsbD ((i + n) % 32) := by
  rw [BitVec.getLsbD_rotateRight]
  simp only [Nat.mod_eq_of_lt (show n < 32 by omega)]
  by_cases h : i < 32 - n
  · rw [decide_eq_true h, cond_true]; congr 1; omega
  · rw [decide_eq_false h, cond_false, decide_eq_true hi, Bool.true_and]
    congr 1; omega
theorem rot_rot (x : BitVec 32) (n m k : Nat) (hn : n ≤ 31) (hm : m ≤ 31) (hk : k ≤ 31) (h : k = (n + m) % 32) : (x.rotateRight n).rotateRight m = x.rotateRight k := by
  apply BitVec.eq_of_getLsbD_eq
  intro i hi
  rw [rot_get _ m hm i hi, rot_get _ n hn _ (Nat.mod_lt _ (by omega)), rot_get _ k hk i hi]
  congr 1; omega
theorem rot_none (x : BitVec 32) : x.rotateRight 0 = x := by
  apply BitVec.eq_of_getLsbD_eq
  intro i hi
  rw [rot_get _ 0 (by omega) i hi]; congr 1; omega
theorem rot_xor (x y : BitVec 32) (n : Nat) (hn : n ≤ 31) : (x ^^^ y).rotateRight n = x.rotateRight n ^^^ y.rotateRight n := by
  apply BitVec.eq_of_getLsbD_eq
  intro i hi
  rw [BitVec.getLsbD_xor, rot_get _ n hn i hi, rot_get _ n hn i hi, rot_get _ n hn i hi, BitVec.getLsbD_xor]
theorem xor4 (a b c d : BitVec 32) : a ^^^ b ^^^ (c ^^^ d) = a ^^^ c ^^^ (b ^^^ d) := by
  ext i hi; simp; cases a[i] <;> cases b[i] <;> cases c[i] <;> cases d[i] <;> rfl
theorem mix_xor (x y : BitVec 32) (n : Nat) (hn : n ≤ 3) : mix32 (x ^^^ y) n = mix32 x n ^^^ mix32 y n := by
  match n, hn with
  | 0, _ => simp only [mix32]; rw [rot_xor _ _ _ (by omega), rot_xor _ _ _ (by omega), rot_xor _ _ _ (by omega)]; simp only [xor4]
  | 1, _ => simp only [mix32]; rw [rot_xor _ _ _ (by omega), rot_xor _ _ _ (by omega), rot_xor _ _ _ (by omega)]; simp only [xor4]
  | 2, _ => simp only [mix32]; rw [rot_xor _ _ _ (by omega), rot_xor _ _ _ (by omega), BitVec.ushiftRight_xor_distrib]; simp only [xor4]
  | 3, _ => simp only [mix32]; rw [rot_xor _ _ _ (by omega), rot_xor _ _ _ (by omega), BitVec.ushiftRight_xor_distrib]; simp only [xor4]
end Go.Proofs.Ytgdfcgneafffhaa
