/- What a digest is, in plain Lean: padding, schedule, rounds, steps. No condition. -/
import Derived.Test.YtefhbgbhknobjaaWW
import Derived.Test.YtefhbgbhknobjaaMix
import Derived.Test.YtefhbgbhknobjaaHexB
namespace Go.Proofs.Ytefhbgbhknobjaa
open Go.RowKit
set_option linter.unusedVariables false
set_option linter.unusedSimpArgs false
abbrev W32 := BitVec 32

/-- the length's bytes, the greatest first -/
def be64 (n : Nat) : List UInt8 := [7, 6, 5, 4, 3, 2, 1, 0].map fun i => UInt8.ofNat (n / 256 ^ i)
/-- how many zeros -/
def zpad (n : Nat) : Nat := (119 - n % 64) % 64
def shaPad (l : List UInt8) : List UInt8 := l ++ [128] ++ List.replicate (zpad l.length) 0 ++ be64 (8 * l.length)
theorem shaPad_len (l : List UInt8) : (shaPad l).length % 64 = 0 ∧ l.length + 9 ≤ (shaPad l).length ∧ (shaPad l).length ≤ l.length + 72 := by
  simp only [shaPad, be64, zpad, List.length_append, List.length_cons, List.length_nil, List.length_replicate, List.length_map]; omega

/-- the next word of a schedule -/
def schNext (w : List W32) : W32 := w[w.length - 16]! + mix32 w[w.length - 15]! 2 + w[w.length - 7]! + mix32 w[w.length - 2]! 3
def sched (b : List W32) : Nat → List W32
  | 0 => b
  | k + 1 => sched b k ++ [schNext (sched b k)]
theorem sched_len (b : List W32) : ∀ k, (sched b k).length = b.length + k
  | 0 => rfl
  | k + 1 => by rw [sched, List.length_append, sched_len b k]; simp; omega

def rks : List W32 := [
  0x428a2f98, 0x71374491, 0xb5c0fbcf, 0xe9b5dba5, 0x3956c25b, 0x59f111f1, 0x923f82a4, 0xab1c5ed5,
  0xd807aa98, 0x12835b01, 0x243185be, 0x550c7dc3, 0x72be5d74, 0x80deb1fe, 0x9bdc06a7, 0xc19bf174,
  0xe49b69c1, 0xefbe4786, 0x0fc19dc6, 0x240ca1cc, 0x2de92c6f, 0x4a7484aa, 0x5cb0a9dc, 0x76f988da,
  0x983e5152, 0xa831c66d, 0xb00327c8, 0xbf597fc7, 0xc6e00bf3, 0xd5a79147, 0x06ca6351, 0x14292967,
  0x27b70a85, 0x2e1b2138, 0x4d2c6dfc, 0x53380d13, 0x650a7354, 0x766a0abb, 0x81c2c92e, 0x92722c85,
  0xa2bfe8a1, 0xa81a664b, 0xc24b8b70, 0xc76c51a3, 0xd192e819, 0xd6990624, 0xf40e3585, 0x106aa070,
  0x19a4c116, 0x1e376c08, 0x2748774c, 0x34b0bcb5, 0x391c0cb3, 0x4ed8aa4a, 0x5b9cca4f, 0x682e6ff3,
  0x748f82ee, 0x78a5636f, 0x84c87814, 0x8cc70208, 0x90befffa, 0xa4506ceb, 0xbef9a3f7, 0xc67178f2]
def h0s : List W32 := [0x6a09e667, 0xbb67ae85, 0x3c6ef372, 0xa54ff53a, 0x510e527f, 0x9b05688c, 0x1f83d9ab, 0x5be0cd19]

def ch32 (x y z : W32) : W32 := (x &&& y) ^^^ (~~~x &&& z)
def maj32 (x y z : W32) : W32 := (x &&& y) ^^^ (x &&& z) ^^^ (y &&& z)
/-- one round -/
def rnd (k w : W32) : List W32 → List W32
  | [a, b, c, d, e, f, g, h] =>
    let one := h + mix32 e 1 + ch32 e f g + k + w
    let two := mix32 a 0 + maj32 a b c
    [one + two, a, b, c, d + one, e, f, g]
  | v => v
def rnds (w v : List W32) : Nat → List W32
  | 0 => v
  | n + 1 => rnd rks[n]! w[n]! (rnds w v n)
theorem rnd_len (k w : W32) (v : List W32) (h : v.length = 8) : (rnd k w v).length = 8 := by
  match v, h with
  | [a, b, c, d, e, f, g, h], _ => rfl
theorem rnds_len (w v : List W32) (h : v.length = 8) : ∀ n, (rnds w v n).length = 8
  | 0 => h
  | n + 1 => rnd_len _ _ _ (rnds_len w v h n)
theorem eight {α : Type} (v : List α) (h : v.length = 8) : ∃ a b c d e f g i, v = [a, b, c, d, e, f, g, i] := by
  match v, h with
  | [a, b, c, d, e, f, g, i], _ => exact ⟨_, _, _, _, _, _, _, _, rfl⟩

/-- eight words behind a block of sixteen -/
def stepS (h b : List W32) : List W32 := List.zipWith (· + ·) (rnds (sched b 48) h 64) h
theorem stepS_len (h b : List W32) (hh : h.length = 8) : (stepS h b).length = 8 := by
  simp [stepS, rnds_len _ _ hh, hh]
/-- block by block -/
def chain (h w : List W32) : Nat → List W32
  | 0 => h
  | k + 1 => stepS (chain h w k) ((w.drop (16 * k)).take 16)
theorem chain_len (h w : List W32) (hh : h.length = 8) : ∀ k, (chain h w k).length = 8
  | 0 => hh
  | k + 1 => stepS_len _ _ (chain_len h w hh k)
/-- the digest's words -/
def shaWs (l : List UInt8) : List W32 := chain h0s (wsOf (shaPad l)) ((shaPad l).length / 64)
theorem shaWs_len (l : List UInt8) : (shaWs l).length = 8 := chain_len _ _ rfl _
/-- the digest's signs -/
def shaS (l : List UInt8) : List UInt8 := hexs (wbs (shaWs l))
theorem shaS_len (l : List UInt8) : (shaS l).length = 64 := by
  rw [shaS, hexs_len, wbs_len, shaWs_len]
theorem ch_choose (x y z : W32) : ch32 x y z = (x &&& y) ||| (~~~x &&& z) := by
  ext i; simp only [ch32, BitVec.getElem_xor, BitVec.getElem_and, BitVec.getElem_or, BitVec.getElem_not]
  cases x[i] <;> simp
theorem maj_most (x y z : W32) : maj32 x y z = ((x &&& y) ||| (x &&& z)) ||| (y &&& z) := by
  ext i; simp only [maj32, BitVec.getElem_xor, BitVec.getElem_and, BitVec.getElem_or]
  cases x[i] <;> cases y[i] <;> cases z[i] <;> rfl
end Go.Proofs.Ytefhbgbhknobjaa
