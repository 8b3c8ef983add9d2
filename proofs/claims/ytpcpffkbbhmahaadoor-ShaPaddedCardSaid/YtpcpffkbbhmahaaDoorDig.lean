/- What a digest is, in plain Lean: padding, schedule, rounds, steps. No condition. The walk of hashed (one block of a digest). Condition: the block has 64 bytes. Plain laws of a digest's words and signs. No condition. The walk of Digest: it is the plain digest shaS. Condition: the slice's size. The walk of HexTurns. Condition: the string's size. sha.Pad and hex.Check. Conditions: the sizes. -/
import Derived.Test.YtpcpffkbbhmahaaDoorNumW
import Derived.Test.YtpcpffkbbhmahaaDoorMem
import Derived.StillTailTactics
import Derived.IntWalk
import Derived.Deep.LoopGhost
/-! What a digest is, in plain Lean: padding, schedule, rounds, steps. No condition -/
namespace Go.Proofs.YtpcpffkbbhmahaaDoor
open Go.RowKit
abbrev W32 := BitVec 32

/-- the length's bytes, the greatest first -/
def be64 (n : Nat) : List UInt8 := [7, 6, 5, 4, 3, 2, 1, 0].map fun i => UInt8.ofNat (n / 256 ^ i)
/-- how many zeros -/
def zpad (n : Nat) : Nat := (119 - n % 64) % 64
def shaPad (l : List UInt8) : List UInt8 := l ++ [128] ++ List.replicate (zpad l.length) 0 ++ be64 (8 * l.length)
theorem shaPad_len (l : List UInt8) : (shaPad l).length % 64 = 0 ∧ l.length + 9 ≤ (shaPad l).length ∧ (shaPad l).length ≤ l.length + 72 := by
  simp only [shaPad, be64, zpad, List.length_append, List.length_cons, List.length_nil, List.length_replicate, List.length_map]; omega

/-- the next word of a schedule -/
def schNext (w : List W32) : W32 := w[w.length - 16]! + mix32 w[w.length - 15]! 2 + w[w.length - 7]! + mix32 w[w.length - 2]! 3
def sched (b : List W32) : Nat → List W32
  | 0 => b
  | k + 1 => sched b k ++ [schNext (sched b k)]
theorem sched_len (b : List W32) : ∀ k, (sched b k).length = b.length + k
  | 0 => rfl
  | k + 1 => by rw [sched, List.length_append, sched_len b k]; simp; omega

def rks : List W32 := [
  0x428a2f98, 0x71374491, 0xb5c0fbcf, 0xe9b5dba5, 0x3956c25b, 0x59f111f1, 0x923f82a4, 0xab1c5ed5,
  0xd807aa98, 0x12835b01, 0x243185be, 0x550c7dc3, 0x72be5d74, 0x80deb1fe, 0x9bdc06a7, 0xc19bf174,
  0xe49b69c1, 0xefbe4786, 0x0fc19dc6, 0x240ca1cc, 0x2de92c6f, 0x4a7484aa, 0x5cb0a9dc, 0x76f988da,
  0x983e5152, 0xa831c66d, 0xb00327c8, 0xbf597fc7, 0xc6e00bf3, 0xd5a79147, 0x06ca6351, 0x14292967,
  0x27b70a85, 0x2e1b2138, 0x4d2c6dfc, 0x53380d13, 0x650a7354, 0x766a0abb, 0x81c2c92e, 0x92722c85,
  0xa2bfe8a1, 0xa81a664b, 0xc24b8b70, 0xc76c51a3, 0xd192e819, 0xd6990624, 0xf40e3585, 0x106aa070,
  0x19a4c116, 0x1e376c08, 0x2748774c, 0x34b0bcb5, 0x391c0cb3, 0x4ed8aa4a, 0x5b9cca4f, 0x682e6ff3,
  0x748f82ee, 0x78a5636f, 0x84c87814, 0x8cc70208, 0x90befffa, 0xa4506ceb, 0xbef9a3f7, 0xc67178f2]
def h0s : List W32 := [0x6a09e667, 0xbb67ae85, 0x3c6ef372, 0xa54ff53a, 0x510e527f, 0x9b05688c, 0x1f83d9ab, 0x5be0cd19]

def ch32 (x y z : W32) : W32 := (x &&& y) ^^^ (~~~x &&& z)
def maj32 (x y z : W32) : W32 := (x &&& y) ^^^ (x &&& z) ^^^ (y &&& z)
/-- one round -/
def rnd (k w : W32) : List W32 → List W32
  | [a, b, c, d, e, f, g, h] =>
    let one := h + mix32 e 1 + ch32 e f g + k + w
    let two := mix32 a 0 + maj32 a b c
    [one + two, a, b, c, d + one, e, f, g]
  | v => v
def rnds (w v : List W32) : Nat → List W32
  | 0 => v
  | n + 1 => rnd rks[n]! w[n]! (rnds w v n)
theorem rnd_len (k w : W32) (v : List W32) (h : v.length = 8) : (rnd k w v).length = 8 := by
  match v, h with
  | [a, b, c, d, e, f, g, h], _ => rfl
theorem rnds_len (w v : List W32) (h : v.length = 8) : ∀ n, (rnds w v n).length = 8
  | 0 => h
  | n + 1 => rnd_len _ _ _ (rnds_len w v h n)
theorem eight {α : Type} (v : List α) (h : v.length = 8) : ∃ a b c d e f g i, v = [a, b, c, d, e, f, g, i] := by
  match v, h with
  | [a, b, c, d, e, f, g, i], _ => exact ⟨_, _, _, _, _, _, _, _, rfl⟩

/-- eight words behind a block of sixteen -/
def stepS (h b : List W32) : List W32 := List.zipWith (· + ·) (rnds (sched b 48) h 64) h
theorem stepS_len (h b : List W32) (hh : h.length = 8) : (stepS h b).length = 8 := by
  simp [stepS, rnds_len _ _ hh, hh]
/-- block by block -/
def chain (h w : List W32) : Nat → List W32
  | 0 => h
  | k + 1 => stepS (chain h w k) ((w.drop (16 * k)).take 16)
theorem chain_len (h w : List W32) (hh : h.length = 8) : ∀ k, (chain h w k).length = 8
  | 0 => hh
  | k + 1 => stepS_len _ _ (chain_len h w hh k)
/-- the digest's words -/
def shaWs (l : List UInt8) : List W32 := chain h0s (wsOf (shaPad l)) ((shaPad l).length / 64)
theorem shaWs_len (l : List UInt8) : (shaWs l).length = 8 := chain_len _ _ rfl _
/-- the digest's signs -/
def shaS (l : List UInt8) : List UInt8 := hexs (wbs (shaWs l))
theorem shaS_len (l : List UInt8) : (shaS l).length = 64 := by
  rw [shaS, hexs_len, wbs_len, shaWs_len]
theorem ch_choose (x y z : W32) : ch32 x y z = (x &&& y) ||| (~~~x &&& z) := by
  ext i; simp only [ch32, BitVec.getElem_xor, BitVec.getElem_and, BitVec.getElem_or, BitVec.getElem_not]
  cases x[i] <;> simp
theorem maj_most (x y z : W32) : maj32 x y z = ((x &&& y) ||| (x &&& z)) ||| (y &&& z) := by
  ext i; simp only [maj32, BitVec.getElem_xor, BitVec.getElem_and, BitVec.getElem_or]
  cases x[i] <;> cases y[i] <;> cases z[i] <;> rfl
end Go.Proofs.YtpcpffkbbhmahaaDoor
/-! The walk of hashed (one block of a digest). Condition: the block has 64 bytes -/
namespace Go.Proofs.YtpcpffkbbhmahaaDoor
open Go.RowKit
set_option linter.unusedVariables false
set_option linter.unusedSimpArgs false
set_option maxRecDepth 200000
set_option maxHeartbeats 4000000

theorem and31 (n : Nat) (h : n ≤ 31) : bits BinOp.and .u64 (n : Int) 31 = (n : Int) := by
  have key : ∀ n : Fin 32, bits BinOp.and .u64 (n.val : Int) 31 = (n.val : Int) := by decide +kernel
  exact key ⟨n, by omega⟩
theorem wds_len (l : List W32) : (wds l).length = l.length := by simp [wds]
theorem wds_set (l : List W32) (k : Nat) (x : W32) : (wds l).set k (.int .u32 (wd x)) = wds (l.set k x) := by simp [wds, List.map_set]
theorem accb (y : W32) (b : UInt8) : bits BinOp.or IntKind.u32 (IntKind.u32.wrap (wd y * 256)) (IntKind.u32.wrap (b.toNat : Int)) = wd (y <<< 8 ||| BitVec.ofNat 32 b.toNat) := by
  have h1 : IntKind.u32.wrap (wd y * 256) = wd y * 2 ^ 8 % 4294967296 := by rw [IntKind.wrap_u32, show (2 : Int) ^ 8 = 256 by decide]
  have h2 : IntKind.u32.wrap (b.toNat : Int) = wd (BitVec.ofNat 32 b.toNat) := by
    have := b.toNat_lt
    rw [wrap_wd]; simp [wd]
  rw [h1, h2, shl32, bits_or32]
/-- word j of what has been read of a block -/
def accW (l : List UInt8) (i j : Nat) : W32 := (((l.take i).drop (4 * j)).take 4).foldl (fun a b => a <<< 8 ||| BitVec.ofNat 32 b.toNat) 0
def accs (l : List UInt8) (i : Nat) : List W32 := (List.range 64).map (accW l i)
theorem accs_len (l : List UInt8) (i : Nat) : (accs l i).length = 64 := by simp [accs]
theorem accW_next (l : List UInt8) (i : Nat) (h : i < l.length) : accW l (i + 1) (i / 4) = accW l i (i / 4) <<< 8 ||| BitVec.ofNat 32 l[i].toNat := by
  unfold accW
  have h1 : (((l.take i).drop (4 * (i / 4))).take 4) = (l.take i).drop (4 * (i / 4)) := List.take_of_length_le (by rw [List.length_drop, List.length_take]; omega)
  have h2 : (((l.take (i + 1)).drop (4 * (i / 4))).take 4) = (l.take i).drop (4 * (i / 4)) ++ [l[i]] := by
    rw [List.take_succ_eq_append_getElem h, List.drop_append_of_le_length (by rw [List.length_take]; omega)]
    exact List.take_of_length_le (by rw [List.length_append, List.length_drop, List.length_take]; simp only [List.length_cons, List.length_nil]; omega)
  rw [h1, h2, List.foldl_append]
  rfl
theorem accW_other (l : List UInt8) (i j : Nat) (h : i < l.length) (hj : j ≠ i / 4) : accW l (i + 1) j = accW l i j := by
  unfold accW
  rw [List.take_succ_eq_append_getElem h]
  rcases Nat.lt_or_ge j (i / 4) with hlt | hge
  · rw [List.drop_append_of_le_length (by rw [List.length_take]; omega), List.take_append_of_le_length (by rw [List.length_drop, List.length_take]; omega)]
  · rw [List.drop_eq_nil_of_le (by simp; omega), List.drop_eq_nil_of_le (by simp; omega)]
theorem accs_next (l : List UInt8) (i : Nat) (h : i < l.length) (hi : i < 256) : accs l (i + 1) = (accs l i).set (i / 4) (accW l i (i / 4) <<< 8 ||| BitVec.ofNat 32 l[i].toNat) := by
  apply List.ext_getElem (by simp [accs])
  intro j h1 h2
  simp only [accs, List.getElem_map, List.getElem_range, List.getElem_set]
  split
  · rename_i e; subst e; exact accW_next l i h
  · rename_i e; exact accW_other l i j h (fun x => e x.symm)
theorem accs_zero (l : List UInt8) : accs l 0 = List.replicate 64 0 := by
  apply List.ext_getElem (by simp [accs])
  intro j h1 h2
  rw [List.getElem_replicate]
  simp only [accs, accW, List.getElem_map, List.take_zero, List.drop_nil, List.take_nil, List.foldl_nil]

theorem shl_or (x : W32) (b : UInt8) : x <<< 8 ||| BitVec.ofNat 32 b.toNat = x <<< 8 + BitVec.ofNat 32 b.toNat := by
  refine (BitVec.add_eq_or_of_and_eq_zero _ _ ?_).symm
  have hb := b.toNat_lt
  ext i hi
  simp only [BitVec.getElem_and, BitVec.getElem_shiftLeft, BitVec.getElem_zero]
  by_cases h : i < 8
  · simp [h]
  · have e : (BitVec.ofNat 32 b.toNat)[i] = false := by
      rw [← BitVec.getLsbD_eq_getElem, BitVec.getLsbD_ofNat, Nat.testBit_lt_two_pow (Nat.lt_of_lt_of_le hb (Nat.pow_le_pow_right (by omega) (by omega)))]; simp
    rw [e]; simp
theorem four (a b c d : UInt8) : [a, b, c, d].foldl (fun (a : W32) (b : UInt8) => a <<< 8 ||| BitVec.ofNat 32 b.toNat) (0 : W32) = wOf a b c d := by
  simp only [List.foldl_cons, List.foldl_nil, shl_or]
  have ha := a.toNat_lt
  have hb := b.toNat_lt
  have hc := c.toNat_lt
  have hd := d.toNat_lt
  apply BitVec.eq_of_toNat_eq
  simp only [wOf, BitVec.toNat_add, BitVec.toNat_shiftLeft, BitVec.toNat_ofNat, Nat.shiftLeft_eq]
  omega
theorem take4 {α : Type} (l : List α) (k : Nat) (h : k + 3 < l.length) : (l.drop k).take 4 = [l[k], l[k + 1], l[k + 2], l[k + 3]] := by
  rw [List.drop_eq_getElem_cons (by omega), List.drop_eq_getElem_cons (by omega), List.drop_eq_getElem_cons (by omega), List.drop_eq_getElem_cons (by omega)]
  rfl
theorem accs_take (l : List UInt8) (hl : 64 ≤ l.length) : ∀ k, k ≤ 16 → (accs l 64).take k = wsOf (l.take (4 * k))
  | 0, _ => rfl
  | k + 1, hk => by
    have ih := accs_take l hl k (by omega)
    rw [List.take_succ_eq_append_getElem (by rw [accs_len]; omega), ih, wsOf_snoc k l (by omega)]
    congr 2
    simp only [accs, List.getElem_map, List.getElem_range, accW]
    rw [take4 _ _ (by rw [List.length_take]; omega)]
    simp only [List.getElem_take]
    exact four _ _ _ _
theorem accs_all (l : List UInt8) (hl : 64 ≤ l.length) : accs l 64 = sched (wsOf (l.take 64)) 0 ++ List.replicate 48 0 := by
  have h := accs_take l hl 16 (by omega)
  rw [← List.take_append_drop 16 (accs l 64), h]
  congr 1
  apply List.ext_getElem (by simp [accs_len])
  intro j h1 h2
  rw [List.getElem_replicate]
  simp only [accs, List.getElem_drop, List.getElem_map, List.getElem_range, accW]
  rw [List.drop_eq_nil_of_le (by rw [List.length_take]; omega)]
  rfl
theorem schNext_eq (L : List W32) (t : Nat) (hL : L.length = t) (h : 16 ≤ t) : schNext L = L[t - 16] + mix32 L[t - 15] 2 + L[t - 7] + mix32 L[t - 2] 3 := by
  subst hL
  unfold schNext
  rw [getElem!_pos L _ (by omega), getElem!_pos L _ (by omega), getElem!_pos L _ (by omega), getElem!_pos L _ (by omega)]
theorem grow (L : List W32) (t : Nat) (hL : L.length = t) (h : t < 64) (v : W32) : (L ++ List.replicate (64 - t) 0).set t v = (L ++ [v]) ++ List.replicate (64 - (t + 1)) 0 := by
  subst hL
  rw [List.set_append_right _ _ (Nat.le_refl _), Nat.sub_self, show 64 - L.length = (64 - (L.length + 1)) + 1 by omega, List.replicate_succ, List.set_cons_zero, List.append_assoc]
  rfl
theorem add32 (a b : W32) : IntKind.u32.wrap (wd a + wd b) = wd (a + b) := by
  rw [IntKind.wrap_u32]; simp only [wd, BitVec.toNat_add]; omega
theorem dv8w (a : W32) : wd a / (8 : Int) = wd (a >>> 3) := by have := shr32 a 3; simpa using this
theorem dv1024w (a : W32) : wd a / (1024 : Int) = wd (a >>> 10) := by have := shr32 a 10; simpa using this
theorem schval (x1 x2 x3 x4 : W32) : IntKind.u32.wrap (IntKind.u32.wrap (IntKind.u32.wrap (wd x1 + wd x3) + bits BinOp.xor IntKind.u32 (bits BinOp.xor IntKind.u32 (wd (BitVec.rotateRight x2 7)) (wd (BitVec.rotateRight x2 18))) (wd x2 / (8 : Int))) + bits BinOp.xor IntKind.u32 (bits BinOp.xor IntKind.u32 (wd (BitVec.rotateRight x4 17)) (wd (BitVec.rotateRight x4 19))) (wd x4 / (1024 : Int))) = wd (x1 + mix32 x2 2 + x3 + mix32 x4 3) := by
  rw [dv8w, dv1024w]
  simp only [bits_xor32, add32, mix32]
  rw [wd_inj]
  ac_rfl
theorem add5 (a b c d e : W32) : ((wd a + wd b + wd c + wd d) % 4294967296 + wd e) % 4294967296 = wd (a + b + c + d + e) := by
  simp only [wd, BitVec.toNat_add]; omega
theorem oneval (h e f g k w : W32) : ((wd h + bits BinOp.xor IntKind.u32 (bits BinOp.xor IntKind.u32 (wd (BitVec.rotateRight e 6)) (wd (BitVec.rotateRight e 11))) (wd (BitVec.rotateRight e 25)) +
      bits BinOp.xor IntKind.u32 (bits BinOp.and IntKind.u32 (wd e) (wd f)) (bits BinOp.and IntKind.u32 (bits BinOp.xor IntKind.u32 (if IntKind.u32.signed = true then -1 else IntKind.u32.max) (wd e)) (wd g)) + wd k) % 4294967296 + wd w) % 4294967296 = wd (h + mix32 e 1 + ch32 e f g + k + w) := by
  rw [if_neg (by decide)]
  simp only [bits_not32, bits_xor32, bits_and32, add5, mix32, ch32]
theorem add2 (a b : W32) : (wd a + wd b) % 4294967296 = wd (a + b) := by
  simp only [wd, BitVec.toNat_add]; omega
theorem twoval (a b c : W32) : (bits BinOp.xor IntKind.u32 (bits BinOp.xor IntKind.u32 (wd (BitVec.rotateRight a 2)) (wd (BitVec.rotateRight a 13))) (wd (BitVec.rotateRight a 22)) + bits BinOp.xor IntKind.u32 (bits BinOp.xor IntKind.u32 (bits BinOp.and IntKind.u32 (wd a) (wd b)) (bits BinOp.and IntKind.u32 (wd a) (wd c))) (bits BinOp.and IntKind.u32 (wd b) (wd c))) % 4294967296 = wd (mix32 a 0 + maj32 a b c) := by
  simp only [bits_xor32, bits_and32, add2, mix32, maj32]
/-- the sums so far -/
def part (h v : List W32) (k : Nat) : List W32 := (List.zipWith (· + ·) v h).take k ++ h.drop k
theorem part_zero (h v : List W32) : part h v 0 = h := by simp [part]
theorem part_all (h v : List W32) (k : Nat) (h1 : h.length ≤ k) (h2 : v.length = h.length) : part h v k = List.zipWith (· + ·) v h := by
  rw [part, List.drop_eq_nil_of_le h1, List.append_nil, List.take_of_length_le (by rw [List.length_zipWith]; omega)]
theorem part_len (h v : List W32) (k : Nat) (h2 : v.length = h.length) : (part h v k).length = h.length := by
  simp only [part, List.length_append, List.length_take, List.length_zipWith, List.length_drop]; omega
theorem part_next (h v : List W32) (k : Nat) (hk : k < h.length) (h2 : v.length = h.length) : ∃ x y, (wds (part h v k))[k]? = some (.int .u32 (wd x)) ∧ (wds v)[k]? = some (.int .u32 (wd y)) ∧ (part h v k).set k (x + y) = part h v (k + 1) := by
  have hz : (List.zipWith (· + ·) v h).length = h.length := by rw [List.length_zipWith]; omega
  refine ⟨h[k], v[k], ?_, wds_at v k (by omega), ?_⟩
  · rw [wds_at _ k (by rw [part_len h v k h2]; exact hk)]
    have : (part h v k)[k]'(by rw [part_len h v k h2]; exact hk) = h[k] := by
      simp only [part]
      rw [List.getElem_append_right (by simp [hz]; omega)]
      simp only [List.getElem_drop, List.length_take, hz, Nat.min_eq_left (Nat.le_of_lt hk), Nat.sub_self, Nat.add_zero]
    rw [this]
  · simp only [part]
    rw [List.set_append_right _ _ (by simp [hz]; omega), List.length_take, hz, Nat.min_eq_left (Nat.le_of_lt hk), Nat.sub_self, List.drop_eq_getElem_cons hk, List.set_cons_zero, List.take_succ_eq_append_getElem (by omega), List.append_assoc]
    simp [List.getElem_zipWith, BitVec.add_comm]
theorem rnds_next (W v : List W32) (t : Nat) (h : t < 64) (hW : W.length = 64) : rnds W v (t + 1) = rnd (rks[t]'h) (W[t]'(by omega)) (rnds W v t) := by
  rw [rnds, getElem!_pos rks t h, getElem!_pos W t (by omega)]
theorem rks_at (t : Nat) (h : t < 64) : (wds rks)[t]? = some (.int .u32 (wd (rks[t]'h))) := wds_at rks t h
theorem rnds_eight (W v : List W32) (hv : v.length = 8) (t : Nat) (h : t < 64) (hW : W.length = 64) : ∃ v0 v1 v2 v3 v4 v5 v6 v7 kt wt, rnds W v t = [v0, v1, v2, v3, v4, v5, v6, v7] ∧ (wds rks)[t]? = some (.int .u32 (wd kt)) ∧ (wds W)[t]? = some (.int .u32 (wd wt)) ∧
    rnds W v (t + 1) = rnd kt wt [v0, v1, v2, v3, v4, v5, v6, v7] := by
  obtain ⟨v0, v1, v2, v3, v4, v5, v6, v7, e⟩ := eight _ (rnds_len W v hv t)
  exact ⟨v0, v1, v2, v3, v4, v5, v6, v7, _, _, e, rks_at t h, wds_at W t (by omega), by rw [rnds_next W v t h hW, e]⟩
end Go.Proofs.YtpcpffkbbhmahaaDoor
/-! Plain laws of a digest's words and signs. No condition -/
namespace Go.Proofs.YtpcpffkbbhmahaaDoor
open Go.RowKit
set_option linter.unusedVariables false

/-! plain -/
theorem wsOf_short (l : List UInt8) (h : l.length < 4) : wsOf l = [] := by
  match l, h with
  | [], _ => rfl
  | [_], _ => rfl
  | [_, _], _ => rfl
  | [_, _, _], _ => rfl
theorem wsOf_drop4 : ∀ (k : Nat) (l : List UInt8), wsOf (l.drop (4 * k)) = (wsOf l).drop k
  | 0, l => by simp
  | k + 1, l => by
    by_cases h : l.length < 4
    · rw [wsOf_short l h, List.drop_nil, List.drop_eq_nil_of_le (by omega)]; rfl
    · match l, h with
      | a :: b :: c :: d :: r, _ =>
        rw [show 4 * (k + 1) = 4 * k + 4 by omega]
        show wsOf (r.drop (4 * k)) = _
        rw [wsOf_drop4 k r, wsOf, List.drop_succ_cons]
      | [], h => simp at h
      | [_], h => simp at h
      | [_, _], h => simp at h
      | [_, _, _], h => simp at h
theorem wsOf_take4 : ∀ (k : Nat) (l : List UInt8), 4 * k ≤ l.length → wsOf (l.take (4 * k)) = (wsOf l).take k
  | 0, l, _ => by simp [wsOf]
  | k + 1, a :: b :: c :: d :: r, h => by
    rw [show 4 * (k + 1) = 4 * k + 1 + 1 + 1 + 1 by omega]
    simp only [List.take_succ_cons, wsOf]
    rw [wsOf_take4 k r (by simp at h; omega)]
  | k + 1, [], h => by simp at h
  | k + 1, [_], h => by simp at h; omega
  | k + 1, [_, _], h => by simp at h; omega
  | k + 1, [_, _, _], h => by simp at h; omega
theorem chain_next (h : List W32) (P : List UInt8) (k : Nat) (hk : 64 * (k + 1) ≤ P.length) : stepS (chain h (wsOf P) k) (wsOf ((P.drop (64 * k)).take 64)) = chain h (wsOf P) (k + 1) := by
  have e : wsOf ((P.drop (64 * k)).take 64) = ((wsOf P).drop (16 * k)).take 16 := by
    rw [show (64 : Nat) = 4 * 16 from rfl, wsOf_take4 16 _ (by rw [List.length_drop]; omega), show 4 * 16 * k = 4 * (16 * k) by omega, wsOf_drop4]
  rw [e]; rfl
def nib (x : W32) (i : Nat) : UInt8 := dig (x.toNat / 16 ^ (7 - i) % 16)
def nibs (x : W32) (k : Nat) : List UInt8 := (List.range k).map (nib x)
theorem nibs_len (x : W32) (k : Nat) : (nibs x k).length = k := by simp [nibs]
theorem nibs_succ (x : W32) (k : Nat) : nibs x (k + 1) = nibs x k ++ [nib x k] := by simp [nibs, List.range_succ]
theorem nibs_all (x : W32) : nibs x 8 = hexs (wb x) := by
  have hx := x.isLt
  show [nib x 0, nib x 1, nib x 2, nib x 3, nib x 4, nib x 5, nib x 6, nib x 7] = hexs [_, _, _, _]
  simp only [hexs, List.flatMap_cons, List.flatMap_nil, hx1, List.append_nil, List.cons_append, List.nil_append, nib, UInt8.toNat_ofNat']
  generalize x.toNat = n at *
  have e (i : Nat) : (2 : Nat) ^ 8 = 256 := rfl
  rw [show n / 16777216 % 2 ^ 8 / 16 = n / 16 ^ (7 - 0) % 16 by simp only [Nat.reduceSub, Nat.reducePow]; omega, show n / 16777216 % 2 ^ 8 % 16 = n / 16 ^ (7 - 1) % 16 by simp only [Nat.reduceSub, Nat.reducePow]; omega,
    show n / 65536 % 2 ^ 8 / 16 = n / 16 ^ (7 - 2) % 16 by simp only [Nat.reduceSub, Nat.reducePow]; omega, show n / 65536 % 2 ^ 8 % 16 = n / 16 ^ (7 - 3) % 16 by simp only [Nat.reduceSub, Nat.reducePow]; omega,
    show n / 256 % 2 ^ 8 / 16 = n / 16 ^ (7 - 4) % 16 by simp only [Nat.reduceSub, Nat.reducePow]; omega, show n / 256 % 2 ^ 8 % 16 = n / 16 ^ (7 - 5) % 16 by simp only [Nat.reduceSub, Nat.reducePow]; omega,
    show n % 2 ^ 8 / 16 = n / 16 ^ (7 - 6) % 16 by simp only [Nat.reduceSub, Nat.reducePow]; omega, show n % 2 ^ 8 % 16 = n / 16 ^ (7 - 7) % 16 by simp only [Nat.reduceSub, Nat.reducePow]; omega]
theorem be_len (N : Nat) : (be64 N).length = 8 := by simp [be64]
theorem be_next (N k : Nat) (hk : k < 8) : (be64 N).take (k + 1) = (be64 N).take k ++ [UInt8.ofNat (N / 256 ^ (7 - k))] := by
  have h : k < (be64 N).length := by rw [be_len]; exact hk
  rw [List.take_succ_eq_append_getElem h]
  congr 2
  match k, hk with
  | 0, _ => rfl
  | 1, _ => rfl
  | 2, _ => rfl
  | 3, _ => rfl
  | 4, _ => rfl
  | 5, _ => rfl
  | 6, _ => rfl
  | 7, _ => rfl
theorem be_val (n k : Nat) (hk : k < 8) : (n : Int) * 8 / 2 ^ (56 - 8 * k) % 256 = ((UInt8.ofNat (8 * n / 256 ^ (7 - k))).toNat : Int) := by
  have e : (256 : Nat) ^ (7 - k) = 2 ^ (56 - 8 * k) := by
    rw [show (256 : Nat) = 2 ^ 8 by rfl, ← Nat.pow_mul]; congr 1; omega
  rw [UInt8.toNat_ofNat', e, show (n : Int) * 8 = ((8 * n : Nat) : Int) by omega, show (2 : Int) ^ (56 - 8 * k) = ((2 ^ (56 - 8 * k) : Nat) : Int) by simp]
  generalize 2 ^ (56 - 8 * k) = q
  rw [← Int.natCast_ediv, show (2 : Nat) ^ 8 = 256 by rfl]
  omega
theorem nib_bits (x : W32) (k : Nat) (hk : k < 8) : bits BinOp.and IntKind.u32 (wd x / 2 ^ (28 - 4 * k)) 15 = ((x.toNat / 16 ^ (7 - k) % 16 : Nat) : Int) := by
  have e : (16 : Nat) ^ (7 - k) = 2 ^ (28 - 4 * k) := by
    rw [show (16 : Nat) = 2 ^ 4 by rfl, ← Nat.pow_mul]; congr 1; omega
  have h15 : (15 : Int) = wd (15 : W32) := rfl
  rw [shr32, h15, bits_and32, e]
  show (((x >>> (28 - 4 * k)) &&& 15#32).toNat : Int) = _
  rw [BitVec.toNat_and, BitVec.toNat_ushiftRight, Nat.shiftRight_eq_div_pow]
  show (((x.toNat / 2 ^ (28 - 4 * k)) &&& (2 ^ 4 - 1) : Nat) : Int) = _
  rw [Nat.and_two_pow_sub_one_eq_mod]
theorem hexs_app (a b : List UInt8) : hexs (a ++ b) = hexs a ++ hexs b := by simp [hexs]
theorem zpad_go (n k : Nat) (h : (n + 1 + k) % 64 ≠ 56) (hk : k ≤ zpad n) : k < zpad n := by unfold zpad at *; omega
theorem zpad_end (n k : Nat) (h : (n + 1 + k) % 64 = 56) (hk : k ≤ zpad n) : k = zpad n := by unfold zpad at *; omega

end Go.Proofs.YtpcpffkbbhmahaaDoor
/-! The walk of Digest: it is the plain digest shaS. Condition: the slice's size -/
namespace Go.Proofs.YtpcpffkbbhmahaaDoor
open Go.RowKit
set_option linter.unusedVariables false
set_option maxRecDepth 20000

end Go.Proofs.YtpcpffkbbhmahaaDoor
/-! The walk of HexTurns. Condition: the string's size -/
namespace Go.Proofs.YtpcpffkbbhmahaaDoor
open Go.RowKit
set_option linter.unusedVariables false
set_option maxRecDepth 20000
theorem dig_val (a : UInt8) (h : ¬ val a < 0) : dig (val a).toNat = a := by
  have key : ∀ n : Fin 256, ¬ val (UInt8.ofNat n.val) < 0 → dig (val (UInt8.ofNat n.val)).toNat = UInt8.ofNat n.val := by decide +kernel
  have := key ⟨a.toNat, a.toNat_lt⟩
  rw [show UInt8.ofNat (a.toNat) = a from UInt8.ofNat_toNat] at this
  exact this h
theorem hexs_unhx : ∀ (l r : List UInt8), unhx l = some r → hexs r = l
  | [], r, h => by simp [unhx] at h; subst h; rfl
  | [_], r, h => by simp [unhx] at h
  | a :: b :: l, r, h => by
    rw [unhx] at h
    split at h
    · cases h
    · rename_i hv
      simp only [Option.map_eq_some_iff] at h
      obtain ⟨r', hr, rfl⟩ := h
      have ih := hexs_unhx l r' hr
      have ra := val_range a
      have rb := val_range b
      have ea := dig_val a (fun h => hv (.inl h))
      have eb := dig_val b (fun h => hv (.inr h))
      show dig ((UInt8.ofNat (16 * (val a).toNat + (val b).toNat)).toNat / 16) :: dig ((UInt8.ofNat (16 * (val a).toNat + (val b).toNat)).toNat % 16) :: hexs r' = _
      have e : (UInt8.ofNat (16 * (val a).toNat + (val b).toNat)).toNat = 16 * (val a).toNat + (val b).toNat := by rw [UInt8.toNat_ofNat']; omega
      rw [e, show (16 * (val a).toNat + (val b).toNat) / 16 = (val a).toNat by omega, show (16 * (val a).toNat + (val b).toNat) % 16 = (val b).toNat by omega, ea, eb, ih]

end Go.Proofs.YtpcpffkbbhmahaaDoor
/-! sha.Pad and hex.Check. Conditions: the sizes -/
namespace Go.Proofs.YtpcpffkbbhmahaaDoor
open Go.RowKit
set_option linter.unusedVariables false
set_option maxRecDepth 20000

theorem be_val2 (n k j : Nat) (hj : j + k = 7) : 8 * (n : Int) / 2 ^ (8 * j) % 256 = ((UInt8.ofNat (8 * n / 256 ^ (7 - k))).toNat : Int) := by
  have h := be_val n k (by omega)
  rw [show 56 - 8 * k = 8 * j by omega] at h
  rw [Int.mul_comm]; exact h

theorem Pad_big (A : Option Addr) (n c : Nat) (w : World) (hn : 2000 < n) (hc : n ≤ c) (hm : c ≤ 140737488355328) :
    Calls Tryd.prog 4 #[.slice A n c] w fun e w' => e = .returned (.tuple #[.slice none 0 0, .int .i64 1]) ∧ w = w' := by
  go_enter Tryd.func4, Tryd.ntmps4
  repeat' ((fail_if_success at_builtin); (fail_if_success at_make); (first | go_values | go_skip | go_guarded | go_step | go_upon | go_back))
  go_ret2
  exact ⟨rfl, rfl⟩

theorem Pad_ok (A : Option Addr) (n c : Nat) (l : List UInt8) (w : World) (hl : l.length = n) (hn : n ≤ 2000) (hc : n ≤ c) (hr : Rd w 1 A n (bys l)) :
    Calls Tryd.prog 4 #[.slice A n c] w fun e w' => ∃ A' c', e = .returned (.tuple #[.slice A' (shaPad l).length c', .int .i64 0]) ∧ OwnB 5 w.heap.size w' A' c' (shaPad l) ∧ Below w.heap.size w w' := by
  have HL := Lib.hid hl
  clear hl
  go_enter Tryd.func4, Tryd.ntmps4
  repeat' ((fail_if_success at_builtin); (fail_if_success at_make); (first | go_values | go_skip | go_guarded | go_step | go_upon | go_back))
  have hl := HL.out
  refine wpList_ap rfl (.const (.slice none 0 0)) (.tmp 10) rfl elU8 (by rfl) (World.ownsRow_nil w w.heap.size _ _) (by rfl) hr (bys_one _) (by omega) (Nat.le_refl _) ?_
  intro v1 w1 ho1 hg1 _
  have hb1 := below_own (Below.refl _ _) (World.ownsRow_nil w w.heap.size 5 1) (Nat.le_refl _) hg1
  rw [List.nil_append, Nat.zero_add] at ho1
  repeat' ((fail_if_success at_builtin); (fail_if_success at_make); (first | go_values | go_skip | go_guarded | go_step | go_upon | go_back))
  refine wpList_apN rfl (.tmp 11) (.tmp 12) rfl elU8 (by rfl) ho1 rfl rfl (by simp; rfl) (by omega) hb1.size ?_
  intro v2 w2 ho2 hg2 _
  have hb2 := below_own hb1 ho1 (Nat.le_refl _) hg2
  have ho3 : w2.ownsRow w.heap.size 5 1 v2 (n + 1 + 0) (bys (l ++ [128] ++ List.replicate 0 0)) := by
    rw [List.replicate_zero, List.append_nil, bys_app]; exact ho2
  clear hl ho1 ho2 hg2 hg1 hb1
  repeat' ((fail_if_success at_builtin); (fail_if_success at_make); (first | go_values | go_skip | go_guarded | go_step | go_upon | go_back))
  go_loopg [4] (zpad n) (fun gn v wr => ∃ k, gn = zpad n - k ∧ k ≤ zpad n ∧ wr.ownsRow w.heap.size 5 1 v (n + 1 + k) (bys (l ++ [128] ++ List.replicate k 0)) ∧ Below w.heap.size w wr)
  case atStart => exact ⟨0, rfl, by omega, ho3, hb2⟩
  case round =>
    clear ho3 hb2
    obtain ⟨k, hgk, hk, hown, hbel⟩ := hrel
    obtain ⟨A3, c3, rfl, hc3, hrd3⟩ := Rd.of_own' hown
    have hz : zpad n ≤ 63 := by unfold zpad; omega
    by_cases h56 : (n + 1 + k) % 64 = 56
    · have hkz := zpad_end n k h56 hk
      have hb56 : (((n + 1 + k : Nat) : Int) % 64 != 56) = false := by rw [bne_eq_false_iff_eq]; omega
      generalize hm1 : n + 1 + k = m at *
      have HM := Lib.hid hm1
      have hm2 : m ≤ n + 64 := by omega
      clear hm1 h56 hgk
      subst hkz
      repeat' ((fail_if_success at_builtin); (fail_if_success at_make); (first | go_values | go_skip | go_guarded | go_step | go_upon | go_back))
      have ho4 : wr.ownsRow w.heap.size 5 1 (.slice A3 m c3) (m + 0) (bys (l ++ [128] ++ List.replicate (zpad n) 0 ++ (be64 (8 * n)).take 0)) := by
        rw [List.take_zero, List.append_nil]; exact hown
      clear hown hrd3 hc3 hb56
      go_loopg [4, 6] 8 (fun gn v i wr => Below w.heap.size w wr ∧ ((∃ k j : Nat, gn = 8 - k ∧ i = .int .i64 j ∧ j + k = 7 ∧ wr.ownsRow w.heap.size 5 1 v (m + k) (bys (l ++ [128] ++ List.replicate (zpad n) 0 ++ (be64 (8 * n)).take k))) ∨
        (i = .int .i64 (-1) ∧ wr.ownsRow w.heap.size 5 1 v (m + 8) (bys (l ++ [128] ++ List.replicate (zpad n) 0 ++ (be64 (8 * n)).take 8)))))
      case atStart => exact ⟨hbel, .inl ⟨0, 7, rfl, rfl, rfl, ho4⟩⟩
      case round =>
        clear ho4 hbel
        obtain ⟨hbel, ⟨k, j, hgk, rfl, hjk, hown⟩ | ⟨rfl, hown⟩⟩ := hrel
        · have HGK := Lib.hid hgk
          clear hgk
          have HJK := Lib.hid hjk
          have hk7 : k ≤ 7 := by omega
          have hj7 : j ≤ 7 := by omega
          clear hjk
          have hbn := be_next (8 * n) k (by omega)
          have HBN := Lib.hid hbn
          clear hbn
          repeat' ((fail_if_success at_builtin); (fail_if_success at_make); (first | go_values | go_skip | go_guarded | go_step | go_upon | go_back))
          refine wpList_apN rfl (.tmp 28) (.tmp 34) rfl elU8 (by rfl) hown rfl rfl (by simp; rfl) (by omega) hbel.size ?_
          intro v2 w2 ho2 hg2 _
          have hb2 := below_own hbel hown (Nat.le_refl _) hg2
          rw [be_val2 n k j HJK.out] at ho2
          have ho9 : w2.ownsRow w.heap.size 5 1 v2 (m + (k + 1)) (bys (l ++ [128] ++ List.replicate (zpad n) 0 ++ (be64 (8 * n)).take (k + 1))) := by
            rw [HBN.out, ← List.append_assoc, bys_app _ [_]]; exact ho2
          by_cases hj0 : j = 0
          · subst hj0
            repeat' ((fail_if_success at_builtin); (fail_if_success at_make); (first | go_values | go_skip | go_guarded | go_step | go_upon | go_back))
            go_roundg 0
            case measure => have := HGK.out; omega
            case rel =>
              have hk : k = 7 := by have := HJK.out; omega
              subst hk
              exact ⟨hb2, .inr ⟨by go_num, ho9⟩⟩
          · have hj1 : 1 ≤ j := by omega
            clear hj0
            repeat' ((fail_if_success at_builtin); (fail_if_success at_make); (first | go_values | go_skip | go_guarded | go_step | go_upon | go_back))
            go_roundg (8 - (k + 1))
            case measure => have := HGK.out; omega
            case rel => exact ⟨hb2, .inl ⟨k + 1, j - 1, rfl, by go_num, by have := HJK.out; omega, ho9⟩⟩
        · have hsp : l ++ [128] ++ List.replicate (zpad n) 0 ++ (be64 (8 * n)).take 8 = shaPad l := by
            rw [List.take_of_length_le (by rw [be_len]; omega)]; unfold shaPad; rw [HL.out]
          have hpl2 : (shaPad l).length = m + 8 := by rw [← hsp]; have := HM.out; have := HL.out; simp [be_len]; omega
          rw [hsp] at hown
          clear hsp
          obtain ⟨A5, c5, rfl, hc5, hrd5⟩ := Rd.of_own' hown
          have HPL := Lib.hid hpl2
          clear hpl2 hown
          repeat' ((fail_if_success at_builtin); (fail_if_success at_make); (first | go_values | go_skip | go_guarded | go_step | go_upon | go_back))
          refine wpList_ap rfl (.const (.slice none 0 0)) (.tmp 36) rfl elU8 (by rfl) (World.ownsRow_nil wr w.heap.size _ _) (by rfl) hrd5 (bys_one _) (by omega) hbel.size ?_
          intro v8 w8 ho8 hg8 _
          have hb8 := below_own hbel (World.ownsRow_nil wr w.heap.size 5 1) (Nat.le_refl _) hg8
          rw [List.nil_append, Nat.zero_add] at ho8
          obtain ⟨A9, c9, rfl, ho9⟩ := OwnB.of HPL.out ho8
          repeat' ((fail_if_success at_builtin); (fail_if_success at_make); (first | go_values | go_skip | go_guarded | go_step | go_upon | go_back))
          go_ret2
          exact ⟨A9, c9, rfl, ho9, hb8⟩
    · have hkz := zpad_go n k h56 hk
      have hb56 : (((n + 1 + k : Nat) : Int) % 64 != 56) = true := by rw [bne_iff_ne]; omega
      generalize hm1 : n + 1 + k = m at *
      have HM := Lib.hid hm1
      have hm2 : m ≤ n + 64 := by omega
      have HGK := Lib.hid hgk
      clear hm1 h56 hgk
      repeat' ((fail_if_success at_builtin); (fail_if_success at_make); (first | go_values | go_skip | go_guarded | go_step | go_upon | go_back))
      refine wpList_apN rfl (.tmp 18) (.tmp 19) rfl elU8 (by rfl) hown rfl rfl (by simp; rfl) (by omega) hbel.size ?_
      intro v2 w2 ho2 hg2 _
      have hb2 := below_own hbel hown (Nat.le_refl _) hg2
      repeat' ((fail_if_success at_builtin); (fail_if_success at_make); (first | go_values | go_skip | go_guarded | go_step | go_upon | go_back))
      go_roundg (zpad n - (k + 1))
      case measure => have := HGK.out; omega
      case rel =>
        refine ⟨k + 1, rfl, by omega, ?_, hb2⟩
        rw [← Nat.add_assoc, HM.out, List.replicate_succ', ← List.append_assoc, bys_app]
        exact ho2

/-- hex.Check: what it answers -/
def hexC (l : List UInt8) : Nat := if l.length ≠ 64 then 1 else (hexB l).2
end Go.Proofs.YtpcpffkbbhmahaaDoor
