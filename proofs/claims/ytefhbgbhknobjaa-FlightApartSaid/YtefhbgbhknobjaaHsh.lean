/- The walk of hashed (one block of a digest). Condition: the block has 64 bytes. -/
import Derived.Test.YtefhbgbhknobjaaShaP
import Derived.Test.YtefhbgbhknobjaaArr
import Derived.StillTailTactics
import Derived.IntWalk
namespace Go.Proofs.Ytefhbgbhknobjaa
open Go.RowKit
set_option linter.unusedVariables false
set_option linter.unusedSimpArgs false
set_option maxRecDepth 200000
set_option maxHeartbeats 4000000

theorem and31 (n : Nat) (h : n ≤ 31) : bits BinOp.and .u64 (n : Int) 31 = (n : Int) := by
  have key : ∀ n : Fin 32, bits BinOp.and .u64 (n.val : Int) 31 = (n.val : Int) := by decide +kernel
  exact key ⟨n, by omega⟩
theorem RotL_ok (x : BitVec 32) (n : Nat) (w : World) (h0 : 0 < n) (hn : n ≤ 31) : Calls Try.prog 35 #[.int .u32 (wd x), .int .i64 n] w fun e w' => e = .returned (.int .u32 (wd (x.rotateRight (32 - n)))) ∧ w = w' := by
  have h1 := and31 n hn
  have h2 : (n : Int) < 32 := by omega
  have h3 : IntKind.u64.wrap (n : Int) = n := by rw [IntKind.wrap_u64]; omega
  have h4 : IntKind.u64.wrap (32 - (n : Int)) = 32 - (n : Int) := by rw [IntKind.wrap_u64]; omega
  have h5 : (32 - (n : Int)) < 32 := by omega
  have h6 : (32 - (n : Int)).toNat = 32 - n := by omega
  go_enter Try.func35, Try.ntmps35
  repeat' ((fail_if_success at_builtin); (fail_if_success at_make); (first | go_values | go_skip | go_guarded | go_step | go_upon | go_back))
  go_ret
  refine ⟨?_, rfl⟩
  have t := rot32 x (32 - n) (by omega)
  rw [show 32 - (32 - n) = n by omega, shl32, shr32, bits_or32, wd_inj] at t
  have e : bits .or .u32 (wd x * 2 ^ n % 4294967296) (wd x / 2 ^ (32 - n)) = wd (x.rotateRight (32 - n)) := by
    rw [shl32, shr32, bits_or32, BitVec.or_comm, t]
  show Ending.returned (.int .u32 (bits .or .u32 (wd x * 2 ^ n % 4294967296) (wd x / 2 ^ (32 - n)))) = _
  rw [e]

theorem wds_len (l : List W32) : (wds l).length = l.length := by simp [wds]
theorem wds_set (l : List W32) (k : Nat) (x : W32) : (wds l).set k (.int .u32 (wd x)) = wds (l.set k x) := by simp [wds, List.map_set]
theorem RotL_at (x : BitVec 32) (n : Nat) (N : Int) (hN : N = n) (w : World) (h0 : 0 < n) (hn : n ≤ 31) : Calls Try.prog 35 #[.int .u32 (wd x), .int .i64 N] w fun e w' => e = .returned (.int .u32 (wd (x.rotateRight (32 - n)))) ∧ w = w' := by
  subst hN; exact RotL_ok x n w h0 hn
theorem RotL_st (x : BitVec 32) (n : Nat) (N : Int) (hN : N = n) (w : World) (h0 : 0 < n) (hn : n ≤ 31) : Calls Try.prog 35 #[.int .u32 (wd x), .int .i64 N] w fun e w' => e = .returned (.int .u32 (wd (x.rotateRight (32 - n)))) ∧ w' = w :=
  (RotL_at x n N hN w h0 hn).mono fun _ _ h => ⟨h.1, h.2.symm⟩
theorem RotL_any (x : BitVec 32) (N : Int) (w : World) (h0 : 0 < N) (hn : N ≤ 31) : Calls Try.prog 35 #[.int .u32 (wd x), .int .i64 N] w fun e w' => e = .returned (.int .u32 (wd (x.rotateRight (32 - N.toNat)))) ∧ w' = w := by
  obtain ⟨n, rfl⟩ := Int.eq_ofNat_of_zero_le (Int.le_of_lt h0)
  exact RotL_st x n n rfl w (by omega) (by omega)
theorem accb (y : W32) (b : UInt8) : bits BinOp.or IntKind.u32 (IntKind.u32.wrap (wd y * 256)) (IntKind.u32.wrap (b.toNat : Int)) = wd (y <<< 8 ||| BitVec.ofNat 32 b.toNat) := by
  have h1 : IntKind.u32.wrap (wd y * 256) = wd y * 2 ^ 8 % 4294967296 := by rw [IntKind.wrap_u32, show (2 : Int) ^ 8 = 256 by decide]
  have h2 : IntKind.u32.wrap (b.toNat : Int) = wd (BitVec.ofNat 32 b.toNat) := by
    have := b.toNat_lt
    rw [wrap_wd]; simp [wd]
  rw [h1, h2, shl32, bits_or32]
/-- word j of what has been read of a block -/
def accW (l : List UInt8) (i j : Nat) : W32 := (((l.take i).drop (4 * j)).take 4).foldl (fun a b => a <<< 8 ||| BitVec.ofNat 32 b.toNat) 0
def accs (l : List UInt8) (i : Nat) : List W32 := (List.range 64).map (accW l i)
theorem accs_len (l : List UInt8) (i : Nat) : (accs l i).length = 64 := by simp [accs]
theorem accW_next (l : List UInt8) (i : Nat) (h : i < l.length) : accW l (i + 1) (i / 4) = accW l i (i / 4) <<< 8 ||| BitVec.ofNat 32 l[i].toNat := by
  unfold accW
  have h1 : (((l.take i).drop (4 * (i / 4))).take 4) = (l.take i).drop (4 * (i / 4)) := List.take_of_length_le (by rw [List.length_drop, List.length_take]; omega)
  have h2 : (((l.take (i + 1)).drop (4 * (i / 4))).take 4) = (l.take i).drop (4 * (i / 4)) ++ [l[i]] := by
    rw [List.take_succ_eq_append_getElem h, List.drop_append_of_le_length (by rw [List.length_take]; omega)]
    exact List.take_of_length_le (by rw [List.length_append, List.length_drop, List.length_take]; simp only [List.length_cons, List.length_nil]; omega)
  rw [h1, h2, List.foldl_append]
  rfl
theorem accW_other (l : List UInt8) (i j : Nat) (h : i < l.length) (hj : j ≠ i / 4) : accW l (i + 1) j = accW l i j := by
  unfold accW
  rw [List.take_succ_eq_append_getElem h]
  rcases Nat.lt_or_ge j (i / 4) with hlt | hge
  · rw [List.drop_append_of_le_length (by rw [List.length_take]; omega), List.take_append_of_le_length (by rw [List.length_drop, List.length_take]; omega)]
  · rw [List.drop_eq_nil_of_le (by simp; omega), List.drop_eq_nil_of_le (by simp; omega)]
theorem accs_next (l : List UInt8) (i : Nat) (h : i < l.length) (hi : i < 256) : accs l (i + 1) = (accs l i).set (i / 4) (accW l i (i / 4) <<< 8 ||| BitVec.ofNat 32 l[i].toNat) := by
  apply List.ext_getElem (by simp [accs])
  intro j h1 h2
  simp only [accs, List.getElem_map, List.getElem_range, List.getElem_set]
  split
  · rename_i e; subst e; exact accW_next l i h
  · rename_i e; exact accW_other l i j h (fun x => e x.symm)
theorem accs_zero (l : List UInt8) : accs l 0 = List.replicate 64 0 := by
  apply List.ext_getElem (by simp [accs])
  intro j h1 h2
  rw [List.getElem_replicate]
  simp only [accs, accW, List.getElem_map, List.take_zero, List.drop_nil, List.take_nil, List.foldl_nil]

theorem shl_or (x : W32) (b : UInt8) : x <<< 8 ||| BitVec.ofNat 32 b.toNat = x <<< 8 + BitVec.ofNat 32 b.toNat := by
  refine (BitVec.add_eq_or_of_and_eq_zero _ _ ?_).symm
  have hb := b.toNat_lt
  ext i hi
  simp only [BitVec.getElem_and, BitVec.getElem_shiftLeft, BitVec.getElem_zero]
  by_cases h : i < 8
  · simp [h]
  · have e : (BitVec.ofNat 32 b.toNat)[i] = false := by
      rw [← BitVec.getLsbD_eq_getElem, BitVec.getLsbD_ofNat, Nat.testBit_lt_two_pow (Nat.lt_of_lt_of_le hb (Nat.pow_le_pow_right (by omega) (by omega)))]; simp
    rw [e]; simp
theorem four (a b c d : UInt8) : [a, b, c, d].foldl (fun (a : W32) (b : UInt8) => a <<< 8 ||| BitVec.ofNat 32 b.toNat) (0 : W32) = wOf a b c d := by
  simp only [List.foldl_cons, List.foldl_nil, shl_or]
  have ha := a.toNat_lt
  have hb := b.toNat_lt
  have hc := c.toNat_lt
  have hd := d.toNat_lt
  apply BitVec.eq_of_toNat_eq
  simp only [wOf, BitVec.toNat_add, BitVec.toNat_shiftLeft, BitVec.toNat_ofNat, Nat.shiftLeft_eq]
  omega
theorem take4 {α : Type} (l : List α) (k : Nat) (h : k + 3 < l.length) : (l.drop k).take 4 = [l[k], l[k + 1], l[k + 2], l[k + 3]] := by
  rw [List.drop_eq_getElem_cons (by omega), List.drop_eq_getElem_cons (by omega), List.drop_eq_getElem_cons (by omega), List.drop_eq_getElem_cons (by omega)]
  rfl
theorem accs_take (l : List UInt8) (hl : 64 ≤ l.length) : ∀ k, k ≤ 16 → (accs l 64).take k = wsOf (l.take (4 * k))
  | 0, _ => rfl
  | k + 1, hk => by
    have ih := accs_take l hl k (by omega)
    rw [List.take_succ_eq_append_getElem (by rw [accs_len]; omega), ih, wsOf_snoc k l (by omega)]
    congr 2
    simp only [accs, List.getElem_map, List.getElem_range, accW]
    rw [take4 _ _ (by rw [List.length_take]; omega)]
    simp only [List.getElem_take]
    exact four _ _ _ _
theorem accs_all (l : List UInt8) (hl : 64 ≤ l.length) : accs l 64 = sched (wsOf (l.take 64)) 0 ++ List.replicate 48 0 := by
  have h := accs_take l hl 16 (by omega)
  rw [← List.take_append_drop 16 (accs l 64), h]
  congr 1
  apply List.ext_getElem (by simp [accs_len])
  intro j h1 h2
  rw [List.getElem_replicate]
  simp only [accs, List.getElem_drop, List.getElem_map, List.getElem_range, accW]
  rw [List.drop_eq_nil_of_le (by rw [List.length_take]; omega)]
  rfl
theorem schNext_eq (L : List W32) (t : Nat) (hL : L.length = t) (h : 16 ≤ t) : schNext L = L[t - 16] + mix32 L[t - 15] 2 + L[t - 7] + mix32 L[t - 2] 3 := by
  subst hL
  unfold schNext
  rw [getElem!_pos L _ (by omega), getElem!_pos L _ (by omega), getElem!_pos L _ (by omega), getElem!_pos L _ (by omega)]
theorem grow (L : List W32) (t : Nat) (hL : L.length = t) (h : t < 64) (v : W32) : (L ++ List.replicate (64 - t) 0).set t v = (L ++ [v]) ++ List.replicate (64 - (t + 1)) 0 := by
  subst hL
  rw [List.set_append_right _ _ (Nat.le_refl _), Nat.sub_self, show 64 - L.length = (64 - (L.length + 1)) + 1 by omega, List.replicate_succ, List.set_cons_zero, List.append_assoc]
  rfl
theorem add32 (a b : W32) : IntKind.u32.wrap (wd a + wd b) = wd (a + b) := by
  rw [IntKind.wrap_u32]; simp only [wd, BitVec.toNat_add]; omega
theorem dv8w (a : W32) : wd a / (8 : Int) = wd (a >>> 3) := by have := shr32 a 3; simpa using this
theorem dv1024w (a : W32) : wd a / (1024 : Int) = wd (a >>> 10) := by have := shr32 a 10; simpa using this
theorem schval (x1 x2 x3 x4 : W32) : IntKind.u32.wrap (IntKind.u32.wrap (IntKind.u32.wrap (wd x1 + wd x3) + bits BinOp.xor IntKind.u32 (bits BinOp.xor IntKind.u32 (wd (BitVec.rotateRight x2 7)) (wd (BitVec.rotateRight x2 18))) (wd x2 / (8 : Int))) + bits BinOp.xor IntKind.u32 (bits BinOp.xor IntKind.u32 (wd (BitVec.rotateRight x4 17)) (wd (BitVec.rotateRight x4 19))) (wd x4 / (1024 : Int))) = wd (x1 + mix32 x2 2 + x3 + mix32 x4 3) := by
  rw [dv8w, dv1024w]
  simp only [bits_xor32, add32, mix32]
  rw [wd_inj]
  ac_rfl
theorem add5 (a b c d e : W32) : ((wd a + wd b + wd c + wd d) % 4294967296 + wd e) % 4294967296 = wd (a + b + c + d + e) := by
  simp only [wd, BitVec.toNat_add]; omega
theorem oneval (h e f g k w : W32) : ((wd h + bits BinOp.xor IntKind.u32 (bits BinOp.xor IntKind.u32 (wd (BitVec.rotateRight e 6)) (wd (BitVec.rotateRight e 11))) (wd (BitVec.rotateRight e 25)) +
      bits BinOp.xor IntKind.u32 (bits BinOp.and IntKind.u32 (wd e) (wd f)) (bits BinOp.and IntKind.u32 (bits BinOp.xor IntKind.u32 (if IntKind.u32.signed = true then -1 else IntKind.u32.max) (wd e)) (wd g)) + wd k) % 4294967296 + wd w) % 4294967296 = wd (h + mix32 e 1 + ch32 e f g + k + w) := by
  rw [if_neg (by decide)]
  simp only [bits_not32, bits_xor32, bits_and32, add5, mix32, ch32]
theorem add2 (a b : W32) : (wd a + wd b) % 4294967296 = wd (a + b) := by
  simp only [wd, BitVec.toNat_add]; omega
theorem twoval (a b c : W32) : (bits BinOp.xor IntKind.u32 (bits BinOp.xor IntKind.u32 (wd (BitVec.rotateRight a 2)) (wd (BitVec.rotateRight a 13))) (wd (BitVec.rotateRight a 22)) + bits BinOp.xor IntKind.u32 (bits BinOp.xor IntKind.u32 (bits BinOp.and IntKind.u32 (wd a) (wd b)) (bits BinOp.and IntKind.u32 (wd a) (wd c))) (bits BinOp.and IntKind.u32 (wd b) (wd c))) % 4294967296 = wd (mix32 a 0 + maj32 a b c) := by
  simp only [bits_xor32, bits_and32, add2, mix32, maj32]
/-- the sums so far -/
def part (h v : List W32) (k : Nat) : List W32 := (List.zipWith (· + ·) v h).take k ++ h.drop k
theorem part_zero (h v : List W32) : part h v 0 = h := by simp [part]
theorem part_all (h v : List W32) (k : Nat) (h1 : h.length ≤ k) (h2 : v.length = h.length) : part h v k = List.zipWith (· + ·) v h := by
  rw [part, List.drop_eq_nil_of_le h1, List.append_nil, List.take_of_length_le (by rw [List.length_zipWith]; omega)]
theorem part_len (h v : List W32) (k : Nat) (h2 : v.length = h.length) : (part h v k).length = h.length := by
  simp only [part, List.length_append, List.length_take, List.length_zipWith, List.length_drop]; omega
theorem part_next (h v : List W32) (k : Nat) (hk : k < h.length) (h2 : v.length = h.length) : ∃ x y, (wds (part h v k))[k]? = some (.int .u32 (wd x)) ∧ (wds v)[k]? = some (.int .u32 (wd y)) ∧ (part h v k).set k (x + y) = part h v (k + 1) := by
  have hz : (List.zipWith (· + ·) v h).length = h.length := by rw [List.length_zipWith]; omega
  refine ⟨h[k], v[k], ?_, wds_at v k (by omega), ?_⟩
  · rw [wds_at _ k (by rw [part_len h v k h2]; exact hk)]
    have : (part h v k)[k]'(by rw [part_len h v k h2]; exact hk) = h[k] := by
      simp only [part]
      rw [List.getElem_append_right (by simp [hz]; omega)]
      simp only [List.getElem_drop, List.length_take, hz, Nat.min_eq_left (Nat.le_of_lt hk), Nat.sub_self, Nat.add_zero]
    rw [this]
  · simp only [part]
    rw [List.set_append_right _ _ (by simp [hz]; omega), List.length_take, hz, Nat.min_eq_left (Nat.le_of_lt hk), Nat.sub_self, List.drop_eq_getElem_cons hk, List.set_cons_zero, List.take_succ_eq_append_getElem (by omega), List.append_assoc]
    simp [List.getElem_zipWith, BitVec.add_comm]
theorem rnds_next (W v : List W32) (t : Nat) (h : t < 64) (hW : W.length = 64) : rnds W v (t + 1) = rnd (rks[t]'h) (W[t]'(by omega)) (rnds W v t) := by
  rw [rnds, getElem!_pos rks t h, getElem!_pos W t (by omega)]
theorem rks_at (t : Nat) (h : t < 64) : (wds rks)[t]? = some (.int .u32 (wd (rks[t]'h))) := wds_at rks t h
theorem rnds_eight (W v : List W32) (hv : v.length = 8) (t : Nat) (h : t < 64) (hW : W.length = 64) : ∃ v0 v1 v2 v3 v4 v5 v6 v7 kt wt, rnds W v t = [v0, v1, v2, v3, v4, v5, v6, v7] ∧ (wds rks)[t]? = some (.int .u32 (wd kt)) ∧ (wds W)[t]? = some (.int .u32 (wd wt)) ∧
    rnds W v (t + 1) = rnd kt wt [v0, v1, v2, v3, v4, v5, v6, v7] := by
  obtain ⟨v0, v1, v2, v3, v4, v5, v6, v7, e⟩ := eight _ (rnds_len W v hv t)
  exact ⟨v0, v1, v2, v3, v4, v5, v6, v7, _, _, e, rks_at t h, wds_at W t (by omega), by rw [rnds_next W v t h hW, e]⟩
theorem hashed_ok (A : Option Addr) (n c : Nat) (l : List UInt8) (B : Option Addr) (d : Nat) (h : List W32) (w : World) (hl : l.length = n) (hn : 64 ≤ n) (hc : n ≤ c) (hm : n ≤ 140737488353280) (hr : Rd w 1 A n (bys l)) (hk : Rd w 1 B 64 (wds rks)) (hd : 64 ≤ d) (hh : h.length = 8) :
    Calls Try.prog 24 #[.agg (wds h).toArray, .slice A n c, .slice B 64 d] w fun e w' => e = .returned (.agg (wds (stepS h (wsOf (l.take 64)))).toArray) ∧ Below w.heap.size w w' := by
  obtain ⟨a0, a1, a2, a3, a4, a5, a6, a7, rfl⟩ := eight h hh
  go_enter Try.func24, Try.ntmps24
  repeat' ((fail_if_success at_builtin); (fail_if_success at_make); (first | go_values | go_skip | go_guarded | go_step | go_upon | go_back))
  have hA0 : Arr (((w.alloc (.cells (wds [a0, a1, a2, a3, a4, a5, a6, a7]).toArray 66)).alloc (.cells (wds (List.replicate 8 0)).toArray 66)).alloc (.cells (wds (List.replicate 64 0)).toArray 80)) w.heap.size 66 (wds [a0, a1, a2, a3, a4, a5, a6, a7]) := ((Arr.new _ _ _).alloc _).alloc _
  have hA1 : Arr (((w.alloc (.cells (wds [a0, a1, a2, a3, a4, a5, a6, a7]).toArray 66)).alloc (.cells (wds (List.replicate 8 0)).toArray 66)).alloc (.cells (wds (List.replicate 64 0)).toArray 80)) (w.heap.size + 1) 66 (wds (List.replicate 8 0)) := by
    have := (Arr.new (w.alloc (.cells (wds [a0, a1, a2, a3, a4, a5, a6, a7]).toArray 66)) 66 (wds (List.replicate 8 0))).alloc (.cells (wds (List.replicate 64 0)).toArray 80)
    simpa using this
  have hA2 : Arr (((w.alloc (.cells (wds [a0, a1, a2, a3, a4, a5, a6, a7]).toArray 66)).alloc (.cells (wds (List.replicate 8 0)).toArray 66)).alloc (.cells (wds (List.replicate 64 0)).toArray 80)) (w.heap.size + 1 + 1) 80 (wds (accs l 0)) := by
    rw [accs_zero]
    have := (Arr.new ((w.alloc (.cells (wds [a0, a1, a2, a3, a4, a5, a6, a7]).toArray 66)).alloc (.cells (wds (List.replicate 8 0)).toArray 66)) 80 (wds (List.replicate 64 0)))
    simpa using this
  have hA3 : Below w.heap.size w (((w.alloc (.cells (wds [a0, a1, a2, a3, a4, a5, a6, a7]).toArray 66)).alloc (.cells (wds (List.replicate 8 0)).toArray 66)).alloc (.cells (wds (List.replicate 64 0)).toArray 80)) :=
    (((Below.refl _ w).alloc (by simp) _).alloc (by simp) _).alloc (by simp; omega) _
  generalize hg0 : w.heap.size = g0 at *
  generalize hg1 : g0 + 1 = g1 at *
  generalize hg2 : g1 + 1 = g2 at *
  have ne0 : g0 ≠ g2 := by omega
  have ne1 : g1 ≠ g2 := by omega
  have hgb : w.heap.size ≤ g2 := by omega
  go_loopw [19] (fun i wr => ∃ k : Nat, i = .int .i64 k ∧ k ≤ 64 ∧ Arr wr g0 66 (wds [a0, a1, a2, a3, a4, a5, a6, a7]) ∧ Arr wr g1 66 (wds (List.replicate 8 0)) ∧ Arr wr g2 80 (wds (accs l k)) ∧ Below w.heap.size w wr) (fun i _ => 64 - (intOf i).toNat)
  case atStart => exact ⟨0, rfl, by omega, hA0, hA1, hA2, by rw [hg0]; exact hA3⟩
  case round =>
    obtain ⟨k, rfl, hk, q0, q1, q2, hbel⟩ := hrel
    by_cases hlt : k < 64
    ·
      obtain ⟨b, off, u, rfl, hbw, hu, hcell⟩ := (hr.below hbel).at_ (k := k) (by omega)
      rw [bys_at l k (by omega)] at hu
      cases hu
      have hx8 := l[k].toNat_lt
      have hq : (wds (accs l k))[k / 4]? = some (.int .u32 (wd (accW l k (k / 4)))) := by
        rw [wds_at _ _ (by rw [accs_len]; omega)]; simp [accs]
      have hc4 := q2.cell hq
      have hf4 := q2.frozen (k / 4)
      have hs := q2.set (k := k / 4) (by rw [wds_len, accs_len]; omega) (.int .u32 (wd (accW l k (k / 4) <<< 8 ||| BitVec.ofNat 32 l[k].toNat)))
      have HN := Lib.hid (accs_next l k (by omega) (by omega))
      generalize accW l k (k / 4) = y at *
      generalize hb8 : l[k] = b8 at *
      have HB8 := Lib.hid hb8
      clear hb8 hq
      generalize hj : k / 4 = j at *
      have HJ := Lib.hid hj
      have i0 : (k : Int) / 4 = (j : Int) := by omega
      have i1 : (j : Int) < 64 := by omega
      have i2 : (0 : Int) ≤ (j : Int) := by omega
      have i3 : (k : Int) < n := by omega
      have i4 : (k : Int) < 64 := by omega
      have i5 : decide ((k : Int) < 64) = true := by simpa using i4
      have i6 : IntKind.i64.wrap (j : Int) = (j : Int) := by rw [IntKind.wrap_i64]; omega
      have i7 : ((j : Int)).toNat = j := by omega
      clear hj
      have hyn := wd_nn y
      have hyl := wd_lt y
      have hsv := Lib.hid hs
      clear hs hA0 hA1 hA2 hA3 hh hg0 hg1 hg2
      repeat' ((fail_if_success at_builtin); (fail_if_success at_make); (first | go_values | go_skip | go_guarded | go_step | go_upon | go_back))
      go_still_tail 14, (by kernel_rfl)
      change wpList _ _ _ _ _ wr.drew
      rw [accb]
      have hc5 : wr.drew.cell? ⟨g2, j, none⟩ = some (.int .u32 (wd y)) := hc4
      have hf5 : wr.drew.frozen? ⟨g2, j, none⟩ = false := hf4
      repeat' ((fail_if_success at_builtin); (fail_if_success at_make); (first | go_values | go_skip | go_guarded | go_step | go_upon | go_back))
      go_roundw
      case rel =>
        refine ⟨k + 1, by go_num, by omega, q0.other ne0 _, q1.other ne1 _, ?_, Below.setCell hbel.drew hgb _⟩
        rw [HN.out, ← wds_set]
        exact hsv.out
      case measure => simp [intOf]; omega
    · obtain rfl : k = 64 := by omega
      have e64 : accs l 64 = sched (wsOf (l.take 64)) 0 ++ List.replicate 48 0 := accs_all l (by omega)
      rw [e64] at q2
      clear e64 hA0 hA1 hA2 hA3
      repeat' ((fail_if_success at_builtin); (fail_if_success at_make); (first | go_values | go_skip | go_guarded | go_step | go_upon | go_back))
      have hq2 : Arr wr g2 80 (wds (sched (wsOf (l.take 64)) (16 - 16) ++ List.replicate (64 - 16) 0)) := q2
      have hWl : (wsOf (l.take 64)).length = 16 := wsOf_len 16 _ (by rw [List.length_take]; omega)
      generalize hM : wsOf (l.take 64) = M at *
      have HM := Lib.hid hM
      clear hM
      clear q2
      rw [show ((64 : Nat) : Int) = (64 : Int) from rfl]
      go_loopw [9] (fun i wr => ∃ t : Nat, i = .int .i64 t ∧ 16 ≤ t ∧ t ≤ 64 ∧ Arr wr g0 66 (wds [a0, a1, a2, a3, a4, a5, a6, a7]) ∧ Arr wr g1 66 (wds (List.replicate 8 0)) ∧ Arr wr g2 80 (wds (sched M (t - 16) ++ List.replicate (64 - t) 0)) ∧ Below w.heap.size w wr) (fun i _ => 64 - (intOf i).toNat)
      case atStart => exact ⟨16, rfl, by omega, by omega, q0, q1, hq2, hbel⟩
      case round =>
        clear q0 q1 hq2 hbel
        obtain ⟨t, rfl, ht0, ht, q0, q1, q2, hbel⟩ := hrel
        by_cases hlt2 : t < 64
        ·
          have hLl : (sched M (t - 16)).length = t := by rw [sched_len, hWl]; omega
          have hnx := schNext_eq _ t hLl ht0
          have hss : sched M (t + 1 - 16) = sched M (t - 16) ++ [schNext (sched M (t - 16))] := by rw [show t + 1 - 16 = (t - 16) + 1 by omega]; rfl
          have HSS := Lib.hid hss
          clear hss
          generalize sched M (t - 16) = L at *
          have hcl : ∀ j (hj : j < L.length), wr.cell? ⟨g2, j, none⟩ = some (.int .u32 (wd L[j])) := fun j hj => q2.cell (by rw [wds_at _ _ (by rw [List.length_append]; omega), List.getElem_append_left hj])
          have c1 := hcl (t - 16) (by omega)
          have c2 := hcl (t - 15) (by omega)
          have c3 := hcl (t - 7) (by omega)
          have c4 := hcl (t - 2) (by omega)
          clear hcl
          generalize L[t - 16] = x1 at *
          generalize L[t - 15] = x2 at *
          generalize L[t - 7] = x3 at *
          generalize L[t - 2] = x4 at *
          have HNX := Lib.hid hnx
          clear hnx
          have j1 : ((t : Int) - 16).toNat = t - 16 := by omega
          have j2 : ((t : Int) - 15).toNat = t - 15 := by omega
          have j3 : ((t : Int) - 7).toNat = t - 7 := by omega
          have j4 : ((t : Int) - 2).toNat = t - 2 := by omega
          have k1 : (0 : Int) ≤ (t : Int) - 16 := by omega
          have k2 : (0 : Int) ≤ (t : Int) - 15 := by omega
          have k3 : (0 : Int) ≤ (t : Int) - 7 := by omega
          have k4 : (0 : Int) ≤ (t : Int) - 2 := by omega
          have l1 : (t : Int) - 16 < 64 := by omega
          have l2 : (t : Int) - 15 < 64 := by omega
          have l3 : (t : Int) - 7 < 64 := by omega
          have l4 : (t : Int) - 2 < 64 := by omega
          have n1 : (16 : Int) ≤ (t : Int) := by omega
          have n2 : (15 : Int) ≤ (t : Int) := by omega
          have n3 : (7 : Int) ≤ (t : Int) := by omega
          have n4 : (2 : Int) ≤ (t : Int) := by omega
          have m1 : IntKind.i64.wrap ((t : Int) - 16) = (t : Int) - 16 := by rw [IntKind.wrap_i64]; omega
          have m2 : IntKind.i64.wrap ((t : Int) - 15) = (t : Int) - 15 := by rw [IntKind.wrap_i64]; omega
          have m3 : IntKind.i64.wrap ((t : Int) - 7) = (t : Int) - 7 := by rw [IntKind.wrap_i64]; omega
          have m4 : IntKind.i64.wrap ((t : Int) - 2) = (t : Int) - 2 := by rw [IntKind.wrap_i64]; omega
          have i4 : (t : Int) < 64 := by omega
          have i5 : decide ((t : Int) < 64) = true := by simpa using i4
          repeat' ((fail_if_success at_builtin); (fail_if_success at_make); (first | go_values | go_skip | go_guarded | go_step | go_upon | go_back))
          go_quiet (fail)
          repeat' ((fail_if_success at_builtin); (fail_if_success at_make); (first | go_values | go_skip | go_guarded | go_step | go_upon | go_back))
          have hb2 := bdrewN hbel nq
          have q0' := q0.drewN nq
          have q1' := q1.drewN nq
          have q2' := q2.drewN nq
          have d1 : (wr.drewN nq).cell? ⟨g2, t - 16, none⟩ = _ := c1
          have d2 : (wr.drewN nq).cell? ⟨g2, t - 15, none⟩ = _ := c2
          have d3 : (wr.drewN nq).cell? ⟨g2, t - 7, none⟩ = _ := c3
          have d4 : (wr.drewN nq).cell? ⟨g2, t - 2, none⟩ = _ := c4
          clear c1 c2 c3 c4 q0 q1 q2 hbel
          generalize wr.drewN nq = wz at *
          go_still_tail 29, (by kernel_rfl)
          still_call (RotL_st x2 25 25 rfl _ (by omega) (by omega))
          repeat still_step
          still_call (RotL_st x2 14 14 rfl _ (by omega) (by omega))
          repeat still_step
          still_call (RotL_st x4 15 15 rfl _ (by omega) (by omega))
          repeat still_step
          still_call (RotL_st x4 13 13 rfl _ (by omega) (by omega))
          repeat still_step
          change wpList _ _ _ _ _ wz.drew
          rw [schval, ← HNX.out]
          have hc5 : ∃ v, wz.drew.cell? ⟨g2, t, none⟩ = some v := ⟨_, q2'.cell (k := t) (by rw [wds_at _ _ (by rw [List.length_append, List.length_replicate]; omega)])⟩
          obtain ⟨v5, hc5⟩ := hc5
          have hf5 : wz.drew.frozen? ⟨g2, t, none⟩ = false := q2'.frozen t
          have hs5 := q2'.set (k := t) (by rw [wds_len, List.length_append, List.length_replicate]; omega) (.int .u32 (wd (schNext L)))
          rw [wds_set, grow L t hLl (by omega), ← HSS.out] at hs5
          have HS5 := Lib.hid hs5
          clear hs5 q2'
          repeat' ((fail_if_success at_builtin); (fail_if_success at_make); (first | go_values | go_skip | go_guarded | go_step | go_upon | go_back))
          go_roundw
          case rel =>
            exact ⟨t + 1, by go_num, by omega, by omega, q0'.other ne0 _, q1'.other ne1 _, HS5.out, Below.setCell hb2.drew hgb _⟩
          case measure => simp [intOf]; omega
        · obtain rfl : t = 64 := by omega
          rw [List.replicate_zero, List.append_nil] at q2
          have e0 := q0.cell (k := 0) rfl
          have e1 := q0.cell (k := 1) rfl
          have e2 := q0.cell (k := 2) rfl
          have e3 := q0.cell (k := 3) rfl
          have e4 := q0.cell (k := 4) rfl
          have e5 := q0.cell (k := 5) rfl
          have e6 := q0.cell (k := 6) rfl
          have e7 := q0.cell (k := 7) rfl
          repeat' ((fail_if_success at_builtin); (fail_if_success at_make); (first | go_values | go_skip | go_guarded | go_step | go_upon | go_back))
          have hq3 : Arr (wr.alloc (.cells #[.int .u32 (wd a0), .int .u32 (wd a1), .int .u32 (wd a2), .int .u32 (wd a3), .int .u32 (wd a4), .int .u32 (wd a5), .int .u32 (wd a6), .int .u32 (wd a7)] 66)) wr.heap.size 66 (wds (rnds (sched M 48) [a0, a1, a2, a3, a4, a5, a6, a7] 0)) := Arr.new _ _ _
          have hlt0 := q0.lt
          have hlt1 := q1.lt
          have hlt2 := q2.lt
          have q0' := q0.alloc (.cells #[.int .u32 (wd a0), .int .u32 (wd a1), .int .u32 (wd a2), .int .u32 (wd a3), .int .u32 (wd a4), .int .u32 (wd a5), .int .u32 (wd a6), .int .u32 (wd a7)] 66)
          have q1' := q1.alloc (.cells #[.int .u32 (wd a0), .int .u32 (wd a1), .int .u32 (wd a2), .int .u32 (wd a3), .int .u32 (wd a4), .int .u32 (wd a5), .int .u32 (wd a6), .int .u32 (wd a7)] 66)
          have q2' := q2.alloc (.cells #[.int .u32 (wd a0), .int .u32 (wd a1), .int .u32 (wd a2), .int .u32 (wd a3), .int .u32 (wd a4), .int .u32 (wd a5), .int .u32 (wd a6), .int .u32 (wd a7)] 66)
          have hbl' := hbel.alloc hbel.size (.cells #[.int .u32 (wd a0), .int .u32 (wd a1), .int .u32 (wd a2), .int .u32 (wd a3), .int .u32 (wd a4), .int .u32 (wd a5), .int .u32 (wd a6), .int .u32 (wd a7)] 66)
          have hgb3 := hbel.size
          generalize (wr.alloc (.cells #[.int .u32 (wd a0), .int .u32 (wd a1), .int .u32 (wd a2), .int .u32 (wd a3), .int .u32 (wd a4), .int .u32 (wd a5), .int .u32 (wd a6), .int .u32 (wd a7)] 66)) = wy at *
          generalize hg3 : wr.heap.size = g3 at *
          have ne03 : g0 ≠ g3 := by omega
          have ne13 : g1 ≠ g3 := by omega
          have ne23 : g2 ≠ g3 := by omega
          clear q0 q1 q2 hbel e0 e1 e2 e3 e4 e5 e6 e7 hlt2 ht0 ht hlt hk hg3
          rw [show ((64 : Nat) : Int) = (64 : Int) from rfl]
          have hWl2 : (sched M 48).length = 64 := by rw [sched_len, hWl]
          generalize hW : sched M 48 = W at *
          have HW := Lib.hid hW
          clear hW
          go_loopw [79] (fun i wr => ∃ t : Nat, i = .int .i64 t ∧ t ≤ 64 ∧ Arr wr g0 66 (wds [a0, a1, a2, a3, a4, a5, a6, a7]) ∧ Arr wr g1 66 (wds (List.replicate 8 0)) ∧ Arr wr g2 80 (wds W) ∧ Arr wr g3 66 (wds (rnds W [a0, a1, a2, a3, a4, a5, a6, a7] t)) ∧ Below w.heap.size w wr) (fun i _ => 64 - (intOf i).toNat)
          case atStart => exact ⟨0, rfl, by omega, q0', q1', q2', hq3, hbl'⟩
          case round =>
            clear q0' q1' q2' hq3 hbl'
            obtain ⟨t, rfl, ht, q0, q1, q2, q3, hbel⟩ := hrel
            by_cases hlt3 : t < 64
            ·
              obtain ⟨v0, v1, v2, v3, v4, v5, v6, v7, kt, wt, hv, hkt, hwt, hnx⟩ := rnds_eight W [a0, a1, a2, a3, a4, a5, a6, a7] rfl t hlt3 hWl2
              rw [hv] at q3
              have HNX := Lib.hid hnx
              obtain ⟨bk, ok, uk, rfl, hbk, huk, hck⟩ := (hk.below hbel).at_ (k := t) hlt3
              rw [hkt] at huk
              cases huk
              have hcw := q2.cell hwt
              clear hnx hv hkt hwt
              have f0 := q3.cell (k := 0) rfl
              have f1 := q3.cell (k := 1) rfl
              have f2 := q3.cell (k := 2) rfl
              have f3 := q3.cell (k := 3) rfl
              have f4 := q3.cell (k := 4) rfl
              have f5 := q3.cell (k := 5) rfl
              have f6 := q3.cell (k := 6) rfl
              have f7 := q3.cell (k := 7) rfl
              have i1 : (t : Int) < 64 := by omega
              have i2 : (0 : Int) ≤ (t : Int) := by omega
              have i5 : decide ((t : Int) < 64) = true := by simpa using i1
              have hl64 : (64 : Int) ≤ (d : Int) := by omega
              clear hh hg0 hg1 hg2 hr hl
              repeat' ((fail_if_success at_builtin); (fail_if_success at_make); (first | go_values | go_skip | go_guarded | go_step | go_upon | go_back))
              go_quiet (fail)
              repeat' ((fail_if_success at_builtin); (fail_if_success at_make); (first | go_values | go_skip | go_guarded | go_step | go_upon | go_back))
              have p0 := q0.drewN nq
              have p1 := q1.drewN nq
              have p2 := q2.drewN nq
              have p3 := q3.drewN nq
              have pb := bdrewN hbel nq
              have dk : (wr.drewN nq).cell? ⟨bk, ok + t, none⟩ = _ := hck
              have dw : (wr.drewN nq).cell? ⟨g2, t, none⟩ = _ := hcw
              clear q0 q1 q2 q3 hbel hck hcw f0 f1 f2 f3 f4 f5 f6 f7
              generalize wr.drewN nq = wz at *
              have f5 := p3.cell (k := 5) rfl
              have f6 := p3.cell (k := 6) rfl
              have f7 := p3.cell (k := 7) rfl
              go_quiet ((go_at_call 35; exact Calls.quiet_of_same (RotL_any _ _ _ (by decide) (by decide))))
              rw [oneval]
              have r0 := p0.drewN nq
              have r1 := p1.drewN nq
              have r2 := p2.drewN nq
              have r3 := p3.drewN nq
              have rb := bdrewN pb nq
              clear p0 p1 p2 p3 pb dk dw f5 f6 f7
              generalize wz.drewN nq = wx at *
              have f1 := r3.cell (k := 1) rfl
              have f2 := r3.cell (k := 2) rfl
              generalize hone : v7 + mix32 v4 1 + ch32 v4 v5 v6 + kt + wt = one at *
              have HONE := Lib.hid hone
              clear hone
              repeat' ((fail_if_success at_builtin); (fail_if_success at_make); (first | go_values | go_skip | go_guarded | go_step | go_upon | go_back))
              go_quiet ((go_at_call 35; exact Calls.quiet_of_same (RotL_any _ _ _ (by decide) (by decide))))
              rw [twoval]
              generalize htwo : mix32 v0 0 + maj32 v0 v1 v2 = two at *
              have HTWO := Lib.hid htwo
              clear htwo
              have s0 := r0.drewN nq
              have s1 := r1.drewN nq
              have s2 := r2.drewN nq
              have s3 := r3.drewN nq
              have sb := bdrewN rb nq
              clear r0 r1 r2 r3 rb f1 f2
              generalize wx.drewN nq = wv at *
              have f0 := s3.cell (k := 0) rfl
              have f1 := s3.cell (k := 1) rfl
              have f2 := s3.cell (k := 2) rfl
              have f3 := s3.cell (k := 3) rfl
              have f4 := s3.cell (k := 4) rfl
              have f5 := s3.cell (k := 5) rfl
              have f6 := s3.cell (k := 6) rfl
              have f7 := s3.cell (k := 7) rfl
              have z := s3.frozen
              repeat' ((fail_if_success at_builtin); (fail_if_success at_make); (first | go_values | go_skip | go_guarded | go_step | go_upon | go_back))
              rw [add2, add2]
              have hrn : rnds W [a0, a1, a2, a3, a4, a5, a6, a7] (t + 1) = [one + two, v0, v1, v2, v3 + one, v4, v5, v6] := by rw [HNX.out, ← HONE.out, ← HTWO.out]; rfl
              have t3 := s3.set8 (.int .u32 (wd (one + two))) (.int .u32 (wd v0)) (.int .u32 (wd v1)) (.int .u32 (wd v2)) (.int .u32 (wd (v3 + one))) (.int .u32 (wd v4)) (.int .u32 (wd v5)) (.int .u32 (wd v6))
              have T3 := Lib.hid t3
              have HRN := Lib.hid hrn
              clear t3 hrn s3 f0 f1 f2 f3 f4 f5 f6 f7 z
              go_roundw
              case rel =>
                refine ⟨t + 1, by go_num, by omega, s0.other8 ne03 _ _ _ _ _ _ _ _, s1.other8 ne13 _ _ _ _ _ _ _ _, s2.other8 ne23 _ _ _ _ _ _ _ _, ?_, Below.set8 sb hgb3 _ _ _ _ _ _ _ _⟩
                rw [HRN.out]; exact T3.out
              case measure => simp [intOf]; omega
            · obtain rfl : t = 64 := by omega
              have hVl : (rnds W [a0, a1, a2, a3, a4, a5, a6, a7] 64).length = 8 := rnds_len W _ rfl 64
              have hst : stepS [a0, a1, a2, a3, a4, a5, a6, a7] M = List.zipWith (· + ·) (rnds W [a0, a1, a2, a3, a4, a5, a6, a7] 64) [a0, a1, a2, a3, a4, a5, a6, a7] := by rw [stepS, HW.out]
              generalize rnds W [a0, a1, a2, a3, a4, a5, a6, a7] 64 = V at *
              have hhl : [a0, a1, a2, a3, a4, a5, a6, a7].length = 8 := rfl
              generalize hH : [a0, a1, a2, a3, a4, a5, a6, a7] = H at *
              have HST := Lib.hid hst
              have HH := Lib.hid hH
              clear hst hH hh q2
              repeat' ((fail_if_success at_builtin); (fail_if_success at_make); (first | go_values | go_skip | go_guarded | go_step | go_upon | go_back))
              have q0' : Arr wr g0 66 (wds (part H V 0)) := by rw [part_zero]; exact q0
              clear q0
              rw [show ((64 : Nat) : Int) = (64 : Int) from rfl]
              go_loopw [160] (fun i wr => ∃ t : Nat, i = .int .i64 t ∧ t ≤ 8 ∧ Arr wr g0 66 (wds (part H V t)) ∧ Arr wr g1 66 (wds (List.replicate 8 0)) ∧ Arr wr g3 66 (wds V) ∧ Below w.heap.size w wr) (fun i _ => 8 - (intOf i).toNat)
              case atStart => exact ⟨0, rfl, by omega, q0', q1, q3, hbel⟩
              case round =>
                clear q0' q1 q3 hbel
                obtain ⟨t, rfl, ht, q0, q1, q3, hbel⟩ := hrel
                by_cases hlt4 : t < 8
                · obtain ⟨x, y, hx, hy, hnx⟩ := part_next H V t (by omega) (by omega)
                  have HNX := Lib.hid hnx
                  have cx := q0.cell hx
                  have cy := q3.cell hy
                  have fx := q0.frozen t
                  have hs := q0.set (k := t) (by rw [wds_len, part_len H V t (by omega)]; omega) (.int .u32 (wd (x + y)))
                  rw [wds_set, hnx] at hs
                  have HS := Lib.hid hs
                  clear hnx hx hy hs
                  have i1 : (t : Int) < 8 := by omega
                  have i2 : (0 : Int) ≤ (t : Int) := by omega
                  have i5 : decide ((t : Int) < 8) = true := by simpa using i1
                  repeat' ((fail_if_success at_builtin); (fail_if_success at_make); (first | go_values | go_skip | go_guarded | go_step | go_upon | go_back))
                  go_still_tail 8, (by kernel_rfl)
                  change wpList _ _ _ _ _ wr.drew
                  rw [add32]
                  have dx : wr.drew.cell? ⟨g0, t, none⟩ = some (.int .u32 (wd x)) := cx
                  have gx : wr.drew.frozen? ⟨g0, t, none⟩ = false := fx
                  repeat' ((fail_if_success at_builtin); (fail_if_success at_make); (first | go_values | go_skip | go_guarded | go_step | go_upon | go_back))
                  go_roundw
                  case rel =>
                    exact ⟨t + 1, by go_num, by omega, HS.out, q1.other (by omega) _, q3.other (by omega) _, Below.setCell hbel.drew (show w.heap.size ≤ g0 by omega) _⟩
                  case measure => simp [intOf]; omega
                · obtain rfl : t = 8 := by omega
                  have hpl : (part H V 8).length = 8 := by rw [part_len H V 8 (by omega)]; exact hhl
                  have hpe : part H V 8 = stepS H M := by rw [part_all H V 8 (by omega) (by omega), HST.out]
                  rw [hpe] at q0 hpl
                  clear hpe
                  obtain ⟨c0, c1, c2, c3, c4, c5, c6, c7, hc8⟩ := eight _ hpl
                  rw [hc8] at q0
                  have HC8 := Lib.hid hc8
                  clear hc8 hpl
                  have e0 := q0.cell (k := 0) rfl
                  have e1 := q0.cell (k := 1) rfl
                  have e2 := q0.cell (k := 2) rfl
                  have e3 := q0.cell (k := 3) rfl
                  have e4 := q0.cell (k := 4) rfl
                  have e5 := q0.cell (k := 5) rfl
                  have e6 := q0.cell (k := 6) rfl
                  have e7 := q0.cell (k := 7) rfl
                  have o0 := q1.cell (k := 0) rfl
                  have o1 := q1.cell (k := 1) rfl
                  have o2 := q1.cell (k := 2) rfl
                  have o3 := q1.cell (k := 3) rfl
                  have o4 := q1.cell (k := 4) rfl
                  have o5 := q1.cell (k := 5) rfl
                  have o6 := q1.cell (k := 6) rfl
                  have o7 := q1.cell (k := 7) rfl
                  have z := q1.frozen
                  repeat' ((fail_if_success at_builtin); (fail_if_success at_make); (first | go_values | go_skip | go_guarded | go_step | go_upon | go_back))
                  have r1 := q1.set8 (.int .u32 (wd c0)) (.int .u32 (wd c1)) (.int .u32 (wd c2)) (.int .u32 (wd c3)) (.int .u32 (wd c4)) (.int .u32 (wd c5)) (.int .u32 (wd c6)) (.int .u32 (wd c7))
                  have rb := Below.set8 hbel (show w.heap.size ≤ g1 by omega) (.int .u32 (wd c0)) (.int .u32 (wd c1)) (.int .u32 (wd c2)) (.int .u32 (wd c3)) (.int .u32 (wd c4)) (.int .u32 (wd c5)) (.int .u32 (wd c6)) (.int .u32 (wd c7))
                  refine bodyPost_ret (results_cell_row rfl _ _ g1 _ _ _ _ (by rfl) r1 Try.underlying66 rfl (by kernel_rfl)) rfl ⟨?_, rb⟩
                  rw [HH.out, HM.out, HC8.out]; rfl
end Go.Proofs.Ytefhbgbhknobjaa
