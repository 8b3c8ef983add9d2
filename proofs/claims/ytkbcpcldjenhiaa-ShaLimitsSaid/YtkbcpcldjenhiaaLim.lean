/- The walk of ShaLimits. Conditions: the numbers fit. -/
import Derived.Test.YtkbcpcldjenhiaaRep
import Derived.Test.YtkbcpcldjenhiaaPk

namespace Go.Proofs.Ytkbcpcldjenhiaa
open Go.RowKit
set_option linter.unusedVariables false
set_option linter.unusedSimpArgs false
set_option maxRecDepth 100000

theorem run_apz_full {P : Program} {w : World} {t ty e it : TypeId} {size bytes : Nat} (E : El P t e size bytes) (hit : P.underlying it = some (.int .i64)) (g L n : Nat) (cs : List Value) (hA : Arr w g e cs) (hl : cs.length = L * size) (h0 : 0 < n) (hb : (L + n) * bytes ≤ 140737488355328) :
    ∃ A cap w', (Builtin.append_ #[t, it] ty #[.slice (some ⟨g, 0, none⟩) L L, .int .i64 n]).run P w = .ok (.slice A (L + n) cap) w' ∧ L + n ≤ cap ∧ Below w.heap.size w w' := by
  have hpb := E.posb
  have hps := E.pos
  obtain ⟨hu, ⟨i, z, hi, hz, hs, hby, hzs⟩, _, _⟩ := E
  have hn47 : L + n ≤ 140737488355328 := Nat.le_trans (Nat.le_mul_of_pos_right _ hpb) hb
  have hnb : n * bytes ≤ 140737488355328 := Nat.le_trans (Nat.mul_le_mul_right _ (by omega)) hb
  have hge := grownCap_ge w (L + n) L e
  have h63' : ¬ (9223372036854775807 < ((L + n : Nat) : Int)) := by omega
  have h63'' : ¬ (9223372036854775807 < (L : Int) + (n : Int)) := by omega
  have hLn : ¬ (L + n ≤ L) := by omega
  have hnx : Builtin.nextslicecap (L + n) L * i.bytes ≤ 281474976710656 := by
    have h1 := Nat.mul_le_mul_right i.bytes (nextslicecap_le (need := L + n) (old := L) (by omega))
    rw [hby] at h1 ⊢
    have : 2 * (L + n) * bytes = 2 * ((L + n) * bytes) := Nat.mul_assoc _ _ _
    omega
  have h48' : ¬ (281474976710656 < Builtin.nextslicecap (L + n) L * i.bytes) := by omega
  have hw : IntKind.i64.wrap (n : Int) = n := by rw [IntKind.wrap_i64]; omega
  have hl1 : ¬ ((n : Int) < 0) := by omega
  have hl2 : ¬ (281474976710656 < (n : Int) * (i.bytes : Int)) := by rw [hby, ← Int.natCast_mul]; omega
  have hns : ¬ (n * i.size = 0) := by rw [hs]; exact Nat.ne_of_gt (Nat.mul_pos h0 hps)
  have hn0 : n ≠ 0 := by omega
  have hfc := run_firstCells_some (P := P) (w := w.drew) i.size L ⟨g, 0, none⟩ L L cs (by rw [hl, hs]) (fun j v hj => by
    have hadd : (⟨g, 0, none⟩ : Addr).add j = ⟨g, 0 + j, none⟩ := by unfold Addr.add; split <;> simp_all
    rw [hadd, Nat.zero_add]; exact hA.drew.cell hj)
  refine ⟨some ⟨w.heap.size, 0, none⟩, grownCap w (L + n) L e, w.drew.alloc (.cells (cs.toArray ++ Builtin.zeroCells z.cells n ++ Builtin.zeroCells z.cells (grownCap w (L + n) L e - (L + n))) e), ?_, hge, (Below.refl _ _).drew.alloc (Nat.le_refl _) _⟩
  simp [Builtin.append_, run_underlying hu, run_underlying hit, sizeOf, typeInfo, zeroValue, hi, hz, asInt, asIntOf, hw, hl1, hl2, hn0, h63', h63'', hLn, h48', hfc, Question.forced, newRow, grownCap, Builtin.lenOf]
  intro h; exact absurd h hns

theorem wpList_apf {P : Program} {w : World} {ops : Array Oper} {rest : List Oper} {o : Oper} {a : Act} {Q : Exit → Act → World → Prop} (hgd : o.guard = none) (s x : Operand) {t e it : TypeId} {size bytes : Nat}
    (ho : o.op = .call { callee := .builtin .append, args := #[s, x], argTypes := #[t, it] }) (E : El P t e size bytes) (hit : P.underlying it = some (.int .i64))
    (g L n : Nat) (cs : List Value) (hA : Arr w g e cs) (hl : cs.length = L * size) (h0 : 0 < n) (hb : (L + n) * bytes ≤ 140737488355328) (hs : a.eval s = .slice (some ⟨g, 0, none⟩) L L) (hx : a.eval x = .int .i64 n)
    (h : ∀ A c w', L + n ≤ c → Below w.heap.size w w' → wpList P ops Q rest (a.put o.dst (.slice A (L + n) c)) w') :
    wpList P ops Q (o :: rest) a w := by
  refine wpList_plain hgd fun _ hK => ?_
  obtain ⟨A, cap, w', hrun, h1, h2⟩ := run_apz_full (P := P) (w := w) (ty := o.type) E hit g L n cs hA hl h0 hb
  unfold Oper.wp execOp
  simp only [ho, resolve, invoke, builtin, Sem.run_bind, Sem.run_pure, Result.andThen_ok, List.map_toArray, List.map_cons, List.map_nil, hs, hx, hrun]
  exact hK _ _ (h _ _ _ h1 h2)

theorem Rd.of_arr1 {w : World} {g n : Nat} {e : TypeId} {xs : List Value} (h : Arr w g e xs) (hx : xs.length = n) : Rd w 1 (some ⟨g, 0, none⟩) n xs :=
  ⟨by rw [hx, Nat.mul_one], fun _ => ⟨g, 0, rfl, h.lt, fun j u hu => by rw [Nat.zero_add]; exact h.cell hu⟩⟩
theorem Pad_bigM (A : Option Addr) (n c : Nat) (w : World) (hn : 2000 < n) (hn2 : n ≤ 5000) :
    Calls Try.prog 34 #[.slice A n c] w fun e w' => e = .returned (.tuple #[.slice none 0 0, .int .i64 1]) ∧ w = w' := by
  go_enter Try.func34, Try.ntmps34
  repeat' ((fail_if_success at_builtin); (fail_if_success at_make); (first | go_values | go_skip | go_guarded | go_step | go_upon | go_back))
  go_ret2
  exact ⟨rfl, rfl⟩
theorem Sum_bigM (A : Option Addr) (n c : Nat) (w : World) (hn : 2000 < n) (hn2 : n ≤ 5000) :
    Calls Try.prog 31 #[.slice A n c] w fun e w' => e = .returned (.tuple #[.string ⟨#[]⟩, .int .i64 1]) ∧ w = w' := by
  go_enter Try.func31, Try.ntmps31
  repeat' ((fail_if_success at_builtin); (fail_if_success at_make); (first | go_values | go_skip | go_guarded | go_step | go_upon | go_back))
  refine ((Pad_bigM A n c w hn hn2)).mono ?_; rintro e_ _ ⟨rfl, rfl⟩; dsimp only
  repeat' ((fail_if_success at_builtin); (fail_if_success at_make); (first | go_values | go_skip | go_guarded | go_step | go_upon | go_back))
  go_ret2
  exact ⟨rfl, rfl⟩

set_option maxHeartbeats 1000000 in
theorem ShaLimits_walk (x : UInt8) (m : Int) (w : World) (hm0 : -9223372036854775808 ≤ m) (hm1 : m ≤ 9223372036854775807) :
    Calls Try.prog 14 #[.int .u8 (x.toNat : Int), .int .i64 m] w fun e w' => e = .returned (.bool true) ∧ Below w.heap.size w w' := by
  have HP := Lib.hid (fun w' => Picked_ok m 50 50 rfl w' hm0 hm1 (by omega) (by omega))
  have hk := pk_lt m (m := 50) (by omega)
  generalize pk m 50 = k at *
  go_enter Try.func14, Try.ntmps14
  repeat' ((fail_if_success at_builtin); (fail_if_success at_make); (first | go_values | go_skip | go_guarded | go_step | go_upon | go_back))
  have q0 : Rd (w.alloc (.cells #[.int .u8 (x.toNat : Int)] 5)) 1 (some ⟨w.heap.size, 0, none⟩) 1 (bys [x]) := Rd.new1 _
  have b0 := (Below.refl w.heap.size w).alloc (Nat.le_refl _) (.cells #[.int .u8 (x.toNat : Int)] 5)
  generalize w.alloc (.cells #[.int .u8 (x.toNat : Int)] 5) = w1 at *
  refine ((Repeat_ok _ x w1 q0)).mono ?_; rintro e_ w2 ⟨g, rfl, hg, hA2, hb2⟩; dsimp only
  have b2 := b0.trans (hb2.mono b0.size)
  obtain ⟨l, hl⟩ : ∃ l, l = List.replicate 2000 x := ⟨_, rfl⟩
  have hll : l.length = 2000 := by rw [hl]; simp
  rw [← hl] at hA2
  clear hl
  have hr2 : Rd w2 1 (some ⟨g, 0, none⟩) 2000 (bys l) := Rd.of_arr1 hA2 (by rw [bys_len, hll])
  have HLL := Lib.hid hll
  clear hll
  repeat' ((fail_if_success at_builtin); (fail_if_success at_make); (first | go_values | go_skip | go_guarded | go_step | go_upon | go_back))
  refine ((Sum_ok _ 2000 2000 l w2 HLL.out (by omega) (by omega) hr2)).mono ?_; rintro e_ w3 ⟨rfl, hb3⟩; dsimp only
  have b3 := b2.trans (hb3.mono b2.size)
  have hr3 := hr2.below hb3
  have hA3 := hA2.below hb3
  have i1 : IntKind.i64.wrap (1 + (k : Int)) = ((k + 1 : Nat) : Int) := by rw [IntKind.wrap_i64]; omega
  repeat' ((fail_if_success at_builtin); (fail_if_success at_make); (first | go_values | go_skip | go_guarded | go_step | go_upon | go_back))
  refine ((HP.out _)).mono ?_; rintro e_ _ ⟨rfl, rfl⟩; dsimp only
  repeat' ((fail_if_success at_builtin); (fail_if_success at_make); (first | go_values | go_skip | go_guarded | go_step | go_upon | go_back))
  refine wpList_apf rfl (.tmp 19) (.tmp 22) rfl elU8 Try.underlying3 g 2000 (k + 1) (bys l) hA3 (by rw [bys_len]; exact HLL.out) (by omega) (by omega) (by rfl) (by rfl) ?_
  intro A c w4 hc hb4
  have b4 := b3.trans (hb4.mono b3.size)
  have hr4 := hr3.below hb4
  generalize hN : 2000 + (k + 1) = N at *
  have hN1 : 2000 < N := by omega
  have hN2 : N ≤ 5000 := by omega
  clear hN
  repeat' ((fail_if_success at_builtin); (fail_if_success at_make); (first | go_values | go_skip | go_guarded | go_step | go_upon | go_back))
  refine ((Sum_bigM A N c w4 hN1 hN2)).mono ?_; rintro e_ _ ⟨rfl, rfl⟩; dsimp only
  repeat' ((fail_if_success at_builtin); (fail_if_success at_make); (first | go_values | go_skip | go_guarded | go_step | go_upon | go_back))
  refine ((Digest_ok (some ⟨g, 0, none⟩) 2000 2000 l w4 HLL.out (by omega) (by omega) hr4)).mono ?_; rintro e_ w5 ⟨rfl, hb5⟩; dsimp only
  have b5 := b4.trans (hb5.mono b4.size)
  repeat' ((fail_if_success at_builtin); (fail_if_success at_make); (first | go_values | go_skip | go_guarded | go_step | go_upon | go_back))
  go_ret
  exact ⟨rfl, b5⟩
end Go.Proofs.Ytkbcpcldjenhiaa
