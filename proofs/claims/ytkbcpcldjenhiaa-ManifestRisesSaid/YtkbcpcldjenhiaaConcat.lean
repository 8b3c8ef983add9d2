/- slices.Grow over nil bytes; slices.Concat of two slices of bytes. Conditions: the sizes. -/
import Derived.Test.YtkbcpcldjenhiaaNumW
namespace Go.Proofs.Ytkbcpcldjenhiaa
open Go.RowKit
set_option linter.unusedVariables false
set_option linter.unusedSimpArgs false
set_option maxRecDepth 20000

theorem own_cut {w : World} {base : Nat} {e : TypeId} {size : Nat} {A : Option Addr} {n cap k : Nat} {xs : List Value} (h : w.ownsRow base e size (.slice A n cap) n xs) (hk : k ≤ n) :
    w.ownsRow base e size (.slice A k cap) k (xs.take (k * size)) := by
  refine ⟨by rw [List.length_take, h.1]; exact Nat.min_eq_left (Nat.mul_le_mul_right _ hk), ?_⟩
  rcases h.2 with ⟨h1, h2⟩ | ⟨g, cap', cur, hv, hb, hg, hnc, hcm, hcs, htake⟩
  · left; injection h1 with e1 e2 e3; subst e1 e3; obtain rfl : k = 0 := by omega
    exact ⟨rfl, rfl⟩
  · right
    injection hv with e1 e2 e3; subst e1 e3
    refine ⟨g, cap, cur, rfl, hb, hg, by omega, hcm, hcs, ?_⟩
    rw [← htake, List.take_take, Nat.min_eq_left (Nat.mul_le_mul_right _ hk)]

/-- append(nil, make([]T, n)...) -/
theorem run_apz_nil {P : Program} {w : World} {t ty e it : TypeId} {size bytes : Nat} (E : El P t e size bytes) (hit : P.underlying it = some (.int .i64)) (n : Nat) (h0 : 0 < n) (hb : n * bytes ≤ 140737488355328) :
    ∃ cap cells, (Builtin.append_ #[t, it] ty #[.slice none 0 0, .int .i64 n]).run P w = .ok (.slice (some ⟨w.heap.size, 0, none⟩) n cap) (w.drew.alloc (.cells cells e)) ∧ n ≤ cap ∧ cap ≤ maxLen ∧ cells.size = cap * size := by
  have hpb := E.posb
  have hps := E.pos
  obtain ⟨hu, ⟨i, z, hi, hz, hs, hby, hzs⟩, _, _⟩ := E
  have hn47 : n ≤ 140737488355328 := Nat.le_trans (Nat.le_mul_of_pos_right n hpb) hb
  have hge := grownCap_ge w n 0 e
  have hcm := grownCap_le_maxLen w n 0 e (by simp only [maxLen]; omega)
  have h63' : ¬ (9223372036854775807 < (n : Int)) := by omega
  have h48' : ¬ (281474976710656 < Builtin.nextslicecap n 0 * i.bytes) := by rw [nextslicecap_zero h0, hby]; omega
  have hw : IntKind.i64.wrap (n : Int) = n := by rw [IntKind.wrap_i64]; omega
  have hl : ¬ ((n : Int) < 0) := by omega
  have hl2 : ¬ (281474976710656 < (n : Int) * (i.bytes : Int)) := by rw [hby, ← Int.natCast_mul]; omega
  have hns : ¬ (n * i.size = 0) := by rw [hs]; exact Nat.ne_of_gt (Nat.mul_pos h0 hps)
  have hn0 : n ≠ 0 := by omega
  refine ⟨grownCap w n 0 e, #[] ++ Builtin.zeroCells z.cells n ++ Builtin.zeroCells z.cells (grownCap w n 0 e - n), ?_, hge, hcm, ?_⟩
  · simp [Builtin.append_, run_underlying hu, run_underlying hit, sizeOf, typeInfo, zeroValue, hi, hz, asInt, asIntOf, hw, hl, hl2, hn0, h63', h48', Question.forced, run_firstCells_none, newRow, grownCap]
    intro h; exact absurd h hns
  · simp only [Array.size_append, size_zeroCells, hzs]
    rw [show (#[] : Array Value).size = 0 from rfl, Nat.zero_add, ← Nat.add_mul]; congr 1; omega

theorem wpList_apz {P : Program} {w : World} {ops : Array Oper} {rest : List Oper} {o : Oper} {a : Act} {Q : Exit → Act → World → Prop} (hgd : o.guard = none) (s x : Operand) {t e it : TypeId} {size bytes : Nat}
    (ho : o.op = .call { callee := .builtin .append, args := #[s, x], argTypes := #[t, it] }) (E : El P t e size bytes) (hit : P.underlying it = some (.int .i64))
    (n : Nat) (h0 : 0 < n) (hb : n * bytes ≤ 140737488355328) (hs : a.eval s = .slice none 0 0) (hx : a.eval x = .int .i64 n)
    (h : ∀ A c w', w'.ownsRow w.heap.size e size (.slice A 0 c) 0 [] → n ≤ c → Below w.heap.size w w' → wpList P ops Q rest (a.put o.dst (.slice A n c)) w') :
    wpList P ops Q (o :: rest) a w := by
  refine wpList_plain hgd fun _ hK => ?_
  obtain ⟨cap, cells, hrun, h1, h2, h3⟩ := run_apz_nil (P := P) (w := w) (ty := o.type) E hit n h0 hb
  unfold Oper.wp execOp
  simp only [ho, resolve, invoke, builtin, Sem.run_bind, Sem.run_pure, Result.andThen_ok, List.map_toArray, List.map_cons, List.map_nil, hs, hx, hrun]
  refine hK _ _ (h _ _ _ ?_ h1 ((Below.refl _ _).drew.alloc (Nat.le_refl _) _))
  exact World.ownsRow_made w.drew cells cap (Nat.le_refl _) h2 h3

theorem GrowNil_ok (n : Nat) (w : World) (hn : n ≤ 140737488355328) :
    Calls Try.prog 48 #[.slice none 0 0, .int .i64 n] w fun e w' => ∃ v, e = .returned v ∧ w'.ownsRow w.heap.size 5 1 v 0 [] ∧ Below w.heap.size w w' := by
  by_cases h0 : n = 0
  · subst h0
    go_enter Try.func48, Try.ntmps48
    repeat' ((fail_if_success at_builtin); (fail_if_success at_make); (first | go_values | go_skip | go_guarded | go_step | go_upon | go_back))
    go_ret
    exact ⟨_, rfl, World.ownsRow_nil _ _ _ _, Below.refl _ _⟩
  · have hp : 0 < n := by omega
    go_enter Try.func48, Try.ntmps48
    repeat' ((fail_if_success at_builtin); (fail_if_success at_make); (first | go_values | go_skip | go_guarded | go_step | go_upon | go_back))
    refine wpList_apz rfl (.tmp 20) (.tmp 21) rfl elU8 Try.underlying3 n hp (by omega) (by rfl) (by rfl) ?_
    intro A c w1 hown1 hc1 hb1
    cases A with
    | none =>
      rcases hown1.2 with ⟨h1, _⟩ | ⟨g, _, _, h1, _⟩
      · injection h1; omega
      · cases h1
    | some ad =>
      repeat' ((fail_if_success at_builtin); (fail_if_success at_make); (first | go_values | go_skip | go_guarded | go_step | go_upon | go_back))
      go_ret
      exact ⟨_, rfl, hown1, hb1⟩

theorem GrowNil_at (n : Nat) (N : Int) (hN : N = n) (w : World) (hn : n ≤ 140737488355328) :
    Calls Try.prog 48 #[.slice none 0 0, .int .i64 N] w fun e w' => ∃ v, e = .returned v ∧ w'.ownsRow w.heap.size 5 1 v 0 [] ∧ Below w.heap.size w w' := by
  subst hN; exact GrowNil_ok n w hn
theorem Concat2_ok (g : Nat) (A B : Option Addr) (n m c d : Nat) (l k : List UInt8) (w : World) (hl : l.length = n) (hk : k.length = m) (hc : n ≤ c) (hd : m ≤ d) (hnm : n + m ≤ 140737488355328)
    (h0 : w.cell? ⟨g, 0, none⟩ = some (.slice A n c)) (h1 : w.cell? ⟨g, 1, none⟩ = some (.slice B m d)) (hr : Rd w 1 A n (bys l)) (hr' : Rd w 1 B m (bys k)) :
    Calls Try.prog 20 #[.slice (some ⟨g, 0, none⟩) 2 2] w fun e w' => ∃ A' c', e = .returned (.slice A' (l ++ k).length c') ∧ OwnB 5 w.heap.size w' A' c' (l ++ k) ∧ Below w.heap.size w w' := by
  go_enter Try.func20, Try.ntmps20
  repeat' ((fail_if_success at_builtin); (fail_if_success at_make); (first | go_values | go_skip | go_guarded | go_step | go_upon | go_back))
  go_loop [3, 11] (fun s i => (i = .int .i64 0 ∧ s = .int .i64 0) ∨ (i = .int .i64 1 ∧ s = .int .i64 n) ∨ (i = .int .i64 2 ∧ s = .int .i64 ((n : Int) + m))) (fun _ i => 2 - (intOf i).toNat)
  case atStart => exact .inl ⟨rfl, rfl⟩
  case round =>
    rcases hrel with ⟨rfl, rfl⟩ | ⟨rfl, rfl⟩ | ⟨rfl, rfl⟩
    · repeat' ((fail_if_success at_builtin); (fail_if_success at_make); (first | go_values | go_skip | go_guarded | go_step | go_upon | go_back))
      go_round
      case rel => exact .inr (.inl ⟨rfl, rfl⟩)
      case measure => simp [intOf]
    · repeat' ((fail_if_success at_builtin); (fail_if_success at_make); (first | go_values | go_skip | go_guarded | go_step | go_upon | go_back))
      go_round
      case rel => exact .inr (.inr ⟨rfl, by go_num⟩)
      case measure => simp [intOf]
    · repeat' ((fail_if_success at_builtin); (fail_if_success at_make); (first | go_values | go_skip | go_guarded | go_step | go_upon | go_back))
      refine ((GrowNil_at (n + m) _ (by omega) _ hnm)).mono ?_; rintro e_ w1 ⟨v1, rfl, hown1, hb1⟩; dsimp only
      repeat' ((fail_if_success at_builtin); (fail_if_success at_make); (first | go_values | go_skip | go_guarded | go_step | go_upon | go_back))
      go_loopw [6, 27] (fun v i wr => ((i = .int .i64 0 ∧ wr.ownsRow w.heap.size 5 1 v 0 []) ∨ (i = .int .i64 1 ∧ wr.ownsRow w.heap.size 5 1 v n (bys l)) ∨ (i = .int .i64 2 ∧ wr.ownsRow w.heap.size 5 1 v (n + m) (bys l ++ bys k))) ∧ Below w.heap.size w wr) (fun _ i _ => 2 - (intOf i).toNat)
      case atStart => exact ⟨.inl ⟨rfl, hown1⟩, hb1⟩
      case round =>
        obtain ⟨hcase, hbel⟩ := hrel
        have b0 := World.block_lt_of_cell? w _ h0
        have h0' := (hbel.cell (p := ⟨g, 0, none⟩) b0).trans h0
        have h1' := (hbel.cell (p := ⟨g, 1, none⟩) b0).trans h1
        have hs := hbel.size
        rcases hcase with ⟨rfl, hown⟩ | ⟨rfl, hown⟩ | ⟨rfl, hown⟩
        · repeat' ((fail_if_success at_builtin); (fail_if_success at_make); (first | go_values | go_skip | go_guarded | go_step | go_upon | go_back))
          refine wpList_ap rfl (.tmp 31) (.tmp 32) rfl elU8 (by rfl) hown (by rfl) (hr.below hbel) (bys_one _) (by omega) hs ?_
          intro v2 w2 hown2 hg2 _
          have hb2 := below_own hbel hown (Nat.le_refl _) hg2
          repeat' ((fail_if_success at_builtin); (fail_if_success at_make); (first | go_values | go_skip | go_guarded | go_step | go_upon | go_back))
          go_roundw
          case rel => exact ⟨.inr (.inl ⟨rfl, by simpa using hown2⟩), hb2⟩
          case measure => simp [intOf]
        · repeat' ((fail_if_success at_builtin); (fail_if_success at_make); (first | go_values | go_skip | go_guarded | go_step | go_upon | go_back))
          refine wpList_ap rfl (.tmp 31) (.tmp 32) rfl elU8 (by rfl) hown (by rfl) (hr'.below hbel) (bys_one _) (by omega) hs ?_
          intro v2 w2 hown2 hg2 _
          have hb2 := below_own hbel hown (Nat.le_refl _) hg2
          repeat' ((fail_if_success at_builtin); (fail_if_success at_make); (first | go_values | go_skip | go_guarded | go_step | go_upon | go_back))
          go_roundw
          case rel => exact ⟨.inr (.inr ⟨rfl, hown2⟩), hb2⟩
          case measure => simp [intOf]
        · rw [← bys_app] at hown
          obtain ⟨A3, c3, rfl, ho3⟩ := OwnB.of (l := l ++ k) (by simp; omega) hown
          repeat' ((fail_if_success at_builtin); (fail_if_success at_make); (first | go_values | go_skip | go_guarded | go_step | go_upon | go_back))
          go_ret
          exact ⟨A3, c3, rfl, ho3, hbel⟩
end Go.Proofs.Ytkbcpcldjenhiaa
