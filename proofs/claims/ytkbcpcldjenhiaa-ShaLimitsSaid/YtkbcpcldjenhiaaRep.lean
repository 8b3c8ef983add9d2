/- slices.Repeat of one byte, 2000 times. No condition. -/
import Derived.Test.YtkbcpcldjenhiaaSum
import Derived.Test.YtkbcpcldjenhiaaList
import Derived.Laws.CopyOwn
import Derived.Deep.OwnRows
namespace Go.Proofs.Ytkbcpcldjenhiaa
open Go.RowKit
set_option linter.unusedVariables false
set_option linter.unusedSimpArgs false
set_option maxRecDepth 100000

theorem Mul1_ok (w : World) : Calls Try.prog 72 #[.int .u64 1, .int .u64 2000] w fun e w' => e = .returned (.tuple #[.int .u64 0, .int .u64 2000]) ∧ w = w' := by
  have h := Try.bits_Mul 1 2000 (by omega) (by omega) w
  refine h.mono fun e w' h => ⟨h.1, h.2.symm⟩
def rep (x : UInt8) (n : Nat) : List UInt8 := List.replicate n x ++ List.replicate (2000 - n) 0
theorem rep_len (x : UInt8) (n : Nat) (h : n ≤ 2000) : (rep x n).length = 2000 := by simp [rep]; omega
theorem rep_next (x : UInt8) (n : Nat) (h : n ≤ 2000) :
    (bys (rep x n)).toArray.toList.take n ++ (bys (List.replicate (min n (2000 - n)) x) ++ (bys (rep x n)).toArray.toList.drop (n + (bys (List.replicate (min n (2000 - n)) x)).length)) = bys (rep x (n + min n (2000 - n))) := by
  rw [bys_len, List.length_replicate]
  simp only [bys_take, bys_drop, ← bys_app]
  congr 1
  simp only [rep]
  rw [List.take_append_of_le_length (by simp), List.take_of_length_le (by simp), List.drop_append, List.drop_eq_nil_of_le (by simp), List.nil_append, List.drop_replicate, List.length_replicate, ← List.append_assoc, List.replicate_append_replicate]
  congr 2; omega

theorem infoU8 : ∃ i : TypeInfo, Try.prog.info? 5 = some i ∧ i.zero = some (.int .u8 0) ∧ i.size = 1 ∧ i.bytes = 1 := by
  have h : (Try.prog.info? 5).map (fun i => (i.zero, i.size, i.bytes)) = some (some (.int .u8 0), 1, 1) := by kernel_rfl
  cases hh : Try.prog.info? 5 with
  | none => rw [hh] at h; cases h
  | some i =>
    rw [hh] at h
    simp only [Option.map_some, Option.some.injEq, Prod.mk.injEq] at h
    exact ⟨i, rfl, h.1, h.2.1, h.2.2⟩
theorem rep_zero (x : UInt8) : (madeCells #[.int .u8 0] 2000) = (bys (rep x 0)).toArray := by
  apply Array.toList_inj.1
  rw [toList_madeCells_one]
  simp only [rep, bys, List.replicate_zero, List.nil_append, List.map_replicate, Nat.sub_zero]
  rfl
theorem rep_full (x : UInt8) : rep x 2000 = List.replicate 2000 x := by simp [rep]

theorem rep_head (x : UInt8) (n m : Nat) (h : m ≤ n) (j : Nat) (v : Value) (hj : (bys (List.replicate m x))[j]? = some v) : (bys (rep x n))[j]? = some v := by
  have hl := (List.getElem?_eq_some_iff.1 hj).1
  rw [bys_len, List.length_replicate] at hl
  simp only [bys, List.map_replicate, List.getElem?_replicate, hl, if_true] at hj
  simp only [rep, bys, List.map_append, List.map_replicate]
  rw [List.getElem?_append_left (by simp; omega), List.getElem?_replicate, if_pos (by omega)]
  exact hj
theorem wp_copy {P : Program} {w : World} {o : Oper} {a : Act} {K : Act → World → Prop} {Q : Exit → Act → World → Prop} (d s : Operand) (dT sT : TypeId)
    (ho : o.op = .call { callee := .builtin .copy, args := #[d, s], argTypes := #[dT, sT] }) (elem : TypeId) (hu : P.underlying dT = some (.slice elem)) (hsz : (P.info? elem).map (·.size) = some 1)
    (g off dLen dCap : Nat) (ad : Addr) (sLen sCap : Nat) (hd : a.eval d = .slice (some ⟨g, off, none⟩) dLen dCap) (hs : a.eval s = .slice (some ad) sLen sCap)
    (cur : Array Value) (t : TypeId) (hg : w.heap[g]? = some (.cells cur t (0, 0))) (cs : List Value) (hn : cs.length = Nat.min sLen dLen)
    (hsrc : ∀ j v, cs[j]? = some v → w.cell? (ad.add j) = some v) (hfit : off + cs.length ≤ cur.size) (h1 : ∀ v ∈ cs, v.oneCell' = true)
    (h : K (a.put o.dst (goInt cs.length)) (w.setRow g (cur.toList.take off ++ (cs ++ cur.toList.drop (off + cs.length))).toArray)) :
    Oper.wp P o a w K Q := by
  have hrun := run_copy_row (P := P) w dT sT o.type elem g off dLen dCap ad sLen sCap cur t cs hu hsz hg hn hsrc hfit h1
  unfold Oper.wp
  simp [execOp, ho, resolve, invoke, builtin, hd, hs, hrun, Result.andThen]
  exact h

set_option maxHeartbeats 1000000 in
theorem Repeat_ok (A : Option Addr) (x : UInt8) (w : World) (hr : Rd w 1 A 1 (bys [x])) :
    Calls Try.prog 43 #[.slice A 1 1, .int .i64 2000] w fun e w' => ∃ g, e = .returned (.slice (some ⟨g, 0, none⟩) 2000 2000) ∧ w.heap.size ≤ g ∧ Arr w' g 5 (bys (List.replicate 2000 x)) ∧ Below w.heap.size w w' := by
  obtain ⟨b, off, rfl, hb, hc⟩ := hr.2 (by omega)
  have hc0 := hc 0 _ rfl
  have HC := Lib.hid hc0
  clear hc
  go_enter Try.func43, Try.ntmps43
  repeat' ((fail_if_success at_builtin); (fail_if_success at_make); (first | go_values | go_skip | go_guarded | go_step | go_upon | go_back))
  refine ((Mul1_ok w)).mono ?_; rintro e_ _ ⟨rfl, rfl⟩; dsimp only
  repeat' ((fail_if_success at_builtin); (fail_if_success at_make); (first | go_values | go_skip | go_guarded | go_step | go_upon | go_back))
  obtain ⟨i, hi, hz, hs, hby⟩ := infoU8
  refine wpList_make_row w rfl (.tmp 29) (.tmp 29) 22 rfl 5 i (.int .u8 0) Try.underlying22 hi hz hs rfl .i64 .i64 2000 (by rfl) (by rfl) (by rw [hby]; omega) (by omega) ?_
  rw [rep_zero x]
  have q1 := Arr.new w 5 (bys (rep x 0))
  have b1 := (Below.refl w.heap.size w).alloc (Nat.le_refl _) (.cells (bys (rep x 0)).toArray 5)
  have c1 : (w.alloc (.cells (bys (rep x 0)).toArray 5)).cell? ⟨b, off, none⟩ = some (.int .u8 (x.toNat : Int)) := (World.cell?_alloc_lt w _ ⟨b, off, none⟩ hb).trans HC.out
  generalize (w.alloc (.cells (bys (rep x 0)).toArray 5)) = w1 at *
  obtain ⟨g, hg⟩ : ∃ g, g = w.heap.size := ⟨_, rfl⟩
  rw [← hg] at q1 ⊢
  have hgl : w.heap.size ≤ g := by omega
  have HG := Lib.hid hg
  clear hi hz hs hby hg
  repeat' ((fail_if_success at_builtin); (fail_if_success at_make); (fail_if_success (with_reducible refine at_store_ 5 ?_)); (fail_if_success (with_reducible refine at_load_ 5 ?_)); (fail_if_success (with_reducible refine at_copy_ ?_)); (first | go_values | go_skip | go_guarded | go_step | go_upon | go_back))
  refine wpList_copy_own rfl (.tmp 31) (.tmp 32) 22 22 rfl 5 Try.underlying22 (by kernel_rfl) g 0 2000 2000 ⟨b, off, none⟩ 1 1 (by rfl) (by rfl) _ _ q1 (bys [x]) (by rfl) (fun j v hj => by
    match j, hj with
    | 0, hj => cases hj; exact c1) (by simp [bys_len, rep_len]) (bys_one _) ?_
  have q2 := q1.setRow (((bys (rep x 0)).toArray.toList.take 0) ++ (bys [x] ++ ((bys (rep x 0)).toArray.toList.drop (0 + (bys [x]).length))))
  rw [show (((bys (rep x 0)).toArray.toList.take 0) ++ (bys [x] ++ ((bys (rep x 0)).toArray.toList.drop (0 + (bys [x]).length)))) = bys (rep x 1) by simp [bys, rep, List.drop_replicate]] at q2
  rw [show (((bys (rep x 0)).toArray.toList.take 0) ++ (bys [x] ++ ((bys (rep x 0)).toArray.toList.drop (0 + (bys [x]).length)))) = bys (rep x 1) by simp [bys, rep, List.drop_replicate]]
  have b2 := below_setRow (g := g) b1 hgl (bys (rep x 1)).toArray
  generalize w1.setRow g (bys (rep x 1)).toArray = w2 at *
  clear q1 b1 c1
  rw [show (bys [x]).length = 1 from rfl]
  repeat' ((fail_if_success at_builtin); (fail_if_success at_make); (fail_if_success (with_reducible refine at_store_ 5 ?_)); (fail_if_success (with_reducible refine at_load_ 5 ?_)); (fail_if_success (with_reducible refine at_copy_ ?_)); (first | go_values | go_skip | go_guarded | go_step | go_upon | go_back))
  go_loopg [8] 1999 (fun gn i wr => ∃ n : Nat, gn = 2000 - n ∧ i = .int .i64 n ∧ 1 ≤ n ∧ n ≤ 2000 ∧ Arr wr g 5 (bys (rep x n)) ∧ Below w.heap.size w wr)
  case atStart => exact ⟨1, rfl, rfl, by omega, by omega, q2, b2⟩
  case round =>
    clear q2 b2
    obtain ⟨n, hgt, rfl, hn1, hn, r1, hbel⟩ := hrel
    have HGT := Lib.hid hgt
    clear hgt
    by_cases hlt : n < 2000
    · have hnx := rep_next x n hn
      obtain ⟨m, hm⟩ : ∃ m, m = min n (2000 - n) := ⟨_, rfl⟩
      rw [← hm] at hnx
      have hm1 : 1 ≤ m := by omega
      have hm2 : n + m ≤ 2000 := by omega
      have HM := Lib.hid hm
      have HNX := Lib.hid hnx
      clear hm hnx
      have i1 : (n : Int) < 2000 := by omega
      have i2 : decide ((n : Int) < 2000) = true := by simpa using i1
      have i3 : (1 : Int) ≤ (n : Int) := by omega
      have i6 : (n : Int) ≤ 2000 := by omega
      have i4 : IntKind.i64.wrap ((n : Int) + (m : Int)) = (n : Int) + (m : Int) := IntWalk.i64_in _ (by omega)
      have HNE := Lib.hid (show ¬ (2000 = n) by omega)
      have HMN := Lib.hid (show m ≤ n by have := HM.out; omega)
      repeat' ((fail_if_success at_builtin); (fail_if_success at_make); (fail_if_success (with_reducible refine at_store_ 5 ?_)); (fail_if_success (with_reducible refine at_load_ 5 ?_)); (fail_if_success (with_reducible refine at_copy_ ?_)); (first | go_values | go_skip | go_guarded | go_step | go_upon | go_back))
      --HELD
      refine wp_region_held_drew (S := (fun _ => True)) (by kernel_rfl) ?_ (fun hHeld => ?_)
      · trivial
      have r2 : Arr wr.drew g 5 (bys (rep x n)) := r1.drew
      have hB := hbel.drew
      clear r1 hbel
      generalize wr.drew = wn0 at *
      refine wpAnyH_take (i := 0) (oi := _) (v := ?_) rfl (by kernel_rfl) (by kernel_rfl) (by kernel_rfl) (fun _ _ _ h => h) (Or.inl ⟨by rfl, ?_⟩) (by assumption) ?_
      rotate_left
      · (intro w hSw; (try dsimp only at hSw); go_simp; try (with_reducible rfl))
      try simp only [Act.put, List.setIfInBounds_toArray, List.set_cons_zero, List.set_cons_succ]
      refine wpAnyH_take (i := 1) (oi := _) (v := ?_) rfl (by kernel_rfl) (by kernel_rfl) (by kernel_rfl) (fun _ _ _ h => h) (Or.inl ⟨by rfl, ?_⟩) (by assumption) ?_
      rotate_left
      · (intro w hSw; (try dsimp only at hSw); go_simp; try (with_reducible rfl))
      try simp only [Act.put, List.setIfInBounds_toArray, List.set_cons_zero, List.set_cons_succ]
      refine wpAnyH_take (i := 2) (oi := _) (v := ?_) rfl (by kernel_rfl) (by kernel_rfl) (by kernel_rfl) (fun _ _ _ h => h) (Or.inl ⟨by rfl, ?_⟩) (by assumption) ?_
      rotate_left
      · (intro w hSw; (try dsimp only at hSw); go_simp; try (with_reducible rfl))
      try simp only [Act.put, List.setIfInBounds_toArray, List.set_cons_zero, List.set_cons_succ]
      refine wpAnyH_take (i := 3) (oi := _) (v := ?_) rfl (by kernel_rfl) (by kernel_rfl) (by kernel_rfl) (fun _ _ _ h => h) (Or.inl ⟨by rfl, ?_⟩) (by assumption) ?_
      rotate_left
      · (intro w hSw; (try dsimp only at hSw); go_simp; try (with_reducible rfl))
      try simp only [Act.put, List.setIfInBounds_toArray, List.set_cons_zero, List.set_cons_succ]
      refine wpAnyH_take (i := 4) (oi := _) (v := ?_) rfl (by kernel_rfl) (by kernel_rfl) (by kernel_rfl) (fun _ _ _ h => h) (Or.inl ⟨by rfl, ?_⟩) (by assumption) ?_
      rotate_left
      · (intro w hSw; (try dsimp only at hSw); go_simp; try (with_reducible rfl))
      try simp only [Act.put, List.setIfInBounds_toArray, List.set_cons_zero, List.set_cons_succ]
      refine wpAnyH_take (i := 5) (oi := _) (v := ?_) rfl (by kernel_rfl) (by kernel_rfl) (by kernel_rfl) (fun _ _ _ h => h) (Or.inl ⟨by rfl, ?_⟩) (by assumption) ?_
      rotate_left
      · (intro w hSw; (try dsimp only at hSw); go_simp; try (with_reducible rfl))
      try simp only [Act.put, List.setIfInBounds_toArray, List.set_cons_zero, List.set_cons_succ]
      refine wpAnyH_take (i := 6) (oi := _) (v := ?_) rfl (by kernel_rfl) (by kernel_rfl) (by kernel_rfl) (fun _ _ _ h => h) (Or.inl ⟨by rfl, ?_⟩) (by assumption) ?_
      rotate_left
      · (intro w hSw; (try dsimp only at hSw); go_simp; try (with_reducible rfl))
      try simp only [Act.put, List.setIfInBounds_toArray, List.set_cons_zero, List.set_cons_succ]
      refine wpAnyH_ready (rs := [7]) (by kernel_rfl) (by simp) ?_
      refine AllReadyH.cons (o := _) rfl (fun K hK => ?_) ?_
      ·
        simp only [List.getElem_toArray, List.getElem_cons_zero, List.getElem_cons_succ, List.setIfInBounds_toArray, List.set_cons_zero, List.set_cons_succ, if_neg HNE.out]
        generalize hdn : 2000 - n = dn at *
        have HDN := Lib.hid hdn
        clear hdn
        rw [if_pos (by simp [Region.wanted])]
        refine wp_copy (.tmp 41) (.tmp 44) 22 22 rfl 5 Try.underlying22 (by kernel_rfl) g n dn dn ⟨g, 0, none⟩ n 2000 (by rfl) (by rfl) _ _ r2 (bys (List.replicate m x)) (by rw [bys_len, List.length_replicate]; exact HM.out) (fun j v hj => by rw [Addr.add_mid, Nat.zero_add]; exact r2.cell (rep_head x n m HMN.out j v hj)) (by rw [bys_len, List.length_replicate]; simp only [List.size_toArray, bys_len, rep_len x n hn]; omega) (bys_one _) ?_
        rw [HNX.out, bys_len, List.length_replicate]
        refine outG hK ?_ (fun W => Arr W g 5 (bys (rep x (n + m)))) (Below w.heap.size w) ?_ ?_ (fun wn1 hHeld hF hB => ?_)
        · trivial
        · exact r2.setRow _
        · exact below_setRow hB hgl _
        clear hK K
        try simp only [Act.put, List.setIfInBounds_toArray, List.set_cons_zero, List.set_cons_succ]
        refine wpAnyH_take (i := 8) (oi := _) (v := ?_) rfl (by kernel_rfl) (by kernel_rfl) (by kernel_rfl) (fun _ _ _ h => h) (Or.inl ⟨by rfl, ?_⟩) (by assumption) ?_
        rotate_left
        · (intro w hSw; (try dsimp only at hSw); go_simp; try (with_reducible rfl))
        try simp only [Act.put, List.setIfInBounds_toArray, List.set_cons_zero, List.set_cons_succ]
        refine wpAnyH_take (i := 9) (oi := _) (v := ?_) rfl (by kernel_rfl) (by kernel_rfl) (by kernel_rfl) (fun _ _ _ h => h) (Or.inl ⟨by rfl, ?_⟩) (by assumption) ?_
        rotate_left
        · (intro w hSw; (try dsimp only at hSw); go_simp; try (with_reducible rfl))
        try simp only [Act.put, List.setIfInBounds_toArray, List.set_cons_zero, List.set_cons_succ]
        refine wpAnyH_done (by kernel_rfl) ?_ _
        clear hHeld
        repeat' ((fail_if_success at_builtin); (fail_if_success at_make); (fail_if_success (with_reducible refine at_store_ 5 ?_)); (fail_if_success (with_reducible refine at_load_ 5 ?_)); (fail_if_success (with_reducible refine at_copy_ ?_)); (first | go_values | go_skip | go_guarded | go_step | go_upon | go_back))
        go_roundg (2000 - (n + m))
        case measure => have := HGT.out; have := HDN.out; omega
        case rel => exact ⟨n + m, rfl, by go_num, by omega, by omega, hF, hB⟩
      exact AllReadyH.nil
      --HELDEND
    · obtain rfl : n = 2000 := by omega
      rw [rep_full] at r1
      repeat' ((fail_if_success at_builtin); (fail_if_success at_make); (fail_if_success (with_reducible refine at_store_ 5 ?_)); (fail_if_success (with_reducible refine at_load_ 5 ?_)); (fail_if_success (with_reducible refine at_copy_ ?_)); (first | go_values | go_skip | go_guarded | go_step | go_upon | go_back))
      go_ret
      exact ⟨g, rfl, hgl, r1, hbel⟩
end Go.Proofs.Ytkbcpcldjenhiaa
