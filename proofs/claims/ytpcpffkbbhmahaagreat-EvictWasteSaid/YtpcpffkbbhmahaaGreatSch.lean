/- sha.Start, sha.rounds, sha.schedule. Conditions: sixteen words. -/
import Derived.Test.YtpcpffkbbhmahaaGreatDig
import Derived.Deep.LoopGhost
import Derived.Laws.CopyOwn
namespace Go.Proofs.YtpcpffkbbhmahaaGreat
open Go.RowKit
set_option linter.unusedVariables false
set_option linter.unusedSimpArgs false
set_option maxRecDepth 200000
set_option maxHeartbeats 1000000

theorem Start_ok (w : World) : Calls Tryz.prog 97 #[] w fun e w' => e = .returned (.slice (some ⟨w.heap.size, 0, none⟩) 8 8) ∧ Rd w' 1 (some ⟨w.heap.size, 0, none⟩) 8 (wds h0s) ∧ Below w.heap.size w w' := by
  go_enter Tryz.func97, Tryz.ntmps97
  repeat' ((fail_if_success at_builtin); (fail_if_success at_make); (first | go_values | go_skip | go_guarded | go_step | go_upon | go_back))
  go_ret
  exact ⟨rfl, Rd.newN (w := w) (e := 61) (size := 1) (m := 8) (wds h0s) (by rfl), (Below.refl _ _).alloc (Nat.le_refl _) _⟩

theorem info64 : (Tryz.prog.info? 82).map (·.size) = some 64 := by kernel_rfl
theorem Arr.setRow {W : World} {g : Nat} {e : TypeId} {xs : List Value} (h : Arr W g e xs) (ys : List Value) : Arr (W.setRow g ys.toArray) g e ys := setRow_heap W g _ _ _ _ h
theorem Arr.otherRow {W : World} {g g' : Nat} {e : TypeId} {xs : List Value} (h : Arr W g e xs) (hne : g ≠ g') (ys : Array Value) : Arr (W.setRow g' ys) g e xs := (setRow_other W g' g ys hne).trans h
theorem all_one (l : List W32) : (wds l).toArray.all (·.oneCell') = true := all_oneCell_toArray (wds_one l)

theorem rounds_ok (w : World) : Calls Tryz.prog 114 #[] w fun e w' => e = .returned (.agg (wds rks).toArray) ∧ Below w.heap.size w w' := by
  go_enter Tryz.func114, Tryz.ntmps114
  repeat' ((fail_if_success at_builtin); (fail_if_success at_make); (fail_if_success (with_reducible refine at_store_ 82 ?_)); (fail_if_success (with_reducible refine at_load_ 82 ?_)); (fail_if_success (with_reducible refine at_copy_ ?_)); (first | go_values | go_skip | go_guarded | go_step | go_upon | go_back))
  have q0 : Arr (w.alloc (.cells (wds (List.replicate 64 0)).toArray 82)) w.heap.size 82 (wds (List.replicate 64 0)) := Arr.new _ _ _
  have b0 := (Below.refl _ w).alloc (Nat.le_refl _) (.cells (wds (List.replicate 64 0)).toArray 82)
  change wpList _ _ _ _ _ (w.alloc (.cells (wds (List.replicate 64 0)).toArray 82))
  refine wpList_store_mid rfl 82 (.tmp 0) (.tmp 1) rfl w.heap.size 0 (wds rks).toArray (by rfl) (by rfl) (q0.thereN (by rfl)) (by kernel_rfl) (all_one rks) ?_
  have q1 := q0.sets (ys := wds rks) (by rfl)
  have b1 := Below.sets (Nat.le_refl w.heap.size) (wds rks) 0 _ b0
  clear q0 b0
  change wpList _ _ _ _ _ ((w.alloc (.cells (wds (List.replicate 64 0)).toArray 82)).setCells w.heap.size 0 (wds rks))
  generalize (w.alloc (.cells (wds (List.replicate 64 0)).toArray 82)).setCells w.heap.size 0 (wds rks) = w1 at *
  repeat' ((fail_if_success at_builtin); (fail_if_success at_make); (first | go_values | go_skip | go_guarded | go_step | go_upon | go_back))
  exact bodyPost_ret (results_cell_row rfl _ _ w.heap.size _ _ _ _ (by rfl) q1 Tryz.underlying82 rfl (by kernel_rfl)) rfl ⟨rfl, b1⟩

theorem schedule_ok (B : Option Addr) (d : Nat) (b : List W32) (w : World) (hb : b.length = 16) (hd : 16 ≤ d) (hr : Rd w 1 B 16 (wds b)) :
    Calls Tryz.prog 115 #[.slice B 16 d] w fun e w' => e = .returned (.agg (wds (sched b 48)).toArray) ∧ Below w.heap.size w w' := by
  obtain ⟨bb, ob, rfl, hbb, hcb⟩ := hr.2 (by omega)
  have HB := Lib.hid hb
  have HCB := Lib.hid hcb
  clear hb hcb
  go_enter Tryz.func115, Tryz.ntmps115
  repeat' ((fail_if_success at_builtin); (fail_if_success at_make); (fail_if_success (with_reducible refine at_store_ 82 ?_)); (fail_if_success (with_reducible refine at_load_ 82 ?_)); (fail_if_success (with_reducible refine at_copy_ ?_)); (first | go_values | go_skip | go_guarded | go_step | go_upon | go_back))
  have q0 := (Arr.new w 82 (wds (List.replicate 64 0))).alloc (.cells (wds (List.replicate 64 0)).toArray 82)
  have q1 := Arr.new (w.alloc (.cells (wds (List.replicate 64 0)).toArray 82)) 82 (wds (List.replicate 64 0))
  have b1 := ((Below.refl _ w).alloc (Nat.le_refl _) (.cells (wds (List.replicate 64 0)).toArray 82)).alloc (by simp) (.cells (wds (List.replicate 64 0)).toArray 82)
  have r1 := (hr.alloc (.cells (wds (List.replicate 64 0)).toArray 82)).alloc (.cells (wds (List.replicate 64 0)).toArray 82)
  change wpList _ _ _ _ _ ((w.alloc (.cells (wds (List.replicate 64 0)).toArray 82)).alloc (.cells (wds (List.replicate 64 0)).toArray 82))
  rw [World.size_alloc] at q1
  generalize ((w.alloc (.cells (wds (List.replicate 64 0)).toArray 82)).alloc (.cells (wds (List.replicate 64 0)).toArray 82)) = w1 at *
  generalize hg0 : w.heap.size = g0 at *
  generalize hg1 : g0 + 1 = g1 at *
  have hbb' : bb < g0 := hbb
  have ne0 : g0 ≠ g1 := by omega
  have hge : w.heap.size ≤ g1 := by omega
  obtain ⟨b', o', e', _, hcb'⟩ := r1.2 (by omega)
  cases e'
  refine wpList_copy_own rfl (.tmp 9) (.tmp 10) 63 63 rfl 61 Tryz.underlying63 (by kernel_rfl) g1 0 64 64 ⟨bb, ob, none⟩ 16 d (by rfl) (by rfl) _ _ q1 (wds b) (by rw [wds_len, HB.out]; rfl) (fun j v hj => by rw [Addr.add_mid]; exact hcb' j v hj) (by rw [wds_len, HB.out]; decide) (wds_one b) ?_
  have q2 : Arr (w1.setRow g1 (((wds (List.replicate 64 0)).toArray.toList.take 0) ++ (wds b ++ ((wds (List.replicate 64 0)).toArray.toList.drop (0 + (wds b).length)))).toArray) g1 82 (wds (sched b (16 - 16) ++ List.replicate (64 - 16) 0)) := by
    have h := q1.setRow (((wds (List.replicate 64 0)).toArray.toList.take 0) ++ (wds b ++ ((wds (List.replicate 64 0)).toArray.toList.drop (0 + (wds b).length))))
    have e : wds (sched b (16 - 16) ++ List.replicate (64 - 16) 0) = (((wds (List.replicate 64 0)).toArray.toList.take 0) ++ (wds b ++ ((wds (List.replicate 64 0)).toArray.toList.drop (0 + (wds b).length)))) := by
      rw [wds_len, HB.out]
      simp only [Nat.sub_self, sched, wds, List.map_append]
      rfl
    rw [e]; exact h
  have p0 := q0.otherRow ne0 (((wds (List.replicate 64 0)).toArray.toList.take 0) ++ (wds b ++ ((wds (List.replicate 64 0)).toArray.toList.drop (0 + (wds b).length)))).toArray
  have b2 := below_setRow (g := g1) b1 (show g0 ≤ g1 by omega) (((wds (List.replicate 64 0)).toArray.toList.take 0) ++ (wds b ++ ((wds (List.replicate 64 0)).toArray.toList.drop (0 + (wds b).length)))).toArray
  generalize w1.setRow g1 (((wds (List.replicate 64 0)).toArray.toList.take 0) ++ (wds b ++ ((wds (List.replicate 64 0)).toArray.toList.drop (0 + (wds b).length)))).toArray = w2 at *
  rw [wds_len, HB.out]
  have hWl := HB.out
  clear q0 q1 b1 r1 hcb' hr
  repeat' ((fail_if_success at_builtin); (fail_if_success at_make); (fail_if_success (with_reducible refine at_store_ 82 ?_)); (fail_if_success (with_reducible refine at_load_ 82 ?_)); (fail_if_success (with_reducible refine at_copy_ ?_)); (first | go_values | go_skip | go_guarded | go_step | go_upon | go_back))
  go_loopg [4] 48 (fun gn i wr => ∃ t : Nat, gn = 64 - t ∧ i = .int .i64 t ∧ 16 ≤ t ∧ t ≤ 64 ∧ Arr wr g0 82 (wds (List.replicate 64 0)) ∧ Arr wr g1 82 (wds (sched b (t - 16) ++ List.replicate (64 - t) 0)) ∧ Below g0 w wr)
  case atStart => exact ⟨16, rfl, rfl, by omega, by omega, p0, q2, b2⟩
  case round =>
    clear p0 q2 b2
    obtain ⟨t, hgt, rfl, ht0, ht, q0, q1, hbel⟩ := hrel
    have HGT := Lib.hid hgt
    clear hgt
    by_cases hlt2 : t < 64
    · have hLl : (sched b (t - 16)).length = t := by rw [sched_len, hWl]; omega
      have hnx := schNext_eq _ t hLl ht0
      have hss : sched b (t + 1 - 16) = sched b (t - 16) ++ [schNext (sched b (t - 16))] := by rw [show t + 1 - 16 = (t - 16) + 1 by omega]; rfl
      have HSS := Lib.hid hss
      clear hss hWl
      generalize sched b (t - 16) = L at *
      have hcl : ∀ j (hj : j < L.length), wr.cell? ⟨g1, j, none⟩ = some (.int .u32 (wd L[j])) := fun j hj => q1.cell (by rw [wds_at _ _ (by rw [List.length_append]; omega), List.getElem_append_left hj])
      have c1 := hcl (t - 16) (by omega)
      have c2 := hcl (t - 15) (by omega)
      have c3 := hcl (t - 7) (by omega)
      have c4 := hcl (t - 2) (by omega)
      clear hcl
      generalize L[t - 16] = x1 at *
      generalize L[t - 15] = x2 at *
      generalize L[t - 7] = x3 at *
      generalize L[t - 2] = x4 at *
      have HNX := Lib.hid hnx
      have HLL := Lib.hid hLl
      clear hnx hLl
      have j1 : ((t : Int) - 16).toNat = t - 16 := by omega
      have j2 : ((t : Int) - 15).toNat = t - 15 := by omega
      have j3 : ((t : Int) - 7).toNat = t - 7 := by omega
      have j4 : ((t : Int) - 2).toNat = t - 2 := by omega
      have k1 : (0 : Int) ≤ (t : Int) - 16 := by omega
      have k2 : (0 : Int) ≤ (t : Int) - 15 := by omega
      have k3 : (0 : Int) ≤ (t : Int) - 7 := by omega
      have k4 : (0 : Int) ≤ (t : Int) - 2 := by omega
      have l1 : (t : Int) - 16 < 64 := by omega
      have l2 : (t : Int) - 15 < 64 := by omega
      have l3 : (t : Int) - 7 < 64 := by omega
      have l4 : (t : Int) - 2 < 64 := by omega
      have n1 : (16 : Int) ≤ (t : Int) := by omega
      have n2 : (15 : Int) ≤ (t : Int) := by omega
      have n3 : (7 : Int) ≤ (t : Int) := by omega
      have n4 : (2 : Int) ≤ (t : Int) := by omega
      have m1 : IntKind.i64.wrap ((t : Int) - 16) = (t : Int) - 16 := by rw [IntKind.wrap_i64]; omega
      have m2 : IntKind.i64.wrap ((t : Int) - 15) = (t : Int) - 15 := by rw [IntKind.wrap_i64]; omega
      have m3 : IntKind.i64.wrap ((t : Int) - 7) = (t : Int) - 7 := by rw [IntKind.wrap_i64]; omega
      have m4 : IntKind.i64.wrap ((t : Int) - 2) = (t : Int) - 2 := by rw [IntKind.wrap_i64]; omega
      have i4 : (t : Int) < 64 := by omega
      have i5 : decide ((t : Int) < 64) = true := by simpa using i4
      repeat' ((fail_if_success at_builtin); (fail_if_success at_make); (fail_if_success (with_reducible refine at_store_ 82 ?_)); (fail_if_success (with_reducible refine at_load_ 82 ?_)); (fail_if_success (with_reducible refine at_copy_ ?_)); (first | go_values | go_skip | go_guarded | go_step | go_upon | go_back))
      refine ((Mix_ok x2 2 2 rfl _ (by omega))).mono ?_; rintro e_ w_ ⟨rfl, nk1, rfl⟩; dsimp only
      repeat' ((fail_if_success at_builtin); (fail_if_success at_make); (fail_if_success (with_reducible refine at_store_ 82 ?_)); (fail_if_success (with_reducible refine at_load_ 82 ?_)); (fail_if_success (with_reducible refine at_copy_ ?_)); (first | go_values | go_skip | go_guarded | go_step | go_upon | go_back))
      refine ((Mix_ok x4 3 3 rfl _ (by omega))).mono ?_; rintro e_ w_ ⟨rfl, nk2, rfl⟩; dsimp only
      repeat' ((fail_if_success at_builtin); (fail_if_success at_make); (fail_if_success (with_reducible refine at_store_ 82 ?_)); (fail_if_success (with_reducible refine at_load_ 82 ?_)); (fail_if_success (with_reducible refine at_copy_ ?_)); (first | go_values | go_skip | go_guarded | go_step | go_upon | go_back))
      have hb2 := bdrewN hbel (nk1 + nk2)
      have q0' := q0.drewN (nk1 + nk2)
      have q1' := q1.drewN (nk1 + nk2)
      have d1 : (wr.drewN (nk1 + nk2)).cell? ⟨g1, t - 16, none⟩ = _ := c1
      have d3 : (wr.drewN (nk1 + nk2)).cell? ⟨g1, t - 7, none⟩ = _ := c3
      clear c1 c2 c3 c4 q0 q1 hbel
      generalize wr.drewN (nk1 + nk2) = wz at *
      go_still_tail 15, (by kernel_rfl)
      change wpList _ _ _ _ _ wz.drew
      simp only [add32]
      rw [← HNX.out]
      have hc5 : ∃ v, wz.drew.cell? ⟨g1, t, none⟩ = some v := ⟨_, q1'.cell (k := t) (by rw [wds_at _ _ (by rw [List.length_append, List.length_replicate]; have := HLL.out; omega)])⟩
      obtain ⟨v5, hc5⟩ := hc5
      have hf5 : wz.drew.frozen? ⟨g1, t, none⟩ = false := q1'.frozen t
      have hs5 := q1'.set (k := t) (by rw [wds_len, List.length_append, List.length_replicate]; have := HLL.out; omega) (.int .u32 (wd (schNext L)))
      rw [wds_set, grow L t HLL.out (by omega), ← HSS.out] at hs5
      have HS5 := Lib.hid hs5
      clear hs5 q1' j1 j2 j3 j4 m1 m2 m3 m4
      repeat' ((fail_if_success at_builtin); (fail_if_success at_make); (fail_if_success (with_reducible refine at_store_ 82 ?_)); (fail_if_success (with_reducible refine at_load_ 82 ?_)); (fail_if_success (with_reducible refine at_copy_ ?_)); (first | go_values | go_skip | go_guarded | go_step | go_upon | go_back))
      go_roundg (64 - (t + 1))
      case measure => have := HGT.out; omega
      case rel => exact ⟨t + 1, rfl, by go_num, by omega, by omega, q0'.other ne0 _, HS5.out, Below.setCell hb2.drew (show g0 ≤ g1 by omega) _⟩
    · obtain rfl : t = 64 := by omega
      rw [List.replicate_zero, List.append_nil, show 64 - 16 = 48 from rfl] at q1
      have hsl : (sched b 48).length = 64 := by rw [sched_len, hWl]
      generalize hS : sched b 48 = S at *
      have HS := Lib.hid hS
      clear hS hWl
      repeat' ((fail_if_success at_builtin); (fail_if_success at_make); (fail_if_success (with_reducible refine at_store_ 82 ?_)); (fail_if_success (with_reducible refine at_load_ 82 ?_)); (fail_if_success (with_reducible refine at_copy_ ?_)); (first | go_values | go_skip | go_guarded | go_step | go_upon | go_back))
      have hi64 := info64
      refine wpList_load_row rfl 82 (.tmp 3) rfl g1 (by rfl) _ _ _ _ q1 Tryz.underlying82 rfl (by rw [hi64]; simp [wds_len, hsl]) ?_
      refine wpList_store_mid rfl 82 (.tmp 2) (.tmp 47) rfl g0 0 (wds S).toArray (by rfl) (by rfl) (q0.thereN (by simp [wds_len, hsl])) (by rw [hi64]; simp [wds_len, hsl]) (all_one S) ?_
      have p0 := q0.sets (ys := wds S) (by simp [wds_len, hsl])
      have b2 := Below.sets (show g0 ≤ g0 from Nat.le_refl _) (wds S) 0 _ hbel
      change wpList _ _ _ _ _ (wr.setCells g0 0 (wds S))
      clear q0 q1 hbel
      generalize wr.setCells g0 0 (wds S) = wz at *
      repeat' ((fail_if_success at_builtin); (fail_if_success at_make); (fail_if_success (with_reducible refine at_store_ 82 ?_)); (fail_if_success (with_reducible refine at_load_ 82 ?_)); (fail_if_success (with_reducible refine at_copy_ ?_)); (first | go_values | go_skip | go_guarded | go_step | go_upon | go_back))
      refine bodyPost_ret (results_cell_row rfl _ _ g0 _ _ _ _ (by rfl) p0 Tryz.underlying82 rfl (by rw [hi64]; simp [wds_len, hsl])) rfl ⟨?_, ?_⟩
      · rw [HS.out]
      · rw [hg0]; exact b2
end Go.Proofs.YtpcpffkbbhmahaaGreat
