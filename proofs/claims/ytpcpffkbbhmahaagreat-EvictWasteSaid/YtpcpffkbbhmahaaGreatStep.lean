/- sha.Step. Conditions: eight words, sixteen words. -/
import Derived.Test.YtpcpffkbbhmahaaGreatSch
namespace Go.Proofs.YtpcpffkbbhmahaaGreat
open Go.RowKit
set_option linter.unusedVariables false
set_option linter.unusedSimpArgs false
set_option maxRecDepth 200000
set_option maxHeartbeats 2000000

theorem Choose_q (x y z : W32) (w : World) : Calls Tryz.prog 117 #[.int .u32 (wd x), .int .u32 (wd y), .int .u32 (wd z)] w fun e w' => e = .returned (.int .u32 (wd (ch32 x y z))) ∧ w' = w := by
  go_enter Tryz.func117, Tryz.ntmps117
  repeat' ((fail_if_success at_builtin); (fail_if_success at_make); (first | go_values | go_skip | go_guarded | go_step | go_upon | go_back))
  go_ret
  rw [ch_choose]
  simp only [show (if IntKind.u32.signed = true then (-1 : Int) else IntKind.u32.max) = IntKind.u32.max from if_neg (by decide), bits_and32, bits_or32, bits_not32]
  exact ⟨rfl, trivial⟩
theorem Most_q (x y z : W32) (w : World) : Calls Tryz.prog 118 #[.int .u32 (wd x), .int .u32 (wd y), .int .u32 (wd z)] w fun e w' => e = .returned (.int .u32 (wd (maj32 x y z))) ∧ w' = w := by
  go_enter Tryz.func118, Tryz.ntmps118
  repeat' ((fail_if_success at_builtin); (fail_if_success at_make); (first | go_values | go_skip | go_guarded | go_step | go_upon | go_back))
  go_ret
  rw [maj_most]
  simp only [bits_and32, bits_or32]
  exact ⟨rfl, trivial⟩
theorem own_arr {w : World} {base n : Nat} {e : TypeId} {v : Value} {xs : List Value} (h : w.ownsRow base e 1 v n xs) (h0 : 0 < n) : ∃ g cap rest, v = .slice (some ⟨g, 0, none⟩) n cap ∧ base ≤ g ∧ n ≤ cap ∧ cap ≤ maxLen ∧ Arr w g e (xs ++ rest) := by
  rcases h.2 with ⟨_, h1⟩ | ⟨g, cap, cur, hv, hb, hg, hnc, hcm, hcs, htake⟩
  · omega
  · refine ⟨g, cap, cur.toList.drop n, hv, hb, hnc, hcm, ?_⟩
    rw [Nat.mul_one] at htake
    unfold Arr
    rw [← htake, List.take_append_drop]
    simpa using hg
theorem Arr.rd {W : World} {g : Nat} {e : TypeId} {xs rest : List Value} (h : Arr W g e (xs ++ rest)) (n : Nat) (hn : xs.length = n) : Rd W 1 (some ⟨g, 0, none⟩) n xs :=
  ⟨by omega, fun _ => ⟨g, 0, rfl, h.lt, fun j u hj => by
    rw [Nat.zero_add]
    exact h.cell (by rw [List.getElem?_append_left (List.getElem?_eq_some_iff.1 hj).1]; exact hj)⟩⟩
theorem Rd.drewR {w : World} {size n : Nat} {A : Option Addr} {xs : List Value} (h : Rd w size A n xs) : Rd w.drew size A n xs := h
theorem step_two (h b : List W32) (hh : h.length = 8) : List.zipWith (· + ·) h (rnds (sched b 48) h 64) = stepS h b := by
  unfold stepS
  rw [List.zipWith_comm]
  congr 1
  funext a b
  exact BitVec.add_comm _ _

theorem Step_ok (A : Option Addr) (c : Nat) (h : List W32) (B : Option Addr) (d : Nat) (b : List W32) (w : World) (hh : h.length = 8) (hc : 8 ≤ c) (hr : Rd w 1 A 8 (wds h)) (hb : b.length = 16) (hd : 16 ≤ d) (hr' : Rd w 1 B 16 (wds b)) :
    Calls Tryz.prog 98 #[.slice A 8 c, .slice B 16 d] w fun e w' => ∃ g' c', e = .returned (.tuple #[.slice (some ⟨g', 0, none⟩) 8 c', .int .i64 0]) ∧ 8 ≤ c' ∧ Rd w' 1 (some ⟨g', 0, none⟩) 8 (wds (stepS h b)) ∧ Below w.heap.size w w' := by
  have HHL := Lib.hid hh
  have HBL := Lib.hid hb
  clear hh hb
  go_enter Tryz.func98, Tryz.ntmps98
  repeat' ((fail_if_success at_builtin); (fail_if_success at_make); (fail_if_success (with_reducible refine at_store_ 82 ?_)); (fail_if_success (with_reducible refine at_load_ 82 ?_)); (fail_if_success (with_reducible refine at_copy_ ?_)); (first | go_values | go_skip | go_guarded | go_step | go_upon | go_back))
  refine ((rounds_ok _)).mono ?_; rintro e_ w1 ⟨rfl, hb1⟩; dsimp only
  repeat' ((fail_if_success at_builtin); (fail_if_success at_make); (fail_if_success (with_reducible refine at_store_ 82 ?_)); (fail_if_success (with_reducible refine at_load_ 82 ?_)); (fail_if_success (with_reducible refine at_copy_ ?_)); (first | go_values | go_skip | go_guarded | go_step | go_upon | go_back))
  refine ((schedule_ok _ _ b _ HBL.out hd (hr'.below hb1))).mono ?_; rintro e_ w2 ⟨rfl, hb2⟩; dsimp only
  have hb3 := hb1.trans (hb2.mono hb1.size)
  have hWl : (sched b 48).length = 64 := by rw [sched_len, HBL.out]
  generalize hW : sched b 48 = W at *
  have HW := Lib.hid hW
  have HWL := Lib.hid hWl
  clear hW hWl
  repeat' ((fail_if_success at_builtin); (fail_if_success at_make); (fail_if_success (with_reducible refine at_store_ 82 ?_)); (fail_if_success (with_reducible refine at_load_ 82 ?_)); (fail_if_success (with_reducible refine at_copy_ ?_)); (first | go_values | go_skip | go_guarded | go_step | go_upon | go_back))
  have q0 := (Arr.new w2 82 (wds (List.replicate 64 0))).alloc (.cells (wds (List.replicate 64 0)).toArray 82)
  have q1 := Arr.new (w2.alloc (.cells (wds (List.replicate 64 0)).toArray 82)) 82 (wds (List.replicate 64 0))
  have b1 := (hb3.alloc hb3.size (.cells (wds (List.replicate 64 0)).toArray 82)).alloc (by have := hb3.size; simp; omega) (.cells (wds (List.replicate 64 0)).toArray 82)
  change wpList _ _ _ _ _ ((w2.alloc (.cells (wds (List.replicate 64 0)).toArray 82)).alloc (.cells (wds (List.replicate 64 0)).toArray 82))
  rw [World.size_alloc] at q1
  have hsz := hb3.size
  generalize ((w2.alloc (.cells (wds (List.replicate 64 0)).toArray 82)).alloc (.cells (wds (List.replicate 64 0)).toArray 82)) = w3 at *
  generalize hg0 : w2.heap.size = g0 at *
  generalize hg1 : g0 + 1 = g1 at *
  have ne01 : g0 ≠ g1 := by omega
  refine wpList_store_mid rfl 82 (.tmp 6) (.tmp 25) rfl g0 0 (wds rks).toArray (by rfl) (by rfl) (q0.thereN (by rfl)) (by kernel_rfl) (all_one rks) ?_
  have p0 := q0.sets (ys := wds rks) (by rfl)
  have p1 := q1.otherSets (g' := g0) (by omega) (wds rks) 0
  have b2 := Below.sets (show w.heap.size ≤ g0 by omega) (wds rks) 0 _ b1
  have hs1 := b1.size
  change wpList _ _ _ _ _ (w3.setCells g0 0 (wds rks))
  clear q0 q1 b1
  generalize w3.setCells g0 0 (wds rks) = w4 at *
  refine wpList_store_mid rfl 82 (.tmp 7) (.tmp 27) rfl g1 0 (wds W).toArray (by rfl) (by rfl) (p1.thereN (by simp [wds_len, HWL.out])) (by rw [info64]; simp [wds_len, HWL.out]) (all_one W) ?_
  have q1 := p1.sets (ys := wds W) (by simp [wds_len, HWL.out])
  have q0 := p0.otherSets (g' := g1) (by omega) (wds W) 0
  have b3 := Below.sets (show w.heap.size ≤ g1 by omega) (wds W) 0 _ b2
  change wpList _ _ _ _ _ (w4.setCells g1 0 (wds W))
  clear p0 p1 b2
  generalize w4.setCells g1 0 (wds W) = w5 at *
  repeat' ((fail_if_success at_builtin); (fail_if_success at_make); (fail_if_success (with_reducible refine at_store_ 82 ?_)); (fail_if_success (with_reducible refine at_load_ 82 ?_)); (fail_if_success (with_reducible refine at_copy_ ?_)); (first | go_values | go_skip | go_guarded | go_step | go_upon | go_back))
  refine wpList_ap rfl (.const (.slice none 0 0)) (.tmp 28) rfl elU32 (by rfl) (World.ownsRow_nil w5 w5.heap.size _ _) (by rfl) (hr.below b3) (wds_one _) (by omega) (Nat.le_refl _) ?_
  intro v6 w6 ho6 hg6 _
  have hb6 := below_own (Below.refl _ _) (World.ownsRow_nil w5 w5.heap.size 61 1) (Nat.le_refl _) hg6
  rw [List.nil_append, Nat.zero_add] at ho6
  obtain ⟨gv, cap, rest, rfl, hgv, hcap, hcm, qv⟩ := own_arr ho6 (by omega)
  have r0 := q0.below hb6
  have r1 := q1.below hb6
  have b6 := b3.trans (hb6.mono b3.size)
  have hlt0 := q0.lt
  have hlt1 := q1.lt
  have nev0 : g0 ≠ gv := by omega
  have nev1 : g1 ≠ gv := by omega
  have hvb : w.heap.size ≤ gv := by have := b3.size; omega
  have hcap1 : ¬ cap = 1 := by omega
  have hcmi : (cap : Int) ≤ 9223372036854775807 := by unfold maxLen at hcm; omega
  have hcapi : (8 : Int) ≤ (cap : Int) := by omega
  have hcap7i : (7 : Int) ≤ (cap : Int) := by omega
  have hcap7 : 7 ≤ cap := by omega
  have rv : Arr w6 gv 61 (wds (rnds W h 0) ++ rest) := qv
  clear q0 q1 b3 hb6 hg6 ho6 qv hcm
  repeat' ((fail_if_success at_builtin); (fail_if_success at_make); (fail_if_success (with_reducible refine at_store_ 82 ?_)); (fail_if_success (with_reducible refine at_load_ 82 ?_)); (fail_if_success (with_reducible refine at_copy_ ?_)); (first | go_values | go_skip | go_guarded | go_step | go_upon | go_back))
  go_loopg [30] 64 (fun gn i wr => ∃ t : Nat, gn = 64 - t ∧ i = .int .i64 t ∧ t ≤ 64 ∧ Arr wr g0 82 (wds rks) ∧ Arr wr g1 82 (wds W) ∧ Arr wr gv 61 (wds (rnds W h t) ++ rest) ∧ Below w.heap.size w wr)
  case atStart => exact ⟨0, rfl, rfl, by omega, r0, r1, rv, b6⟩
  case round =>
    clear r0 r1 rv b6
    obtain ⟨t, hgt, rfl, ht, r0, r1, rv, hbel⟩ := hrel
    have HGT := Lib.hid hgt
    clear hgt
    by_cases hlt : t < 64
    · obtain ⟨v0, v1, v2, v3, v4, v5, v6, v7, kt, wt, hv, hkt, hwt, hnx⟩ := rnds_eight W h HHL.out t hlt HWL.out
      rw [hv] at rv
      have HNX := Lib.hid hnx
      have hck := r0.cell hkt
      have hcw := r1.cell hwt
      clear hv hkt hwt hnx
      have f0 := rv.cell (k := 0) rfl
      have f4 := rv.cell (k := 4) rfl
      have i1 : (t : Int) < 64 := by omega
      have i2 : (0 : Int) ≤ (t : Int) := by omega
      have i5 : decide ((t : Int) < 64) = true := by simpa using i1
      repeat' ((fail_if_success at_builtin); (fail_if_success at_make); (fail_if_success (with_reducible refine at_store_ 82 ?_)); (fail_if_success (with_reducible refine at_load_ 82 ?_)); (fail_if_success (with_reducible refine at_copy_ ?_)); (first | go_values | go_skip | go_guarded | go_step | go_upon | go_back))
      refine ((Mix_ok v4 1 1 rfl _ (by omega))).mono ?_; rintro e_ w_ ⟨rfl, nk1, rfl⟩; dsimp only
      repeat' ((fail_if_success at_builtin); (fail_if_success at_make); (fail_if_success (with_reducible refine at_store_ 82 ?_)); (fail_if_success (with_reducible refine at_load_ 82 ?_)); (fail_if_success (with_reducible refine at_copy_ ?_)); (first | go_values | go_skip | go_guarded | go_step | go_upon | go_back))
      refine ((Mix_ok v0 0 0 rfl _ (by omega))).mono ?_; rintro e_ w_ ⟨rfl, nk2, rfl⟩; dsimp only
      repeat' ((fail_if_success at_builtin); (fail_if_success at_make); (fail_if_success (with_reducible refine at_store_ 82 ?_)); (fail_if_success (with_reducible refine at_load_ 82 ?_)); (fail_if_success (with_reducible refine at_copy_ ?_)); (first | go_values | go_skip | go_guarded | go_step | go_upon | go_back))
      have p0 := r0.drewN (nk1 + nk2)
      have p1 := r1.drewN (nk1 + nk2)
      have pv := rv.drewN (nk1 + nk2)
      have pb := bdrewN hbel (nk1 + nk2)
      have dk : (wr.drewN (nk1 + nk2)).cell? ⟨g0, t, none⟩ = _ := hck
      have dw : (wr.drewN (nk1 + nk2)).cell? ⟨g1, t, none⟩ = _ := hcw
      clear r0 r1 rv hbel hck hcw f0 f4
      generalize wr.drewN (nk1 + nk2) = wz at *
      have f4 := pv.cell (k := 4) rfl
      have f5 := pv.cell (k := 5) rfl
      have f6 := pv.cell (k := 6) rfl
      have f7 := pv.cell (k := 7) rfl
      go_quiet ((go_at_call 117; exact Calls.quiet_of_same (Choose_q _ _ _ _)))
      rw [add5]
      have r0 := p0.drewN nq
      have r1 := p1.drewN nq
      have rv := pv.drewN nq
      have rb := bdrewN pb nq
      clear p0 p1 pv pb dk dw f4 f5 f6 f7
      generalize wz.drewN nq = wx at *
      have f0 := rv.cell (k := 0) rfl
      have f1 := rv.cell (k := 1) rfl
      have f2 := rv.cell (k := 2) rfl
      generalize hone : v7 + mix32 v4 1 + ch32 v4 v5 v6 + kt + wt = one at *
      have HONE := Lib.hid hone
      clear hone
      repeat' ((fail_if_success at_builtin); (fail_if_success at_make); (fail_if_success (with_reducible refine at_store_ 82 ?_)); (fail_if_success (with_reducible refine at_load_ 82 ?_)); (fail_if_success (with_reducible refine at_copy_ ?_)); (first | go_values | go_skip | go_guarded | go_step | go_upon | go_back))
      go_quiet ((go_at_call 118; exact Calls.quiet_of_same (Most_q _ _ _ _)))
      first | rw [add2] | rw [add32]
      generalize htwo : mix32 v0 0 + maj32 v0 v1 v2 = two at *
      have HTWO := Lib.hid htwo
      clear htwo
      have s0 := r0.drewN nq
      have s1 := r1.drewN nq
      have sv := rv.drewN nq
      have sb := bdrewN rb nq
      clear r0 r1 rv rb f0 f1 f2
      generalize wx.drewN nq = wv at *
      repeat' ((fail_if_success at_builtin); (fail_if_success at_make); (fail_if_success (with_reducible refine at_store_ 82 ?_)); (fail_if_success (with_reducible refine at_load_ 82 ?_)); (fail_if_success (with_reducible refine at_copy_ ?_)); (first | go_values | go_skip | go_guarded | go_step | go_upon | go_back))
      go_still_tail 4, (by kernel_rfl)
      change wpList _ _ _ _ _ wv.drew
      refine wpList_copy_own rfl (.tmp 84) (.tmp 86) 63 63 rfl 61 Tryz.underlying63 (by kernel_rfl) gv 1 7 (cap - 1) ⟨gv, 0, none⟩ 7 cap (by rfl) (by rfl) _ _ (sv.drew) (wds [v0, v1, v2, v3, v4, v5, v6]) (by rfl) (fun j v hj => by rw [Addr.add_mid, Nat.zero_add]; exact sv.drew.cell (by rw [show wds [v0, v1, v2, v3, v4, v5, v6, v7] ++ rest = wds [v0, v1, v2, v3, v4, v5, v6] ++ (wds [v7] ++ rest) from rfl, List.getElem?_append_left (List.getElem?_eq_some_iff.1 hj).1]; exact hj)) (by simp [wds] <;> omega) (wds_one _) ?_
      have t0 := (s0.drew).otherRow nev0 (((wds [v0, v1, v2, v3, v4, v5, v6, v7] ++ rest).toArray.toList.take 1) ++ (wds [v0, v1, v2, v3, v4, v5, v6] ++ ((wds [v0, v1, v2, v3, v4, v5, v6, v7] ++ rest).toArray.toList.drop (1 + (wds [v0, v1, v2, v3, v4, v5, v6]).length)))).toArray
      have t1 := (s1.drew).otherRow nev1 (((wds [v0, v1, v2, v3, v4, v5, v6, v7] ++ rest).toArray.toList.take 1) ++ (wds [v0, v1, v2, v3, v4, v5, v6] ++ ((wds [v0, v1, v2, v3, v4, v5, v6, v7] ++ rest).toArray.toList.drop (1 + (wds [v0, v1, v2, v3, v4, v5, v6]).length)))).toArray
      have tv : Arr (wv.drew.setRow gv (((wds [v0, v1, v2, v3, v4, v5, v6, v7] ++ rest).toArray.toList.take 1) ++ (wds [v0, v1, v2, v3, v4, v5, v6] ++ ((wds [v0, v1, v2, v3, v4, v5, v6, v7] ++ rest).toArray.toList.drop (1 + (wds [v0, v1, v2, v3, v4, v5, v6]).length)))).toArray) gv 61 (wds [v0, v0, v1, v2, v3, v4, v5, v6] ++ rest) := (sv.drew).setRow _
      have tb := below_setRow sb.drew hvb (((wds [v0, v1, v2, v3, v4, v5, v6, v7] ++ rest).toArray.toList.take 1) ++ (wds [v0, v1, v2, v3, v4, v5, v6] ++ ((wds [v0, v1, v2, v3, v4, v5, v6, v7] ++ rest).toArray.toList.drop (1 + (wds [v0, v1, v2, v3, v4, v5, v6]).length)))).toArray
      clear s0 s1 sv sb
      generalize wv.drew.setRow gv (((wds [v0, v1, v2, v3, v4, v5, v6, v7] ++ rest).toArray.toList.take 1) ++ (wds [v0, v1, v2, v3, v4, v5, v6] ++ ((wds [v0, v1, v2, v3, v4, v5, v6, v7] ++ rest).toArray.toList.drop (1 + (wds [v0, v1, v2, v3, v4, v5, v6]).length)))).toArray = wt at *
      have f4 := tv.cell (k := 4) rfl
      have f0 := tv.cell (k := 0) rfl
      have z := tv.frozen
      repeat' ((fail_if_success at_builtin); (fail_if_success at_make); (fail_if_success (with_reducible refine at_store_ 82 ?_)); (fail_if_success (with_reducible refine at_load_ 82 ?_)); (fail_if_success (with_reducible refine at_copy_ ?_)); (first | go_values | go_skip | go_guarded | go_step | go_upon | go_back))
      have u3 := (tv.set (k := 4) (by simp [wds]) (.int .u32 (wd (v3 + one)))).set (k := 0) (by simp [wds]) (.int .u32 (wd (one + two)))
      have hrn : rnds W h (t + 1) = [one + two, v0, v1, v2, v3 + one, v4, v5, v6] := by rw [HNX.out, ← HONE.out, ← HTWO.out]; rfl
      simp only [add2, add32]
      go_roundg (64 - (t + 1))
      case measure => have := HGT.out; omega
      case rel =>
        refine ⟨t + 1, rfl, by go_num, by omega, (t0.other nev0 _).other nev0 _, (t1.other nev1 _).other nev1 _, ?_, Below.setCell (Below.setCell tb hvb _) hvb _⟩
        rw [hrn]; exact u3
    · obtain rfl : t = 64 := by omega
      have hVl : (rnds W h 64).length = 8 := rnds_len W h HHL.out 64
      have hst := step_two h b HHL.out
      rw [HW.out] at hst
      generalize rnds W h 64 = V at *
      have HST := Lib.hid hst
      have HVL := Lib.hid hVl
      clear hst hVl r0 r1
      have hrl := hr.below hbel
      obtain ⟨bh, oh, rfl, hbh, _⟩ := hr.2 (by omega)
      have hbe : bh ≠ gv := by omega
      repeat' ((fail_if_success at_builtin); (fail_if_success at_make); (fail_if_success (with_reducible refine at_store_ 82 ?_)); (fail_if_success (with_reducible refine at_load_ 82 ?_)); (fail_if_success (with_reducible refine at_copy_ ?_)); (first | go_values | go_skip | go_guarded | go_step | go_upon | go_back))
      have rv' : Arr wr gv 61 (wds (part V h 0) ++ rest) := by rw [part_zero]; exact rv
      rw [show ((64 : Nat) : Int) = (64 : Int) from rfl]
      clear rv
      go_loopg [102] 8 (fun gn i wr => ∃ t : Nat, gn = 8 - t ∧ i = .int .i64 t ∧ t ≤ 8 ∧ Arr wr gv 61 (wds (part V h t) ++ rest) ∧ Rd wr 1 (some ⟨bh, oh, none⟩) 8 (wds h) ∧ Below w.heap.size w wr)
      case atStart => exact ⟨0, rfl, rfl, by omega, rv', hrl, hbel⟩
      case round =>
        clear rv' hrl hbel
        obtain ⟨t, hgt, rfl, ht, rv, hrl, hbel⟩ := hrel
        have HGT := Lib.hid hgt
        clear hgt
        by_cases hlt4 : t < 8
        · obtain ⟨x, y, hx, hy, hnx⟩ := part_next V h t (by rw [HVL.out]; exact hlt4) (by rw [HVL.out, HHL.out])
          have hpl : (wds (part V h t)).length = 8 := by rw [wds_len, part_len V h t (by rw [HVL.out, HHL.out]), HVL.out]
          have cx := rv.cell (k := t) (v := .int .u32 (wd x)) (by rw [List.getElem?_append_left (by omega)]; exact hx)
          obtain ⟨_, _, e', _, hcb'⟩ := hrl.2 (by omega)
          cases e'
          have cy := hcb' t _ hy
          have fx := rv.frozen t
          have hs := rv.set (k := t) (by rw [List.length_append, hpl]; omega) (.int .u32 (wd (x + y)))
          rw [List.set_append_left _ _ (by omega), wds_set, hnx] at hs
          have HS := Lib.hid hs
          clear hnx hx hy hs hcb' hpl
          have i1 : (t : Int) < 8 := by omega
          have i2 : (0 : Int) ≤ (t : Int) := by omega
          have i5 : decide ((t : Int) < 8) = true := by simpa using i1
          repeat' ((fail_if_success at_builtin); (fail_if_success at_make); (fail_if_success (with_reducible refine at_store_ 82 ?_)); (fail_if_success (with_reducible refine at_load_ 82 ?_)); (fail_if_success (with_reducible refine at_copy_ ?_)); (first | go_values | go_skip | go_guarded | go_step | go_upon | go_back))
          go_still_tail 10, (by kernel_rfl)
          change wpList _ _ _ _ _ wr.drew
          simp only [add2, add32]
          have dx : wr.drew.cell? ⟨gv, t, none⟩ = some (.int .u32 (wd x)) := cx
          have gx : wr.drew.frozen? ⟨gv, t, none⟩ = false := fx
          repeat' ((fail_if_success at_builtin); (fail_if_success at_make); (fail_if_success (with_reducible refine at_store_ 82 ?_)); (fail_if_success (with_reducible refine at_load_ 82 ?_)); (fail_if_success (with_reducible refine at_copy_ ?_)); (first | go_values | go_skip | go_guarded | go_step | go_upon | go_back))
          go_roundg (8 - (t + 1))
          case measure => have := HGT.out; omega
          case rel => exact ⟨t + 1, rfl, by go_num, by omega, HS.out, hrl.drewR.other hbe _, Below.setCell hbel.drew hvb _⟩
        · obtain rfl : t = 8 := by omega
          have hpe : part V h 8 = stepS h b := by rw [part_all V h 8 (by rw [HVL.out]; omega) (by rw [HVL.out, HHL.out]), HST.out]
          have hpl : (wds (part V h 8)).length = 8 := by rw [wds_len, part_len V h 8 (by rw [HVL.out, HHL.out]), HVL.out]
          have hq := rv.rd 8 hpl
          rw [hpe] at hq
          clear hpe hpl
          repeat' ((fail_if_success at_builtin); (fail_if_success at_make); (fail_if_success (with_reducible refine at_store_ 82 ?_)); (fail_if_success (with_reducible refine at_load_ 82 ?_)); (fail_if_success (with_reducible refine at_copy_ ?_)); (first | go_values | go_skip | go_guarded | go_step | go_upon | go_back))
          go_ret2
          exact ⟨gv, cap, rfl, hcap, hq, hbel⟩
end Go.Proofs.YtpcpffkbbhmahaaGreat
