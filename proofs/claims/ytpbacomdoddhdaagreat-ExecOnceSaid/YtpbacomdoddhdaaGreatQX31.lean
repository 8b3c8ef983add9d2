/- Lemmas of the proof. Conditions: as stated. -/
import Derived.Test.YtpbacomdoddhdaaGreatQX29
set_option linter.unusedVariables false
set_option linter.unusedSimpArgs false
set_option maxRecDepth 100000
namespace Go.Proofs.YtpbacomdoddhdaaGreat
open Go.RowKit
theorem VW {w : World} {base n g cap k size : Nat} {e : TypeId} {xs : List Value} {u : Value} (h : w.ownsRow base e size (.slice (some ⟨g, 0, none⟩) n cap) n xs) (hk : k < n * size) : (w.setCell ⟨g, k, none⟩ u).ownsRow base e size (.slice (some ⟨g, 0, none⟩) n cap) n (xs.set k u) := by
 refine ⟨by rw [List.length_set]; exact h.1, ?_⟩
 rcases h.2 with ⟨h1, _⟩ | ⟨g', cap', cur, h1, hb, hg, hn, hm, hs, ht⟩
 ·cases h1
 ·injection h1 with e1 e2 e3
  injection e1 with e1
  injection e1 with e1
  subst e1 e3
  have hA : Arr w g e cur.toList := by simpa [Arr] using hg
  have hA2 := hA.set (k := k) (by rw [Array.length_toList, hs]; exact Nat.lt_of_lt_of_le hk (Nat.mul_le_mul_right _ hn)) u
  refine .inr ⟨g, cap, (cur.toList.set k u).toArray, rfl, hb, hA2, hn, hm, by rw [List.size_toArray, List.length_set, Array.length_toList, hs], ?_⟩
  rw [← ht, List.take_set]
theorem vR : ∀ (fs : List FlP) (As : List (Option Addr × Nat)) (i : Nat) (p p' : FlP) (a : Option Addr × Nat), As.length = fs.length → fs[i]? = some p → p'.key = p.key → p'.lead = p.lead →
  (qu fs As).set (i * 3 + 2) (.slice a.1 p'.wait.length a.2) = qu (fs.set i p') (As.set i a)
 | f :: fs, b :: As, 0, p, p', a, _, hp, hk, hl => by
  simp only [List.getElem?_cons_zero, Option.some.injEq] at hp
  subst hp
  simp only [qu, List.zip_cons_cons, List.flatMap_cons, List.set_cons_zero, qe, hk, hl]
  rfl
 | f :: fs, b :: As, i + 1, p, p', a, h, hp, hk, hl => by
  have ih := vR fs As i p p' a (by simpa using h) (by simpa using hp) hk hl
  simp only [qu] at ih ⊢
  rw [List.set_cons_succ, List.set_cons_succ, List.zip_cons_cons, List.zip_cons_cons, List.flatMap_cons, List.flatMap_cons, ← ih, List.set_append_right _ _ (by simp [qe]; omega)]
  congr 2
  simp [qe]; omega
set_option maxHeartbeats 8000000 in
theorem Kq (A : Option Addr) (c : Nat) (fs : List FlP) (k : ByteArray) (n : Int) (i : Nat) (w : World) (hG : GoodF fs) (hf : Fls w A fs) (hc : fs.length ≤ c) (hm : c ≤ maxLen) (hk : hexC k.data.toList = 0) (hks : k.size ≤ 140737488351232) (hn1 : 1 ≤ n) (hn2 : n ≤ 1000) (hfn : fnd 0 fs k.data.toList = some i) (hi : i < fs.length) (hin : (fs[i].lead :: fs[i].wait).contains n = false) (h5 : fs[i].wait.length < 5) :
  Calls Tryz.prog 92 #[.slice A fs.length c, .string k, .int .i64 n] w fun e w' => ∃ v, e = .returned (.tuple #[v, .bool false, .int .i64 0]) ∧ FlsO w' w.heap.size v (fs.set i ⟨fs[i].key, fs[i].lead, fs[i].wait ++ [n]⟩) ∧ Below w.heap.size w w' := by
 have h66 : fs.length ≤ 6 := hG.len
 have hfew := hG.few i hi
 have H5 := Lib.hid h5
 clear h5
 have HIN := Lib.hid hin
 have FF := Lib.hid hf
 clear hin
 have HCK := Lib.hid (fun w' hf' => qC A c fs w' hG hf' hc hm)
 have HHX := Lib.hid (fun w' => qU (s := k) 0 rfl hk w' hks)
 have HWH := Lib.hid (fun w' => vU n w')
 have hwd : decide (1 ≤ n ∧ n ≤ 1000) = true := by simp [hn1, hn2]
 have HWD := Lib.hid hwd
 have HCP := Lib.hid (fun w' hf' => qG A c fs w' (by omega) (fun p hp => by
  obtain ⟨j, hj, rfl⟩ := List.mem_iff_getElem.1 hp
  have := hG.few j hj; omega) hf' hc)
 have HFI := Lib.hid (fun w' hf' => qP A c fs k w' (by omega) hf')
 have HF := Lib.hid hfn
 clear hG hk hwd hfn
 go_enter Tryz.func92, Tryz.ntmps92
 go_wp2_with fail
 refine ((HCK.out w hf)).mono ?_; rintro e_ w1 ⟨rfl, hb1⟩; dsimp only
 have hf1 := hf.below hb1
 go_wp2_with fail
 refine ((HHX.out w1)).mono ?_; rintro e_ w2 ⟨rfl, hb2⟩; dsimp only
 have hb12 := hb1.trans (hb2.mono hb1.size)
 have hf2 := hf1.below hb2
 go_wp2_with fail
 refine ((HWH.out w2)).mono ?_; rintro e_ _ ⟨rfl, rfl⟩; dsimp only
 rw [HWD.out]
 go_wp2_with fail
 refine ((HCP.out w2 hf2)).mono ?_; rintro e_ w3 ⟨v3, rfl, ho3, hb3⟩; dsimp only
 have hb13 := hb12.trans (hb3.mono hb12.size)
 have hf3 := hf2.below hb3
 have hfi := HFI.out w3 hf3
 rw [HF.out] at hfi
 dsimp only at hfi
 have HFF := Lib.hid hfi
 clear hfi hf hf1 hf2
 go_wp2_with fail
 refine ((HFF.out)).mono ?_; rintro e_ w4 ⟨rfl, hb4⟩; dsimp only
 have hb14 := hb13.trans (hb4.mono hb13.size)
 obtain ⟨b, off, B, cb, rfl, hbb, c0, c1, c2, hrw, hwc, hcbm⟩ := (FF.out.below hb14).at_ i hi
 have i1 : (0 : Int) ≤ (i : Int) := by omega
 have i2 : (i : Int) < (fs.length : Int) := by omega
 obtain ⟨s, hs⟩ : ∃ s : ByteArray, s = ⟨fs[i].key.toArray⟩ := ⟨_, rfl⟩
 rw [← hs] at c0
 have ho4 := ho3.below hb4
 obtain ⟨p, hp⟩ : ∃ p, p = fs[i] := ⟨_, rfl⟩
 rw [← hp] at c1 c2 hrw hwc hfew HIN H5
 have HP := Lib.hid (show fs[i]? = some p from by rw [List.getElem?_eq_getElem hi, hp])
 have hgoal : fs.set i ⟨fs[i].key, fs[i].lead, fs[i].wait ++ [n]⟩ = fs.set i ⟨p.key, p.lead, p.wait ++ [n]⟩ := by rw [hp]
 have HGO := Lib.hid hgoal
 obtain ⟨ld, hld⟩ : ∃ x, x = p.lead := ⟨_, rfl⟩
 rw [← hld] at c1
 have HI2 := HIN.out
 rw [← hld] at HI2
 have HI3 := Lib.hid HI2
 have HLD := Lib.hid hld
 have H55 := H5.out
 have e5 : ((p.wait.length : Int) == 5) = false := by rw [beq_eq_false_iff_ne]; omega
 have e5' : (p.wait.length == 5) = false := by rw [beq_eq_false_iff_ne]; omega
 clear HI2 HIN hs hp hgoal hld H55
 go_wp2_with fail
 refine ((xV s ld B cb p.wait w4 (by omega) hrw)).mono ?_; rintro e_ w5 ⟨v5, rfl, ho5, hb5⟩; dsimp only
 have hb15 := hb14.trans (hb5.mono hb14.size)
 obtain ⟨A5, c5, rfl, hc5, hr5⟩ := Rd.of_own' ho5
 have hcon := kg A5 c5 (ld :: p.wait) n w5 (by simp only [List.length_cons]; omega) hr5
 rw [HI3.out] at hcon
 simp only [List.length_cons] at hcon
 have HCO := Lib.hid hcon
 have d2 := (hb5.cell (p := ⟨b, off + i * 3 + 2, none⟩) hbb).trans c2
 have ho55 := ho4.below hb5
 obtain ⟨As, j1, j2, j3, j4⟩ := ho55
 obtain ⟨g3, cap3, cs3, rfl, _, hA3, hcap3, hcm3, hcl3, hct3⟩ := yQ j2 (by omega)
 have hia : i < As.length := by omega
 have ha : As[i]? = some As[i] := List.getElem?_eq_getElem hia
 obtain ⟨k1, k2⟩ := j3 i p As[i] HP.out ha
 have hcell := (Rd.of_own j2).2 (by omega)
 obtain ⟨_, _, e3, _, hcell⟩ := hcell
 cases e3
 have x2 := hcell (i * 3 + 2) _ ((xy fs As i 2 p As[i] HP.out ha (by omega)).trans rfl)
 rw [Nat.zero_add] at x2
 obtain ⟨a, haE⟩ : ∃ a, a = As[i] := ⟨_, rfl⟩
 rw [← haE] at k1 k2 x2 ha
 obtain ⟨Ai, ci⟩ := a
 dsimp only at k1 k2 x2
 have hcap63 : (cap3 : Int) ≤ 9223372036854775807 := by unfold maxLen at hcm3; omega
 clear hcon ho5 hr5 c0 c1 c2 ho4 ho3 haE hcell
 go_wp2_with fail
 refine ((HCO.out)).mono ?_; rintro e_ _ ⟨rfl, rfl⟩; dsimp only
 repeat' (fail_if_success (first|at_builtin|at_make));first|go_values|go_skip|go_guarded|go_step|go_upon|go_back
 refine zn rfl (.tmp 75) (.tmp 77) rfl XG (by rfl) k1 (us := [.int .i64 n]) (m := 1) (by rfl) rfl (by intro u hu; simp at hu; subst hu; rfl) (by omega) (Nat.le_trans hb3.size (Nat.le_trans hb4.size hb5.size)) ?_
 intro v7 w7 ho7 hg7 hv7
 rw [zV (Ai, ci)] at hg7 hv7
 rw [show ins p.wait ++ [.int .i64 n] = ins (p.wait ++ [n]) by simp [ins]] at ho7
 have hw7 : (p.wait ++ [n]).length = p.wait.length + 1 := by simp
 rw [← hw7] at ho7
 generalize hwn : p.wait ++ [n] = wn at *
 have hwl : wn.length ≤ 1000 := by have := H5.out; omega
 clear hwn hw7
 have hsz27 : w2.heap.size ≤ w7.heap.size := Nat.le_trans hb3.size (Nat.le_trans hb4.size (Nat.le_trans hb5.size hg7.size))
 have hb17 : Below w.heap.size w w7 := hb15.grown hg7 hb15.size (fun g h => Nat.le_trans hb12.size (k1.lt g (by rw [zV (Ai, ci)]; exact h.symm ▸ rfl)).1)
 obtain ⟨A7, c7, rfl, hc7, hr7⟩ := Rd.of_own' ho7
 have HC7 := Lib.hid (ja A7 c7 (wn) w7 (by omega) hr7)
 have m2 := j2.kept hg7 (.inr (fun h => k2 g3 h.symm rfl))
 have m3 : ∀ (k : Nat) (q : FlP) (b : Option Addr × Nat), k ≠ i → fs[k]? = some q → As[k]? = some b → w7.ownsRow w2.heap.size 3 1 (.slice b.1 q.wait.length b.2) q.wait.length (ins q.wait) := fun k q b hki hq hb => by
  refine (j3 k q b hq hb).1.kept hg7 ?_
  rw [zV]
  cases hbk : blk b with
  | none => exact .inl rfl
  | some g =>
   refine .inr (fun h => ?_)
   rcases Nat.lt_or_gt_of_ne hki with h1 | h1
   ·exact j4 k i b (Ai, ci) h1 hb ha g hbk h.symm
   ·exact j4 i k (Ai, ci) b h1 ha hb g h.symm hbk
 have OLD := Lib.hid (show ∀ (k : Nat) (b : Option Addr × Nat), As[k]? = some b → ∀ g, blk b = some g → g < w7.heap.size from fun k b hb g hg => by
  have hkl := (List.getElem?_eq_some_iff.1 hb).1
  have hq : fs[k]? = some (fs[k]'(by omega)) := List.getElem?_eq_getElem _
  exact Nat.lt_of_lt_of_le ((j3 k _ b hq hb).1.lt g (by rw [zV]; exact hg)).2 hg7.size)
 have J3 := Lib.hid j3
 have J4 := Lib.hid j4
 have J1 := Lib.hid j1
 clear ho7 hg7 hv7 k1 k2 x2 j2 hr7 j3 j4 d2 hA3 hct3 hcl3
 go_wp2_with fail
 refine ((HC7.out)).mono ?_; rintro e_ w8 ⟨v8, rfl, ho8, hb8⟩; dsimp only
 have hb18 := hb17.trans (hb8.mono hb17.size)
 have m28 := zb m2 hb8
 have hlt3 := (m2.lt g3 rfl)
 obtain ⟨_, _, cs9, e9, _, hA9, _, _, hcl9, hct9⟩ := yQ m28 (by omega)
 injection e9 with e91 _ e93
 injection e91 with e91
 injection e91 with e91
 subst e91 e93
 obtain ⟨y, hy⟩ : ∃ y, cs9[i * 3 + 2]? = some y := ⟨_, List.getElem?_eq_getElem (by omega)⟩
 have y2 := hA9.cell hy
 have z2 := hA9.frozen (i * 3 + 2)
 obtain ⟨A8, c8, rfl, hc8, _⟩ := Rd.of_own' ho8
 have n9 := VW (u := .slice A8 wn.length c8) m28 (k := i * 3 + 2) (by omega)
 have hcf := vR fs As i p ⟨p.key, p.lead, wn⟩ (A8, c8) J1.out HP.out rfl rfl
 dsimp only at hcf
 rw [hcf] at n9
 have hbz : Below w.heap.size w (w8.setCell ⟨g3, i * 3 + 2, none⟩ (.slice A8 wn.length c8)) := Below.setCell hb18 (by show w.heap.size ≤ g3; exact Nat.le_trans hb12.size hlt3.1) _
 have hne8 : (Value.slice A8 wn.length c8).ownBlock ≠ some g3 := fun h => by have := (ho8.lt g3 h).1; omega
 have hfin : FlsO (w8.setCell ⟨g3, i * 3 + 2, none⟩ (.slice A8 wn.length c8)) w2.heap.size (.slice (some ⟨g3, 0, none⟩) fs.length cap3) (fs.set i ⟨p.key, p.lead, wn⟩) := by
  refine ⟨As.set i (A8, c8), by rw [List.length_set, List.length_set, J1.out], by rw [List.length_set]; exact n9, fun k q b hq hb => ?_, fun k j a' b hkj ha' hb g hag => ?_⟩
  ·by_cases hki : k = i
   ·subst hki
    rw [List.getElem?_set_self hi] at hq
    rw [List.getElem?_set_self hia] at hb
    cases hq; cases hb
    exact ⟨zd (zc ho8 hne8) hsz27, fun g h h' => hne8 (by rw [zV (A8, c8), h]; exact (show some g3 = some g from h').symm)⟩
   ·rw [List.getElem?_set_ne (Ne.symm hki)] at hq hb
    have h1 := zb (m3 k q b hki hq hb) hb8
    have h2 := (J3.out k q b hq hb).2
    refine ⟨zc h1 (fun h => h2 g3 (by rw [← zV b q.wait.length]; exact h) rfl), h2⟩
  ·by_cases hki : k = i
   ·subst hki
    rw [List.getElem?_set_self hia] at ha'
    cases ha'
    rw [List.getElem?_set_ne (by omega)] at hb
    intro hbg
    have := (ho8.lt g (by rw [zV (A8, c8)]; exact hag)).1
    have := OLD.out j b hb g hbg
    omega
   ·rw [List.getElem?_set_ne (Ne.symm hki)] at ha'
    by_cases hji : j = i
    ·subst hji
     rw [List.getElem?_set_self hia] at hb
     cases hb
     intro hbg
     have := (ho8.lt g (by rw [zV (A8, c8)]; exact hbg)).1
     have := OLD.out k a' ha' g hag
     omega
    ·rw [List.getElem?_set_ne (Ne.symm hji)] at hb
     exact J4.out k j a' b hkj ha' hb g hag
 have hfin' := hfin.lower hb12.size
 have HFN := Lib.hid hfin'
 clear hfin hfin' n9 hcf m2 m3 m28 ho8
 go_wp2_with fail
 go_ret3
 rw [HGO.out]
 exact ⟨_, rfl, HFN.out, hbz⟩
theorem Uy (w : World) : (zeroValue 142).run Tryz.prog w = .ok (.agg #[.string ByteArray.empty, .int .i64 0, .slice none 0 0]) w := by kernel_rfl
set_option maxHeartbeats 4000000 in
theorem U3 (g i n cap base : Nat) (xs : List Value) (w : World) (h : w.ownsRow base 142 3 (.slice (some ⟨g, 0, none⟩) n cap) n xs) (hi : i < n) (hx : ∀ u ∈ xs, u.oneCell' = true) :
  Calls Tryz.prog 149 #[.slice (some ⟨g, 0, none⟩) n cap, .int .i64 i, .int .i64 ((i : Int) + 1)] w fun e w' => e = .returned (.slice (some ⟨g, 0, none⟩) (n - 1) cap) ∧
   w'.ownsRow base 142 3 (.slice (some ⟨g, 0, none⟩) (n - 1) cap) (n - 1) (xs.take (i * 3) ++ xs.drop ((i + 1) * 3)) ∧ w.grownBy w' (some g) := by
 obtain ⟨g', cap', cs, e1, hbg, hA, hnc, hcm, hcl, hct⟩ := yQ h (by omega)
 injection e1 with e11 _ e13
 injection e11 with e11
 injection e11 with e11
 subst e11 e13
 obtain ⟨i0, hi0, hz0, hz1, hz2⟩ := info_parts (show (Tryz.prog.info? 142).map (fun i => (i.zero, i.size, i.bytes)) = some (some (.agg #[.string ByteArray.empty, .int .i64 0, .slice none 0 0]), 3, 48) by kernel_rfl)
 obtain ⟨zs, hzs⟩ : ∃ zs, zs = (Builtin.zeroCells (Value.agg #[.string ByteArray.empty, .int .i64 0, .slice none 0 0]).cells 1).toList := ⟨_, rfl⟩
 have hzs' : zs = [.string ByteArray.empty, .int .i64 0, .slice none 0 0] := by rw [hzs]; kernel_rfl
 have hzl : zs.length = 3 := by rw [hzs']; rfl
 have hz1' : ∀ u ∈ zs, u.oneCell' = true := by rw [hzs']; intro u hu; simp at hu; rcases hu with rfl | rfl | rfl <;> rfl
 obtain ⟨a1, a2⟩ := U5 (i := i) (n := n) (zs := zs) hA.drew hcl hnc hi hzl
 rw [hct] at a1 a2
 have hlen : (xs.drop ((i + 1) * 3)).length = (n - (i + 1)) * 3 := by rw [List.length_drop, h.1, Nat.sub_mul]
 obtain ⟨news, hnews⟩ : ∃ news, news = xs.drop ((i + 1) * 3) := ⟨_, rfl⟩
 rw [← hnews] at a1 a2 hlen
 obtain ⟨W1, hW1⟩ : ∃ W1, W1 = w.drew.setCells g (i * 3) news := ⟨_, rfl⟩
 rw [← hW1] at a1 a2
 have hr := Rd.of_own h
 have HC := Lib.hid (show ∀ k u, xs[k]? = some u → w.drew.cell? ⟨g, k, none⟩ = some u from fun k u hu => by
  refine Arr.cell hA.drew ?_
  rw [← hct, List.getElem?_take] at hu
  split at hu
  ·exact hu
  ·cases hu)
 obtain ⟨A, hAd, hsrc⟩ : ∃ A : Addr, (if cap = i + 1 then some (⟨g, 0, none⟩ : Addr) else some ⟨g, (i + 1) * 3, none⟩) = some A ∧ Hid (∀ t u, news[t]? = some u → w.drew.cell? (A.add t) = some u) := by
  by_cases hce : cap = i + 1
  ·refine ⟨⟨g, 0, none⟩, by simp [hce], Lib.hid fun t u hu => ?_⟩
   have h0 : news.length = 0 := by rw [hlen, show n - (i + 1) = 0 by omega]
   rw [List.length_eq_zero_iff.1 h0] at hu
   cases hu
  ·refine ⟨⟨g, (i + 1) * 3, none⟩, by simp [hce], Lib.hid fun t u hu => ?_⟩
   rw [hnews, List.getElem?_drop] at hu
   have := HC.out _ _ hu
   rw [Addr.add_lit]
   exact this
 have s1 := Lib.hid hlen
 have s2 := Lib.hid (show ∀ u ∈ news, u.oneCell' = true from fun u hu => hx u (by rw [hnews] at hu; exact List.mem_of_mem_drop hu))
 have s3 := Lib.hid (show ∀ t, t < news.length → (w.drew.cell? ⟨g, 0 + i * 3 + t, none⟩).isSome = true ∧ w.drew.frozen? ⟨g, 0 + i * 3 + t, none⟩ = false from fun t ht => by
  rw [hlen] at ht
  have hlt : i * 3 + t < xs.length := by rw [h.1]; omega
  rw [Nat.zero_add, HC.out _ _ (List.getElem?_eq_getElem hlt)]
  exact ⟨rfl, hA.drew.frozen _⟩)
 have hclr : ∀ ty, (Builtin.clear_ #[56] ty #[.slice (some ⟨g, (n - 1) * 3, none⟩) (n - (n - 1)) (cap - (n - 1))]).run Tryz.prog W1 = .ok (.tuple #[]) (W1.setCells g ((n - 1) * 3) zs) := fun ty => by
  rw [show n - (n - 1) = 1 by omega]
  exact un W1 _ _ ty _ zs Tryz.underlying56 Uy hzs.symm hz1' g _ _ (fun j hj => by
   have hk : (n - 1) * 3 + j < (cs.take (i * 3) ++ news ++ cs.drop ((n - 1) * 3)).length := by
    simp only [List.length_append, List.length_take, List.length_drop, hcl, hlen]; omega
   rw [a1.cell (List.getElem?_eq_getElem hk)]; rfl) (fun j hj => a1.frozen _)
 have hcapi : i ≤ cap := by omega
 have hci1 : i + 1 ≤ cap := by omega
 have hwi : ((i : Int) + 1).toNat = i + 1 := by omega
 have hp0 : (0 : Int) ≤ (i : Int) + 1 := by omega
 have hp1 : (i : Int) + 1 ≤ (n : Int) := by omega
 have hne : ((i : Int) == (i : Int) + 1) = false := by rw [beq_eq_false_iff_ne]; omega
 have A2 := Lib.hid a2
 have HW1 := Lib.hid hW1
 have HG := Lib.hid (show w.grownBy (W1.setCells g ((n - 1) * 3) zs) (some g) from (show w.grownBy w.drew (some g) from ⟨rfl, rfl, rfl, Nat.le_refl _, fun _ _ _ => rfl⟩).trans (by rw [hW1]; exact (kb _ _ _).trans (kb _ _ _)))
 have HL := Lib.hid hlen
 have HCL := Lib.hid hcl
 have HN := Lib.hid hnews
 have HT := Lib.hid hct
 have HX := Lib.hid h.1
 clear hW1 a1 a2 hct hnews hlen hzs hzs' hz1' hr hA HC hx hcl
 go_enter Tryz.func149, Tryz.ntmps149
 go_wp2_with fail
 go_region_law (refine step_append_room rfl (.tmp 22) (.tmp 25) 56 rfl 142 i0 3 Tryz.underlying56 hi0 hz1 g 0 i cap (by simp [Act.eval, Act.put]) A (n - (i + 1)) (cap - (i + 1)) news (by simp [Act.eval, Act.put]) s1.out hsrc.out s2.out (by omega) s3.out ?_; rw [Nat.zero_add, ← HW1.out])
 rw [show i + (n - (i + 1)) = n - 1 by omega]
 go_wp2_with fail
 go_ret
 refine ⟨rfl, ⟨?_, .inr ⟨g, cap, _, rfl, hbg, A2.out, by omega, hcm, ?_, ?_⟩⟩, HG.out⟩
 ·rw [← HN.out, List.length_append, List.length_take, HL.out, HX.out]; omega
 ·simp only [List.size_toArray, List.length_append, List.length_take, List.length_drop, HL.out, hzl, HCL.out]; omega
 ·have e1 : xs.take (i * 3) = cs.take (i * 3) := by rw [← HT.out, List.take_take, Nat.min_eq_left (by omega)]
  rw [e1, ← HN.out, List.append_assoc, List.take_left' (by rw [List.length_append, List.length_take, HL.out, HCL.out]; omega)]
theorem yO : ∀ (fs : List FlP) (As : List (Option Addr × Nat)) (i : Nat), As.length = fs.length → i < fs.length →
  (qu fs As).take (i * 3) ++ (qu fs As).drop ((i + 1) * 3) = qu (fs.eraseIdx i) (As.eraseIdx i)
 | f :: fs, a :: As, 0, h, _ => by simp [qu, qe]
 | f :: fs, a :: As, i + 1, h, hi => by
  have ih := yO fs As i (by simpa using h) (by simpa using hi)
  simp only [qu, List.eraseIdx_cons_succ, List.zip_cons_cons, List.flatMap_cons] at ih ⊢
  generalize (fs.zip As).flatMap (fun x => qe x.1 x.2.1 x.2.2) = X at *
  have e1 : (qe f a.1 a.2 ++ X).take ((i + 1) * 3) = qe f a.1 a.2 ++ X.take (i * 3) := by
   rw [show (i + 1) * 3 = (qe f a.1 a.2).length + i * 3 by simp [qe]; omega, List.take_length_add_append]
  have e2 : (qe f a.1 a.2 ++ X).drop ((i + 1 + 1) * 3) = X.drop ((i + 1) * 3) := by
   rw [show (i + 1 + 1) * 3 = (qe f a.1 a.2).length + (i + 1) * 3 by simp [qe]; omega, List.drop_length_add_append]
  rw [e1, e2, List.append_assoc, ih]
theorem zB {α : Type} {l : List α} {i k : Nat} {x : α} (h : (l.eraseIdx i)[k]? = some x) : ∃ k', l[k']? = some x ∧ (k' = if k < i then k else k + 1) := by
 rw [List.getElem?_eraseIdx] at h
 split at h
 ·rename_i hk; exact ⟨k, h, by rw [if_pos hk]⟩
 ·rename_i hk; exact ⟨k + 1, h, by rw [if_neg hk]⟩
theorem FlsO.del {w : World} {base g cap i : Nat} {fs : List FlP} (h : FlsO w base (.slice (some ⟨g, 0, none⟩) fs.length cap) fs) (hi : i < fs.length) :
  ∃ xs, w.ownsRow base 142 3 (.slice (some ⟨g, 0, none⟩) fs.length cap) fs.length xs ∧ (∀ u ∈ xs, u.oneCell' = true) ∧
   ∀ w', w'.ownsRow base 142 3 (.slice (some ⟨g, 0, none⟩) (fs.length - 1) cap) (fs.length - 1) (xs.take (i * 3) ++ xs.drop ((i + 1) * 3)) → w.grownBy w' (some g) →
    FlsO w' base (.slice (some ⟨g, 0, none⟩) (fs.length - 1) cap) (fs.eraseIdx i) := by
 obtain ⟨As, h1, h2, h3, h4⟩ := h
 refine ⟨_, h2, vV fs As, fun w' ho hg => ?_⟩
 rw [yO fs As i h1 hi] at ho
 have hl : (fs.eraseIdx i).length = fs.length - 1 := List.length_eraseIdx_of_lt hi
 refine ⟨As.eraseIdx i, by rw [List.length_eraseIdx_of_lt (by omega), hl, h1], by rw [hl]; exact ho, fun k p a hp ha => ?_, fun k j a b hkj ha hb => ?_⟩
 ·obtain ⟨k1, hp1, e1⟩ := zB hp
  obtain ⟨k2, ha1, e2⟩ := zB ha
  rw [← e1] at e2
  subst e2
  obtain ⟨j1, j2⟩ := h3 k2 p a hp1 ha1
  refine ⟨j1.kept hg ?_, j2⟩
  rw [zV]
  cases hb : blk a with
  | none => exact .inl rfl
  | some x => exact .inr (fun e => j2 x hb e.symm)
 ·obtain ⟨k1, ha1, e1⟩ := zB ha
  obtain ⟨k2, hb1, e2⟩ := zB hb
  refine h4 k1 k2 a b ?_ ha1 hb1
  split at e1 <;> split at e2 <;> omega
theorem FlsO.blk_ex {w : World} {base : Nat} {v : Value} {fs : List FlP} (h : FlsO w base v fs) (h0 : 0 < fs.length) : ∃ g c, v = .slice (some ⟨g, 0, none⟩) fs.length c ∧ base ≤ g := by
 obtain ⟨As, h1, h2, h3, h4⟩ := h
 obtain ⟨g, cap, cs, rfl, hb, _⟩ := yQ h2 h0
 exact ⟨g, cap, rfl, hb⟩
set_option maxHeartbeats 4000000 in
theorem XC (A : Option Addr) (c : Nat) (fs : List FlP) (k : ByteArray) (w : World) (hG : GoodF fs) (hf : Fls w A fs) (hc : fs.length ≤ c) (hm : c ≤ maxLen) (hfn : fnd 0 fs k.data.toList = none) :
  Calls Tryz.prog 99 #[.slice A fs.length c, .string k] w fun e w' => e = .returned (.tuple #[.slice none 0 0, .slice none 0 0, .int .i64 5]) ∧ Below w.heap.size w w' := by
 have h66 : fs.length ≤ 6 := hG.len
 have HCK := Lib.hid (fun w' hf' => qC A c fs w' hG hf' hc hm)
 have HFI := Lib.hid (fun w' hf' => qP A c fs k w' (by omega) hf')
 have HCP := Lib.hid (fun w' hf' => qG A c fs w' (by omega) (fun p hp => by
  obtain ⟨j, hj, rfl⟩ := List.mem_iff_getElem.1 hp
  have := hG.few j hj; omega) hf' hc)
 have HF := Lib.hid hfn
 have hfew := fun (i : Nat) (h : i < fs.length) => hG.few i h
 have HFE := Lib.hid hfew
 clear hG hfn hfew
 go_enter Tryz.func99, Tryz.ntmps99
 go_wp2_with fail
 refine ((HCK.out w hf)).mono ?_; rintro e_ w1 ⟨rfl, hb1⟩; dsimp only
 have hf1 := hf.below hb1
 have hfi := HFI.out w1 hf1
 rw [HF.out] at hfi
 dsimp only at hfi
 have HFF := Lib.hid hfi
 clear hfi hf
 go_wp2_with fail
 refine ((HFF.out)).mono ?_; rintro e_ w4 ⟨rfl, hb4⟩; dsimp only
 have hb14 := hb1.trans (hb4.mono hb1.size)
 go_wp2_with fail
 go_ret3
 exact ⟨rfl, hb14⟩
set_option maxHeartbeats 8000000 in
theorem Uv (A : Option Addr) (c : Nat) (fs : List FlP) (k : ByteArray) (i : Nat) (w : World) (hG : GoodF fs) (hf : Fls w A fs) (hc : fs.length ≤ c) (hm : c ≤ maxLen) (hfn : fnd 0 fs k.data.toList = some i) (hi : i < fs.length) :
  Calls Tryz.prog 99 #[.slice A fs.length c, .string k] w fun e w' => ∃ v u, e = .returned (.tuple #[v, u, .int .i64 0]) ∧ FlsO w' w.heap.size v (fs.eraseIdx i) ∧
   w'.ownsRow w.heap.size 3 1 u (fs[i].wait.length + 1) (ins (fs[i].lead :: fs[i].wait)) ∧ Below w.heap.size w w' := by
 have h66 : fs.length ≤ 6 := hG.len
 have HCK := Lib.hid (fun w' hf' => qC A c fs w' hG hf' hc hm)
 have HFI := Lib.hid (fun w' hf' => qP A c fs k w' (by omega) hf')
 have HCP := Lib.hid (fun w' hf' => qG A c fs w' (by omega) (fun p hp => by
  obtain ⟨j, hj, rfl⟩ := List.mem_iff_getElem.1 hp
  have := hG.few j hj; omega) hf' hc)
 have HF := Lib.hid hfn
 have hfew := fun (i : Nat) (h : i < fs.length) => hG.few i h
 have HFE := Lib.hid hfew
 clear hG hfn hfew
 go_enter Tryz.func99, Tryz.ntmps99
 go_wp2_with fail
 refine ((HCK.out w hf)).mono ?_; rintro e_ w1 ⟨rfl, hb1⟩; dsimp only
 have hf1 := hf.below hb1
 have hfi := HFI.out w1 hf1
 rw [HF.out] at hfi
 dsimp only at hfi
 have HFF := Lib.hid hfi
 clear hfi hf
 go_wp2_with fail
 refine ((HFF.out)).mono ?_; rintro e_ w4 ⟨rfl, hb4⟩; dsimp only
 have hb14 := hb1.trans (hb4.mono hb1.size)
 have hf4 := hf1.below hb4
 have hwl := HFE.out i hi
 obtain ⟨b, off, B, cb, rfl, hbb, c0, c1, c2, hrw, hwc, hcbm⟩ := hf4.at_ i hi
 obtain ⟨s, hs⟩ : ∃ s : ByteArray, s = ⟨fs[i].key.toArray⟩ := ⟨_, rfl⟩
 rw [← hs] at c0
 obtain ⟨ld, hld⟩ : ∃ x, x = fs[i].lead := ⟨_, rfl⟩
 obtain ⟨wt, hwt⟩ : ∃ x, x = fs[i].wait := ⟨_, rfl⟩
 rw [← hld] at c1
 rw [← hwt] at c2 hrw hwc hwl
 have HRW := Lib.hid hrw
 have HFL := Lib.hid hf4
 have hLD := hld.symm
 have hWT := hwt.symm
 have HLD := Lib.hid hLD
 have HWT := Lib.hid hWT
 have hi0 : (0 : Int) ≤ (i : Int) := by omega
 have hi1 : (i : Int) < (fs.length : Int) := by omega
 have hwi : IntKind.i64.wrap ((i : Int) + 1) = (i : Int) + 1 := IntWalk.i64_in _ (by omega)
 have HS := Lib.hid (show ∀ W : World, Below w4.heap.size w4 W → W.cell? ⟨b, off + i * 3, none⟩ = some (.string s) ∧ W.cell? ⟨b, off + i * 3 + 1, none⟩ = some (.int .i64 ld) ∧ W.cell? ⟨b, off + i * 3 + 2, none⟩ = some (.slice B wt.length cb) from
  fun W hW => ⟨(hW.cell (p := ⟨b, off + i * 3, none⟩) hbb).trans c0, (hW.cell (p := ⟨b, off + i * 3 + 1, none⟩) hbb).trans c1, (hW.cell (p := ⟨b, off + i * 3 + 2, none⟩) hbb).trans c2⟩)
 clear hs hld hwt hLD hWT c0 c1 c2 hrw hf1 hf4
 go_wp2_with fail
 refine wp_region_held_drew (S := (fun w' => w'.cell? ⟨b, off + i * 3, none⟩ = some (.string s) ∧ w'.cell? ⟨b, off + i * 3 + 1, none⟩ = some (.int .i64 ld) ∧ w'.cell? ⟨b, off + i * 3 + 2, none⟩ = some (.slice B wt.length cb))) (by kernel_rfl) ?_ (fun hHeld => ?_)
 ·exact HS.out _ (Below.refl _ w4).drew
 have hB := (Below.refl w4.heap.size w4).drew
 generalize w4.drew = wn0 at *
 refine sqTH 0 ?_;try simp only [sqP]
 refine sqTH 2 ?_;try simp only [sqP]
 refine sqTH 3 ?_;try simp only [sqP]
 refine sqTH 4 ?_;try simp only [sqP]
 refine sqTH 6 ?_;try simp only [sqP]
 refine sqTH 7 ?_;try simp only [sqP]
 refine sqTH 8 ?_;try simp only [sqP]
 refine sqTH 9 ?_;try simp only [sqP]
 refine wpAnyH_ready (rs := [1]) (by kernel_rfl) (by simp) ?_
 refine AllReadyH.cons (o := _) rfl (fun K hK => ?_) ?_
 ·
  have hcp := HCP.out wn0 (HFL.out.below hB)
  go_simp
  refine (hcp).mono ?_
  rintro e5 w5 ⟨v5, rfl, ho5, hb5⟩
  dsimp only
  obtain ⟨gf, cf, rfl, hgf⟩ := ho5.blk_ex (by omega)
  refine qI hK ?_ (Below w4.heap.size w4) (fun W => FlsO W w4.heap.size (.slice (some ⟨gf, 0, none⟩) fs.length cf) fs ∧ w4.heap.size ≤ gf) ?_ ?_ (fun wn1 hHeld hst hnew => ?_)
  ·exact HS.out _ (hB.trans (hb5.mono hB.size))
  ·exact hB.trans (hb5.mono hB.size)
  ·exact ⟨ho5.lower hB.size, Nat.le_trans hB.size hgf⟩
  clear hB
  have hB := hst
  obtain ⟨hnew, hgw⟩ := hnew
  clear hst
  clear hK K
  try simp only [sqP]
  refine wpAnyH_ready (rs := [5]) (by kernel_rfl) (by simp) ?_
  refine AllReadyH.cons (o := _) rfl (fun K hK => ?_) ?_
  ·
   obtain ⟨xs, x1, x2, x3⟩ := hnew.del (i := i) hi
   go_simp
   refine (U3 _ i fs.length _ _ xs wn1 x1 hi x2).mono ?_
   rintro e5 w5 ⟨rfl, y1, y2⟩
   dsimp only
   refine qI hK ?_ (Below w4.heap.size w4) (fun W => FlsO W w4.heap.size (.slice (some ⟨gf, 0, none⟩) (fs.length - 1) cf) (fs.eraseIdx i)) ?_ ?_ (fun wn2 hHeld hst hnew => ?_)
   ·exact HS.out _ (hB.grown y2 hB.size (fun g h => by cases h; exact hgw))
   ·exact hB.grown y2 hB.size (fun g h => by cases h; exact hgw)
   ·exact x3 _ y1 y2
   clear hB
   have hB := hst
   clear hst
   clear hK K
   try simp only [sqP]
   refine wpAnyH_ready (rs := [10]) (by kernel_rfl) (by simp) ?_
   refine AllReadyH.cons (o := _) rfl (fun K hK => ?_) ?_
   ·
    have hcr := xV s ld B cb wt wn2 (by omega) (HRW.out.below hB)
    go_simp
    refine (hcr).mono ?_
    rintro e5 w5 ⟨v5, rfl, ho5, hb5⟩
    dsimp only
    refine qI hK ?_ (Below w4.heap.size w4) (fun W => FlsO W w4.heap.size (.slice (some ⟨gf, 0, none⟩) (fs.length - 1) cf) (fs.eraseIdx i) ∧ W.ownsRow w4.heap.size 3 1 v5 (wt.length + 1) (ins (ld :: wt))) ?_ ?_ (fun wn3 hHeld hst hnew2 => ?_)
    ·exact HS.out _ (hB.trans (hb5.mono hB.size))
    ·exact hB.trans (hb5.mono hB.size)
    ·exact ⟨hnew.below hb5, zd ho5 hB.size⟩
    clear hB
    have hB := hst
    clear hst hnew
    obtain ⟨hnew, hown⟩ := hnew2
    clear hK K
    try simp only [sqP]
    refine sqTH 11 ?_;try simp only [sqP]
    refine sqTH 12 ?_;try simp only [sqP]
    refine sqTH 13 ?_;try simp only [sqP]
    refine wpAnyH_done (by kernel_rfl) ?_ _
    clear hHeld
    dsimp only [Exit.then]
    go_wp2_with fail
    go_ret3
    rw [HLD.out, HWT.out]
    exact ⟨_, _, rfl, hnew.lower hb14.size, zd hown hb14.size, hb14.trans (hB.mono hb14.size)⟩
   exact AllReadyH.nil
  exact AllReadyH.nil
 exact AllReadyH.nil
end Go.Proofs.YtpbacomdoddhdaaGreat
