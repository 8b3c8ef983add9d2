/- store.Get, HoldBlob, Hold, of stores that may be. Conditions: that it may be done. -/
import Derived.Test.YtdpedkgdobfemaaGreatSWp
namespace Go.Proofs.YtdpedkgdobfemaaGreat
open Go.RowKit
set_option linter.unusedVariables false
set_option linter.unusedSimpArgs false
set_option maxRecDepth 100000

theorem cell_sets4 {w : World} {g g' k : Nat} (h : g ≠ g') {a b c d : Value} : ((((w.setCell ⟨g', 0, none⟩ a).setCell ⟨g', 1, none⟩ b).setCell ⟨g', 2, none⟩ c).setCell ⟨g', 3, none⟩ d).cell? ⟨g, k, none⟩ = w.cell? ⟨g, k, none⟩ := by
  refine (World.cell?_of_block (Below.heap_setCell _ _ d g h)).trans ((World.cell?_of_block (Below.heap_setCell _ _ c g h)).trans ((World.cell?_of_block (Below.heap_setCell _ _ b g h)).trans (World.cell?_of_block (Below.heap_setCell _ _ a g h))))
theorem own_sets4 {w : World} {base n g : Nat} {e : TypeId} {size : Nat} {v : Value} {xs : List Value} (h : w.ownsRow base e size v n xs) (hg : g < base) (a b c d : Value) :
    ((((w.setCell ⟨g, 0, none⟩ a).setCell ⟨g, 1, none⟩ b).setCell ⟨g, 2, none⟩ c).setCell ⟨g, 3, none⟩ d).ownsRow base e size v n xs := by
  have hne : v.ownBlock ≠ some g := fun e => by have := (h.lt g e).1; omega
  exact own_other (own_other (own_other (own_other h hne) hne) hne) hne
theorem fE_at {l : List EntP} {i : Nat} {k : List UInt8} (hr : RisesBy (·.key) l) (hi : i < l.length) (hk : l[i].key = k) : l.findIdx? (fun x => x.key == k) = some i := by
  rw [List.findIdx?_eq_some_iff_getElem]
  refine ⟨hi, by simp [hk], fun j hj => ?_⟩
  have := List.pairwise_iff_getElem.1 hr j i (by omega) hi hj
  rw [← hk]
  simpa using bl_ne this
theorem fB_at {l : List BlobP} {i : Nat} {k : List UInt8} (hr : RisesBy (·.dig) l) (hi : i < l.length) (hk : l[i].dig = k) : l.findIdx? (fun x => x.dig == k) = some i := by
  rw [List.findIdx?_eq_some_iff_getElem]
  refine ⟨hi, by simp [hk], fun j hj => ?_⟩
  have := List.pairwise_iff_getElem.1 hr j i (by omega) hi hj
  rw [← hk]
  simpa using bl_ne this
theorem Rw.ent_at' {w : World} {A : Option Addr} {l : List EntP} {k : Nat} {x : EntP} (h : Rw EntS w A l) (hx : l[k]? = some x) :
    ∃ b off B c, A = some ⟨b, off, none⟩ ∧ b < w.heap.size ∧ w.cell? ⟨b, off + k * 4, none⟩ = some (.string ⟨x.key.toArray⟩) ∧ w.cell? ⟨b, off + k * 4 + 1, none⟩ = some (.slice B x.parts.length c) ∧
      w.cell? ⟨b, off + k * 4 + 2, none⟩ = some (.int .i64 (x.pins : Int)) ∧ w.cell? ⟨b, off + k * 4 + 3, none⟩ = some (.int .i64 (x.stamp : Int)) ∧ Sl w 3 B x.parts.length c (pcs x.parts) := by
  obtain ⟨hk, rfl⟩ := List.getElem?_eq_some_iff.1 hx
  exact h.ent_at k hk
theorem getS_at (s : StoP) (i : Nat) (x : EntP) (hi : i < s.ents.length) : (getS s i x).ents[i]? = some { x with stamp := s.clock + 1 } := by
  unfold getS
  simp [hi]
set_option maxHeartbeats 1600000 in
theorem GetS_ok (A : Option Addr) (c : Nat) (B : Option Addr) (d : Nat) (s : StoP) (key : List UInt8) (i : Nat) (w : World) (hg : GoodS s) (hr : RdSt w A c B d s) (hi : i < s.ents.length) (hk : s.ents[i].key = key) (hclk : s.clock < 1099511627776) :
    Calls Tryz.prog 26 #[.agg #[.slice A s.blobs.length c, .slice B s.ents.length d, .int .i64 (s.room : Int), .int .i64 (s.clock : Int)], .string ⟨key.toArray⟩] w fun e w' =>
      ∃ v1 v2 v3, e = .returned (.tuple #[.agg #[v1, v2, .int .i64 (s.room : Int), .int .i64 ((s.clock + 1 : Nat) : Int)], v3, .int .i64 0]) ∧ OwSt w' w.heap.size v1 v2 (getS s i s.ents[i]) (fun b => b < w.heap.size) ∧ w'.ownsRow w.heap.size 34 3 v3 s.ents[i].parts.length (pcs s.ents[i].parts) ∧ Below w.heap.size w w' := by
  obtain ⟨z, hz⟩ : ∃ z, z = s.clock + 1 := ⟨_, rfl⟩
  rw [← hz]
  have HZ := Lib.hid hz
  clear hz
  have hlb : s.blobs.length ≤ 24 := hg.b.len
  have hle : s.ents.length ≤ 10 := hg.e.len
  have HPN := Lib.hid (show s.ents[i].parts.length ≤ 8 from (chk_zero (hg.e.one _ (List.getElem_mem hi)).2.1).1)
  have HFX := Lib.hid (fE_at hg.e.ris hi hk)
  obtain ⟨sk, hsk⟩ : ∃ x : ByteArray, x = ⟨key.toArray⟩ := ⟨_, rfl⟩
  rw [← hsk]
  have HSK := Lib.hid hsk
  clear hk hsk
  obtain ⟨w0, hw0, hS, hR, hb0⟩ := two_new w 26 [.slice A s.blobs.length c, .slice B s.ents.length d, .int .i64 (s.room : Int), .int .i64 (s.clock : Int)] [.slice none 0 0, .slice none 0 0, .int .i64 0, .int .i64 0]
  have hr0 := hr.below hb0
  obtain ⟨H, hH⟩ : ∃ H, H = w.heap.size := ⟨_, rfl⟩
  have HCK := Lib.hid (CheckS_ok A c B d s w0 hg hr0)
  rw [← hH] at hS hR hb0 ⊢
  have hHl : H < w0.heap.size := hS.lt
  have hHr : H + 1 < w0.heap.size := hR.lt
  have x0 := hS.cell (k := 0) rfl
  have x1 := hS.cell (k := 1) rfl
  have x2 := hS.cell (k := 2) rfl
  have x3 := hS.cell (k := 3) rfl
  rw [hw0, hH] at x0 x1 x2 x3
  have HPL := Lib.hid (show ∀ b ∈ s.blobs, b.data.length ≤ 1000000 from fun b hb => by have := (hg.b.one b hb).2.1; omega)
  have HQL := Lib.hid (show ∀ x ∈ s.ents, x.parts.length ≤ 1000000 from fun x hx => by have := (chk_zero (hg.e.one x hx).2.1).1; omega)
  have HG := Lib.hid hg
  clear hg hr
  go_enter Tryz.func26, Tryz.ntmps26
  repeat' ((fail_if_success at_builtin); (fail_if_success at_make); (first | go_values | go_skip | go_guarded | go_step | go_upon | go_back))
  rw [← hw0, ← hH]
  have HH := Lib.hid hH
  clear hw0 hH x0 x1 x2 x3
  refine ((HCK.out)).mono ?_; rintro e_ w1 ⟨rfl, hb1⟩; dsimp only
  have hr1 := hr0.below hb1
  have hS1 := hS.below hb1
  have y0 := hS1.cell (k := 1) rfl
  have HFN := FindE_ok B d s.ents key w1 (by omega) hr1.e
  rw [HFX.out, fndR, ← HSK.out] at HFN
  have HFN := Lib.hid HFN
  clear hr0 hS
  repeat' ((fail_if_success at_builtin); (fail_if_success at_make); (first | go_values | go_skip | go_guarded | go_step | go_upon | go_back))
  clear y0
  refine ((HFN.out)).mono ?_; rintro e_ w2 ⟨rfl, hb2⟩; dsimp only
  have hc2 := hb1.trans (hb2.mono hb1.size)
  have hr2 := hr1.below hb2
  have hS2 := hS1.below hb2
  have z0 := hS2.cell (k := 0) rfl
  have z1 := hS2.cell (k := 1) rfl
  have z2 := hS2.cell (k := 2) rfl
  have z3 := hS2.cell (k := 3) rfl
  have HCP := Lib.hid (CopyS_ok A c B d s w2 (by omega) (by omega) HPL.out HQL.out hr2)
  clear hr1 hS1 hb1 hb2 hr2
  repeat' ((fail_if_success at_builtin); (fail_if_success at_make); (first | go_values | go_skip | go_guarded | go_step | go_upon | go_back))
  clear z0 z1 z2 z3
  refine ((HCP.out)).mono ?_; rintro e_ w4 ⟨q1, q2, rfl, ho4', hb4⟩; dsimp only
  have hc4 := hc2.trans (hb4.mono hc2.size)
  have ho4 := (ho4'.lower hc2.size).wider (N' := fun b => b < w0.heap.size) (fun b hb => .inl (Nat.lt_of_lt_of_le hb hc2.size))
  clear ho4' hc2 hb4 hS2
  have h41 : ∀ b, (Value.slice (some ⟨q1, 0, none⟩) s.blobs.length s.blobs.length).ownBlock = some b → b < w4.heap.size := fun b e => (ho4.b.rwo.blk e).2
  have h42 : ∀ b, (Value.slice (some ⟨q2, 0, none⟩) s.ents.length s.ents.length).ownBlock = some b → b < w4.heap.size := fun b e => (ho4.e.rwo.blk e).2
  have hG : w0.heap.size ≤ w4.heap.size := hc4.size
  obtain ⟨G, hGe⟩ : ∃ G, G = w4.heap.size := ⟨_, rfl⟩
  rw [← hGe] at h41 h42 hG
  have hba := (Below.refl w4.heap.size w4).alloc (Nat.le_refl _) (.cells #[(Value.slice (some ⟨q1, 0, none⟩) s.blobs.length s.blobs.length), (Value.slice (some ⟨q2, 0, none⟩) s.ents.length s.ents.length), .int .i64 (s.room : Int), .int .i64 (s.clock : Int)] 26)
  have hX : Arr (w4.alloc (.cells #[(Value.slice (some ⟨q1, 0, none⟩) s.blobs.length s.blobs.length), (Value.slice (some ⟨q2, 0, none⟩) s.ents.length s.ents.length), .int .i64 (s.room : Int), .int .i64 (s.clock : Int)] 26)) G 26 [(Value.slice (some ⟨q1, 0, none⟩) s.blobs.length s.blobs.length), (Value.slice (some ⟨q2, 0, none⟩) s.ents.length s.ents.length), .int .i64 (s.room : Int), .int .i64 (s.clock : Int)] := by rw [hGe]; exact Arr.new w4 26 _
  have ho := (ho4.wider (N' := fun b => b < w0.heap.size ∨ b = G) (fun b hb => hb.imp id (fun e => by omega))).below hba
  have hR5 := (hR.below hc4).below hba
  have hb5 := (hb0.trans (hc4.mono (Nat.le_of_lt hHl))).alloc (by omega) (.cells #[(Value.slice (some ⟨q1, 0, none⟩) s.blobs.length s.blobs.length), (Value.slice (some ⟨q2, 0, none⟩) s.ents.length s.ents.length), .int .i64 (s.room : Int), .int .i64 (s.clock : Int)] 26)
  clear hR ho4 hc4 hba hb0
  have hR := hR5
  clear hR5
  have hb := hb5
  clear hb5
  have htk := (Tick_ok G (Value.slice (some ⟨q1, 0, none⟩) s.blobs.length s.blobs.length) (Value.slice (some ⟨q2, 0, none⟩) s.ents.length s.ents.length) (.int .i64 (s.room : Int)) s.clock _ hclk hX)
  rw [← HZ.out] at htk
  have HTK := Lib.hid htk
  clear htk
  have hq2 : w0.heap.size ≤ q2 := (ho.e.rwo.blk rfl).1
  have hqG : q2 < G := h42 _ rfl
  repeat' ((fail_if_success at_builtin); (fail_if_success at_make); (first | go_values | go_skip | go_guarded | go_step | go_upon | go_back))
  rw [← hGe]
  clear hGe
  generalize w4.alloc (.cells #[(Value.slice (some ⟨q1, 0, none⟩) s.blobs.length s.blobs.length), (Value.slice (some ⟨q2, 0, none⟩) s.ents.length s.ents.length), .int .i64 (s.room : Int), .int .i64 (s.clock : Int)] 26) = w5 at *
  refine ((HTK.out)).mono ?_; rintro e_ _ ⟨rfl, rfl⟩; dsimp only
  have hX6 : Arr (w5.setCell ⟨G, 3, none⟩ (.int .i64 (z : Int))) G 26 [(Value.slice (some ⟨q1, 0, none⟩) s.blobs.length s.blobs.length), (Value.slice (some ⟨q2, 0, none⟩) s.ents.length s.ents.length), .int .i64 (s.room : Int), .int .i64 (z : Int)] := hX.set (k := 3) (by simp) (.int .i64 (z : Int))
  have hR6 := hR.other (g' := G) (k := 3) (by omega) (.int .i64 (z : Int))
  have ho6 := (ho.setX (g := G) (k := 3) (.inr rfl) (fun e => by have := h41 _ e; omega) (fun e => by have := h42 _ e; omega) (.int .i64 (z : Int)))
  have hb6 := hb.setCell (p := ⟨G, 3, none⟩) (by simp only; omega) (.int .i64 (z : Int))
  clear hX hR ho hb HTK
  generalize w5.setCell ⟨G, 3, none⟩ (.int .i64 (z : Int)) = w6 at *
  obtain ⟨⟨v0, k3⟩, f3, ho7', hg7⟩ := ho6.setE (j := 3) (u := .int .i64 (z : Int)) (y := { s.ents[i] with stamp := s.clock + 1 }) hi (by omega) (fun W cs h => by rw [HZ.out]; exact ent_stamp _ _ W cs h) (not_leads_int _)
  have x1 := hX6.cell (k := 1) rfl
  have x3 := hX6.cell (k := 3) rfl
  have hi0 : (0 : Int) ≤ (i : Int) := by omega
  have hi1 : (i : Int) < (s.ents.length : Int) := by omega
  have hX7 := hX6.other (g' := q2) (k := i * 4 + 3) (by omega) (.int .i64 (z : Int))
  have hR7 := hR6.other (g' := q2) (k := i * 4 + 3) (by omega) (.int .i64 (z : Int))
  have hb7 := hb6.setCell (p := ⟨q2, i * 4 + 3, none⟩) (by simp only; omega) (.int .i64 (z : Int))
  have ho7 : OwSt (w6.setCell ⟨q2, i * 4 + 3, none⟩ (.int .i64 (z : Int))) w0.heap.size (Value.slice (some ⟨q1, 0, none⟩) s.blobs.length s.blobs.length) (Value.slice (some ⟨q2, 0, none⟩) s.ents.length s.ents.length) (getS s i s.ents[i]) (fun b => b < w0.heap.size ∨ b = G) := ho7'.clk s.room (s.clock + 1)
  have hw7 : H ≤ (w6.setCell ⟨q2, i * 4 + 3, none⟩ (.int .i64 (z : Int))).heap.size := by have := hR7.lt; omega
  clear hX6 hR6 ho6 hb6 ho7' hg7
  repeat' ((fail_if_success at_builtin); (fail_if_success at_make); (first | go_values | go_skip | go_guarded | go_step | go_upon | go_back))
  clear x1 x3 k3 f3
  generalize w6.setCell ⟨q2, i * 4 + 3, none⟩ (.int .i64 (z : Int)) = w7 at *
  have hX := hX7
  have hR := hR7
  have ho := ho7
  have hb := hb7
  clear hX7 hR7 ho7 hb7
  obtain ⟨A', c', e1, _, _, hRe7⟩ := ho.e.rwo.rows
  obtain ⟨b', off', XB, xc, e2, _, _, k1, _, _, hsl⟩ := hRe7.ent_at' (getS_at s i s.ents[i] hi)
  dsimp only at k1 hsl
  injection e1 with e11 e12 e13
  clear e12 e13
  subst e11
  cases e2
  rw [Nat.zero_add] at k1
  have HSB := Lib.hid (show ∀ W, Below w7.heap.size w7 W → (W.cell? ⟨G, 0, none⟩ = some (Value.slice (some ⟨q1, 0, none⟩) s.blobs.length s.blobs.length) ∧ W.cell? ⟨G, 1, none⟩ = some (Value.slice (some ⟨q2, 0, none⟩) s.ents.length s.ents.length) ∧ W.cell? ⟨G, 2, none⟩ = some (.int .i64 (s.room : Int)) ∧ W.cell? ⟨G, 3, none⟩ = some (.int .i64 (z : Int))) ∧ W.cell? ⟨q2, i * 4 + 1, none⟩ = some (.slice XB s.ents[i].parts.length xc) from fun W h =>
    ⟨⟨(hX.below h).cell (k := 0) rfl, (hX.below h).cell (k := 1) rfl, (hX.below h).cell (k := 2) rfl, (hX.below h).cell (k := 3) rfl⟩, (h.cell (p := ⟨q2, i * 4 + 1, none⟩) (ho.e.rwo.blk rfl).2).trans k1⟩)
  have HCL := Lib.hid (show ∀ W, Below w7.heap.size w7 W → Calls Tryz.prog 61 #[.slice XB s.ents[i].parts.length xc] W fun e w' => ∃ v, e = .returned v ∧ w'.ownsRow W.heap.size 34 3 v s.ents[i].parts.length (pcs s.ents[i].parts) ∧ Below W.heap.size W w' from fun W h =>
    ClonePart_ok XB s.ents[i].parts.length xc (pcs s.ents[i].parts) W (by have := HPN.out; omega) (hsl.below h).rd (pcs_one _))
  have hGH : G ≠ H + 1 := by omega
  have hqH : q2 ≠ H + 1 := by omega
  have hH7 : H + 1 < w7.heap.size := hR.lt
  clear hRe7 hsl k1 hX
  --HELD1
  refine wp_region_held_drew (S := (fun w' => (w'.cell? ⟨G, 0, none⟩ = some (Value.slice (some ⟨q1, 0, none⟩) s.blobs.length s.blobs.length) ∧ w'.cell? ⟨G, 1, none⟩ = some (Value.slice (some ⟨q2, 0, none⟩) s.ents.length s.ents.length) ∧ w'.cell? ⟨G, 2, none⟩ = some (.int .i64 (s.room : Int)) ∧ w'.cell? ⟨G, 3, none⟩ = some (.int .i64 (z : Int))) ∧ w'.cell? ⟨q2, i * 4 + 1, none⟩ = some (.slice XB s.ents[i].parts.length xc))) (by kernel_rfl) ?_ (fun hHeld => ?_)
  · exact HSB.out _ (Below.refl _ w7).drew
  have hB := (Below.refl w7.heap.size w7).drew
  generalize w7.drew = wn0 at *
  refine wpAnyH_take (i := 0) (oi := _) (v := ?_) rfl (by kernel_rfl) (by kernel_rfl) (by kernel_rfl) (fun _ _ _ h => h) (Or.inl ⟨by rfl, ?_⟩) (by assumption) ?_
  rotate_left
  · (intro w hSw; (try dsimp only at hSw); go_simp; try (with_reducible rfl))
  try simp only [List.getElem_toArray, List.getElem_cons_zero, List.getElem_cons_succ, Act.put, List.setIfInBounds_toArray, List.set_cons_zero, List.set_cons_succ]
  refine wpAnyH_take (i := 1) (oi := _) (v := ?_) rfl (by kernel_rfl) (by kernel_rfl) (by kernel_rfl) (fun _ _ _ h => h) (Or.inl ⟨by rfl, ?_⟩) (by assumption) ?_
  rotate_left
  · (intro w hSw; (try dsimp only at hSw); go_simp; try (with_reducible rfl))
  try simp only [List.getElem_toArray, List.getElem_cons_zero, List.getElem_cons_succ, Act.put, List.setIfInBounds_toArray, List.set_cons_zero, List.set_cons_succ]
  refine wpAnyH_take (i := 2) (oi := _) (v := ?_) rfl (by kernel_rfl) (by kernel_rfl) (by kernel_rfl) (fun _ _ _ h => h) (Or.inl ⟨by rfl, ?_⟩) (by assumption) ?_
  rotate_left
  · (intro w hSw; (try dsimp only at hSw); go_simp; try (with_reducible rfl))
  try simp only [List.getElem_toArray, List.getElem_cons_zero, List.getElem_cons_succ, Act.put, List.setIfInBounds_toArray, List.set_cons_zero, List.set_cons_succ]
  refine wpAnyH_take (i := 3) (oi := _) (v := ?_) rfl (by kernel_rfl) (by kernel_rfl) (by kernel_rfl) (fun _ _ _ h => h) (Or.inl ⟨by rfl, ?_⟩) (by assumption) ?_
  rotate_left
  · (intro w hSw; (try dsimp only at hSw); go_simp; try (with_reducible rfl))
  try simp only [List.getElem_toArray, List.getElem_cons_zero, List.getElem_cons_succ, Act.put, List.setIfInBounds_toArray, List.set_cons_zero, List.set_cons_succ]
  refine wpAnyH_take (i := 4) (oi := _) (v := ?_) rfl (by kernel_rfl) (by kernel_rfl) (by kernel_rfl) (fun _ _ _ h => h) (Or.inl ⟨by rfl, ?_⟩) (by assumption) ?_
  rotate_left
  · (intro w hSw; (try dsimp only at hSw); go_simp; try (with_reducible rfl))
  try simp only [List.getElem_toArray, List.getElem_cons_zero, List.getElem_cons_succ, Act.put, List.setIfInBounds_toArray, List.set_cons_zero, List.set_cons_succ]
  refine wpAnyH_take (i := 5) (oi := _) (v := ?_) rfl (by kernel_rfl) (by kernel_rfl) (by kernel_rfl) (fun _ _ _ h => h) (Or.inl ⟨by rfl, ?_⟩) (by assumption) ?_
  rotate_left
  · (intro w hSw; (try dsimp only at hSw); go_simp; try (with_reducible rfl))
  try simp only [List.getElem_toArray, List.getElem_cons_zero, List.getElem_cons_succ, Act.put, List.setIfInBounds_toArray, List.set_cons_zero, List.set_cons_succ]
  refine wpAnyH_take (i := 6) (oi := _) (v := ?_) rfl (by kernel_rfl) (by kernel_rfl) (by kernel_rfl) (fun _ _ _ h => h) (Or.inl ⟨by rfl, ?_⟩) (by assumption) ?_
  rotate_left
  · (intro w hSw; (try dsimp only at hSw); go_simp; try (with_reducible rfl))
  try simp only [List.getElem_toArray, List.getElem_cons_zero, List.getElem_cons_succ, Act.put, List.setIfInBounds_toArray, List.set_cons_zero, List.set_cons_succ]
  refine wpAnyH_ready (rs := [7]) (by kernel_rfl) (by simp) ?_
  refine AllReadyH.cons (o := _) rfl (fun K hK => ?_) ?_
  ·
    go_simp
    refine (HCL.out wn0 hB).mono ?_
    rintro e9 w9 ⟨v9, rfl, ho9, hb9⟩
    dsimp only
    refine outG hK ?_ (Below wn0.heap.size wn0) (fun W => W.ownsRow w7.heap.size 34 3 v9 s.ents[i].parts.length (pcs s.ents[i].parts)) ?_ ?_ (fun wn1 hHeld hst hnew => ?_)
    · (exact HSB.out _ (hB.trans (hb9.mono hB.size)))
    · (exact hb9)
    · (exact own_lower ho9 hB.size)
    have hB := hB.trans (hst.mono hB.size)
    have ho9' := hnew
    clear hnew
    clear hst
    clear hK K
    try simp only [List.getElem_toArray, List.getElem_cons_zero, List.getElem_cons_succ, Act.put, List.setIfInBounds_toArray, List.set_cons_zero, List.set_cons_succ]
    refine wpAnyH_ready (rs := [8]) (by kernel_rfl) (by simp) ?_
    refine AllReadyH.cons (o := _) rfl (fun K hK => ?_) ?_
    ·
      have f0 := (hR.below hB).frozen 0
      have f1 := (hR.below hB).frozen 1
      have f2 := (hR.below hB).frozen 2
      have f3 := (hR.below hB).frozen 3
      have y0 := (hR.below hB).cell (k := 0) rfl
      have y1 := (hR.below hB).cell (k := 1) rfl
      have y2 := (hR.below hB).cell (k := 2) rfl
      have y3 := (hR.below hB).cell (k := 3) rfl
      go_simp
      clear f0 f1 f2 f3 y0 y1 y2 y3
      have hB1 := hB
      have hfin := (hR.below hB).all4 (Value.slice (some ⟨q1, 0, none⟩) s.blobs.length s.blobs.length) (Value.slice (some ⟨q2, 0, none⟩) s.ents.length s.ents.length) (.int .i64 (s.room : Int)) (.int .i64 (z : Int))
      have ho1 := ho.below hB
      have hoF := (((ho1.set (g := H + 1) (k := 0) hHr (.inl hHr) (Value.slice (some ⟨q1, 0, none⟩) s.blobs.length s.blobs.length)).set (g := H + 1) (k := 1) hHr (.inl hHr) (Value.slice (some ⟨q2, 0, none⟩) s.ents.length s.ents.length)).set (g := H + 1) (k := 2) hHr (.inl hHr) (.int .i64 (s.room : Int))).set (g := H + 1) (k := 3) hHr (.inl hHr) (.int .i64 (z : Int))
      have hb1 := hb.trans (hB.mono hw7)
      have hbF := (((hb1.setCell (p := ⟨H + 1, 0, none⟩) (by simp only; omega) (Value.slice (some ⟨q1, 0, none⟩) s.blobs.length s.blobs.length)).setCell (p := ⟨H + 1, 1, none⟩) (by simp only; omega) (Value.slice (some ⟨q2, 0, none⟩) s.ents.length s.ents.length)).setCell (p := ⟨H + 1, 2, none⟩) (by simp only; omega) (.int .i64 (s.room : Int))).setCell (p := ⟨H + 1, 3, none⟩) (by simp only; omega) (.int .i64 (z : Int))
      have ho9F := own_sets4 ho9' (g := H + 1) (by omega) (Value.slice (some ⟨q1, 0, none⟩) s.blobs.length s.blobs.length) (Value.slice (some ⟨q2, 0, none⟩) s.ents.length s.ents.length) (.int .i64 (s.room : Int)) (.int .i64 (z : Int))
      have hne : w7.heap.size ≤ wn1.heap.size := hB.size
      refine outG hK ?_ (fun W => Arr W (H + 1) 26 [(Value.slice (some ⟨q1, 0, none⟩) s.blobs.length s.blobs.length), (Value.slice (some ⟨q2, 0, none⟩) s.ents.length s.ents.length), .int .i64 (s.room : Int), .int .i64 (z : Int)]) (fun W => OwSt W w0.heap.size (Value.slice (some ⟨q1, 0, none⟩) s.blobs.length s.blobs.length) (Value.slice (some ⟨q2, 0, none⟩) s.ents.length s.ents.length) (getS s i s.ents[i]) (fun b => b < w0.heap.size ∨ b = G) ∧ Below H w W ∧ W.ownsRow w7.heap.size 34 3 v9 s.ents[i].parts.length (pcs s.ents[i].parts)) ?_ ?_ (fun wn2 hHeld hF hG => ?_)
      · have h1 := HSB.out _ hB
        rw [cell_sets4 hGH, cell_sets4 hGH, cell_sets4 hGH, cell_sets4 hGH, cell_sets4 hqH]
        exact h1
      · exact hfin
      · exact ⟨hoF, hbF, ho9F⟩
      clear hB hB1 hfin ho1 hoF hb1 hbF ho9F hne ho9'
      clear hK K
      try simp only [List.getElem_toArray, List.getElem_cons_zero, List.getElem_cons_succ, Act.put, List.setIfInBounds_toArray, List.set_cons_zero, List.set_cons_succ]
      refine wpAnyH_take (i := 9) (oi := _) (v := ?_) rfl (by kernel_rfl) (by kernel_rfl) (by kernel_rfl) (fun _ _ _ h => h) (Or.inl ⟨by rfl, ?_⟩) (by assumption) ?_
      rotate_left
      · (intro w hSw; (try dsimp only at hSw); go_simp; try (with_reducible rfl))
      try simp only [List.getElem_toArray, List.getElem_cons_zero, List.getElem_cons_succ, Act.put, List.setIfInBounds_toArray, List.set_cons_zero, List.set_cons_succ]
      refine wpAnyH_take (i := 10) (oi := _) (v := ?_) rfl (by kernel_rfl) (by kernel_rfl) (by kernel_rfl) (fun _ _ _ h => h) (Or.inl ⟨by rfl, ?_⟩) (by assumption) ?_
      rotate_left
      · (intro w hSw; (try dsimp only at hSw); go_simp; try (with_reducible rfl))
      try simp only [List.getElem_toArray, List.getElem_cons_zero, List.getElem_cons_succ, Act.put, List.setIfInBounds_toArray, List.set_cons_zero, List.set_cons_succ]
      refine wpAnyH_done (by kernel_rfl) ?_ _
      dsimp only [Exit.then]
      clear hHeld
      obtain ⟨hoF, hbF, ho9⟩ := hG
      repeat' ((fail_if_success at_builtin); (fail_if_success at_make); (first | go_values | go_skip | go_guarded | go_step | go_upon | go_back))
      refine bodyPost_ret (res_cell_tmp2 rfl _ _ (H + 1) _ _ _ _ (by rfl) hF Tryz.underlying26 rfl (by kernel_rfl)) rfl ?_
      exact ⟨_, _, _, rfl, (hoF.lower (base' := H) (by omega)).wider (N' := fun b => b < H) (fun b hb => .inl (.inl (by omega))), own_lower ho9 (by omega), hbF⟩
    exact AllReadyH.nil
  exact AllReadyH.nil
  --HELDEND1
end Go.Proofs.YtdpedkgdobfemaaGreat
