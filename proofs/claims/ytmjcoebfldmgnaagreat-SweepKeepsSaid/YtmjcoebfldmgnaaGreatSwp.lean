/- sweep.Step. Conditions: a store and a collector that may be. -/
import Derived.Test.YtmjcoebfldmgnaaGreatMst
namespace Go.Proofs.YtmjcoebfldmgnaaGreat
open Go.RowKit Go.Maps
set_option linter.unusedVariables false
set_option linter.unusedSimpArgs false
set_option maxRecDepth 100000

set_option maxHeartbeats 16000000 in
theorem SStep_ok (A : Option Addr) (c : Nat) (B : Option Addr) (d : Nat) (s : StoP) (Ag : Option Addr) (ng : Nat) (cp : ColP) (w : World) (hg : GoodS s) (hr : RdSt w A c B d s) (hp : cp.phase = 2) (hgc : GoodC s cp) :
    Calls Tryz.prog 38 #[.agg #[.slice A s.blobs.length c, .slice B s.ents.length d, .int .i64 (s.room : Int), .int .i64 (s.clock : Int)], coV (.slice Ag cp.grey.length ng) cp] w fun e w' =>
      ∃ v1 v2, e = .returned (.tuple #[stV v1 v2 s, coV (.slice none 0 0) (sStep s cp).2.1, .string ⟨(sStep s cp).2.2.toArray⟩, .int .i64 0]) ∧ OwSt w' w.heap.size v1 v2 (sStep s cp).1 (fun b => b < w.heap.size) ∧ Below w.heap.size w w' := by
  have hlb : s.blobs.length ≤ 24 := hg.b.len
  have hle : s.ents.length ≤ 10 := hg.e.len
  have HGD := Lib.hid hg
  have HSW := Lib.hid (hgc.sw hp)
  obtain ⟨phase, grey, at_⟩ := cp
  simp only at hp
  subst hp
  clear hgc
  obtain ⟨w0, hw0, hS, hC, hR, hD, hb0⟩ := four_new w 26 60 [.slice A s.blobs.length c, .slice B s.ents.length d, .int .i64 (s.room : Int), .int .i64 (s.clock : Int)] [.int .i64 2, .slice Ag grey.length ng, .string ⟨at_.toArray⟩] [.slice none 0 0, .slice none 0 0, .int .i64 0, .int .i64 0] [.int .i64 0, .slice none 0 0, .string ⟨#[]⟩]
  have hr0 := hr.below hb0
  obtain ⟨H, hH⟩ : ∃ H, H = w.heap.size := ⟨_, rfl⟩
  have HCK := Lib.hid (CheckS_ok A c B d s w0 hg hr0)
  rw [← hH] at hS hC hR hD hb0 ⊢
  have hHl : H + 1 + 1 + 1 < w0.heap.size := hD.lt
  have x0 := hS.cell (k := 0) rfl
  have x1 := hS.cell (k := 1) rfl
  have x2 := hS.cell (k := 2) rfl
  have x3 := hS.cell (k := 3) rfl
  rw [hw0, hH] at x0 x1 x2 x3
  have HPL := Lib.hid (show ∀ b ∈ s.blobs, b.data.length ≤ 1000000 from fun b hb => by have := (hg.b.one b hb).2.1; omega)
  have HQL := Lib.hid (show ∀ x ∈ s.ents, x.parts.length ≤ 1000000 from fun x hx => by have := (chk_zero (hg.e.one x hx).2.1).1; omega)
  clear hg hr
  go_enter Tryz.func38, Tryz.ntmps38
  repeat' ((fail_if_success at_builtin); (fail_if_success at_make); (first | go_values | go_skip | go_guarded | go_step | go_upon | go_back))
  rw [← hw0, ← hH]
  have HH := Lib.hid hH
  clear hw0 hH x0 x1 x2 x3
  refine ((HCK.out)).mono ?_; rintro e_ w1 ⟨rfl, hb1⟩; dsimp only
  have hr1 := hr0.below hb1
  have hS1 := hS.below hb1
  have z0 := hS1.cell (k := 0) rfl
  have z1 := hS1.cell (k := 1) rfl
  have z2 := hS1.cell (k := 2) rfl
  have z3 := hS1.cell (k := 3) rfl
  have x0 := (hC.below hb1).cell (k := 0) rfl
  have HCP := Lib.hid (CopyS_ok A c B d s w1 (by omega) (by omega) HPL.out HQL.out hr1)
  clear HCK
  repeat' ((fail_if_success at_builtin); (fail_if_success at_make); (first | go_values | go_skip | go_guarded | go_step | go_upon | go_back))
  clear z0 z1 z2 z3 x0
  refine ((HCP.out)).mono ?_; rintro e_ w3 ⟨q1, q2, rfl, ho3, hb3⟩; dsimp only
  have hc3 := hb1.trans (hb3.mono hb1.size)
  have ho3 := ho3.lower (base' := w0.heap.size) hb1.size
  obtain ⟨G, hG⟩ : ∃ G, G = w3.heap.size := ⟨_, rfl⟩
  have hba := (Below.refl w3.heap.size w3).alloc (Nat.le_refl _) (.cells #[.slice (some ⟨q1, 0, none⟩) s.blobs.length s.blobs.length, .slice (some ⟨q2, 0, none⟩) s.ents.length s.ents.length, .int .i64 (s.room : Int), .int .i64 (s.clock : Int)] 26)
  have hX : Arr (w3.alloc (.cells #[.slice (some ⟨q1, 0, none⟩) s.blobs.length s.blobs.length, .slice (some ⟨q2, 0, none⟩) s.ents.length s.ents.length, .int .i64 (s.room : Int), .int .i64 (s.clock : Int)] 26)) G 26 [.slice (some ⟨q1, 0, none⟩) s.blobs.length s.blobs.length, .slice (some ⟨q2, 0, none⟩) s.ents.length s.ents.length, .int .i64 (s.room : Int), .int .i64 (s.clock : Int)] := by rw [hG]; exact Arr.new w3 26 _
  have ho : OwSt (w3.alloc (.cells #[.slice (some ⟨q1, 0, none⟩) s.blobs.length s.blobs.length, .slice (some ⟨q2, 0, none⟩) s.ents.length s.ents.length, .int .i64 (s.room : Int), .int .i64 (s.clock : Int)] 26)) w0.heap.size (.slice (some ⟨q1, 0, none⟩) s.blobs.length s.blobs.length) (.slice (some ⟨q2, 0, none⟩) s.ents.length s.ents.length) s (fun b => b < w0.heap.size ∨ b = G) :=
    (ho3.wider fun b hb => by
      rcases hb with hb | hb
      · exact .inl (Nat.lt_of_lt_of_le hb hb1.size)
      · exact .inr (by rw [hb, hG]; exact Nat.le_refl _)).below hba
  have hbk := hc3.trans (hba.mono hc3.size)
  have hGL : w0.heap.size ≤ G := by rw [hG]; exact hc3.size
  have HG := Lib.hid hG
  have x0 := (hS.below hbk).cell (k := 0) rfl
  have x2 := (hC.below hbk).cell (k := 2) rfl
  have hr4 := hr0.below hbk
  have HNX := Lib.hid (Next_ok A c s.blobs at_ _ (by omega) hr4.b)
  clear hG ho3 hb3 hr1 HCP hba hb1 hS1 hc3
  repeat' ((fail_if_success at_builtin); (fail_if_success at_make); (first | go_values | go_skip | go_guarded | go_step | go_upon | go_back))
  rw [← HG.out]
  clear x0 x2
  generalize (w3.alloc (.cells #[.slice (some ⟨q1, 0, none⟩) s.blobs.length s.blobs.length, .slice (some ⟨q2, 0, none⟩) s.ents.length s.ents.length, .int .i64 (s.room : Int), .int .i64 (s.clock : Int)] 26)) = w4 at *
  refine ((HNX.out)).mono ?_; rintro e_ w5 ⟨rfl, hb5⟩; dsimp only
  have hX := hX.below hb5
  have ho := ho.below hb5
  have hbk := hbk.trans (hb5.mono hbk.size)
  clear hb5 HNX
  rcases sStep_ways s ⟨2, grey, at_⟩ with ⟨hf, hs⟩ | ⟨i, hi, hf, hm, hs⟩ | ⟨i, hi, hf, hm, hs⟩
  · have hf' : s.blobs.findIdx? (fun b => Op.bytesLess at_ b.dig) = none := hf
    rw [hf', fndR]
    have HSS := Lib.hid hs
    have hR := hR.below hbk
    have hD := hD.below hbk
    have hB := hb0.trans (hbk.mono (show H ≤ w0.heap.size by omega))
    clear hf hf' hs hr4
    -- the end: a store ((.slice (some ⟨q1, 0, none⟩) s.blobs.length s.blobs.length), (.slice (some ⟨q2, 0, none⟩) s.ents.length s.ents.length)) and a collector (phase 0, at ⟨#[]⟩) are stored into the results' boxes; hR hD ho hB: the world as it stands
    have hF1 := Lib.hid (put7_g (g := H + 1 + 1) (h := H + 1 + 1 + 1) (u0 := (.slice (some ⟨q1, 0, none⟩) s.blobs.length s.blobs.length)) (u1 := (.slice (some ⟨q2, 0, none⟩) s.ents.length s.ents.length)) (u2 := .int .i64 (s.room : Int)) (u3 := .int .i64 (s.clock : Int)) (x0 := .int .i64 0) (x1 := .slice none 0 0) (x2 := .string ⟨#[]⟩) hR (by omega))
    have hF2 := Lib.hid (put7_h (g := H + 1 + 1) (h := H + 1 + 1 + 1) (u0 := (.slice (some ⟨q1, 0, none⟩) s.blobs.length s.blobs.length)) (u1 := (.slice (some ⟨q2, 0, none⟩) s.ents.length s.ents.length)) (u2 := .int .i64 (s.room : Int)) (u3 := .int .i64 (s.clock : Int)) (x0 := .int .i64 0) (x1 := .slice none 0 0) (x2 := .string ⟨#[]⟩) hD (by omega))
    have hF3 := Lib.hid (put7_ow (g := H + 1 + 1) (h := H + 1 + 1 + 1) (u0 := (.slice (some ⟨q1, 0, none⟩) s.blobs.length s.blobs.length)) (u1 := (.slice (some ⟨q2, 0, none⟩) s.ents.length s.ents.length)) (u2 := .int .i64 (s.room : Int)) (u3 := .int .i64 (s.clock : Int)) (x0 := .int .i64 0) (x1 := .slice none 0 0) (x2 := .string ⟨#[]⟩) ho (.inl (by omega)) (.inl (by omega)) (ho.nb hR (by decide) (by decide)).1 (ho.nb hR (by decide) (by decide)).2 (ho.nb hD (by decide) (by decide)).1 (ho.nb hD (by decide) (by decide)).2)
    have hF5 := Lib.hid (put7_below (g := H + 1 + 1) (h := H + 1 + 1 + 1) (u0 := (.slice (some ⟨q1, 0, none⟩) s.blobs.length s.blobs.length)) (u1 := (.slice (some ⟨q2, 0, none⟩) s.ents.length s.ents.length)) (u2 := .int .i64 (s.room : Int)) (u3 := .int .i64 (s.clock : Int)) (x0 := .int .i64 0) (x1 := .slice none 0 0) (x2 := .string ⟨#[]⟩) hB (by omega) (by omega))
    have f0 := hR.frozen 0
    have f1 := hR.frozen 1
    have f2 := hR.frozen 2
    have f3 := hR.frozen 3
    have y0 := hR.cell (k := 0) rfl
    have y1 := hR.cell (k := 1) rfl
    have y2 := hR.cell (k := 2) rfl
    have y3 := hR.cell (k := 3) rfl
    have e0 := hD.frozen 0
    have e1 := hD.frozen 1
    have e2 := hD.frozen 2
    have x0 := hD.cell (k := 0) rfl
    have x1 := hD.cell (k := 1) rfl
    have x2 := hD.cell (k := 2) rfl
    have b0 := hX.cell (k := 0) rfl
    have b1 := hX.cell (k := 1) rfl
    have b2 := hX.cell (k := 2) rfl
    have b3 := hX.cell (k := 3) rfl
    clear hR hD ho hB hX hbk hb0 hS hC
    repeat' ((fail_if_success at_builtin); (fail_if_success at_make); (first | go_values | go_skip | go_guarded | go_step | go_upon | go_back))
    refine bodyPost_ret (res_cell2_tmp2 rfl _ _ (H + 1 + 1) (H + 1 + 1 + 1) _ _ _ _ _ _ _ _ (by rfl) hF1.out Tryz.underlying26 rfl (by kernel_rfl) (by rfl) hF2.out Tryz.underlying60 rfl (by kernel_rfl)) rfl ?_
    rw [HSS.out]
    exact ⟨_, _, rfl, (hF3.out.lower (by omega)).mono (fun b hb => .inl (by omega)), hF5.out⟩
  · have hf' : s.blobs.findIdx? (fun b => Op.bytesLess at_ b.dig) = some i := hf
    rw [hf', fndR]
    have HSS := Lib.hid hs
    obtain ⟨bq, oq, Bq, cq, eq, hbq, d0, d1, d2, d3, hsl⟩ := (hr0.below hbk).b.blob_at i hi
    subst eq
    have hi0 : (0 : Int) ≤ (i : Int) := by omega
    have hi1 : (i : Int) < (s.blobs.length : Int) := by omega
    have hdg : s.blobs[i].dig = s.blobs[i].dig := rfl
    rw [hm] at d3
    have z0 := (hS.below hbk).cell (k := 0) rfl
    generalize hqq : s.blobs[i] = q at *
    obtain ⟨gb, hgb⟩ : ∃ g, g = w5.heap.size := ⟨_, rfl⟩
    have hba := (Below.refl w5.heap.size w5).alloc (Nat.le_refl _) (.cells #[.string ⟨q.dig.toArray⟩, .slice Bq q.data.length cq, .int .i64 (q.pins : Int), .bool true] 51)
    have hbb : Arr (w5.alloc (.cells #[.string ⟨q.dig.toArray⟩, .slice Bq q.data.length cq, .int .i64 (q.pins : Int), .bool true] 51)) gb 51 [.string ⟨q.dig.toArray⟩, .slice Bq q.data.length cq, .int .i64 (q.pins : Int), .bool true] := by rw [hgb]; exact Arr.new w5 51 _
    have hgb5 : w0.heap.size ≤ gb := by rw [hgb]; exact hbk.size
    have hX := hX.below hba
    have ho := ho.below hba
    have hbk := hbk.trans (hba.mono hbk.size)
    have hR := hR.below hbk
    have hD := hD.below hbk
    have hB := hb0.trans (hbk.mono (show H ≤ w0.heap.size by omega))
    have HGB := Lib.hid hgb
    have p0 := hbb.cell (k := 0) rfl
    have p3 := hbb.cell (k := 3) rfl
    rw [hgb] at p0 p3
    clear hf hf' hs hr4 hsl hbq hdg hgb hba hm hqq hbb
    repeat' ((fail_if_success (with_reducible refine at_reg_ 12 ?_)); (fail_if_success (with_reducible refine at_sreg_ 12 ?_)); (fail_if_success (with_reducible refine at_ssreg_ 12 ?_)); (fail_if_success at_builtin); (fail_if_success at_make); (first | go_values | go_skip | go_guarded | go_step | go_upon | go_back))
    rw [← HGB.out]
    rw [← HGB.out] at p0 p3
    clear d0 d1 d2 d3 z0
    generalize (w5.alloc (.cells #[.string ⟨q.dig.toArray⟩, .slice Bq q.data.length cq, .int .i64 (q.pins : Int), .bool true] 51)) = w6 at *
    have n1 : ¬ (gb = H + 1 + 1) := by omega
    have n2 : ¬ (G = H + 1 + 1) := by omega
    -- the end: a store ((.slice (some ⟨q1, 0, none⟩) s.blobs.length s.blobs.length), (.slice (some ⟨q2, 0, none⟩) s.ents.length s.ents.length)) and a collector (phase 2, at ⟨q.dig.toArray⟩) are stored into the results' boxes; hR hD ho hB: the world as it stands
    have hF1 := Lib.hid (put7_g (g := H + 1 + 1) (h := H + 1 + 1 + 1) (u0 := (.slice (some ⟨q1, 0, none⟩) s.blobs.length s.blobs.length)) (u1 := (.slice (some ⟨q2, 0, none⟩) s.ents.length s.ents.length)) (u2 := .int .i64 (s.room : Int)) (u3 := .int .i64 (s.clock : Int)) (x0 := .int .i64 2) (x1 := .slice none 0 0) (x2 := .string ⟨q.dig.toArray⟩) hR (by omega))
    have hF2 := Lib.hid (put7_h (g := H + 1 + 1) (h := H + 1 + 1 + 1) (u0 := (.slice (some ⟨q1, 0, none⟩) s.blobs.length s.blobs.length)) (u1 := (.slice (some ⟨q2, 0, none⟩) s.ents.length s.ents.length)) (u2 := .int .i64 (s.room : Int)) (u3 := .int .i64 (s.clock : Int)) (x0 := .int .i64 2) (x1 := .slice none 0 0) (x2 := .string ⟨q.dig.toArray⟩) hD (by omega))
    have hF3 := Lib.hid (put7_ow (g := H + 1 + 1) (h := H + 1 + 1 + 1) (u0 := (.slice (some ⟨q1, 0, none⟩) s.blobs.length s.blobs.length)) (u1 := (.slice (some ⟨q2, 0, none⟩) s.ents.length s.ents.length)) (u2 := .int .i64 (s.room : Int)) (u3 := .int .i64 (s.clock : Int)) (x0 := .int .i64 2) (x1 := .slice none 0 0) (x2 := .string ⟨q.dig.toArray⟩) ho (.inl (by omega)) (.inl (by omega)) (ho.nb hR (by decide) (by decide)).1 (ho.nb hR (by decide) (by decide)).2 (ho.nb hD (by decide) (by decide)).1 (ho.nb hD (by decide) (by decide)).2)
    have hF5 := Lib.hid (put7_below (g := H + 1 + 1) (h := H + 1 + 1 + 1) (u0 := (.slice (some ⟨q1, 0, none⟩) s.blobs.length s.blobs.length)) (u1 := (.slice (some ⟨q2, 0, none⟩) s.ents.length s.ents.length)) (u2 := .int .i64 (s.room : Int)) (u3 := .int .i64 (s.clock : Int)) (x0 := .int .i64 2) (x1 := .slice none 0 0) (x2 := .string ⟨q.dig.toArray⟩) hB (by omega) (by omega))
    have f0 := hR.frozen 0
    have f1 := hR.frozen 1
    have f2 := hR.frozen 2
    have f3 := hR.frozen 3
    have y0 := hR.cell (k := 0) rfl
    have y1 := hR.cell (k := 1) rfl
    have y2 := hR.cell (k := 2) rfl
    have y3 := hR.cell (k := 3) rfl
    have e0 := hD.frozen 0
    have e1 := hD.frozen 1
    have e2 := hD.frozen 2
    have x0 := hD.cell (k := 0) rfl
    have x1 := hD.cell (k := 1) rfl
    have x2 := hD.cell (k := 2) rfl
    have b0 := hX.cell (k := 0) rfl
    have b1 := hX.cell (k := 1) rfl
    have b2 := hX.cell (k := 2) rfl
    have b3 := hX.cell (k := 3) rfl
    clear hR hD ho hB hX hbk hb0 hS hC
    go_region
    all_goals (try dsimp only [Exit.then])
    repeat' ((fail_if_success at_builtin); (fail_if_success at_make); (first | go_values | go_skip | go_guarded | go_step | go_upon | go_back))
    refine bodyPost_ret (res_cell2_tmp2 rfl _ _ (H + 1 + 1) (H + 1 + 1 + 1) _ _ _ _ _ _ _ _ (by rfl) (Arr.drew hF1.out) Tryz.underlying26 rfl (by kernel_rfl) (by rfl) (Arr.drew hF2.out) Tryz.underlying60 rfl (by kernel_rfl)) rfl ?_
    rw [HSS.out]
    exact ⟨_, _, rfl, (hF3.out.drewX.lower (by omega)).mono (fun b hb => .inl (by omega)), hF5.out.drew⟩
  · have hf' : s.blobs.findIdx? (fun b => Op.bytesLess at_ b.dig) = some i := hf
    rw [hf', fndR]
    have HSS := Lib.hid hs
    have hn := lost_not HGD.out hi hm HSW.out
    have HPZ := Lib.hid (lost_pins HGD.out hi hn)
    have HGE := Lib.hid (lost_good HGD.out hi hn)
    obtain ⟨bq, oq, Bq, cq, eq, hbq, d0, d1, d2, d3, hsl⟩ := (hr0.below hbk).b.blob_at i hi
    subst eq
    have hi0 : (0 : Int) ≤ (i : Int) := by omega
    have hi1 : (i : Int) < (s.blobs.length : Int) := by omega
    rw [hm] at d3
    have z0 := (hS.below hbk).cell (k := 0) rfl
    generalize hqq : s.blobs[i] = q at *
    obtain ⟨gb, hgb⟩ : ∃ g, g = w5.heap.size := ⟨_, rfl⟩
    have hba := (Below.refl w5.heap.size w5).alloc (Nat.le_refl _) (.cells #[.string ⟨q.dig.toArray⟩, .slice Bq q.data.length cq, .int .i64 (q.pins : Int), .bool false] 51)
    have hbb : Arr (w5.alloc (.cells #[.string ⟨q.dig.toArray⟩, .slice Bq q.data.length cq, .int .i64 (q.pins : Int), .bool false] 51)) gb 51 [.string ⟨q.dig.toArray⟩, .slice Bq q.data.length cq, .int .i64 (q.pins : Int), .bool false] := by rw [hgb]; exact Arr.new w5 51 _
    have hgb5 : w0.heap.size ≤ gb := by rw [hgb]; exact hbk.size
    have hnq : q1 ≠ gb := fun e => by have h := (ho.b.rwo.blk rfl).2; rw [hgb] at e; exact absurd (e ▸ h) (Nat.lt_irrefl _)
    have xx0 := hX.cell (k := 0) rfl
    have hGlt := hX.lt
    have hX := hX.below hba
    have ho := ho.below hba
    have hbk := hbk.trans (hba.mono hbk.size)
    have p3 := hbb.cell (k := 3) rfl
    rw [hgb] at p3
    have x0 := hX.cell (k := 0) rfl
    have hw1 : IntKind.i64.wrap ((i : Int) + 1) = (i : Int) + 1 := IntWalk.i64_in _ (by omega)
    have HDL := Lib.hid (DelB_ok q1 i s.blobs w0.heap.size s.blobs.length _ _ hi ho.b)
    have HGB := Lib.hid hgb
    clear hf hf' hs hr4 hsl hbq hba hm hqq hgb
    repeat' ((fail_if_success at_builtin); (fail_if_success at_make); (first | go_values | go_skip | go_guarded | go_step | go_upon | go_back))
    rw [← HGB.out]
    clear d0 d1 d2 d3 z0 p3 x0 xx0
    generalize (w5.alloc (.cells #[.string ⟨q.dig.toArray⟩, .slice Bq q.data.length cq, .int .i64 (q.pins : Int), .bool false] 51)) = w6 at *
    refine ((HDL.out)).mono ?_; rintro e_ w7 ⟨rfl, hx7, hg7⟩; dsimp only
    have hne := (ho.nb hX (by decide) (by decide)).1
    have hne2 := (ho.nb hX (by decide) (by decide)).2
    have ho7 := ho.turnB hx7 hg7 rfl
    have hX7 := hX.grown hg7 hne
    have hbb7 := hbb.grown hg7 (fun e => by injection e with e; exact hnq e)
    have hbk7 := hbk.grown hg7 hbk.size (fun b e => by cases e; exact (ho.b.rwo.blk rfl).1)
    have f0 := hX7.frozen 0
    have x0 := hX7.cell (k := 0) rfl
    have hX := hX7.set (k := 0) (by simp) (.slice (some ⟨q1, 0, none⟩) (s.blobs.eraseIdx i).length s.blobs.length)
    have ho := ho7.setX (g := G) (k := 0) (.inr rfl) hne hne2 (.slice (some ⟨q1, 0, none⟩) (s.blobs.eraseIdx i).length s.blobs.length)
    have hbb := hbb7.other (k := 0) (show gb ≠ G from arr_ne hbb7 hX7 (by decide)) (.slice (some ⟨q1, 0, none⟩) (s.blobs.eraseIdx i).length s.blobs.length)
    have hbk := hbk7.setCell (p := ⟨G, 0, none⟩) hGL (.slice (some ⟨q1, 0, none⟩) (s.blobs.eraseIdx i).length s.blobs.length)
    simp only [List.set_cons_zero] at hX
    have g1 : decide ((q.pins : Int) > 0) = false := decide_eq_false (by have := HPZ.out; omega)
    have g2 : decide ((0 : Int) < (q.pins : Int)) = false := decide_eq_false (by have := HPZ.out; omega)
    have g3 : decide (0 < q.pins) = false := decide_eq_false (by have := HPZ.out; omega)
    have p2 := hbb.cell (k := 2) rfl
    have x1 := hX7.cell (k := 1) rfl
    have x2 := hX7.cell (k := 2) rfl
    have x3 := hX7.cell (k := 3) rfl
    obtain ⟨A9, c9, B9, d9, e1, e2, hrd9⟩ := ho.rows
    injection e1 with e11 e12 e13
    injection e2 with e21 e22 e23
    subst e11 e13 e21 e23
    clear e12 e22
    have hck := CheckS_ok (some ⟨q1, 0, none⟩) s.blobs.length (some ⟨q2, 0, none⟩) s.ents.length { s with blobs := s.blobs.eraseIdx i } _ HGE.out hrd9
    have HCK := Lib.hid hck
    have p0 := hbb.cell (k := 0) rfl
    clear hx7 hg7 hne hne2 ho7 hX7 hbb7 hbk7 hck hrd9 HDL
    repeat' ((fail_if_success at_builtin); (fail_if_success at_make); (first | go_values | go_skip | go_guarded | go_step | go_upon | go_back))
    clear f0 x0 x1 x2 x3 p2 p0
    generalize (w7.setCell ⟨G, 0, none⟩ (.slice (some ⟨q1, 0, none⟩) (s.blobs.eraseIdx i).length s.blobs.length)) = w8 at *
    refine ((HCK.out)).mono ?_; rintro e_ w9 ⟨rfl, hb9⟩; dsimp only
    have hX := hX.below hb9
    have ho := ho.below hb9
    have hbb := hbb.below hb9
    have hbk := hbk.trans (hb9.mono hbk.size)
    have hR := hR.below hbk
    have hD := hD.below hbk
    have hB := hb0.trans (hbk.mono (show H ≤ w0.heap.size by omega))
    have p0 := hbb.cell (k := 0) rfl
    have n1 : ¬ (gb = H + 1 + 1) := by omega
    have n2 : ¬ (G = H + 1 + 1) := by omega
    clear hb9 hbb HCK
    repeat' ((fail_if_success (with_reducible refine at_reg_ 16 ?_)); (fail_if_success (with_reducible refine at_sreg_ 16 ?_)); (fail_if_success (with_reducible refine at_ssreg_ 16 ?_)); (fail_if_success at_builtin); (fail_if_success at_make); (first | go_values | go_skip | go_guarded | go_step | go_upon | go_back))
    -- the end: a store ((.slice (some ⟨q1, 0, none⟩) (s.blobs.eraseIdx i).length s.blobs.length), (.slice (some ⟨q2, 0, none⟩) s.ents.length s.ents.length)) and a collector (phase 2, at ⟨q.dig.toArray⟩) are stored into the results' boxes; hR hD ho hB: the world as it stands
    have hF1 := Lib.hid (put7_g (g := H + 1 + 1) (h := H + 1 + 1 + 1) (u0 := (.slice (some ⟨q1, 0, none⟩) (s.blobs.eraseIdx i).length s.blobs.length)) (u1 := (.slice (some ⟨q2, 0, none⟩) s.ents.length s.ents.length)) (u2 := .int .i64 (s.room : Int)) (u3 := .int .i64 (s.clock : Int)) (x0 := .int .i64 2) (x1 := .slice none 0 0) (x2 := .string ⟨q.dig.toArray⟩) hR (by omega))
    have hF2 := Lib.hid (put7_h (g := H + 1 + 1) (h := H + 1 + 1 + 1) (u0 := (.slice (some ⟨q1, 0, none⟩) (s.blobs.eraseIdx i).length s.blobs.length)) (u1 := (.slice (some ⟨q2, 0, none⟩) s.ents.length s.ents.length)) (u2 := .int .i64 (s.room : Int)) (u3 := .int .i64 (s.clock : Int)) (x0 := .int .i64 2) (x1 := .slice none 0 0) (x2 := .string ⟨q.dig.toArray⟩) hD (by omega))
    have hF3 := Lib.hid (put7_ow (g := H + 1 + 1) (h := H + 1 + 1 + 1) (u0 := (.slice (some ⟨q1, 0, none⟩) (s.blobs.eraseIdx i).length s.blobs.length)) (u1 := (.slice (some ⟨q2, 0, none⟩) s.ents.length s.ents.length)) (u2 := .int .i64 (s.room : Int)) (u3 := .int .i64 (s.clock : Int)) (x0 := .int .i64 2) (x1 := .slice none 0 0) (x2 := .string ⟨q.dig.toArray⟩) ho (.inl (by omega)) (.inl (by omega)) (ho.nb hR (by decide) (by decide)).1 (ho.nb hR (by decide) (by decide)).2 (ho.nb hD (by decide) (by decide)).1 (ho.nb hD (by decide) (by decide)).2)
    have hF5 := Lib.hid (put7_below (g := H + 1 + 1) (h := H + 1 + 1 + 1) (u0 := (.slice (some ⟨q1, 0, none⟩) (s.blobs.eraseIdx i).length s.blobs.length)) (u1 := (.slice (some ⟨q2, 0, none⟩) s.ents.length s.ents.length)) (u2 := .int .i64 (s.room : Int)) (u3 := .int .i64 (s.clock : Int)) (x0 := .int .i64 2) (x1 := .slice none 0 0) (x2 := .string ⟨q.dig.toArray⟩) hB (by omega) (by omega))
    have f0 := hR.frozen 0
    have f1 := hR.frozen 1
    have f2 := hR.frozen 2
    have f3 := hR.frozen 3
    have y0 := hR.cell (k := 0) rfl
    have y1 := hR.cell (k := 1) rfl
    have y2 := hR.cell (k := 2) rfl
    have y3 := hR.cell (k := 3) rfl
    have e0 := hD.frozen 0
    have e1 := hD.frozen 1
    have e2 := hD.frozen 2
    have x0 := hD.cell (k := 0) rfl
    have x1 := hD.cell (k := 1) rfl
    have x2 := hD.cell (k := 2) rfl
    have b0 := hX.cell (k := 0) rfl
    have b1 := hX.cell (k := 1) rfl
    have b2 := hX.cell (k := 2) rfl
    have b3 := hX.cell (k := 3) rfl
    clear hR hD ho hB hX hbk hb0 hS hC
    go_region
    all_goals (try dsimp only [Exit.then])
    repeat' ((fail_if_success at_builtin); (fail_if_success at_make); (first | go_values | go_skip | go_guarded | go_step | go_upon | go_back))
    refine bodyPost_ret (res_cell2_tmp2 rfl _ _ (H + 1 + 1) (H + 1 + 1 + 1) _ _ _ _ _ _ _ _ (by rfl) (Arr.drew hF1.out) Tryz.underlying26 rfl (by kernel_rfl) (by rfl) (Arr.drew hF2.out) Tryz.underlying60 rfl (by kernel_rfl)) rfl ?_
    rw [HSS.out]
    exact ⟨_, _, rfl, (hF3.out.drewX.lower (by omega)).mono (fun b hb => .inl (by omega)), hF5.out.drew⟩
end Go.Proofs.YtmjcoebfldmgnaaGreat
