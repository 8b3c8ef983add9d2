/- Lemmas of the proof. Conditions: as stated. -/
import Derived.Test.YtpbacomdoddhdaaGreatQK35
set_option linter.unusedVariables false
set_option linter.unusedSimpArgs false
set_option maxRecDepth 100000
namespace Go.Proofs.YtpbacomdoddhdaaGreat
open Go.RowKit Go.Maps
theorem xj {w : World} {g k : Nat} {e : TypeId} {xs : List Value} (u0 u1 u2 u3 : Value) (hA : Arr w k e xs) (h1 : k ≠ g) : Arr (Z9 w g u0 u1 u2 u3) k e xs :=
 (((hA.other h1 u0).other h1 u1).other h1 u2).other h1 u3
set_option maxHeartbeats 16000000 in
theorem jN (A : Option Addr) (c : Nat) (B : Option Addr) (d : Nat) (s : StoP) (Ag : Option Addr) (ng : Nat) (cp : ColP) (D : List UInt8) (DA : Option Addr) (dc : Nat) (w : World) (hg : GoodS s) (hr : RdSt w A c B d s) (hgl : cp.grey.length ≤ 1000) (hgc : GoodC s cp) (hc : RdC w Ag ng cp) (hf : Fits s D) (hD : Sl w 1 DA D.length dc (bys D)) :
  Calls Tryz.prog 22 #[.agg #[.slice A s.blobs.length c, .slice B s.ents.length d, .int .i64 (s.room : Int), .int .i64 (s.clock : Int)], coV (.slice Ag cp.grey.length ng) cp, .slice DA D.length dc] w fun e w' =>
   ∃ v1 v2 v3, e = .returned (.tuple #[stV v1 v2 s, coV v3 (zm (zp s D) cp [shaS D]).2, .string ⟨(shaS D).toArray⟩, .int .i64 0]) ∧ OwSt w' w.heap.size v1 v2 (zm (zp s D) cp [shaS D]).1 (fun b => b < w.heap.size) ∧ w'.ownsRow w.heap.size 9 1 v3 (zm (zp s D) cp [shaS D]).2.grey.length (strs (zm (zp s D) cp [shaS D]).2.grey) ∧ Below w.heap.size w w' := by
 have HPB := Lib.hid (fun W (h1 : RdSt W A c B d s) (h2 : Sl W 1 DA D.length dc (bys D)) => Z2 A c B d s D DA dc W hf h1 h2)
 have hlb : s.blobs.length ≤ 24 := hg.b.len
 have hle : s.ents.length ≤ 10 := hg.e.len
 obtain ⟨phase, grey, at_⟩ := cp
 simp only at hgl
 obtain ⟨w0, hw0, hS, hC, hR, hQ, hbx⟩ := zT w 26 29 [.slice A s.blobs.length c, .slice B s.ents.length d, .int .i64 (s.room : Int), .int .i64 (s.clock : Int)] [.int .i64 (phase : Int), .slice Ag grey.length ng, .string ⟨at_.toArray⟩] [.slice none 0 0, .slice none 0 0, .int .i64 0, .int .i64 0] [.int .i64 0, .slice none 0 0, .string ⟨#[]⟩]
 have hr0 := hr.below hbx
 have hc0 := hc.below hbx
 obtain ⟨H, hH⟩ : ∃ H, H = w.heap.size := ⟨_, rfl⟩
 have HCK := Lib.hid (qy A c B d s Ag ng ⟨phase, grey, at_⟩ w0 hg hr0 (by show grey.length ≤ 1000; omega) hgc hc0)
 rw [← hH] at hS hC hR hQ hbx ⊢
 have hHl : H + 1 + 1 + 1 < w0.heap.size := hQ.lt
 have HSX := Lib.hid (show ∀ W, Below w0.heap.size w0 W → Arr W H 26 [.slice A s.blobs.length c, .slice B s.ents.length d, .int .i64 (s.room : Int), .int .i64 (s.clock : Int)] ∧ Arr W (H + 1) 29 [.int .i64 (phase : Int), .slice Ag grey.length ng, .string ⟨at_.toArray⟩] ∧ Arr W (H + 2) 26 [.slice none 0 0, .slice none 0 0, .int .i64 0, .int .i64 0] ∧ Arr W (H + 3) 29 [.int .i64 0, .slice none 0 0, .string ⟨#[]⟩] ∧ RdC W Ag ng ⟨phase, grey, at_⟩ from fun W h => ⟨hS.below h, hC.below h, hR.below h, hQ.below h, hc0.below h⟩)
 have HBX := Lib.hid hbx
 have HR0 := Lib.hid hr0
 have HG := Lib.hid hg
 have HGC := Lib.hid hgc
 have x0 := hS.cell (k := 0) rfl
 have x1 := hS.cell (k := 1) rfl
 have x2 := hS.cell (k := 2) rfl
 have x3 := hS.cell (k := 3) rfl
 have y0 := hC.cell (k := 0) rfl
 have y1 := hC.cell (k := 1) rfl
 have y2 := hC.cell (k := 2) rfl
 rw [hw0, hH] at x0 x1 x2 x3 y0 y1 y2
 clear hg hr hgc hc hr0 hc0 hS hC hR hQ hbx
 go_enter Tryz.func22, Tryz.ntmps22
 go_wp2_with fail
 rw [← hw0, ← hH]
 have HH := Lib.hid hH
 clear hH hw0
 clear x0 x1 x2 x3 y0 y1 y2
 refine ((HCK.out)).mono ?_; rintro e_ w1 ⟨rfl, hb1⟩; dsimp only
 have x0 := (HSX.out _ hb1).1.cell (k := 0) rfl
 have x1 := (HSX.out _ hb1).1.cell (k := 1) rfl
 have x2 := (HSX.out _ hb1).1.cell (k := 2) rfl
 have x3 := (HSX.out _ hb1).1.cell (k := 3) rfl
 clear HCK
 have hbw1 := HBX.out.trans (hb1.mono (show H ≤ w0.heap.size by omega))
 have HPB1 := Lib.hid (HPB.out w1 (HR0.out.below hb1) (hD.below (by rw [← HH.out]; exact hbw1)))
 have htg := Lib.hid hf.good
 have HRM := Lib.hid (show (zp s D).room = s.room ∧ (zp s D).clock = s.clock from ⟨rfl, rfl⟩)
 clear hD HPB HR0 hf
 go_wp2_with fail
 clear x0 x1 x2 x3
 refine ((HPB1.out)).mono ?_; rintro e_ w2 ⟨A2, c2, B2, d2, rfl, ho2, hb2⟩; dsimp only
 clear HPB1
 have hb12 := hb1.trans (hb2.mono hb1.size)
 have hs1 := hb1.size
 have hs2 := hb2.size
 obtain ⟨W3, hW3⟩ : ∃ W, W = w2.alloc (.cells #[.slice A2 ((zp s D)).blobs.length c2, .slice B2 ((zp s D)).ents.length d2, .int .i64 (s.room : Int), .int .i64 (s.clock : Int)] 26) := ⟨_, rfl⟩
 have hG3 : Arr W3 w2.heap.size 26 [.slice A2 ((zp s D)).blobs.length c2, .slice B2 ((zp s D)).ents.length d2, .int .i64 (s.room : Int), .int .i64 (s.clock : Int)] := by rw [hW3]; exact Arr.new w2 26 _
 have hb3 : Below w2.heap.size w2 W3 := by rw [hW3]; exact (Below.refl w2.heap.size w2).alloc (Nat.le_refl _) _
 have hC3 := (HSX.out _ (hb12.trans (hb3.mono hb12.size))).2.1
 obtain ⟨W4, hW4, hG, hE, hb4⟩ := qu w2 26 9 [.slice A2 ((zp s D)).blobs.length c2, .slice B2 ((zp s D)).ents.length d2, .int .i64 (s.room : Int), .int .i64 (s.clock : Int)] [.string ⟨(shaS D).toArray⟩]
 have hb14 := hb12.trans (hb4.mono hb12.size)
 obtain ⟨g2, hg2⟩ : ∃ g, g = w2.heap.size := ⟨_, rfl⟩
 rw [← hg2] at hG hE
 have ho4 := (ho2.wider (N' := fun b => b < w1.heap.size ∨ b = g2) (fun b hb => hb.imp id (fun h => by omega))).below hb4
 have hE1 := hE.lt
 have hxr : Rd W4 1 (some ⟨g2 + 1, 0, none⟩) [shaS D].length (strs [shaS D]) := Rd.of_arr hE rfl rfl
 have HKE := Lib.hid (show Calls Tryz.prog 85 #[.agg #[.slice A2 ((zp s D)).blobs.length c2, .slice B2 ((zp s D)).ents.length d2, .int .i64 (s.room : Int), .int .i64 (s.clock : Int)], coV (.slice Ag grey.length ng) ⟨phase, grey, at_⟩, .slice (some ⟨g2 + 1, 0, none⟩) 1 1] W4 fun e w' => ∃ v1 v3, e = .returned (.tuple #[stV v1 (.slice B2 ((zp s D)).ents.length d2) s, coV v3 (zm ((zp s D)) ⟨phase, grey, at_⟩ [shaS D]).2]) ∧ OwSt w' w1.heap.size v1 (.slice B2 ((zp s D)).ents.length d2) (zm ((zp s D)) ⟨phase, grey, at_⟩ [shaS D]).1 (fun b => b < w1.heap.size ∨ b = g2) ∧ w'.ownsRow W4.heap.size 9 1 v3 (zm ((zp s D)) ⟨phase, grey, at_⟩ [shaS D]).2.grey.length (strs (zm ((zp s D)) ⟨phase, grey, at_⟩ [shaS D]).2.grey) ∧ Below W4.heap.size W4 w' from by
  have h := jF A2 c2 B2 d2 ((zp s D)) Ag ng ⟨phase, grey, at_⟩ (some ⟨g2 + 1, 0, none⟩) 1 [shaS D] w1.heap.size (fun b => b < w1.heap.size ∨ b = g2) W4 htg.out ho4 (by have := hb4.size; omega) (fun b hb => by omega) (by show grey.length ≤ 2000; omega) HGC.out.ph ((HSX.out _ hb14).2.2.2.2) (by simp) (by simp) hxr
  simp only [stV] at h ⊢
  rw [HRM.out.1, HRM.out.2] at h
  exact h)
 have HK4 := Lib.hid (show ∀ W, Below W4.heap.size W4 W → Arr W g2 26 [.slice A2 ((zp s D)).blobs.length c2, .slice B2 ((zp s D)).ents.length d2, .int .i64 (s.room : Int), .int .i64 (s.clock : Int)] ∧ Arr W (H + 2) 26 [.slice none 0 0, .slice none 0 0, .int .i64 0, .int .i64 0] ∧ Arr W (H + 3) 29 [.int .i64 0, .slice none 0 0, .string ⟨#[]⟩] ∧ Below H w W from fun W h => ⟨hG.below h, (HSX.out _ (hb14.trans (h.mono hb14.size))).2.2.1, (HSX.out _ (hb14.trans (h.mono hb14.size))).2.2.2.1, HBX.out.trans ((hb14.trans (h.mono hb14.size)).mono (show H ≤ w0.heap.size by omega))⟩)
 have y0 := hC3.cell (k := 0) rfl
 have y1 := hC3.cell (k := 1) rfl
 have y2 := hC3.cell (k := 2) rfl
 have x0 := hG3.cell (k := 0) rfl
 have x1 := hG3.cell (k := 1) rfl
 have x2 := hG3.cell (k := 2) rfl
 have x3 := hG3.cell (k := 3) rfl
 have HW4 := Lib.hid hW4
 have HG2 := Lib.hid hg2
 rw [hW3] at x0 x1 x2 x3 y0 y1 y2
 generalize hkp : zm ((zp s D)) ⟨phase, grey, at_⟩ [shaS D] = KP at *
 have HKP := Lib.hid hkp
 clear hkp
 have hw4 : w0.heap.size ≤ W4.heap.size := hb14.size
 have hg24 : w0.heap.size ≤ g2 := by omega
 clear hG3 hC3 hb3 hW3 hG hE hb1 hb12 hb14 hbw1 hb2 hb4 ho2 ho4 hW4 hg2 hxr
 go_wp2_with fail
 rw [← HW4.out, ← HG2.out]
 clear x0 x1 x2 x3 y0 y1 y2
 refine ((HKE.out)).mono ?_; rintro e_ w5 ⟨v1, v3, rfl, ho5, hl5, hb5⟩; dsimp only
 obtain ⟨hG5, hR5, hQ5, hB5⟩ := HK4.out _ hb5
 obtain ⟨A5, c5, _, _, e1, -, -⟩ := ho5.rows
 obtain ⟨A6, c6, e2, -, -⟩ := Rd.of_own' hl5
 generalize KP.1.blobs.length = n5 at e1
 subst e1 e2
 have hne := ho5.nb hG5 (by decide) (by decide)
 have hlt5 : g2 < w5.heap.size := hG5.lt
 have hrg : H + 2 ≠ g2 := by omega
 have hqg : H + 3 ≠ g2 := by omega
 have hS6 := hG5.all4 (.slice A5 n5 c5) (.slice B2 ((zp s D)).ents.length d2) (.int .i64 (s.room : Int)) (.int .i64 (s.clock : Int))
 have ho6 := ho5.set4N (g := g2) (.inr rfl) hne.1 hne.2 (.slice A5 n5 c5) (.slice B2 ((zp s D)).ents.length d2) (.int .i64 (s.room : Int)) (.int .i64 (s.clock : Int))
 have hl6 := q8 hl5 (zd hl5 hG5 (by decide)) (.slice A5 n5 c5) (.slice B2 ((zp s D)).ents.length d2) (.int .i64 (s.room : Int)) (.int .i64 (s.clock : Int))
 have hR6 := xj (g := g2) (.slice A5 n5 c5) (.slice B2 ((zp s D)).ents.length d2) (.int .i64 (s.room : Int)) (.int .i64 (s.clock : Int)) hR5 hrg
 have hQ6 := xj (g := g2) (.slice A5 n5 c5) (.slice B2 ((zp s D)).ents.length d2) (.int .i64 (s.room : Int)) (.int .i64 (s.clock : Int)) hQ5 hqg
 have hB6 := (((hB5.setCell (p := ⟨g2, 0, none⟩) (show H ≤ g2 by omega) (.slice A5 n5 c5)).setCell (p := ⟨g2, 1, none⟩) (show H ≤ g2 by omega) (.slice B2 ((zp s D)).ents.length d2)).setCell (p := ⟨g2, 2, none⟩) (show H ≤ g2 by omega) (.int .i64 (s.room : Int))).setCell (p := ⟨g2, 3, none⟩) (show H ≤ g2 by omega) (.int .i64 (s.clock : Int))
 have hsz : (Z9 w5 g2 (.slice A5 n5 c5) (.slice B2 ((zp s D)).ents.length d2) (.int .i64 (s.room : Int)) (.int .i64 (s.clock : Int))).heap.size = w5.heap.size := by simp
 have h14 := Arr.new (Z9 w5 g2 (.slice A5 n5 c5) (.slice B2 ((zp s D)).ents.length d2) (.int .i64 (s.room : Int)) (.int .i64 (s.clock : Int))) 29 [.int .i64 (KP.2.phase : Int), .slice A6 KP.2.grey.length c6, .string ⟨KP.2.at_.toArray⟩]
 have hal := (Below.refl (Z9 w5 g2 (.slice A5 n5 c5) (.slice B2 ((zp s D)).ents.length d2) (.int .i64 (s.room : Int)) (.int .i64 (s.clock : Int))).heap.size (Z9 w5 g2 (.slice A5 n5 c5) (.slice B2 ((zp s D)).ents.length d2) (.int .i64 (s.room : Int)) (.int .i64 (s.clock : Int)))).alloc (Nat.le_refl _) (.cells #[.int .i64 (KP.2.phase : Int), .slice A6 KP.2.grey.length c6, .string ⟨KP.2.at_.toArray⟩] 29)
 have hS7 := hS6.below hal
 have ho7 := ho6.below hal
 have hl7 := z8 hl6 hal
 have hR7 := hR6.below hal
 have hQ7 := hQ6.below hal
 have hB7 := hB6.trans (hal.mono (show H ≤ _ by rw [hsz]; omega))
 rw [hsz] at h14
 have HX := Lib.hid (And.intro hS7 (And.intro ho7 (And.intro hl7 (And.intro hR7 (And.intro hQ7 (And.intro hB7 h14))))))
 have z0 := hG5.cell (k := 0) rfl
 have z1 := hG5.cell (k := 1) rfl
 have z2 := hG5.cell (k := 2) rfl
 have z3 := hG5.cell (k := 3) rfl
 have f0 := hG5.frozen 0
 have f1 := hG5.frozen 1
 have f2 := hG5.frozen 2
 have f3 := hG5.frozen 3
 have hw45 := hb5.size
 clear hS6 ho6 hl6 hR6 hQ6 hB6 h14 hal hS7 ho7 hl7 hR7 hQ7 hB7 hG5 hR5 hQ5 hB5 ho5 hl5 hb5 hne hsz
 repeat' ((fail_if_success (with_reducible refine at_reg_ 8 ?_)); (fail_if_success (with_reducible refine at_sreg_ 8 ?_)); (fail_if_success (with_reducible refine at_ssreg_ 8 ?_)); (fail_if_success at_builtin); (fail_if_success at_make); (first | go_values | go_skip | go_guarded | go_step | go_upon | go_back))
 clear z0 z1 z2 z3 f0 f1 f2 f3
 obtain ⟨hS, ho, hl, hR, hQ, hB, h14⟩ := HX.out
 clear HX HK4 HKE
 generalize (Z9 w5 g2 (.slice A5 n5 c5) (.slice B2 ((zp s D)).ents.length d2) (.int .i64 (s.room : Int)) (.int .i64 (s.clock : Int))).alloc (.cells #[.int .i64 (KP.2.phase : Int), .slice A6 KP.2.grey.length c6, .string ⟨KP.2.at_.toArray⟩] 29) = w7 at *
 generalize w5.heap.size = g7 at *
 have hHg : H + 2 ≠ H + 3 := by omega
 have ho' := (ho.lower (base' := H) (by omega)).mono (N' := fun b => b < w1.heap.size) (fun b hb => .inl hb)
 have HF1 := Lib.hid (zW (g := H + 2) (h := H + 3) (u0 := .slice A5 n5 c5) (u1 := .slice B2 ((zp s D)).ents.length d2) (u2 := .int .i64 (s.room : Int)) (u3 := .int .i64 (s.clock : Int)) (x0 := .int .i64 (KP.2.phase : Int)) (x1 := .slice A6 KP.2.grey.length c6) (x2 := .string ⟨KP.2.at_.toArray⟩) hR hHg)
 have HF2 := Lib.hid (zV (g := H + 2) (h := H + 3) (u0 := .slice A5 n5 c5) (u1 := .slice B2 ((zp s D)).ents.length d2) (u2 := .int .i64 (s.room : Int)) (u3 := .int .i64 (s.clock : Int)) (x0 := .int .i64 (KP.2.phase : Int)) (x1 := .slice A6 KP.2.grey.length c6) (x2 := .string ⟨KP.2.at_.toArray⟩) hQ hHg)
 have HF3 := Lib.hid (zN (g := H + 2) (h := H + 3) (u0 := .slice A5 n5 c5) (u1 := .slice B2 ((zp s D)).ents.length d2) (u2 := .int .i64 (s.room : Int)) (u3 := .int .i64 (s.clock : Int)) (x0 := .int .i64 (KP.2.phase : Int)) (x1 := .slice A6 KP.2.grey.length c6) (x2 := .string ⟨KP.2.at_.toArray⟩) ho' (by omega) (by omega) (ho.nb hR (by decide) (by decide)).1 (ho.nb hR (by decide) (by decide)).2 (ho.nb hQ (by decide) (by decide)).1 (ho.nb hQ (by decide) (by decide)).2)
 have HF4 := Lib.hid (zH (g := H + 2) (h := H + 3) (u0 := .slice A5 n5 c5) (u1 := .slice B2 ((zp s D)).ents.length d2) (u2 := .int .i64 (s.room : Int)) (u3 := .int .i64 (s.clock : Int)) (x0 := .int .i64 (KP.2.phase : Int)) (x1 := .slice A6 KP.2.grey.length c6) (x2 := .string ⟨KP.2.at_.toArray⟩) hl (zd hl hR (by decide)) (zd hl hQ (by decide)))
 have HF5 := Lib.hid (zo (g := H + 2) (h := H + 3) (u0 := .slice A5 n5 c5) (u1 := .slice B2 ((zp s D)).ents.length d2) (u2 := .int .i64 (s.room : Int)) (u3 := .int .i64 (s.clock : Int)) (x0 := .int .i64 (KP.2.phase : Int)) (x1 := .slice A6 KP.2.grey.length c6) (x2 := .string ⟨KP.2.at_.toArray⟩) hB (by omega) (by omega))
 have f0 := hR.frozen 0
 have f1 := hR.frozen 1
 have f2 := hR.frozen 2
 have f3 := hR.frozen 3
 have y0 := hR.cell (k := 0) rfl
 have y1 := hR.cell (k := 1) rfl
 have y2 := hR.cell (k := 2) rfl
 have y3 := hR.cell (k := 3) rfl
 have e0 := hQ.frozen 0
 have e1 := hQ.frozen 1
 have e2 := hQ.frozen 2
 have x0 := hQ.cell (k := 0) rfl
 have x1 := hQ.cell (k := 1) rfl
 have x2 := hQ.cell (k := 2) rfl
 have s0 := hS.cell (k := 0) rfl
 have s1 := hS.cell (k := 1) rfl
 have s2 := hS.cell (k := 2) rfl
 have s3 := hS.cell (k := 3) rfl
 have t0 := h14.cell (k := 0) rfl
 have t1 := h14.cell (k := 1) rfl
 have t2 := h14.cell (k := 2) rfl
 have n1 : ¬ (g2 = H + 2) := by omega
 have n2 : ¬ (g7 = H + 2) := by omega
 have n3 : ¬ (g2 = H + 3) := by omega
 clear hR hQ ho ho' hl hB hS h14
 go_region
 all_goals (try dsimp only [Exit.then])
 go_wp2_with fail
 refine bodyPost_ret ((zF rfl) _ _ (H + 2) (H + 3) _ _ _ _ _ _ _ _ (by rfl) (Arr.drew HF1.out) Tryz.underlying26 rfl (by kernel_rfl) (by rfl) (Arr.drew HF2.out) Tryz.underlying29 rfl (by kernel_rfl)) rfl ?_
 have hh := HH.out
 subst hh
 rw [HKP.out]
 have hq1 : w.heap.size ≤ w1.heap.size := by omega
 have hq2 : w.heap.size ≤ W4.heap.size := by omega
 exact ⟨_, _, _, rfl, HF3.out.drewX.mono (fun b hb => Nat.lt_of_lt_of_le hb hq1), zb HF4.out.drew hq2, HF5.out.drew⟩
set_option maxHeartbeats 16000000 in
theorem Xm (A : Option Addr) (c : Nat) (B : Option Addr) (d : Nat) (s : StoP) (Ag : Option Addr) (ng : Nat) (cp : ColP) (key : List UInt8) (up : Bool) (i : Nat) (w : World) (hg : GoodS s) (hr : RdSt w A c B d s) (hgl : cp.grey.length ≤ 1000) (hgc : GoodC s cp) (hc : RdC w Ag ng cp) (hi : i < s.blobs.length) (hk : s.blobs[i].dig = key) (hmv : if up then s.blobs[i].pins < 5 else 0 < s.blobs[i].pins ∧ s.blobs[i].pins ≤ 5) (t : StoP) (ht : t = ql s i s.blobs[i] (mvN s.blobs[i].pins up)) (htg0 : GoodS t) :
  Calls Tryz.prog 71 #[.agg #[.slice A s.blobs.length c, .slice B s.ents.length d, .int .i64 (s.room : Int), .int .i64 (s.clock : Int)], coV (.slice Ag cp.grey.length ng) cp, .string ⟨key.toArray⟩, .bool up] w fun e w' =>
   ∃ v1 v2 v3, e = .returned (.tuple #[stV v1 v2 s, coV v3 (zm t cp [key]).2, .int .i64 0]) ∧ OwSt w' w.heap.size v1 v2 (zm t cp [key]).1 (fun b => b < w.heap.size) ∧ w'.ownsRow w.heap.size 9 1 v3 (zm t cp [key]).2.grey.length (strs (zm t cp [key]).2.grey) ∧ Below w.heap.size w w' := by
 have HPB := Lib.hid (fun W (h1 : RdSt W A c B d s) => YB A c B d s key up i W hg h1 hi hk hmv)
 have hrm : t.room = s.room ∧ t.clock = s.clock := by rw [ht]; exact ⟨rfl, rfl⟩
 rw [← ht] at HPB
 have HRM := Lib.hid hrm
 have htg := Lib.hid htg0
 clear ht htg0 hrm hi hk hmv
 have hlb : s.blobs.length ≤ 24 := hg.b.len
 have hle : s.ents.length ≤ 10 := hg.e.len
 obtain ⟨phase, grey, at_⟩ := cp
 simp only at hgl
 obtain ⟨w0, hw0, hS, hC, hR, hQ, hbx⟩ := zT w 26 29 [.slice A s.blobs.length c, .slice B s.ents.length d, .int .i64 (s.room : Int), .int .i64 (s.clock : Int)] [.int .i64 (phase : Int), .slice Ag grey.length ng, .string ⟨at_.toArray⟩] [.slice none 0 0, .slice none 0 0, .int .i64 0, .int .i64 0] [.int .i64 0, .slice none 0 0, .string ⟨#[]⟩]
 have hr0 := hr.below hbx
 have hc0 := hc.below hbx
 obtain ⟨H, hH⟩ : ∃ H, H = w.heap.size := ⟨_, rfl⟩
 have HCK := Lib.hid (qy A c B d s Ag ng ⟨phase, grey, at_⟩ w0 hg hr0 (by show grey.length ≤ 1000; omega) hgc hc0)
 rw [← hH] at hS hC hR hQ hbx ⊢
 have hHl : H + 1 + 1 + 1 < w0.heap.size := hQ.lt
 have HSX := Lib.hid (show ∀ W, Below w0.heap.size w0 W → Arr W H 26 [.slice A s.blobs.length c, .slice B s.ents.length d, .int .i64 (s.room : Int), .int .i64 (s.clock : Int)] ∧ Arr W (H + 1) 29 [.int .i64 (phase : Int), .slice Ag grey.length ng, .string ⟨at_.toArray⟩] ∧ Arr W (H + 2) 26 [.slice none 0 0, .slice none 0 0, .int .i64 0, .int .i64 0] ∧ Arr W (H + 3) 29 [.int .i64 0, .slice none 0 0, .string ⟨#[]⟩] ∧ RdC W Ag ng ⟨phase, grey, at_⟩ from fun W h => ⟨hS.below h, hC.below h, hR.below h, hQ.below h, hc0.below h⟩)
 have HBX := Lib.hid hbx
 have HR0 := Lib.hid hr0
 have HG := Lib.hid hg
 have HGC := Lib.hid hgc
 have x0 := hS.cell (k := 0) rfl
 have x1 := hS.cell (k := 1) rfl
 have x2 := hS.cell (k := 2) rfl
 have x3 := hS.cell (k := 3) rfl
 have y0 := hC.cell (k := 0) rfl
 have y1 := hC.cell (k := 1) rfl
 have y2 := hC.cell (k := 2) rfl
 rw [hw0, hH] at x0 x1 x2 x3 y0 y1 y2
 clear hg hr hgc hc hr0 hc0 hS hC hR hQ hbx
 go_enter Tryz.func71, Tryz.ntmps71
 go_wp2_with fail
 rw [← hw0, ← hH]
 have HH := Lib.hid hH
 clear hH hw0
 clear x0 x1 x2 x3 y0 y1 y2
 refine ((HCK.out)).mono ?_; rintro e_ w1 ⟨rfl, hb1⟩; dsimp only
 have x0 := (HSX.out _ hb1).1.cell (k := 0) rfl
 have x1 := (HSX.out _ hb1).1.cell (k := 1) rfl
 have x2 := (HSX.out _ hb1).1.cell (k := 2) rfl
 have x3 := (HSX.out _ hb1).1.cell (k := 3) rfl
 clear HCK
 have hbw1 := HBX.out.trans (hb1.mono (show H ≤ w0.heap.size by omega))
 have HPB1 := Lib.hid (HPB.out w1 (HR0.out.below hb1))
 clear HPB HR0
 go_wp2_with fail
 clear x0 x1 x2 x3
 refine ((HPB1.out)).mono ?_; rintro e_ w2 ⟨v1, v2, rfl, ho2, hb2⟩; dsimp only
 obtain ⟨A2, c2, B2, d2, e1, e2, -⟩ := ho2.rows
 subst e1 e2
 clear HPB1
 have hb12 := hb1.trans (hb2.mono hb1.size)
 have hs1 := hb1.size
 have hs2 := hb2.size
 obtain ⟨W3, hW3⟩ : ∃ W, W = w2.alloc (.cells #[.slice A2 (t).blobs.length c2, .slice B2 (t).ents.length d2, .int .i64 (s.room : Int), .int .i64 (s.clock : Int)] 26) := ⟨_, rfl⟩
 have hG3 : Arr W3 w2.heap.size 26 [.slice A2 (t).blobs.length c2, .slice B2 (t).ents.length d2, .int .i64 (s.room : Int), .int .i64 (s.clock : Int)] := by rw [hW3]; exact Arr.new w2 26 _
 have hb3 : Below w2.heap.size w2 W3 := by rw [hW3]; exact (Below.refl w2.heap.size w2).alloc (Nat.le_refl _) _
 have hC3 := (HSX.out _ (hb12.trans (hb3.mono hb12.size))).2.1
 obtain ⟨W4, hW4, hG, hE, hb4⟩ := qu w2 26 9 [.slice A2 (t).blobs.length c2, .slice B2 (t).ents.length d2, .int .i64 (s.room : Int), .int .i64 (s.clock : Int)] [.string ⟨(key).toArray⟩]
 have hb14 := hb12.trans (hb4.mono hb12.size)
 obtain ⟨g2, hg2⟩ : ∃ g, g = w2.heap.size := ⟨_, rfl⟩
 rw [← hg2] at hG hE
 have ho4 := (ho2.wider (N' := fun b => b < w1.heap.size ∨ b = g2) (fun b hb => hb.imp id (fun h => by omega))).below hb4
 have hE1 := hE.lt
 have hxr : Rd W4 1 (some ⟨g2 + 1, 0, none⟩) [key].length (strs [key]) := Rd.of_arr hE rfl rfl
 have HKE := Lib.hid (show Calls Tryz.prog 85 #[.agg #[.slice A2 (t).blobs.length c2, .slice B2 (t).ents.length d2, .int .i64 (s.room : Int), .int .i64 (s.clock : Int)], coV (.slice Ag grey.length ng) ⟨phase, grey, at_⟩, .slice (some ⟨g2 + 1, 0, none⟩) 1 1] W4 fun e w' => ∃ v1 v3, e = .returned (.tuple #[stV v1 (.slice B2 (t).ents.length d2) s, coV v3 (zm (t) ⟨phase, grey, at_⟩ [key]).2]) ∧ OwSt w' w1.heap.size v1 (.slice B2 (t).ents.length d2) (zm (t) ⟨phase, grey, at_⟩ [key]).1 (fun b => b < w1.heap.size ∨ b = g2) ∧ w'.ownsRow W4.heap.size 9 1 v3 (zm (t) ⟨phase, grey, at_⟩ [key]).2.grey.length (strs (zm (t) ⟨phase, grey, at_⟩ [key]).2.grey) ∧ Below W4.heap.size W4 w' from by
  have h := jF A2 c2 B2 d2 (t) Ag ng ⟨phase, grey, at_⟩ (some ⟨g2 + 1, 0, none⟩) 1 [key] w1.heap.size (fun b => b < w1.heap.size ∨ b = g2) W4 htg.out ho4 (by have := hb4.size; omega) (fun b hb => by omega) (by show grey.length ≤ 2000; omega) HGC.out.ph ((HSX.out _ hb14).2.2.2.2) (by simp) (by simp) hxr
  simp only [stV] at h ⊢
  rw [HRM.out.1, HRM.out.2] at h
  exact h)
 have HK4 := Lib.hid (show ∀ W, Below W4.heap.size W4 W → Arr W g2 26 [.slice A2 (t).blobs.length c2, .slice B2 (t).ents.length d2, .int .i64 (s.room : Int), .int .i64 (s.clock : Int)] ∧ Arr W (H + 2) 26 [.slice none 0 0, .slice none 0 0, .int .i64 0, .int .i64 0] ∧ Arr W (H + 3) 29 [.int .i64 0, .slice none 0 0, .string ⟨#[]⟩] ∧ Below H w W from fun W h => ⟨hG.below h, (HSX.out _ (hb14.trans (h.mono hb14.size))).2.2.1, (HSX.out _ (hb14.trans (h.mono hb14.size))).2.2.2.1, HBX.out.trans ((hb14.trans (h.mono hb14.size)).mono (show H ≤ w0.heap.size by omega))⟩)
 have y0 := hC3.cell (k := 0) rfl
 have y1 := hC3.cell (k := 1) rfl
 have y2 := hC3.cell (k := 2) rfl
 have x0 := hG3.cell (k := 0) rfl
 have x1 := hG3.cell (k := 1) rfl
 have x2 := hG3.cell (k := 2) rfl
 have x3 := hG3.cell (k := 3) rfl
 have HW4 := Lib.hid hW4
 have HG2 := Lib.hid hg2
 rw [hW3] at x0 x1 x2 x3 y0 y1 y2
 generalize hkp : zm (t) ⟨phase, grey, at_⟩ [key] = KP at *
 have HKP := Lib.hid hkp
 clear hkp
 have hw4 : w0.heap.size ≤ W4.heap.size := hb14.size
 have hg24 : w0.heap.size ≤ g2 := by omega
 clear hG3 hC3 hb3 hW3 hG hE hb1 hb12 hb14 hbw1 hb2 hb4 ho2 ho4 hW4 hg2 hxr
 go_wp2_with fail
 rw [← HW4.out, ← HG2.out]
 clear x0 x1 x2 x3 y0 y1 y2
 refine ((HKE.out)).mono ?_; rintro e_ w5 ⟨v1, v3, rfl, ho5, hl5, hb5⟩; dsimp only
 obtain ⟨hG5, hR5, hQ5, hB5⟩ := HK4.out _ hb5
 obtain ⟨A5, c5, _, _, e1, -, -⟩ := ho5.rows
 obtain ⟨A6, c6, e2, -, -⟩ := Rd.of_own' hl5
 generalize KP.1.blobs.length = n5 at e1
 subst e1 e2
 have hne := ho5.nb hG5 (by decide) (by decide)
 have hlt5 : g2 < w5.heap.size := hG5.lt
 have hrg : H + 2 ≠ g2 := by omega
 have hqg : H + 3 ≠ g2 := by omega
 have hS6 := hG5.all4 (.slice A5 n5 c5) (.slice B2 (t).ents.length d2) (.int .i64 (s.room : Int)) (.int .i64 (s.clock : Int))
 have ho6 := ho5.set4N (g := g2) (.inr rfl) hne.1 hne.2 (.slice A5 n5 c5) (.slice B2 (t).ents.length d2) (.int .i64 (s.room : Int)) (.int .i64 (s.clock : Int))
 have hl6 := q8 hl5 (zd hl5 hG5 (by decide)) (.slice A5 n5 c5) (.slice B2 (t).ents.length d2) (.int .i64 (s.room : Int)) (.int .i64 (s.clock : Int))
 have hR6 := xj (g := g2) (.slice A5 n5 c5) (.slice B2 (t).ents.length d2) (.int .i64 (s.room : Int)) (.int .i64 (s.clock : Int)) hR5 hrg
 have hQ6 := xj (g := g2) (.slice A5 n5 c5) (.slice B2 (t).ents.length d2) (.int .i64 (s.room : Int)) (.int .i64 (s.clock : Int)) hQ5 hqg
 have hB6 := (((hB5.setCell (p := ⟨g2, 0, none⟩) (show H ≤ g2 by omega) (.slice A5 n5 c5)).setCell (p := ⟨g2, 1, none⟩) (show H ≤ g2 by omega) (.slice B2 (t).ents.length d2)).setCell (p := ⟨g2, 2, none⟩) (show H ≤ g2 by omega) (.int .i64 (s.room : Int))).setCell (p := ⟨g2, 3, none⟩) (show H ≤ g2 by omega) (.int .i64 (s.clock : Int))
 have hsz : (Z9 w5 g2 (.slice A5 n5 c5) (.slice B2 (t).ents.length d2) (.int .i64 (s.room : Int)) (.int .i64 (s.clock : Int))).heap.size = w5.heap.size := by simp
 have h14 := Arr.new (Z9 w5 g2 (.slice A5 n5 c5) (.slice B2 (t).ents.length d2) (.int .i64 (s.room : Int)) (.int .i64 (s.clock : Int))) 29 [.int .i64 (KP.2.phase : Int), .slice A6 KP.2.grey.length c6, .string ⟨KP.2.at_.toArray⟩]
 have hal := (Below.refl (Z9 w5 g2 (.slice A5 n5 c5) (.slice B2 (t).ents.length d2) (.int .i64 (s.room : Int)) (.int .i64 (s.clock : Int))).heap.size (Z9 w5 g2 (.slice A5 n5 c5) (.slice B2 (t).ents.length d2) (.int .i64 (s.room : Int)) (.int .i64 (s.clock : Int)))).alloc (Nat.le_refl _) (.cells #[.int .i64 (KP.2.phase : Int), .slice A6 KP.2.grey.length c6, .string ⟨KP.2.at_.toArray⟩] 29)
 have hS7 := hS6.below hal
 have ho7 := ho6.below hal
 have hl7 := z8 hl6 hal
 have hR7 := hR6.below hal
 have hQ7 := hQ6.below hal
 have hB7 := hB6.trans (hal.mono (show H ≤ _ by rw [hsz]; omega))
 rw [hsz] at h14
 have HX := Lib.hid (And.intro hS7 (And.intro ho7 (And.intro hl7 (And.intro hR7 (And.intro hQ7 (And.intro hB7 h14))))))
 have z0 := hG5.cell (k := 0) rfl
 have z1 := hG5.cell (k := 1) rfl
 have z2 := hG5.cell (k := 2) rfl
 have z3 := hG5.cell (k := 3) rfl
 have f0 := hG5.frozen 0
 have f1 := hG5.frozen 1
 have f2 := hG5.frozen 2
 have f3 := hG5.frozen 3
 have hw45 := hb5.size
 clear hS6 ho6 hl6 hR6 hQ6 hB6 h14 hal hS7 ho7 hl7 hR7 hQ7 hB7 hG5 hR5 hQ5 hB5 ho5 hl5 hb5 hne hsz
 repeat' ((fail_if_success (with_reducible refine at_reg_ 8 ?_)); (fail_if_success (with_reducible refine at_sreg_ 8 ?_)); (fail_if_success (with_reducible refine at_ssreg_ 8 ?_)); (fail_if_success at_builtin); (fail_if_success at_make); (first | go_values | go_skip | go_guarded | go_step | go_upon | go_back))
 clear z0 z1 z2 z3 f0 f1 f2 f3
 obtain ⟨hS, ho, hl, hR, hQ, hB, h14⟩ := HX.out
 clear HX HK4 HKE
 generalize (Z9 w5 g2 (.slice A5 n5 c5) (.slice B2 (t).ents.length d2) (.int .i64 (s.room : Int)) (.int .i64 (s.clock : Int))).alloc (.cells #[.int .i64 (KP.2.phase : Int), .slice A6 KP.2.grey.length c6, .string ⟨KP.2.at_.toArray⟩] 29) = w7 at *
 generalize w5.heap.size = g7 at *
 have hHg : H + 2 ≠ H + 3 := by omega
 have ho' := (ho.lower (base' := H) (by omega)).mono (N' := fun b => b < w1.heap.size) (fun b hb => .inl hb)
 have HF1 := Lib.hid (zW (g := H + 2) (h := H + 3) (u0 := .slice A5 n5 c5) (u1 := .slice B2 (t).ents.length d2) (u2 := .int .i64 (s.room : Int)) (u3 := .int .i64 (s.clock : Int)) (x0 := .int .i64 (KP.2.phase : Int)) (x1 := .slice A6 KP.2.grey.length c6) (x2 := .string ⟨KP.2.at_.toArray⟩) hR hHg)
 have HF2 := Lib.hid (zV (g := H + 2) (h := H + 3) (u0 := .slice A5 n5 c5) (u1 := .slice B2 (t).ents.length d2) (u2 := .int .i64 (s.room : Int)) (u3 := .int .i64 (s.clock : Int)) (x0 := .int .i64 (KP.2.phase : Int)) (x1 := .slice A6 KP.2.grey.length c6) (x2 := .string ⟨KP.2.at_.toArray⟩) hQ hHg)
 have HF3 := Lib.hid (zN (g := H + 2) (h := H + 3) (u0 := .slice A5 n5 c5) (u1 := .slice B2 (t).ents.length d2) (u2 := .int .i64 (s.room : Int)) (u3 := .int .i64 (s.clock : Int)) (x0 := .int .i64 (KP.2.phase : Int)) (x1 := .slice A6 KP.2.grey.length c6) (x2 := .string ⟨KP.2.at_.toArray⟩) ho' (by omega) (by omega) (ho.nb hR (by decide) (by decide)).1 (ho.nb hR (by decide) (by decide)).2 (ho.nb hQ (by decide) (by decide)).1 (ho.nb hQ (by decide) (by decide)).2)
 have HF4 := Lib.hid (zH (g := H + 2) (h := H + 3) (u0 := .slice A5 n5 c5) (u1 := .slice B2 (t).ents.length d2) (u2 := .int .i64 (s.room : Int)) (u3 := .int .i64 (s.clock : Int)) (x0 := .int .i64 (KP.2.phase : Int)) (x1 := .slice A6 KP.2.grey.length c6) (x2 := .string ⟨KP.2.at_.toArray⟩) hl (zd hl hR (by decide)) (zd hl hQ (by decide)))
 have HF5 := Lib.hid (zo (g := H + 2) (h := H + 3) (u0 := .slice A5 n5 c5) (u1 := .slice B2 (t).ents.length d2) (u2 := .int .i64 (s.room : Int)) (u3 := .int .i64 (s.clock : Int)) (x0 := .int .i64 (KP.2.phase : Int)) (x1 := .slice A6 KP.2.grey.length c6) (x2 := .string ⟨KP.2.at_.toArray⟩) hB (by omega) (by omega))
 have f0 := hR.frozen 0
 have f1 := hR.frozen 1
 have f2 := hR.frozen 2
 have f3 := hR.frozen 3
 have y0 := hR.cell (k := 0) rfl
 have y1 := hR.cell (k := 1) rfl
 have y2 := hR.cell (k := 2) rfl
 have y3 := hR.cell (k := 3) rfl
 have e0 := hQ.frozen 0
 have e1 := hQ.frozen 1
 have e2 := hQ.frozen 2
 have x0 := hQ.cell (k := 0) rfl
 have x1 := hQ.cell (k := 1) rfl
 have x2 := hQ.cell (k := 2) rfl
 have s0 := hS.cell (k := 0) rfl
 have s1 := hS.cell (k := 1) rfl
 have s2 := hS.cell (k := 2) rfl
 have s3 := hS.cell (k := 3) rfl
 have t0 := h14.cell (k := 0) rfl
 have t1 := h14.cell (k := 1) rfl
 have t2 := h14.cell (k := 2) rfl
 have n1 : ¬ (g2 = H + 2) := by omega
 have n2 : ¬ (g7 = H + 2) := by omega
 have n3 : ¬ (g2 = H + 3) := by omega
 clear hR hQ ho ho' hl hB hS h14
 go_region
 all_goals (try dsimp only [Exit.then])
 go_wp2_with fail
 refine bodyPost_ret ((zE rfl) _ _ (H + 2) (H + 3) _ _ _ _ _ _ _ _ (by rfl) (Arr.drew HF1.out) Tryz.underlying26 rfl (by kernel_rfl) (by rfl) (Arr.drew HF2.out) Tryz.underlying29 rfl (by kernel_rfl)) rfl ?_
 have hh := HH.out
 subst hh
 rw [HKP.out]
 have hq1 : w.heap.size ≤ w1.heap.size := by omega
 have hq2 : w.heap.size ≤ W4.heap.size := by omega
 exact ⟨_, _, _, rfl, HF3.out.drewX.mono (fun b hb => Nat.lt_of_lt_of_le hb hq1), zb HF4.out.drew hq2, HF5.out.drew⟩
end Go.Proofs.YtpbacomdoddhdaaGreat
namespace Go.Proofs.YtpbacomdoddhdaaGreat
open Go.RowKit
set_option maxHeartbeats 8000000 in
theorem KH (A : Option Addr) (c : Nat) (l : List BlobP) (D : List UInt8) (DA : Option Addr) (dc : Nat) (w : World) (hg : GoodB l) (hd : D.length ≤ 300) (hlen : 24 ≤ l.length) (hno : l.findIdx? (fun b => b.dig == shaS D) = none) (hA : Rw BlobS w A l) (hD : Sl w 1 DA D.length dc (bys D)) :
  Calls Tryz.prog 112 #[.slice A l.length c, .slice DA D.length dc] w fun e w' =>
   e = .returned (.tuple #[.slice none 0 0, .string ⟨#[]⟩, .int .i64 7]) ∧ Below w.heap.size w w' := by
 have hgl : l.length ≤ 24 := hg.len
 have HPL := Lib.hid (show ∀ b ∈ l, b.data.length ≤ 1000000 from fun b hb => by have := (hg.one b hb).2.1; omega)
 have HC1 := Lib.hid (xY A c l w hg hA)
 have HG1 := Lib.hid hg.ris
 have HNO := Lib.hid hno
 have s1 : decide ((D.length : Int) > 300) = false := decide_eq_false (by omega)
 have s2 : decide ((300 : Int) < (D.length : Int)) = false := decide_eq_false (by omega)
 have s3 : decide (300 < D.length) = false := decide_eq_false (by omega)
 have hpl : (putB l D).length ≤ 25 := by have := ym l D; omega
 obtain ⟨sd, hsd⟩ : ∃ s : ByteArray, s = ⟨(shaS D).toArray⟩ := ⟨_, rfl⟩
 have HSD := Lib.hid hsd
 clear hg hsd hno
 go_enter Tryz.func112, Tryz.ntmps112
 go_wp2_with fail
 refine ((HC1.out)).mono ?_; rintro e_ w1 ⟨rfl, hb1⟩; dsimp only
 have hA1 := hA.below hb1
 have hD1 := hD.below hb1
 have HSM := Kx DA D.length dc D w1 rfl (by omega) hD1.cap hD1.rd
 rw [← HSD.out] at HSM
 have HSM := Lib.hid HSM
 clear hA hD
 go_wp2_with fail
 refine ((HSM.out)).mono ?_; rintro e_ w2 ⟨rfl, hb2⟩; dsimp only
 have hb12 := hb1.trans (hb2.mono hb1.size)
 have hA2 := hA1.below hb2
 have hD2 := hD1.below hb2
 have HBS := XR A c l (shaS D) w2 (by omega) HG1.out hA2
 rw [← HSD.out] at HBS
 have HBS := Lib.hid HBS
 clear hA1 hD1 hb1 hb2
 go_wp2_with fail
 refine ((HBS.out)).mono ?_; rintro e_ w3 ⟨i, f, rfl, hil, P1, P2, hf, hb3⟩; dsimp only
 have hb13 := hb12.trans (hb3.mono hb12.size)
 have hA3 := hA2.below hb3
 have hD3 := hD2.below hb3
 have HF := Lib.hid hf
 have HP1 := Lib.hid P1
 have HP2 := Lib.hid P2
 have HCP := Lib.hid (xr A c l w3 (by omega) (fun y hy => HPL.out y hy) hA3)
 clear hA2 hD2 hf P1 P2 hb12 hb3
 go_wp2_with fail
 refine ((HCP.out)).mono ?_; rintro e_ w4 ⟨g, rfl, hx4, hb4⟩; dsimp only
 have hb14 := hb13.trans (hb4.mono hb13.size)
 have hD4 := hD3.below hb4
 have hw03 : w.heap.size ≤ w3.heap.size := hb13.size
 have hw34 : w3.heap.size ≤ w4.heap.size := hb4.size
 have hg3 : w3.heap.size ≤ g ∧ g < w4.heap.size := hx4.rwo.blk rfl
 clear hA3 hD3 hb13 hb4
 cases f with
 | true =>
  obtain ⟨hi, he⟩ := HF.out.1 rfl
  have h2 := uP (f := fun y : BlobP => y.dig) HP1.out hi he
  rw [show l.findIdx? (fun y => y.dig == shaS D) = none from HNO.out] at h2
  cases h2
 | false =>
  have t1 : decide ((l.length : Int) ≥ 24) = true := decide_eq_true (by omega)
  have t2 : decide ((24 : Int) ≤ (l.length : Int)) = true := decide_eq_true (by omega)
  have t3 : decide (24 ≤ l.length) = true := decide_eq_true (by omega)
  clear HF hx4 hD4
  go_wp2_with fail
  go_ret3
  exact ⟨rfl, hb14⟩
theorem Xo (l : List BlobP) (D : List UInt8) : usd (putB l D) ≤ usd l + D.length := by
 unfold putB
 cases hf : l.findIdx? (fun b => b.dig == shaS D) with
 | none =>
  show usd (srt _ _) ≤ _
  rw [uA (zw _ _)]
  show D.length + usd l ≤ _
  omega
 | some i => show usd l ≤ _; omega
def Ky (s : StoP) (D : List UInt8) : Prop := (24 ≤ s.blobs.length ∧ s.blobs.findIdx? (fun b => b.dig == shaS D) = none) ∨ ((s.blobs.length < 24 ∨ (s.blobs.findIdx? (fun b => b.dig == shaS D)).isSome = true) ∧ s.room < usd (putB s.blobs D))
theorem jK {s : StoP} {D : List UInt8} (hg : GoodS s) (hd : D.length ≤ 300) : Fits s D ∨ Ky s D := by
 by_cases h : s.blobs.length < 24 ∨ (s.blobs.findIdx? (fun b => b.dig == shaS D)).isSome = true
 ·by_cases h2 : usd (putB s.blobs D) ≤ s.room
  ·exact .inl ⟨hg, hd, h, h2⟩
  ·exact .inr (.inr ⟨h, by omega⟩)
 ·refine .inr (.inl ⟨by omega, ?_⟩)
  cases hf : s.blobs.findIdx? (fun b => b.dig == shaS D) with
  | none => rfl
  | some i => exact absurd (.inr (by rw [hf]; rfl)) h
set_option maxHeartbeats 16000000 in
theorem uU (A : Option Addr) (c : Nat) (B : Option Addr) (d : Nat) (s : StoP) (D : List UInt8) (DA : Option Addr) (dc : Nat) (w : World) (hg : GoodS s) (hr : RdSt w A c B d s) (hd : D.length ≤ 300) (hno : Ky s D) (hD : Sl w 1 DA D.length dc (bys D)) :
  Calls Tryz.prog 55 #[.agg #[.slice A s.blobs.length c, .slice B s.ents.length d, .int .i64 (s.room : Int), .int .i64 (s.clock : Int)], .slice DA D.length dc] w fun e w' =>
   e = .returned (.tuple #[.agg #[.slice none 0 0, .slice none 0 0, .int .i64 0, .int .i64 0], .string ⟨#[]⟩, .int .i64 7]) ∧ Below w.heap.size w w' := by
 have hlb : s.blobs.length ≤ 24 := hg.b.len
 have hle : s.ents.length ≤ 10 := hg.e.len
 have hrm := hg.room
 have hus := hg.used
 have hpl := ym s.blobs D
 have HGB := Lib.hid hg.b
 have HNO := Lib.hid hno
 have HDD := Lib.hid (fun W (h : Below w.heap.size w W) => hD.below h)
 clear hD hno
 obtain ⟨w0, hw0, hS, hR, hb0⟩ := qM w 26 [.slice A s.blobs.length c, .slice B s.ents.length d, .int .i64 (s.room : Int), .int .i64 (s.clock : Int)] [.slice none 0 0, .slice none 0 0, .int .i64 0, .int .i64 0]
 have hr0 := hr.below hb0
 obtain ⟨H, hH⟩ : ∃ H, H = w.heap.size := ⟨_, rfl⟩
 have HCK := Lib.hid (zK A c B d s w0 hg hr0)
 rw [← hH] at hS hR hb0 ⊢
 have hHl : H < w0.heap.size := hS.lt
 have hHr : H + 1 < w0.heap.size := hR.lt
 have x0 := hS.cell (k := 0) rfl
 have x1 := hS.cell (k := 1) rfl
 have x2 := hS.cell (k := 2) rfl
 have x3 := hS.cell (k := 3) rfl
 rw [hw0, hH] at x0 x1 x2 x3
 have HPL := Lib.hid (show ∀ b ∈ s.blobs, b.data.length ≤ 1000000 from fun b hb => by have := (hg.b.one b hb).2.1; omega)
 have HQL := Lib.hid (show ∀ x ∈ s.ents, x.parts.length ≤ 1000000 from fun x hx => by have := (zi (hg.e.one x hx).2.1).1; omega)
 have HG := Lib.hid hg
 clear hg hr
 go_enter Tryz.func55, Tryz.ntmps55
 go_wp2_with fail
 rw [← hw0, ← hH]
 have HH := Lib.hid hH
 clear hw0 hH x0 x1 x2 x3
 have hD0 := HDD.out w0 (by rw [← HH.out]; exact hb0)
 refine ((HCK.out)).mono ?_; rintro e_ w1 ⟨rfl, hb1⟩; dsimp only
 have hr1 := hr0.below hb1
 have hS1 := hS.below hb1
 have y0 := hS1.cell (k := 0) rfl
 rcases HNO.out with ⟨n1, n2⟩ | ⟨n1, n2⟩
 ·have HPT := Lib.hid (KH A c s.blobs D DA dc w1 HGB.out hd n1 n2 hr1.b (hD0.below hb1))
  clear hr0 hS hD0 n2
  go_wp2_with fail
  clear y0
  refine ((HPT.out)).mono ?_; rintro e_ w2 ⟨rfl, hb2⟩; dsimp only
  have hc2 := hb1.trans (hb2.mono hb1.size)
  have hR := hR.below hc2
  have hb := hb0.trans (hc2.mono (show H ≤ w0.heap.size by omega))
  clear hb1 hb2 hc2 hr1 hS1 hb0
  have f0 := hR.frozen 0
  have f1 := hR.frozen 1
  have f2 := hR.frozen 2
  have f3 := hR.frozen 3
  have y0 := hR.cell (k := 0) rfl
  have y1 := hR.cell (k := 1) rfl
  have y2 := hR.cell (k := 2) rfl
  have y3 := hR.cell (k := 3) rfl
  have hfin := hR.all4 (.slice none 0 0) (.slice none 0 0) (.int .i64 0) (.int .i64 0)
  have hbF := (((hb.setCell (p := ⟨H + 1, 0, none⟩) (by simp only; omega) (.slice none 0 0)).setCell (p := ⟨H + 1, 1, none⟩) (by simp only; omega) (.slice none 0 0)).setCell (p := ⟨H + 1, 2, none⟩) (by simp only; omega) (.int .i64 0)).setCell (p := ⟨H + 1, 3, none⟩) (by simp only; omega) (.int .i64 0)
  clear hR hb
  go_wp2_with fail
  refine bodyPost_ret (qD rfl _ _ (H + 1) _ _ _ _ (by rfl) hfin Tryz.underlying26 rfl (by kernel_rfl)) rfl ?_
  exact ⟨rfl, hbF⟩
 ·have HPT := Lib.hid (Qy A c s.blobs D DA dc w1 HGB.out hd n1 hr1.b (hD0.below hb1))
  clear hr0 hS hD0 n1
  go_wp2_with fail
  clear y0
  refine ((HPT.out)).mono ?_; rintro e_ w2 ⟨v2, rfl, hx2, hb2⟩; dsimp only
  have hc2 := hb1.trans (hb2.mono hb1.size)
  have hS2 := hS1.below hb2
  obtain ⟨A2, c2, e2, h21, h22, hR2⟩ := hx2.rwo.rows
  subst e2
  have y2 := hS2.cell (k := 2) rfl
  have hub : usd (putB s.blobs D) ≤ 1000000 := by have := Xo s.blobs D; omega
  have HFT := jR A2 c2 (putB s.blobs D) s.room 0 w2 (by omega) (by omega) hrm (by omega) hR2
  rw [if_neg (by omega)] at HFT
  have HFT := Lib.hid HFT
  clear hS1 hR2 hx2 hr1
  go_wp2_with fail
  clear y2
  refine ((HFT.out)).mono ?_; rintro e_ w3 ⟨rfl, hb3⟩; dsimp only
  have hc3 := hc2.trans (hb3.mono hc2.size)
  have hR := hR.below hc3
  have hb := hb0.trans (hc3.mono (show H ≤ w0.heap.size by omega))
  clear hb1 hb2 hb3 hc2 hc3 hS2 hb0
  have f0 := hR.frozen 0
  have f1 := hR.frozen 1
  have f2 := hR.frozen 2
  have f3 := hR.frozen 3
  have y0 := hR.cell (k := 0) rfl
  have y1 := hR.cell (k := 1) rfl
  have y2 := hR.cell (k := 2) rfl
  have y3 := hR.cell (k := 3) rfl
  have hfin := hR.all4 (.slice none 0 0) (.slice none 0 0) (.int .i64 0) (.int .i64 0)
  have hbF := (((hb.setCell (p := ⟨H + 1, 0, none⟩) (by simp only; omega) (.slice none 0 0)).setCell (p := ⟨H + 1, 1, none⟩) (by simp only; omega) (.slice none 0 0)).setCell (p := ⟨H + 1, 2, none⟩) (by simp only; omega) (.int .i64 0)).setCell (p := ⟨H + 1, 3, none⟩) (by simp only; omega) (.int .i64 0)
  clear hR hb
  go_wp2_with fail
  refine bodyPost_ret (qD rfl _ _ (H + 1) _ _ _ _ (by rfl) hfin Tryz.underlying26 rfl (by kernel_rfl)) rfl ?_
  exact ⟨rfl, hbF⟩
set_option maxHeartbeats 16000000 in
theorem ke (A : Option Addr) (c : Nat) (B : Option Addr) (d : Nat) (s : StoP) (Ag : Option Addr) (ng : Nat) (cp : ColP) (D : List UInt8) (DA : Option Addr) (dc : Nat) (w : World) (hg : GoodS s) (hr : RdSt w A c B d s) (hgl : cp.grey.length ≤ 1000) (hgc : GoodC s cp) (hc : RdC w Ag ng cp) (hd : D.length ≤ 300) (hno : Ky s D) (hD : Sl w 1 DA D.length dc (bys D)) :
  Calls Tryz.prog 22 #[.agg #[.slice A s.blobs.length c, .slice B s.ents.length d, .int .i64 (s.room : Int), .int .i64 (s.clock : Int)], coV (.slice Ag cp.grey.length ng) cp, .slice DA D.length dc] w fun e w' =>
   e = .returned (.tuple #[.agg #[.slice none 0 0, .slice none 0 0, .int .i64 0, .int .i64 0], .agg #[.int .i64 0, .slice none 0 0, .string ⟨#[]⟩], .string ⟨#[]⟩, .int .i64 7]) ∧ Below w.heap.size w w' := by
 have HPB := Lib.hid (fun W (h1 : RdSt W A c B d s) (h2 : Sl W 1 DA D.length dc (bys D)) => uU A c B d s D DA dc W hg h1 hd hno h2)
 clear hno
 have hlb : s.blobs.length ≤ 24 := hg.b.len
 have hle : s.ents.length ≤ 10 := hg.e.len
 obtain ⟨phase, grey, at_⟩ := cp
 simp only at hgl
 obtain ⟨w0, hw0, hS, hC, hR, hQ, hbx⟩ := zT w 26 29 [.slice A s.blobs.length c, .slice B s.ents.length d, .int .i64 (s.room : Int), .int .i64 (s.clock : Int)] [.int .i64 (phase : Int), .slice Ag grey.length ng, .string ⟨at_.toArray⟩] [.slice none 0 0, .slice none 0 0, .int .i64 0, .int .i64 0] [.int .i64 0, .slice none 0 0, .string ⟨#[]⟩]
 have hr0 := hr.below hbx
 have hc0 := hc.below hbx
 obtain ⟨H, hH⟩ : ∃ H, H = w.heap.size := ⟨_, rfl⟩
 have HCK := Lib.hid (qy A c B d s Ag ng ⟨phase, grey, at_⟩ w0 hg hr0 (by show grey.length ≤ 1000; omega) hgc hc0)
 rw [← hH] at hS hC hR hQ hbx ⊢
 have hHl : H + 1 + 1 + 1 < w0.heap.size := hQ.lt
 have HSX := Lib.hid (show ∀ W, Below w0.heap.size w0 W → Arr W H 26 [.slice A s.blobs.length c, .slice B s.ents.length d, .int .i64 (s.room : Int), .int .i64 (s.clock : Int)] ∧ Arr W (H + 1) 29 [.int .i64 (phase : Int), .slice Ag grey.length ng, .string ⟨at_.toArray⟩] ∧ Arr W (H + 2) 26 [.slice none 0 0, .slice none 0 0, .int .i64 0, .int .i64 0] ∧ Arr W (H + 3) 29 [.int .i64 0, .slice none 0 0, .string ⟨#[]⟩] ∧ RdC W Ag ng ⟨phase, grey, at_⟩ from fun W h => ⟨hS.below h, hC.below h, hR.below h, hQ.below h, hc0.below h⟩)
 have HBX := Lib.hid hbx
 have HR0 := Lib.hid hr0
 have HG := Lib.hid hg
 have HGC := Lib.hid hgc
 have x0 := hS.cell (k := 0) rfl
 have x1 := hS.cell (k := 1) rfl
 have x2 := hS.cell (k := 2) rfl
 have x3 := hS.cell (k := 3) rfl
 have y0 := hC.cell (k := 0) rfl
 have y1 := hC.cell (k := 1) rfl
 have y2 := hC.cell (k := 2) rfl
 rw [hw0, hH] at x0 x1 x2 x3 y0 y1 y2
 clear hg hr hgc hc hr0 hc0 hS hC hR hQ hbx
 go_enter Tryz.func22, Tryz.ntmps22
 go_wp2_with fail
 rw [← hw0, ← hH]
 have HH := Lib.hid hH
 clear hH hw0
 clear x0 x1 x2 x3 y0 y1 y2
 refine ((HCK.out)).mono ?_; rintro e_ w1 ⟨rfl, hb1⟩; dsimp only
 have x0 := (HSX.out _ hb1).1.cell (k := 0) rfl
 have x1 := (HSX.out _ hb1).1.cell (k := 1) rfl
 have x2 := (HSX.out _ hb1).1.cell (k := 2) rfl
 have x3 := (HSX.out _ hb1).1.cell (k := 3) rfl
 clear HCK
 have hbw1 := HBX.out.trans (hb1.mono (show H ≤ w0.heap.size by omega))
 have HPB1 := Lib.hid (HPB.out w1 (HR0.out.below hb1) (hD.below (by rw [← HH.out]; exact hbw1)))
 clear hD HPB HR0 hbw1
 go_wp2_with fail
 clear x0 x1 x2 x3
 refine ((HPB1.out)).mono ?_; rintro e_ w2 ⟨rfl, hb2⟩; dsimp only
 have hb12 := hb1.trans (hb2.mono hb1.size)
 have hal := (Below.refl w2.heap.size w2).alloc (Nat.le_refl _) (.cells #[.slice none 0 0, .slice none 0 0, .int .i64 0, .int .i64 0] 26)
 have hb12 := hb12.trans (hal.mono hb12.size)
 have hR : Arr (w2.alloc (.cells #[.slice none 0 0, .slice none 0 0, .int .i64 0, .int .i64 0] 26)) (H + 1 + 1) 26 [.slice none 0 0, .slice none 0 0, .int .i64 0, .int .i64 0] := (HSX.out _ hb12).2.2.1
 have hQ : Arr (w2.alloc (.cells #[.slice none 0 0, .slice none 0 0, .int .i64 0, .int .i64 0] 26)) (H + 1 + 1 + 1) 29 [.int .i64 0, .slice none 0 0, .string ⟨#[]⟩] := (HSX.out _ hb12).2.2.2.1
 have hB := HBX.out.trans (hb12.mono (show H ≤ w0.heap.size by omega))
 have hHg : H + 1 + 1 ≠ H + 1 + 1 + 1 := by omega
 have HF1 := Lib.hid (zW (g := H + 1 + 1) (h := H + 1 + 1 + 1) (u0 := .slice none 0 0) (u1 := .slice none 0 0) (u2 := .int .i64 0) (u3 := .int .i64 0) (x0 := .int .i64 0) (x1 := .slice none 0 0) (x2 := .string ⟨#[]⟩) hR hHg)
 have HF2 := Lib.hid (zV (g := H + 1 + 1) (h := H + 1 + 1 + 1) (u0 := .slice none 0 0) (u1 := .slice none 0 0) (u2 := .int .i64 0) (u3 := .int .i64 0) (x0 := .int .i64 0) (x1 := .slice none 0 0) (x2 := .string ⟨#[]⟩) hQ hHg)
 have HF5 := Lib.hid (zo (g := H + 1 + 1) (h := H + 1 + 1 + 1) (u0 := .slice none 0 0) (u1 := .slice none 0 0) (u2 := .int .i64 0) (u3 := .int .i64 0) (x0 := .int .i64 0) (x1 := .slice none 0 0) (x2 := .string ⟨#[]⟩) hB (by omega) (by omega))
 have f0 := hR.frozen 0
 have f1 := hR.frozen 1
 have f2 := hR.frozen 2
 have f3 := hR.frozen 3
 have y0 := hR.cell (k := 0) rfl
 have y1 := hR.cell (k := 1) rfl
 have y2 := hR.cell (k := 2) rfl
 have y3 := hR.cell (k := 3) rfl
 have e0 := hQ.frozen 0
 have e1 := hQ.frozen 1
 have e2 := hQ.frozen 2
 have q0 := hQ.cell (k := 0) rfl
 have q1 := hQ.cell (k := 1) rfl
 have q2 := hQ.cell (k := 2) rfl
 clear hR hQ hB hb1 hb2 hb12 hal
 go_wp2_with fail
 refine bodyPost_ret ((zF rfl) _ _ (H + 1 + 1) (H + 1 + 1 + 1) _ _ _ _ _ _ _ _ (by rfl) HF1.out Tryz.underlying26 rfl (by kernel_rfl) (by rfl) HF2.out Tryz.underlying29 rfl (by kernel_rfl)) rfl ?_
 exact ⟨rfl, HF5.out⟩
set_option maxHeartbeats 16000000 in
theorem Xt (A : Option Addr) (c : Nat) (B : Option Addr) (d : Nat) (s : StoP) (Ag : Option Addr) (ng : Nat) (cp : ColP) (key : List UInt8) (up : Bool) (q : Int) (w : World) (hg : GoodS s) (hr : RdSt w A c B d s) (hgl : cp.grey.length ≤ 1000) (hgc : GoodC s cp) (hc : RdC w Ag ng cp) (hq : q ≠ 0)
  (hno : ∀ W, RdSt W A c B d s → Calls Tryz.prog 126 #[.agg #[.slice A s.blobs.length c, .slice B s.ents.length d, .int .i64 (s.room : Int), .int .i64 (s.clock : Int)], .string ⟨key.toArray⟩, .bool up] W fun e w' => e = .returned (.tuple #[.agg #[.slice none 0 0, .slice none 0 0, .int .i64 0, .int .i64 0], .int .i64 q]) ∧ Below W.heap.size W w') :
  Calls Tryz.prog 71 #[.agg #[.slice A s.blobs.length c, .slice B s.ents.length d, .int .i64 (s.room : Int), .int .i64 (s.clock : Int)], coV (.slice Ag cp.grey.length ng) cp, .string ⟨key.toArray⟩, .bool up] w fun e w' =>
   e = .returned (.tuple #[.agg #[.slice none 0 0, .slice none 0 0, .int .i64 0, .int .i64 0], .agg #[.int .i64 0, .slice none 0 0, .string ⟨#[]⟩], .int .i64 q]) ∧ Below w.heap.size w w' := by
 have HPB := Lib.hid hno
 have hq1 : (q != 0) = true := by rw [bne_iff_ne]; exact hq
 clear hno hq
 have hlb : s.blobs.length ≤ 24 := hg.b.len
 have hle : s.ents.length ≤ 10 := hg.e.len
 obtain ⟨phase, grey, at_⟩ := cp
 simp only at hgl
 obtain ⟨w0, hw0, hS, hC, hR, hQ, hbx⟩ := zT w 26 29 [.slice A s.blobs.length c, .slice B s.ents.length d, .int .i64 (s.room : Int), .int .i64 (s.clock : Int)] [.int .i64 (phase : Int), .slice Ag grey.length ng, .string ⟨at_.toArray⟩] [.slice none 0 0, .slice none 0 0, .int .i64 0, .int .i64 0] [.int .i64 0, .slice none 0 0, .string ⟨#[]⟩]
 have hr0 := hr.below hbx
 have hc0 := hc.below hbx
 obtain ⟨H, hH⟩ : ∃ H, H = w.heap.size := ⟨_, rfl⟩
 have HCK := Lib.hid (qy A c B d s Ag ng ⟨phase, grey, at_⟩ w0 hg hr0 (by show grey.length ≤ 1000; omega) hgc hc0)
 rw [← hH] at hS hC hR hQ hbx ⊢
 have hHl : H + 1 + 1 + 1 < w0.heap.size := hQ.lt
 have HSX := Lib.hid (show ∀ W, Below w0.heap.size w0 W → Arr W H 26 [.slice A s.blobs.length c, .slice B s.ents.length d, .int .i64 (s.room : Int), .int .i64 (s.clock : Int)] ∧ Arr W (H + 1) 29 [.int .i64 (phase : Int), .slice Ag grey.length ng, .string ⟨at_.toArray⟩] ∧ Arr W (H + 2) 26 [.slice none 0 0, .slice none 0 0, .int .i64 0, .int .i64 0] ∧ Arr W (H + 3) 29 [.int .i64 0, .slice none 0 0, .string ⟨#[]⟩] ∧ RdC W Ag ng ⟨phase, grey, at_⟩ from fun W h => ⟨hS.below h, hC.below h, hR.below h, hQ.below h, hc0.below h⟩)
 have HBX := Lib.hid hbx
 have HR0 := Lib.hid hr0
 have HG := Lib.hid hg
 have HGC := Lib.hid hgc
 have x0 := hS.cell (k := 0) rfl
 have x1 := hS.cell (k := 1) rfl
 have x2 := hS.cell (k := 2) rfl
 have x3 := hS.cell (k := 3) rfl
 have y0 := hC.cell (k := 0) rfl
 have y1 := hC.cell (k := 1) rfl
 have y2 := hC.cell (k := 2) rfl
 rw [hw0, hH] at x0 x1 x2 x3 y0 y1 y2
 clear hg hr hgc hc hr0 hc0 hS hC hR hQ hbx
 go_enter Tryz.func71, Tryz.ntmps71
 go_wp2_with fail
 rw [← hw0, ← hH]
 have HH := Lib.hid hH
 clear hH hw0
 clear x0 x1 x2 x3 y0 y1 y2
 refine ((HCK.out)).mono ?_; rintro e_ w1 ⟨rfl, hb1⟩; dsimp only
 have x0 := (HSX.out _ hb1).1.cell (k := 0) rfl
 have x1 := (HSX.out _ hb1).1.cell (k := 1) rfl
 have x2 := (HSX.out _ hb1).1.cell (k := 2) rfl
 have x3 := (HSX.out _ hb1).1.cell (k := 3) rfl
 clear HCK
 have HPB1 := Lib.hid (HPB.out w1 (HR0.out.below hb1))
 clear HPB HR0
 go_wp2_with fail
 clear x0 x1 x2 x3
 refine ((HPB1.out)).mono ?_; rintro e_ w2 ⟨rfl, hb2⟩; dsimp only
 have hb12 := hb1.trans (hb2.mono hb1.size)
 have hal := (Below.refl w2.heap.size w2).alloc (Nat.le_refl _) (.cells #[.slice none 0 0, .slice none 0 0, .int .i64 0, .int .i64 0] 26)
 have hb12 := hb12.trans (hal.mono hb12.size)
 have hR : Arr (w2.alloc (.cells #[.slice none 0 0, .slice none 0 0, .int .i64 0, .int .i64 0] 26)) (H + 1 + 1) 26 [.slice none 0 0, .slice none 0 0, .int .i64 0, .int .i64 0] := (HSX.out _ hb12).2.2.1
 have hQ : Arr (w2.alloc (.cells #[.slice none 0 0, .slice none 0 0, .int .i64 0, .int .i64 0] 26)) (H + 1 + 1 + 1) 29 [.int .i64 0, .slice none 0 0, .string ⟨#[]⟩] := (HSX.out _ hb12).2.2.2.1
 have hB := HBX.out.trans (hb12.mono (show H ≤ w0.heap.size by omega))
 have hHg : H + 1 + 1 ≠ H + 1 + 1 + 1 := by omega
 have HF1 := Lib.hid (zW (g := H + 1 + 1) (h := H + 1 + 1 + 1) (u0 := .slice none 0 0) (u1 := .slice none 0 0) (u2 := .int .i64 0) (u3 := .int .i64 0) (x0 := .int .i64 0) (x1 := .slice none 0 0) (x2 := .string ⟨#[]⟩) hR hHg)
 have HF2 := Lib.hid (zV (g := H + 1 + 1) (h := H + 1 + 1 + 1) (u0 := .slice none 0 0) (u1 := .slice none 0 0) (u2 := .int .i64 0) (u3 := .int .i64 0) (x0 := .int .i64 0) (x1 := .slice none 0 0) (x2 := .string ⟨#[]⟩) hQ hHg)
 have HF5 := Lib.hid (zo (g := H + 1 + 1) (h := H + 1 + 1 + 1) (u0 := .slice none 0 0) (u1 := .slice none 0 0) (u2 := .int .i64 0) (u3 := .int .i64 0) (x0 := .int .i64 0) (x1 := .slice none 0 0) (x2 := .string ⟨#[]⟩) hB (by omega) (by omega))
 have f0 := hR.frozen 0
 have f1 := hR.frozen 1
 have f2 := hR.frozen 2
 have f3 := hR.frozen 3
 have y0 := hR.cell (k := 0) rfl
 have y1 := hR.cell (k := 1) rfl
 have y2 := hR.cell (k := 2) rfl
 have y3 := hR.cell (k := 3) rfl
 have e0 := hQ.frozen 0
 have e1 := hQ.frozen 1
 have e2 := hQ.frozen 2
 have q0 := hQ.cell (k := 0) rfl
 have q1 := hQ.cell (k := 1) rfl
 have q2 := hQ.cell (k := 2) rfl
 clear hR hQ hB hb1 hb2 hb12 hal
 go_wp2_with fail
 refine bodyPost_ret ((zE rfl) _ _ (H + 1 + 1) (H + 1 + 1 + 1) _ _ _ _ _ _ _ _ (by rfl) HF1.out Tryz.underlying26 rfl (by kernel_rfl) (by rfl) HF2.out Tryz.underlying29 rfl (by kernel_rfl)) rfl ?_
 exact ⟨rfl, HF5.out⟩
end Go.Proofs.YtpbacomdoddhdaaGreat
