/- Lemmas of the proof. Conditions: as stated. -/
import Derived.Test.YtpbacomdoddhdaaGreatQK33
set_option linter.unusedVariables false
set_option linter.unusedSimpArgs false
set_option maxRecDepth 100000
namespace Go.Proofs.YtpbacomdoddhdaaGreat
open Go.RowKit Go.Maps
set_option maxHeartbeats 16000000 in
theorem Yw (A : Option Addr) (c : Nat) (B : Option Addr) (d : Nat) (s : StoP) (Ag : Option Addr) (ng : Nat) (cp : ColP) (w : World) (hg : GoodS s) (hr : RdSt w A c B d s) (hp : cp.phase = 2) (hgl : cp.grey.length ≤ 1000) (hgc : GoodC s cp) (hc : RdC w Ag ng cp) :
  Calls Tryz.prog 72 #[.agg #[.slice A s.blobs.length c, .slice B s.ents.length d, .int .i64 (s.room : Int), .int .i64 (s.clock : Int)], coV (.slice Ag cp.grey.length ng) cp] w fun e w' =>
   ∃ v1 v2, e = .returned (.tuple #[stV v1 v2 s, coV (.slice none 0 0) (zQ s cp).2.1, .string ⟨(zQ s cp).2.2.toArray⟩, .int .i64 0]) ∧ OwSt w' w.heap.size v1 v2 (zQ s cp).1 (fun b => b < w.heap.size) ∧ Below w.heap.size w w' := by
 have hlb : s.blobs.length ≤ 24 := hg.b.len
 obtain ⟨phase, grey, at_⟩ := cp
 simp only at hp hgl
 subst hp
 obtain ⟨w0, hw0, hS, hC, hR, hD, hb0⟩ := zT w 26 29 [.slice A s.blobs.length c, .slice B s.ents.length d, .int .i64 (s.room : Int), .int .i64 (s.clock : Int)] [.int .i64 2, .slice Ag grey.length ng, .string ⟨at_.toArray⟩] [.slice none 0 0, .slice none 0 0, .int .i64 0, .int .i64 0] [.int .i64 0, .slice none 0 0, .string ⟨#[]⟩]
 have hr0 := hr.below hb0
 obtain ⟨H, hH⟩ : ∃ H, H = w.heap.size := ⟨_, rfl⟩
 have HCK := Lib.hid (qy A c B d s Ag ng ⟨2, grey, at_⟩ w0 hg hr0 hgl hgc (hc.below hb0))
 have HST := Lib.hid (fun W (h : Below w0.heap.size w0 W) => X6 A c B d s Ag ng ⟨2, grey, at_⟩ W hg (hr0.below h) rfl hgc)
 rw [← hH] at hS hC hR hD hb0 ⊢
 have hHl : H + 1 + 1 + 1 < w0.heap.size := hD.lt
 have x0 := hS.cell (k := 0) rfl
 have x1 := hS.cell (k := 1) rfl
 have x2 := hS.cell (k := 2) rfl
 have x3 := hS.cell (k := 3) rfl
 have y0 := hC.cell (k := 0) rfl
 have y1 := hC.cell (k := 1) rfl
 have y2 := hC.cell (k := 2) rfl
 rw [hw0, hH] at x0 x1 x2 x3 y0 y1 y2
 clear hg hr hgc hc hr0
 go_enter Tryz.func72, Tryz.ntmps72
 go_wp2_with fail
 rw [← hw0, ← hH]
 have HH := Lib.hid hH
 clear hw0 hH x0 x1 x2 x3 y0 y1 y2
 refine ((HCK.out)).mono ?_; rintro e_ w1 ⟨rfl, hb1⟩; dsimp only
 have x0 := (hC.below hb1).cell (k := 0) rfl
 have x1 := (hC.below hb1).cell (k := 1) rfl
 have x2 := (hC.below hb1).cell (k := 2) rfl
 have z0 := (hS.below hb1).cell (k := 0) rfl
 have z1 := (hS.below hb1).cell (k := 1) rfl
 have z2 := (hS.below hb1).cell (k := 2) rfl
 have z3 := (hS.below hb1).cell (k := 3) rfl
 clear HCK
 go_wp2_with fail
 clear x0 x1 x2 z0 z1 z2 z3
 refine (((HST.out _ hb1))).mono ?_; rintro e_ w2 ⟨v1, v2, rfl, ho, hb2⟩; dsimp only
 have hb12 := hb1.trans (hb2.mono hb1.size)
 obtain ⟨A5, c5, B5, d5, e5, e6, -⟩ := ho.rows
 generalize (zQ s ⟨2, grey, at_⟩).1.blobs.length = n5 at e5
 generalize (zQ s ⟨2, grey, at_⟩).1.ents.length = n6 at e6
 subst e5 e6
 have hR := hR.below hb12
 have hD := hD.below hb12
 have hB := hb0.trans (hb12.mono (show H ≤ w0.heap.size by omega))
 have h01 := hb1.size
 generalize hcq : (zQ s ⟨2, grey, at_⟩).2.1 = cq at *
 generalize hdq : (zQ s ⟨2, grey, at_⟩).2.2 = dq at *
 have hF1 := Lib.hid (zW (g := H + 1 + 1) (h := H + 1 + 1 + 1) (u0 := .slice A5 n5 c5) (u1 := .slice B5 n6 d5) (u2 := .int .i64 (s.room : Int)) (u3 := .int .i64 (s.clock : Int)) (x0 := .int .i64 (cq.phase : Int)) (x1 := .slice none 0 0) (x2 := .string ⟨cq.at_.toArray⟩) hR (by omega))
 have hF2 := Lib.hid (zV (g := H + 1 + 1) (h := H + 1 + 1 + 1) (u0 := .slice A5 n5 c5) (u1 := .slice B5 n6 d5) (u2 := .int .i64 (s.room : Int)) (u3 := .int .i64 (s.clock : Int)) (x0 := .int .i64 (cq.phase : Int)) (x1 := .slice none 0 0) (x2 := .string ⟨cq.at_.toArray⟩) hD (by omega))
 have hF3 := Lib.hid (zN (g := H + 1 + 1) (h := H + 1 + 1 + 1) (u0 := .slice A5 n5 c5) (u1 := .slice B5 n6 d5) (u2 := .int .i64 (s.room : Int)) (u3 := .int .i64 (s.clock : Int)) (x0 := .int .i64 (cq.phase : Int)) (x1 := .slice none 0 0) (x2 := .string ⟨cq.at_.toArray⟩) ho (by omega) (by omega) (ho.nb hR (by decide) (by decide)).1 (ho.nb hR (by decide) (by decide)).2 (ho.nb hD (by decide) (by decide)).1 (ho.nb hD (by decide) (by decide)).2)
 have hF5 := Lib.hid (zo (g := H + 1 + 1) (h := H + 1 + 1 + 1) (u0 := .slice A5 n5 c5) (u1 := .slice B5 n6 d5) (u2 := .int .i64 (s.room : Int)) (u3 := .int .i64 (s.clock : Int)) (x0 := .int .i64 (cq.phase : Int)) (x1 := .slice none 0 0) (x2 := .string ⟨cq.at_.toArray⟩) hB (by omega) (by omega))
 have f0 := hR.frozen 0
 have f1 := hR.frozen 1
 have f2 := hR.frozen 2
 have f3 := hR.frozen 3
 have y0 := hR.cell (k := 0) rfl
 have y1 := hR.cell (k := 1) rfl
 have y2 := hR.cell (k := 2) rfl
 have y3 := hR.cell (k := 3) rfl
 have e0 := hD.frozen 0
 have e1 := hD.frozen 1
 have e2 := hD.frozen 2
 have x0 := hD.cell (k := 0) rfl
 have x1 := hD.cell (k := 1) rfl
 have x2 := hD.cell (k := 2) rfl
 clear hR hD ho hB hb12 hb2 hb0 hS hC HST
 simp only [stV, coV]
 go_wp2_with fail
 refine bodyPost_ret (zF rfl _ _ (H + 1 + 1) (H + 1 + 1 + 1) _ _ _ _ _ _ _ _ (by rfl) hF1.out Tryz.underlying26 rfl (by kernel_rfl) (by rfl) hF2.out Tryz.underlying29 rfl (by kernel_rfl)) rfl ?_
 rw [hcq, hdq]
 exact ⟨_, _, rfl, (hF3.out.lower (by omega)).mono (fun b hb => by omega), hF5.out⟩
set_option maxHeartbeats 16000000 in
theorem YJ (A : Option Addr) (c : Nat) (B : Option Addr) (d : Nat) (s : StoP) (Ag : Option Addr) (ng : Nat) (cp : ColP) (w : World) (hg : GoodS s) (hr : RdSt w A c B d s) (hp : cp.phase = 1) (hgl : cp.grey.length ≤ 1000) (hgc : GoodC s cp) (hc : RdC w Ag ng cp) :
  Calls Tryz.prog 72 #[.agg #[.slice A s.blobs.length c, .slice B s.ents.length d, .int .i64 (s.room : Int), .int .i64 (s.clock : Int)], coV (.slice Ag cp.grey.length ng) cp] w fun e w' =>
   ∃ v1 v2 v3, e = .returned (.tuple #[stV v1 v2 s, coV v3 (zk s cp).2, .string ⟨#[]⟩, .int .i64 0]) ∧ OwSt w' w.heap.size v1 v2 (zk s cp).1 (fun b => b < w.heap.size) ∧ w'.ownsRow w.heap.size 9 1 v3 (zk s cp).2.grey.length (strs (zk s cp).2.grey) ∧ Below w.heap.size w w' := by
 have hlb : s.blobs.length ≤ 24 := hg.b.len
 obtain ⟨phase, grey, at_⟩ := cp
 simp only at hp hgl
 subst hp
 obtain ⟨w0, hw0, hS, hC, hR, hD, hb0⟩ := zT w 26 29 [.slice A s.blobs.length c, .slice B s.ents.length d, .int .i64 (s.room : Int), .int .i64 (s.clock : Int)] [.int .i64 1, .slice Ag grey.length ng, .string ⟨at_.toArray⟩] [.slice none 0 0, .slice none 0 0, .int .i64 0, .int .i64 0] [.int .i64 0, .slice none 0 0, .string ⟨#[]⟩]
 have hr0 := hr.below hb0
 obtain ⟨H, hH⟩ : ∃ H, H = w.heap.size := ⟨_, rfl⟩
 have HCK := Lib.hid (qy A c B d s Ag ng ⟨1, grey, at_⟩ w0 hg hr0 hgl hgc (hc.below hb0))
 have HST := Lib.hid (fun W (h : Below w0.heap.size w0 W) => ZI A c B d s Ag ng ⟨1, grey, at_⟩ W hg (hr0.below h) rfl (hgc.a0 (by show ¬ (1 = 2); omega)) hgl ((hc.below hb0).below h))
 rw [← hH] at hS hC hR hD hb0 ⊢
 have hHl : H + 1 + 1 + 1 < w0.heap.size := hD.lt
 have x0 := hS.cell (k := 0) rfl
 have x1 := hS.cell (k := 1) rfl
 have x2 := hS.cell (k := 2) rfl
 have x3 := hS.cell (k := 3) rfl
 have y0 := hC.cell (k := 0) rfl
 have y1 := hC.cell (k := 1) rfl
 have y2 := hC.cell (k := 2) rfl
 rw [hw0, hH] at x0 x1 x2 x3 y0 y1 y2
 clear hg hr hgc hc hr0
 go_enter Tryz.func72, Tryz.ntmps72
 go_wp2_with fail
 rw [← hw0, ← hH]
 have HH := Lib.hid hH
 clear hw0 hH x0 x1 x2 x3 y0 y1 y2
 refine ((HCK.out)).mono ?_; rintro e_ w1 ⟨rfl, hb1⟩; dsimp only
 have x0 := (hC.below hb1).cell (k := 0) rfl
 have x1 := (hC.below hb1).cell (k := 1) rfl
 have x2 := (hC.below hb1).cell (k := 2) rfl
 have z0 := (hS.below hb1).cell (k := 0) rfl
 have z1 := (hS.below hb1).cell (k := 1) rfl
 have z2 := (hS.below hb1).cell (k := 2) rfl
 have z3 := (hS.below hb1).cell (k := 3) rfl
 clear HCK
 go_wp2_with fail
 clear x0 x1 x2 z0 z1 z2 z3
 refine (((HST.out _ hb1))).mono ?_; rintro e_ w2 ⟨v1, v2, v3, rfl, ho, hl, hb2⟩; dsimp only
 have hb12 := hb1.trans (hb2.mono hb1.size)
 obtain ⟨A5, c5, B5, d5, e5, e6, -⟩ := ho.rows
 obtain ⟨A6, n6, e7, -, -⟩ := Rd.of_own' hl
 generalize hcq : (zk s ⟨1, grey, at_⟩).2 = cq at *
 generalize hsq : (zk s ⟨1, grey, at_⟩).1 = sq at *
 subst e5 e6 e7
 have h01 := hb1.size
 have h02 := hb12.size
 obtain ⟨W3, hW3, hX3, hY3, hb3⟩ := qu w2 26 29 [.slice A5 sq.blobs.length c5, .slice B5 sq.ents.length d5, .int .i64 (s.room : Int), .int .i64 (s.clock : Int)] [.int .i64 (cq.phase : Int), .slice A6 cq.grey.length n6, .string ⟨cq.at_.toArray⟩]
 obtain ⟨G, hG⟩ : ∃ G, G = w2.heap.size := ⟨_, rfl⟩
 have hb13 := hb12.trans (hb3.mono hb12.size)
 have ho := ho.below hb3
 have hl := z8 hl hb3
 have hR := hR.below hb13
 have hD := hD.below hb13
 have hB := hb0.trans (hb13.mono (show H ≤ w0.heap.size by omega))
 rw [← hG] at hX3 hY3
 have n1 : ¬ (G = H + 1 + 1) := by omega
 have n2 : ¬ (G + 1 = H + 1 + 1) := by omega
 have HG := Lib.hid hG
 clear hb12 hb2 hb0 hS hC HST hb3 hb13 hG
 have o1 := zd hl hR (by decide)
 have o2 := zd hl hD (by decide)
 have hF1 := Lib.hid (zW (g := H + 1 + 1) (h := H + 1 + 1 + 1) (u0 := .slice A5 sq.blobs.length c5) (u1 := .slice B5 sq.ents.length d5) (u2 := .int .i64 (s.room : Int)) (u3 := .int .i64 (s.clock : Int)) (x0 := .int .i64 (cq.phase : Int)) (x1 := .slice A6 cq.grey.length n6) (x2 := .string ⟨cq.at_.toArray⟩) hR (by omega))
 have hF2 := Lib.hid (zV (g := H + 1 + 1) (h := H + 1 + 1 + 1) (u0 := .slice A5 sq.blobs.length c5) (u1 := .slice B5 sq.ents.length d5) (u2 := .int .i64 (s.room : Int)) (u3 := .int .i64 (s.clock : Int)) (x0 := .int .i64 (cq.phase : Int)) (x1 := .slice A6 cq.grey.length n6) (x2 := .string ⟨cq.at_.toArray⟩) hD (by omega))
 have hF3 := Lib.hid (zN (g := H + 1 + 1) (h := H + 1 + 1 + 1) (u0 := .slice A5 sq.blobs.length c5) (u1 := .slice B5 sq.ents.length d5) (u2 := .int .i64 (s.room : Int)) (u3 := .int .i64 (s.clock : Int)) (x0 := .int .i64 (cq.phase : Int)) (x1 := .slice A6 cq.grey.length n6) (x2 := .string ⟨cq.at_.toArray⟩) ho (by omega) (by omega) (ho.nb hR (by decide) (by decide)).1 (ho.nb hR (by decide) (by decide)).2 (ho.nb hD (by decide) (by decide)).1 (ho.nb hD (by decide) (by decide)).2)
 have hF4 := Lib.hid (zH (g := H + 1 + 1) (h := H + 1 + 1 + 1) (u0 := .slice A5 sq.blobs.length c5) (u1 := .slice B5 sq.ents.length d5) (u2 := .int .i64 (s.room : Int)) (u3 := .int .i64 (s.clock : Int)) (x0 := .int .i64 (cq.phase : Int)) (x1 := .slice A6 cq.grey.length n6) (x2 := .string ⟨cq.at_.toArray⟩) hl o1 o2)
 have hF5 := Lib.hid (zo (g := H + 1 + 1) (h := H + 1 + 1 + 1) (u0 := .slice A5 sq.blobs.length c5) (u1 := .slice B5 sq.ents.length d5) (u2 := .int .i64 (s.room : Int)) (u3 := .int .i64 (s.clock : Int)) (x0 := .int .i64 (cq.phase : Int)) (x1 := .slice A6 cq.grey.length n6) (x2 := .string ⟨cq.at_.toArray⟩) hB (by omega) (by omega))
 have HW := Lib.hid hW3
 clear hW3 o1 o2
 go_wp2_with fail
 rw [← HW.out, ← HG.out]
 have f0 := hR.frozen 0
 have f1 := hR.frozen 1
 have f2 := hR.frozen 2
 have f3 := hR.frozen 3
 have y0 := hR.cell (k := 0) rfl
 have y1 := hR.cell (k := 1) rfl
 have y2 := hR.cell (k := 2) rfl
 have y3 := hR.cell (k := 3) rfl
 have e0 := hD.frozen 0
 have e1 := hD.frozen 1
 have e2 := hD.frozen 2
 have x0 := hD.cell (k := 0) rfl
 have x1 := hD.cell (k := 1) rfl
 have x2 := hD.cell (k := 2) rfl
 have b0 := hX3.cell (k := 0) rfl
 have b1 := hX3.cell (k := 1) rfl
 have b2 := hX3.cell (k := 2) rfl
 have b3 := hX3.cell (k := 3) rfl
 have c0 := hY3.cell (k := 0) rfl
 have c1 := hY3.cell (k := 1) rfl
 have c2 := hY3.cell (k := 2) rfl
 clear hR hD ho hB hl hX3 hY3
 go_region
 all_goals (try dsimp only [Exit.then])
 go_wp2_with fail
 refine bodyPost_ret (zF rfl _ _ (H + 1 + 1) (H + 1 + 1 + 1) _ _ _ _ _ _ _ _ (by rfl) (Arr.drew hF1.out) Tryz.underlying26 rfl (by kernel_rfl) (by rfl) (Arr.drew hF2.out) Tryz.underlying29 rfl (by kernel_rfl)) rfl ?_
 rw [hcq, hsq]
 exact ⟨_, _, _, rfl, (hF3.out.drewX.lower (by omega)).mono (fun b hb => by omega), zb hF4.out.drew (by omega), hF5.out.drew⟩
theorem vQ (s : StoP) (c : ColP) : (zQ s c).2.1.grey = [] := by
 rcases zL s c with ⟨_, e⟩ | ⟨_, _, _, _, e⟩ | ⟨_, _, _, _, e⟩ <;> rw [e]
theorem ZN (A : Option Addr) (c : Nat) (B : Option Addr) (d : Nat) (s : StoP) (Ag : Option Addr) (ng : Nat) (cp : ColP) (w : World) (hg : GoodS s) (hr : RdSt w A c B d s) (hp : cp.phase = 1 ∨ cp.phase = 2) (hgl : cp.grey.length ≤ 1000) (hgc : GoodC s cp) (hc : RdC w Ag ng cp) :
  Calls Tryz.prog 72 #[.agg #[.slice A s.blobs.length c, .slice B s.ents.length d, .int .i64 (s.room : Int), .int .i64 (s.clock : Int)], coV (.slice Ag cp.grey.length ng) cp] w fun e w' =>
   ∃ v1 v2 v3, e = .returned (.tuple #[stV v1 v2 s, coV v3 (zt s cp).2.1, .string ⟨(zt s cp).2.2.toArray⟩, .int .i64 0]) ∧ OwSt w' w.heap.size v1 v2 (zt s cp).1 (fun b => b < w.heap.size) ∧ w'.ownsRow w.heap.size 9 1 v3 (zt s cp).2.1.grey.length (strs (zt s cp).2.1.grey) ∧ Below w.heap.size w w' := by
 rcases hp with hp | hp
 ·have hT : zt s cp = ((zk s cp).1, (zk s cp).2, []) := by unfold zt; rw [if_pos hp]
  rw [hT]
  refine (YJ A c B d s Ag ng cp w hg hr hp hgl hgc hc).mono ?_
  rintro e w' ⟨v1, v2, v3, he, h1, h2, h3⟩
  exact ⟨v1, v2, v3, he, h1, h2, h3⟩
 ·have hT : zt s cp = zQ s cp := by unfold zt; rw [if_neg (by omega)]
  rw [hT]
  refine (Yw A c B d s Ag ng cp w hg hr hp hgl hgc hc).mono ?_
  rintro e w' ⟨v1, v2, he, h1, h3⟩
  refine ⟨v1, v2, .slice none 0 0, he, h1, ?_, h3⟩
  rw [vQ]
  exact World.ownsRow_nil _ _ _ _
theorem Qa (w : World) (e1 e2 : TypeId) (c1 c2 c3 : List Value) : ∃ W, W = ((w.alloc (.cells c1.toArray e1)).alloc (.cells c2.toArray e2)).alloc (.cells c3.toArray e1) ∧ Arr W w.heap.size e1 c1 ∧ Arr W (w.heap.size + 1) e2 c2 ∧ Arr W (w.heap.size + 1 + 1) e1 c3 ∧ Below w.heap.size w W := by
 obtain ⟨W2, h2, a1, a2, b2⟩ := qu w e1 e2 c1 c2
 have a3 := Arr.new W2 e1 c3
 have hs : W2.heap.size = w.heap.size + 1 + 1 := by rw [h2]; simp
 have b3 := (Below.refl W2.heap.size W2).alloc (Nat.le_refl _) (.cells c3.toArray e1)
 rw [hs] at a3
 exact ⟨_, rfl, by rw [← h2]; exact a1.below b3, by rw [← h2]; exact a2.below b3, by rw [← h2]; exact a3, by rw [← h2]; exact b2.trans (b3.mono b2.size)⟩
theorem Y6 (s : StoP) (c : ColP) : (zt s c).1.room = s.room ∧ (zt s c).1.clock = s.clock ∧ (zt s c).1.ents = s.ents := by
 unfold zt
 split
 ·have e := (qf s c).2
  exact ⟨(congrArg StoP.room e).trans rfl, (congrArg StoP.clock e).trans rfl, (congrArg StoP.ents e).trans rfl⟩
 ·rcases zL s c with ⟨_, e⟩ | ⟨_, _, _, _, e⟩ | ⟨_, _, _, _, e⟩ <;> rw [e] <;> exact ⟨rfl, rfl, rfl⟩
theorem jr (s : StoP) (c : ColP) : 8 * unm (zt s c).1.blobs + (zt s c).2.1.grey.length ≤ 8 * unm s.blobs + c.grey.length := by
 unfold zt
 split
 ·rcases xu s c with h | h
  ·have := vW (kI s.blobs) h
   show 8 * unm (zk s c).1.blobs + (zk s c).2.grey.length ≤ _
   omega
  ·rcases zS s c with ⟨_, e⟩ | ⟨_, _, _, _, e⟩ | ⟨_, _, _, _, _, _, _, _, e⟩ | ⟨_, _, _, _, _, _, _, _, e⟩
   ·rw [e]; show 8 * unm s.blobs + 0 ≤ _; omega
   all_goals rw [e] at h; cases h
 ·have h1 : unm (zQ s c).1.blobs ≤ unm s.blobs := by
   rcases zL s c with ⟨_, e⟩ | ⟨_, _, _, _, e⟩ | ⟨_, _, _, _, e⟩
   ·rw [e]; exact Nat.le_refl _
   ·rw [e]; exact Nat.le_refl _
   ·rw [e]; exact ((List.eraseIdx_sublist _ _).filter _).length_le
  rw [vQ]
  show 8 * unm (zQ s c).1.blobs + 0 ≤ _
  omega
theorem Y8 (s : StoP) (c : ColP) : (zt s c).1.blobs.length + (if (zt s c).2.2 = [] then 0 else 1) ≤ s.blobs.length := by
 unfold zt
 split
 ·have := jo s c
  show (zk s c).1.blobs.length + (if ([] : List UInt8) = [] then 0 else 1) ≤ _
  rw [if_pos rfl]; omega
 ·rcases zL s c with ⟨_, e⟩ | ⟨_, _, _, _, e⟩ | ⟨i, hi, _, _, e⟩
  ·rw [e]; exact Nat.le_refl _
  ·rw [e]; exact Nat.le_refl _
  ·rw [e]
   show (s.blobs.eraseIdx i).length + _ ≤ _
   rw [List.length_eraseIdx, if_pos hi]
   split <;> omega
theorem QU {w : World} {base base' size size' n n' : Nat} {e e' : TypeId} {v v' : Value} {xs xs' : List Value} (h : w.ownsRow base e size v n xs) (h' : w.ownsRow base' e' size' v' n' xs') (hne : e ≠ e') : ∀ b, v.ownBlock = some b → v'.ownBlock ≠ some b := fun b hb hb' => by
 rcases h.2 with ⟨rfl, _⟩ | ⟨g, cap, cur, rfl, _, h2, _⟩
 ·cases hb
 ·cases hb
  rcases h'.2 with ⟨rfl, _⟩ | ⟨g', cap', cur', rfl, _, h3, _⟩
  ·cases hb'
  ·cases hb'
   have h4 := Eq.trans (Eq.symm h2) h3
   simp only [Option.some.injEq, Obj.cells.injEq] at h4
   exact hne h4.2.1
theorem ur {w : World} {g h k : Nat} {e : TypeId} {xs : List Value} (u0 u1 u2 u3 x0 x1 x2 : Value) (hA : Arr w k e xs) (h1 : k ≠ g) (h2 : k ≠ h) : Arr (put7 w g h u0 u1 u2 u3 x0 x1 x2) k e xs :=
 ((((((hA.other h1 u0).other h1 u1).other h1 u2).other h1 u3).other h2 x0).other h2 x1).other h2 x2
structure RunC (w : World) (H K gs gc : Nat) (v1 v2 v3 : Value) (Ag : Option Addr) (ng : Nat) (t : StoP) (cc : ColP) (g : List (List UInt8)) : Prop where
 bs : Arr w gs 26 [v1, v2, .int .i64 (t.room : Int), .int .i64 (t.clock : Int)]
 bc : Arr w gc 29 [.int .i64 (cc.phase : Int), .slice Ag cc.grey.length ng, .string ⟨cc.at_.toArray⟩]
 st : OwSt w H v1 v2 t (fun b => b < K ∨ b = gs ∨ v3.ownBlock = some b)
 gr : RdC w Ag ng cc
 gone : w.ownsRow H 9 1 v3 g.length (strs g)
section
variable {w w' : World} {H K gs gc : Nat} {v1 v2 v3 v3' : Value} {Ag : Option Addr} {ng : Nat} {t : StoP} {cc : ColP} {g : List (List UInt8)}
theorem RunC.below (h : RunC w H K gs gc v1 v2 v3 Ag ng t cc g) (hb : Below w.heap.size w w') : RunC w' H K gs gc v1 v2 v3 Ag ng t cc g := ⟨h.bs.below hb, h.bc.below hb, h.st.below hb, h.gr.below hb, z8 h.gone hb⟩
theorem RunC.key (h : RunC w H K gs gc v1 v2 v3 Ag ng t cc g) {B : Nat} (hgr : ∃ vg, w.ownsRow B 9 1 vg cc.grey.length (strs cc.grey) ∧ vg = .slice Ag cc.grey.length ng) (hB : ∀ b, v3.ownBlock = some b → b < B) {g' : List (List UInt8)} (ho : w'.ownsRow H 9 1 v3' g'.length (strs g')) (hg : w.grownBy w' v3.ownBlock) (hv : v3'.ownBlock = v3.ownBlock ∨ ∃ b, v3'.ownBlock = some b ∧ w.heap.size ≤ b) : RunC w' H K gs gc v1 v2 v3' Ag ng t cc g' := by
 obtain ⟨xs, hx⟩ := h.st.b.own_m
 obtain ⟨ys, hy⟩ := h.st.e.own_m
 have n1 := QU h.gone hx (by decide)
 have n2 := QU h.gone hy (by decide)
 have h1 : OwSt w H v1 v2 t (fun b => b < K ∨ b = gs ∨ v3'.ownBlock = some b ∨ v3.ownBlock = some b) := h.st.wider fun b hb => by
  rcases hb with hb | hb | hb | hb
  ·exact .inl (.inl hb)
  ·exact .inl (.inr (.inl hb))
  ·rcases hv with e | ⟨b', e, hb'⟩
   ·exact .inl (.inr (.inr (by rw [← e]; exact hb)))
   ·rw [e] at hb; cases hb; exact .inr hb'
  ·exact .inl (.inr (.inr hb))
 have h2 : OwSt w' H v1 v2 t (fun b => b < K ∨ b = gs ∨ v3'.ownBlock = some b ∨ v3.ownBlock = some b) :=
  ⟨h1.b.other hg (fun b e => n1 b e) (fun b e => .inl (.inr (.inr (.inr e)))), h1.e.other hg (fun b e => n2 b e) (fun b e => .inl (.inr (.inr (.inr e)))), h1.ne⟩
 obtain ⟨vg, hvg, rfl⟩ := hgr
 have hvg' : w'.ownsRow B 9 1 (.slice Ag cc.grey.length ng) cc.grey.length (strs cc.grey) := hvg.kept hg (by
  rcases hvg.2 with ⟨e2, _⟩ | ⟨g2, cap, cur, e2, h4, _⟩
  ·exact .inl (by rw [e2]; rfl)
  ·refine .inr fun e => ?_
   rw [e2] at e
   have h3 : g2 < B := hB g2 e.symm
   omega)
 obtain ⟨_, _, e1, hgr2⟩ := RdC.of_own (c := cc) hvg'
 cases e1
 exact ⟨h.bs.grown hg (zd h.gone h.bs (by decide)), h.bc.grown hg (zd h.gone h.bc (by decide)), h2.mono (fun b hb => hb.imp id fun h => h.imp id .inl), hgr2, ho⟩
end
set_option maxHeartbeats 16000000 in
theorem Vq (A : Option Addr) (c : Nat) (B : Option Addr) (d : Nat) (s : StoP) (Ag : Option Addr) (ng : Nat) (cp : ColP) (w : World) (hg : GoodS s) (hr : RdSt w A c B d s) (hgl : 8 * unm s.blobs + cp.grey.length ≤ 1000) (hgc : GoodC s cp) (hc : RdC w Ag ng cp) :
  Calls Tryz.prog 24 #[.agg #[.slice A s.blobs.length c, .slice B s.ents.length d, .int .i64 (s.room : Int), .int .i64 (s.clock : Int)], coV (.slice Ag cp.grey.length ng) cp] w fun e w' =>
   ∃ v1 v2 v3, e = .returned (.tuple #[stV v1 v2 s, v3, .int .i64 0]) ∧ OwSt w' w.heap.size v1 v2 (xS s cp).1 (fun b => b < w.heap.size) ∧ w'.ownsRow w.heap.size 9 1 v3 (xS s cp).2.length (strs (xS s cp).2) ∧ Below w.heap.size w w' := by
 have hlb : s.blobs.length ≤ 24 := hg.b.len
 have hle : s.ents.length ≤ 10 := hg.e.len
 obtain ⟨phase, grey, at_⟩ := cp
 simp only at hgl
 obtain ⟨w0, hw0, hS, hC, hR, hb0⟩ := Qa w 26 29 [.slice A s.blobs.length c, .slice B s.ents.length d, .int .i64 (s.room : Int), .int .i64 (s.clock : Int)] [.int .i64 (phase : Int), .slice Ag grey.length ng, .string ⟨at_.toArray⟩] [.slice none 0 0, .slice none 0 0, .int .i64 0, .int .i64 0]
 have hr0 := hr.below hb0
 have hc0 := hc.below hb0
 obtain ⟨H, hH⟩ : ∃ H, H = w.heap.size := ⟨_, rfl⟩
 have HCK := Lib.hid (qy A c B d s Ag ng ⟨phase, grey, at_⟩ w0 hg hr0 (by show grey.length ≤ 1000; omega) hgc hc0)
 have HCP := Lib.hid (fun W (h : Below w0.heap.size w0 W) => qY A c B d s W (by omega) (by omega) (fun b hb => by have := (hg.b.one b hb).2.1; omega) (fun x hx => by have := (zi (hg.e.one x hx).2.1).1; omega) (hr0.below h))
 have HGD := Lib.hid hg
 have HGC := Lib.hid hgc
 have HC0 := Lib.hid hc0
 rw [← hH] at hS hC hR hb0 ⊢
 have hHl : H + 1 + 1 < w0.heap.size := hR.lt
 have x0 := hS.cell (k := 0) rfl
 have x1 := hS.cell (k := 1) rfl
 have x2 := hS.cell (k := 2) rfl
 have x3 := hS.cell (k := 3) rfl
 have y0 := hC.cell (k := 0) rfl
 have y1 := hC.cell (k := 1) rfl
 have y2 := hC.cell (k := 2) rfl
 rw [hw0, hH] at x0 x1 x2 x3 y0 y1 y2
 clear hg hr hgc hc hr0 hc0
 go_enter Tryz.func24, Tryz.ntmps24
 go_wp2_with fail
 rw [← hw0, ← hH]
 have HH := Lib.hid hH
 clear hw0 hH x0 x1 x2 x3 y0 y1 y2
 refine ((HCK.out)).mono ?_; rintro e_ w1 ⟨rfl, hb1⟩; dsimp only
 have z0 := (hS.below hb1).cell (k := 0) rfl
 have z1 := (hS.below hb1).cell (k := 1) rfl
 have z2 := (hS.below hb1).cell (k := 2) rfl
 have z3 := (hS.below hb1).cell (k := 3) rfl
 clear HCK
 go_wp2_with fail
 clear z0 z1 z2 z3
 refine (((HCP.out _ hb1))).mono ?_; rintro e_ w2 ⟨q1, q2, rfl, ho2, hb2⟩; dsimp only
 have hb12 := hb1.trans (hb2.mono hb1.size)
 have hs1 := hb1.size
 have hs2 := hb12.size
 obtain ⟨gs, hgs⟩ : ∃ G, G = w2.heap.size := ⟨_, rfl⟩
 have hal := (Below.refl w2.heap.size w2).alloc (Nat.le_refl _) (.cells #[.slice (some ⟨q1, 0, none⟩) s.blobs.length s.blobs.length, .slice (some ⟨q2, 0, none⟩) s.ents.length s.ents.length, .int .i64 (s.room : Int), .int .i64 (s.clock : Int)] 26)
 have hb13 := hb12.trans (hal.mono hb12.size)
 have HRW := Lib.hid (show RunC (w2.alloc (.cells #[.slice (some ⟨q1, 0, none⟩) s.blobs.length s.blobs.length, .slice (some ⟨q2, 0, none⟩) s.ents.length s.ents.length, .int .i64 (s.room : Int), .int .i64 (s.clock : Int)] 26)) H w0.heap.size gs (H + 1) (.slice (some ⟨q1, 0, none⟩) s.blobs.length s.blobs.length) (.slice (some ⟨q2, 0, none⟩) s.ents.length s.ents.length) (.slice none 0 0) Ag ng s ⟨phase, grey, at_⟩ [] by
  refine ⟨by rw [hgs]; exact Arr.new w2 26 _, hC.below hb13, ?_, HC0.out.below hb13, World.ownsRow_nil _ _ _ _⟩
  refine ((ho2.lower (base' := H) (by omega)).wider fun b hb => ?_).below hal
  rcases hb with hb | hb | hb
  ·exact .inl (Nat.lt_of_lt_of_le hb hs1)
  ·exact .inr (by rw [hb, hgs]; exact Nat.le_refl _)
  ·cases hb)
 have HBK := Lib.hid (hb0.trans (hb13.mono (show H ≤ w0.heap.size by omega)))
 have HRES := Lib.hid (hR.below hb13)
 have hgs0 : w0.heap.size ≤ gs := by omega
 have HG := Lib.hid hgs
 clear hS hC hR hb1 hb2 hb12 hb13 ho2 hal HCP hb0 hgs HC0
 go_wp2_with fail
 rw [← HG.out]
 generalize (w2.alloc (.cells #[.slice (some ⟨q1, 0, none⟩) s.blobs.length s.blobs.length, .slice (some ⟨q2, 0, none⟩) s.ents.length s.ents.length, .int .i64 (s.room : Int), .int .i64 (s.clock : Int)] 26)) = w4 at *
 go_loopg [9] (qW 8 s ⟨phase, grey, at_⟩) (fun gn u wr => ∃ (t : StoP) (cc : ColP) (g : List (List UInt8)) (X : Option Addr) (cX : Nat) (Y : Option Addr) (dY : Nat) (Ag : Option Addr) (ng : Nat), gn = qW 8 t cc ∧ RunC wr H w0.heap.size gs (H + 1) (.slice X t.blobs.length cX) (.slice Y t.ents.length dY) u Ag ng t cc g ∧ Arr wr (H + 1 + 1) 26 [.slice none 0 0, .slice none 0 0, .int .i64 0, .int .i64 0] ∧ GoodS t ∧ GoodC t cc ∧ 8 * unm t.blobs + cc.grey.length ≤ 1000 ∧ xS s ⟨phase, grey, at_⟩ = ((xS t cc).1, g ++ (xS t cc).2) ∧ t.room = s.room ∧ t.clock = s.clock ∧ g.length + t.blobs.length ≤ 24 ∧ Below H w wr)
 case atStart => exact ⟨s, ⟨phase, grey, at_⟩, [], _, _, _, _, Ag, ng, rfl, HRW.out, HRES.out, HGD.out, HGC.out, hgl, rfl, rfl, rfl, by simpa using hlb, HBK.out⟩
 case round =>
  obtain ⟨t, cc, g, X, cX, Y, dY, Ag, ng, hgn, RW, hR, hg, hgc, hgl, hrun, hrm, hck, hgg, hbk⟩ := hrel
  have HGN := Lib.hid hgn
  have HG2 := Lib.hid hg
  have HGC2 := Lib.hid hgc
  have HGL := Lib.hid hgl
  have HRN := Lib.hid hrun
  have HRM := Lib.hid hrm
  have HCK := Lib.hid hck
  have HGG := Lib.hid hgg
  have htb := hg.b.len
  have hte := hg.e.len
  have HRWX := Lib.hid RW
  have hA := RW.bs
  have hC := RW.bc
  rw [hrm, hck] at hA
  have x0 := hA.cell (k := 0) rfl
  have x1 := hA.cell (k := 1) rfl
  have x2 := hA.cell (k := 2) rfl
  have x3 := hA.cell (k := 3) rfl
  have y0 := hC.cell (k := 0) rfl
  have y1 := hC.cell (k := 1) rfl
  have y2 := hC.cell (k := 2) rfl
  have hgsl := hA.lt
  have HR := Lib.hid hR
  have HHB := Lib.hid hbk
  clear HRW HBK HRES hgn hrun hrm hck hgg RW hA hC hR hbk hgl
  by_cases h0 : cc.phase = 0
  ·have g1 : ((cc.phase : Int) != 0) = false := by rw [h0]; rfl
   have f0 := HR.out.frozen 0
   have f1 := HR.out.frozen 1
   have f2 := HR.out.frozen 2
   have f3 := HR.out.frozen 3
   have r0 := HR.out.cell (k := 0) rfl
   have r1 := HR.out.cell (k := 1) rfl
   have r2 := HR.out.cell (k := 2) rfl
   have r3 := HR.out.cell (k := 3) rfl
   have n1 := HRWX.out.st.nb HR.out (by decide) (by decide)
   have n3 : u9.ownBlock ≠ some (H + 1 + 1) := zd HRWX.out.gone HR.out (by decide)
   have HF1 := Lib.hid (HR.out.all4 (.slice X t.blobs.length cX) (.slice Y t.ents.length dY) (.int .i64 (s.room : Int)) (.int .i64 (s.clock : Int)))
   have HF2 := Lib.hid (HRWX.out.st.set4N (g := H + 1 + 1) (.inl hHl) n1.1 n1.2 (.slice X t.blobs.length cX) (.slice Y t.ents.length dY) (.int .i64 (s.room : Int)) (.int .i64 (s.clock : Int)))
   have HF3 := Lib.hid (q8 HRWX.out.gone n3 (.slice X t.blobs.length cX) (.slice Y t.ents.length dY) (.int .i64 (s.room : Int)) (.int .i64 (s.clock : Int)))
   have HF4 := Lib.hid ((((HHB.out.setCell (p := ⟨H + 1 + 1, 0, none⟩) (by simp only; omega) (.slice X t.blobs.length cX)).setCell (p := ⟨H + 1 + 1, 1, none⟩) (by simp only; omega) (.slice Y t.ents.length dY)).setCell (p := ⟨H + 1 + 1, 2, none⟩) (by simp only; omega) (.int .i64 (s.room : Int))).setCell (p := ⟨H + 1 + 1, 3, none⟩) (by simp only; omega) (.int .i64 (s.clock : Int)))
   clear n1 n3
   go_wp2_with fail
   refine bodyPost_ret (qD rfl _ _ (H + 1 + 1) _ _ _ _ (by rfl) HF1.out Tryz.underlying26 rfl (by kernel_rfl)) rfl ?_
   have hr := HRN.out
   rw [xL h0, List.append_nil] at hr
   rw [hr]
   exact ⟨_, _, _, rfl, HF2.out.mono (fun b hb => .inl (by omega)), HF3.out, HF4.out⟩
  ·have hp : cc.phase = 1 ∨ cc.phase = 2 := by have := HGC2.out.ph; omega
   have HP := Lib.hid hp
   have g1 : ((cc.phase : Int) != 0) = true := by
    rw [bne_iff_ne]; intro h; exact h0 (by omega)
   obtain ⟨_, _, _, _, e1, e2, hrd⟩ := HRWX.out.st.rows
   cases e1; cases e2
   have hms := ZN X cX Y dY t Ag ng cc wr HG2.out hrd hp (by have := HGL.out; omega) HGC2.out HRWX.out.gr
   obtain ⟨k1, k2, -⟩ := Y6 t cc
   simp only [stV, coV] at hms
   rw [HRM.out] at hms k1
   rw [HCK.out] at hms k2
   obtain ⟨m1, m2, -⟩ := ko HG2.out HGC2.out hp
   have m3 := jr t cc
   have m4 := Y8 t cc
   have m5 := vh (s := t) hp
   have m6 := kA (k := 8) (kI t.blobs) hp
   generalize (zt t cc).1 = t' at *
   generalize (zt t cc).2.1 = cc' at *
   generalize (zt t cc).2.2 = dd at *
   have HMS := Lib.hid hms
   clear hms hrd hp h0
   go_wp2_with fail
   clear x0 x1 x2 x3 y0 y1 y2
   refine ((HMS.out)).mono ?_; rintro e_ w5 ⟨v5, v6, v7, rfl, ho5, hl5, hb5⟩; dsimp only
   obtain ⟨X5, c5, Y5, d5, e1, e2, _⟩ := ho5.rows
   obtain ⟨A7, n7, e3, hc7⟩ := RdC.of_own (c := cc') hl5
   subst e1 e2 e3
   have hs5 := hb5.size
   have hgc0 : H + 1 < w0.heap.size := by omega
   have hne : gs ≠ H + 1 := by omega
   obtain ⟨W6, hW6, h6, h7, hb6⟩ := qu w5 26 29 [.slice X5 t'.blobs.length c5, .slice Y5 t'.ents.length d5, .int .i64 (s.room : Int), .int .i64 (s.clock : Int)] [.int .i64 (cc'.phase : Int), .slice A7 cc'.grey.length n7, .string ⟨cc'.at_.toArray⟩]
   have hb56 := hb5.trans (hb6.mono hs5)
   have hA6 := HRWX.out.bs.below hb56
   have hC6 := HRWX.out.bc.below hb56
   have hR6 := HR.out.below hb56
   have ho6 := ho5.below hb6
   have hl6 := z8 hl5 hb6
   have hg6 := z8 HRWX.out.gone hb56
   have hgw : gs < wr.heap.size := HRWX.out.bs.lt
   have hK : w0.heap.size ≤ wr.heap.size := by omega
   have hHw : H ≤ wr.heap.size := by omega
   have hb16 := HHB.out.trans (hb56.mono hHw)
   have hgcl := hC6.lt
   have hcw : H + 1 < wr.heap.size := HRWX.out.bc.lt
   have hv9 : ∀ b, u9.ownBlock = some b → b < wr.heap.size := fun b e => (HRWX.out.gone.lt b e).2
   have hwr : wr.heap.size ≤ W6.heap.size := hb56.size
   have ho6' := (ho6.lower (base' := H) hHw).mono (N' := fun b => b < w0.heap.size ∨ b = gs ∨ u9.ownBlock = some b) (fun b hb => by
    rcases hb with hb | hb | hb
    ·show b < wr.heap.size; have : w0.heap.size ≤ wr.heap.size := hK; omega
    ·rw [hb]; exact hgw
    ·exact hv9 b hb)
   have HF1 := Lib.hid (zW (g := gs) (h := H + 1) (u0 := .slice X5 t'.blobs.length c5) (u1 := .slice Y5 t'.ents.length d5) (u2 := .int .i64 (s.room : Int)) (u3 := .int .i64 (s.clock : Int)) (x0 := .int .i64 (cc'.phase : Int)) (x1 := .slice A7 cc'.grey.length n7) (x2 := .string ⟨cc'.at_.toArray⟩) hA6 hne)
   have HF2 := Lib.hid (zV (g := gs) (h := H + 1) (u0 := .slice X5 t'.blobs.length c5) (u1 := .slice Y5 t'.ents.length d5) (u2 := .int .i64 (s.room : Int)) (u3 := .int .i64 (s.clock : Int)) (x0 := .int .i64 (cc'.phase : Int)) (x1 := .slice A7 cc'.grey.length n7) (x2 := .string ⟨cc'.at_.toArray⟩) hC6 hne)
   have HF3 := Lib.hid (zN (g := gs) (h := H + 1) (u0 := .slice X5 t'.blobs.length c5) (u1 := .slice Y5 t'.ents.length d5) (u2 := .int .i64 (s.room : Int)) (u3 := .int .i64 (s.clock : Int)) (x0 := .int .i64 (cc'.phase : Int)) (x1 := .slice A7 cc'.grey.length n7) (x2 := .string ⟨cc'.at_.toArray⟩) ho6' (.inr (.inl rfl)) (.inl hgc0) (ho6.nb hA6 (by decide) (by decide)).1 (ho6.nb hA6 (by decide) (by decide)).2 (ho6.nb hC6 (by decide) (by decide)).1 (ho6.nb hC6 (by decide) (by decide)).2)
   have HF4 := Lib.hid (zH (g := gs) (h := H + 1) (u0 := .slice X5 t'.blobs.length c5) (u1 := .slice Y5 t'.ents.length d5) (u2 := .int .i64 (s.room : Int)) (u3 := .int .i64 (s.clock : Int)) (x0 := .int .i64 (cc'.phase : Int)) (x1 := .slice A7 cc'.grey.length n7) (x2 := .string ⟨cc'.at_.toArray⟩) hl6 (zd hl6 hA6 (by decide)) (zd hl6 hC6 (by decide)))
   have HF5 := Lib.hid (zo (g := gs) (h := H + 1) (u0 := .slice X5 t'.blobs.length c5) (u1 := .slice Y5 t'.ents.length d5) (u2 := .int .i64 (s.room : Int)) (u3 := .int .i64 (s.clock : Int)) (x0 := .int .i64 (cc'.phase : Int)) (x1 := .slice A7 cc'.grey.length n7) (x2 := .string ⟨cc'.at_.toArray⟩) hb16 (by omega) (by omega))
   have HF6 := Lib.hid (zH (g := gs) (h := H + 1) (u0 := .slice X5 t'.blobs.length c5) (u1 := .slice Y5 t'.ents.length d5) (u2 := .int .i64 (s.room : Int)) (u3 := .int .i64 (s.clock : Int)) (x0 := .int .i64 (cc'.phase : Int)) (x1 := .slice A7 cc'.grey.length n7) (x2 := .string ⟨cc'.at_.toArray⟩) hg6 (zd hg6 hA6 (by decide)) (zd hg6 hC6 (by decide)))
   have HF7 := Lib.hid (ur (g := gs) (h := H + 1) (.slice X5 t'.blobs.length c5) (.slice Y5 t'.ents.length d5) (.int .i64 (s.room : Int)) (.int .i64 (s.clock : Int)) (.int .i64 (cc'.phase : Int)) (.slice A7 cc'.grey.length n7) (.string ⟨cc'.at_.toArray⟩) hR6 (by omega) (by omega))
   have f0 := hA6.frozen 0
   have f1 := hA6.frozen 1
   have f2 := hA6.frozen 2
   have f3 := hA6.frozen 3
   have y0 := hA6.cell (k := 0) rfl
   have y1 := hA6.cell (k := 1) rfl
   have y2 := hA6.cell (k := 2) rfl
   have y3 := hA6.cell (k := 3) rfl
   have e0 := hC6.frozen 0
   have e1 := hC6.frozen 1
   have e2 := hC6.frozen 2
   have x0 := hC6.cell (k := 0) rfl
   have x1 := hC6.cell (k := 1) rfl
   have x2 := hC6.cell (k := 2) rfl
   obtain ⟨g6, hg6'⟩ : ∃ g, g = w5.heap.size := ⟨_, rfl⟩
   rw [← hg6'] at h6 h7
   have s0 := h6.cell (k := 0) rfl
   have s1 := h6.cell (k := 1) rfl
   have s2 := h6.cell (k := 2) rfl
   have s3 := h6.cell (k := 3) rfl
   have t0' := h7.cell (k := 0) rfl
   have t1 := h7.cell (k := 1) rfl
   have t2 := h7.cell (k := 2) rfl
   have n1 : ¬ (g6 = gs) := by omega
   have n2 : ¬ (g6 + 1 = gs) := by omega
   have n3 : ¬ (g6 = H + 1) := by omega
   have HG6 := Lib.hid hg6'
   have HW6 := Lib.hid hW6
   have HM := Lib.hid (And.intro m1 (And.intro m2 (And.intro m3 (And.intro m4 (And.intro m5 m6)))))
   have HKK := Lib.hid (And.intro k1 k2)
   have HV9 := Lib.hid hv9
   have HS5 := Lib.hid hs5
   have HSZ := Lib.hid (show wr.heap.size ≤ (put7 W6 gs (H + 1) (.slice X5 t'.blobs.length c5) (.slice Y5 t'.ents.length d5) (.int .i64 (s.room : Int)) (.int .i64 (s.clock : Int)) (.int .i64 (cc'.phase : Int)) (.slice A7 cc'.grey.length n7) (.string ⟨cc'.at_.toArray⟩)).heap.size from by simp; exact hwr)
   clear hA6 hC6 hR6 ho6 ho6' hl6 hg6 hb16 hb56 h6 h7 ho5 hl5 hb5 hb6 m1 m2 m3 m4 m5 m6 k1 k2 hW6 hg6' HMS HRWX HR HHB hc7 hv9
   have hdd : (⟨dd.toArray⟩ : ByteArray).toList = dd := ByteArray.toList_eq _
   generalize hds : (⟨dd.toArray⟩ : ByteArray) = ds at *
   have HDS := Lib.hid hds
   have HDD := Lib.hid hdd
   clear hds hdd
   repeat' ((fail_if_success (with_reducible refine at_reg_ 10 ?_)); (fail_if_success (with_reducible refine at_sreg_ 10 ?_)); (fail_if_success (with_reducible refine at_ssreg_ 10 ?_)); (fail_if_success at_builtin); (fail_if_success at_make); (first | go_values | go_skip | go_guarded | go_step | go_upon | go_back))
   rw [← HG6.out, ← HW6.out]
   clear HW6 HG6
   go_region
   all_goals (try dsimp only [Exit.then])
   clear f0 f1 f2 f3 y0 y1 y2 y3 e0 e1 e2 x0 x1 x2 s0 s1 s2 s3 t0' t1 t2
   have HRX := Lib.hid (show RunC (put7 W6 gs (H + 1) (.slice X5 t'.blobs.length c5) (.slice Y5 t'.ents.length d5) (.int .i64 (s.room : Int)) (.int .i64 (s.clock : Int)) (.int .i64 (cc'.phase : Int)) (.slice A7 cc'.grey.length n7) (.string ⟨cc'.at_.toArray⟩)).drew H w0.heap.size gs (H + 1) (.slice X5 t'.blobs.length c5) (.slice Y5 t'.ents.length d5) u9 A7 n7 t' cc' g from by
    refine ⟨?_, Arr.drew HF2.out, HF3.out.drewX, ?_, HF6.out.drew⟩
    ·rw [HKK.out.1, HKK.out.2]; exact Arr.drew HF1.out
    ·obtain ⟨_, _, e1, h⟩ := RdC.of_own (c := cc') (z8 HF4.out (Below.refl _ _).drew)
     cases e1; exact h)
   have HRR := Lib.hid (Arr.drew HF7.out)
   have HBB := Lib.hid (HF5.out.drew)
   have HGR := Lib.hid (z8 HF4.out (Below.refl _ _).drew)
   have HSZ2 := Lib.hid (show wr.heap.size ≤ (put7 W6 gs (H + 1) (.slice X5 t'.blobs.length c5) (.slice Y5 t'.ents.length d5) (.int .i64 (s.room : Int)) (.int .i64 (s.clock : Int)) (.int .i64 (cc'.phase : Int)) (.slice A7 cc'.grey.length n7) (.string ⟨cc'.at_.toArray⟩)).drew.heap.size from Nat.le_trans HSZ.out ((Below.refl 0 _).drew).size)
   clear HF1 HF2 HF3 HF4 HF5 HF6 HF7 HSZ
   generalize (put7 W6 gs (H + 1) (.slice X5 t'.blobs.length c5) (.slice Y5 t'.ents.length d5) (.int .i64 (s.room : Int)) (.int .i64 (s.clock : Int)) (.int .i64 (cc'.phase : Int)) (.slice A7 cc'.grey.length n7) (.string ⟨cc'.at_.toArray⟩)).drew = wz at *
   by_cases hd : dd = []
   ·have e1 : ds.toList.isEmpty = true := by rw [HDD.out, hd]; rfl
    go_wp2_with fail
    go_roundg (qW 8 t' cc')
    case measure => have := HM.out.2.2.2.2.2; have := HGN.out; omega
    case rel =>
     obtain ⟨m1, m2, m3, m4, m5, m6⟩ := HM.out
     refine ⟨t', cc', g, X5, c5, Y5, d5, A7, n7, rfl, HRX.out, HRR.out, m1, m2, by have := HGL.out; omega, ?_, HKK.out.1, HKK.out.2, by have := HGG.out; omega, HBB.out⟩
     rw [HRN.out, m5, if_pos hd]; rfl
   ·have e1 : ds.toList.isEmpty = false := by rw [HDD.out]; cases dd with | nil => exact absurd rfl hd | cons _ _ => rfl
    have hgo := HRX.out.gone
    have hgl2 : g.length ≤ 24 := by have := HGG.out; omega
    have hHz : H ≤ wz.heap.size := by have := HSZ2.out; omega
    repeat' (fail_if_success (first|at_builtin|at_make));first|go_values|go_skip|go_guarded|go_step|go_upon|go_back
    refine zn rfl (.tmp 42) (.tmp 44) rfl vH (by rfl) hgo (us := [.string ds]) (by rfl) rfl (by intro u hu; rw [List.mem_singleton.1 hu]; rfl) (by omega) hHz ?_
    intro v9 w9 ho9 hg9 hv9
    have hb9 : Below H w w9 := by
     have hh := HH.out
     have h1 := HBB.out
     rw [hh] at h1 hgo ⊢
     exact zf h1 hgo (Nat.le_refl _) hg9
    have hR9 := HRR.out.grown hg9 (zd hgo HRR.out (by decide))
    have e5 : strs g ++ [Value.string ds] = strs (g ++ [dd]) := by rw [xp, ← HDS.out]; rfl
    have e6 : g.length + 1 = (g ++ [dd]).length := by simp
    rw [e5, e6] at ho9
    have HO9 := Lib.hid (HRX.out.key (B := wr.heap.size) ⟨_, HGR.out, rfl⟩ HV9.out ho9 hg9 hv9)
    have HR9 := Lib.hid hR9
    have HB9 := Lib.hid hb9
    clear ho9 hg9 hv9 hb9 hR9 e5 e6 hgo
    go_wp2_with fail
    go_roundg (qW 8 t' cc')
    case measure => have := HM.out.2.2.2.2.2; have := HGN.out; omega
    case rel =>
     obtain ⟨m1, m2, m3, m4, m5, m6⟩ := HM.out
     refine ⟨t', cc', g ++ [dd], X5, c5, Y5, d5, A7, n7, rfl, HO9.out, HR9.out, m1, m2, by have := HGL.out; omega, ?_, HKK.out.1, HKK.out.2, by rw [List.length_append]; rw [if_neg hd] at m4; have := HGG.out; simp only [List.length_singleton]; omega, HB9.out⟩
     rw [HRN.out, m5, if_neg hd, List.append_assoc]
end Go.Proofs.YtpbacomdoddhdaaGreat
