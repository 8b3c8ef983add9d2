/- Lemmas of the proof. Conditions: as stated. -/
import Derived.Test.YtpbacomdoddhdaaGreatQX33
import Derived.Test.YtpbacomdoddhdaaGreatQX34
set_option linter.unusedVariables false
set_option linter.unusedSimpArgs false
set_option maxRecDepth 100000
namespace Go.Proofs.YtpbacomdoddhdaaGreat
open Go.RowKit Go.Maps
abbrev Zu (w : World) (g : Nat) (u0 u1 u2 u3 u4 u5 u6 u7 : Value) : World := (((((((w.setCell ⟨g, 0, none⟩ u0).setCell ⟨g, 1, none⟩ u1).setCell ⟨g, 2, none⟩ u2).setCell ⟨g, 3, none⟩ u3).setCell ⟨g, 4, none⟩ u4).setCell ⟨g, 5, none⟩ u5).setCell ⟨g, 6, none⟩ u6).setCell ⟨g, 7, none⟩ u7
section
variable {w : World} {g base : Nat}
theorem Arr.all8 {e : TypeId} {x0 x1 x2 x3 x4 x5 x6 x7 : Value} (h : Arr w g e [x0, x1, x2, x3, x4, x5, x6, x7]) (u0 u1 u2 u3 u4 u5 u6 u7 : Value) : Arr (Zu w g u0 u1 u2 u3 u4 u5 u6 u7) g e [u0, u1, u2, u3, u4, u5, u6, u7] :=
 (((((((h.set (k := 0) (by simp) u0).set (k := 1) (by simp) u1).set (k := 2) (by simp) u2).set (k := 3) (by simp) u3).set (k := 4) (by simp) u4).set (k := 5) (by simp) u5).set (k := 6) (by simp) u6).set (k := 7) (by simp) u7
theorem zM {n size : Nat} {t : TypeId} {v : Value} {ys : List Value} (ho : w.ownsRow base t size v n ys) (h1 : v.ownBlock ≠ some g) (u0 u1 u2 u3 u4 u5 u6 u7 : Value) : (Zu w g u0 u1 u2 u3 u4 u5 u6 u7).ownsRow base t size v n ys :=
 zc (zc (zc (zc (zc (zc (zc (zc ho h1) h1) h1) h1) h1) h1) h1) h1
theorem FlsO.set8 {v : Value} {fs : List FlP} {e : TypeId} {xs : List Value} (h : FlsO w base v fs) (hA : Arr w g e xs) (h1 : 142 ≠ e) (h2 : 3 ≠ e) (u0 u1 u2 u3 u4 u5 u6 u7 : Value) : FlsO (Zu w g u0 u1 u2 u3 u4 u5 u6 u7) base v fs := by
 obtain ⟨As, hl, ho, hr, hd⟩ := h
 exact ⟨As, hl, zM ho (zm ho hA h1) _ _ _ _ _ _ _ _, fun k p a hp ha => ⟨zM (hr k p a hp ha).1 (zm (hr k p a hp ha).1 hA h2) _ _ _ _ _ _ _ _, (hr k p a hp ha).2⟩, hd⟩
theorem OwSt.set8N {v1 v2 : Value} {s : StoP} {N : Nat → Prop} (ho : OwSt w base v1 v2 s N) (hg : N g) (h1 : v1.ownBlock ≠ some g) (h2 : v2.ownBlock ≠ some g) (u0 u1 u2 u3 u4 u5 u6 u7 : Value) : OwSt (Zu w g u0 u1 u2 u3 u4 u5 u6 u7) base v1 v2 s N :=
 (((((((ho.setX hg h1 h2 u0).setX hg h1 h2 u1).setX hg h1 h2 u2).setX hg h1 h2 u3).setX hg h1 h2 u4).setX hg h1 h2 u5).setX hg h1 h2 u6).setX hg h1 h2 u7
end
structure OwLo (w : World) (base : Nat) (v1 v2 v3 v4 : Value) (l : LoP) (N : Nat → Prop) : Prop where
 s : OwSt w base v1 v2 l.st N
 c : w.ownsRow base 9 1 v3 l.co.grey.length (strs l.co.grey)
 f : FlsO w base v4 l.fs
abbrev QD (v1 v2 v3 v4 : Value) (l : LoP) : Value := .agg #[v1, v2, .int .i64 (l.st.room : Int), .int .i64 (l.st.clock : Int), .int .i64 (l.co.phase : Int), v3, .string ⟨l.co.at_.toArray⟩, v4]
theorem OwLo.below {w w' : World} {base : Nat} {v1 v2 v3 v4 : Value} {l : LoP} {N : Nat → Prop} (h : OwLo w base v1 v2 v3 v4 l N) (hb : Below w.heap.size w w') : OwLo w' base v1 v2 v3 v4 l N := ⟨h.s.below hb, zb h.c hb, h.f.below hb⟩
theorem OwLo.rd {w : World} {base : Nat} {v1 v2 v3 v4 : Value} {l : LoP} {N : Nat → Prop} (h : OwLo w base v1 v2 v3 v4 l N) : ∃ p : LoW, v1 = .slice p.X l.st.blobs.length p.cX ∧ v2 = .slice p.Y l.st.ents.length p.dY ∧ v3 = .slice p.G l.co.grey.length p.ng ∧ v4 = .slice p.F l.fs.length p.cF ∧ RdLo w p l := by
 obtain ⟨X, cX, Y, dY, e1, e2, h3⟩ := h.s.rows
 obtain ⟨G, ng, e3, h4⟩ := RdC.of_own (c := l.co) h.c
 obtain ⟨F, cF, e4, h5, h6⟩ := h.f.fls
 obtain ⟨As, _, hro, _⟩ := h.f
 have h7 : cF ≤ maxLen := by
  rw [e4] at hro
  rcases hro.2 with ⟨h1, h2⟩ | ⟨_, cap, _, h1, _, _, h2, h3, _⟩
  ·injection h1 with _ _ h3; subst h3; simp [maxLen]
  ·injection h1 with _ _ h4; subst h4; exact h3
 exact ⟨⟨X, cX, Y, dY, G, ng, F, cF⟩, e1, e2, e3, e4, ⟨h3, h4, h6, h5, h7⟩⟩
set_option maxHeartbeats 8000000 in
theorem yb (p : LoW) (l : LoP) (w : World) (hg : GoodL l) (hr : RdLo w p l) :
  Calls Tryz.prog 34 #[loV p l] w fun e w' => ∃ v1 v2 v3 v4, e = .returned (QD v1 v2 v3 v4 l) ∧ OwLo w' w.heap.size v1 v2 v3 v4 l (fun b => b < w.heap.size) ∧ Below w.heap.size w w' := by
 obtain ⟨X, cX, Y, dY, G, ng, F, cF⟩ := p
 obtain ⟨s, co, fs⟩ := l
 obtain ⟨gb, hgb⟩ : ∃ g, g = w.heap.size := ⟨_, rfl⟩
 obtain ⟨w1, hw1⟩ : ∃ W, W = w.alloc (.cells #[.slice X s.blobs.length cX, .slice Y s.ents.length dY, .int .i64 (s.room : Int), .int .i64 (s.clock : Int), .int .i64 (co.phase : Int), .slice G co.grey.length ng, .string ⟨co.at_.toArray⟩, .slice F fs.length cF] 58) := ⟨_, rfl⟩
 have hP1 : Arr w1 gb 58 [.slice X s.blobs.length cX, .slice Y s.ents.length dY, .int .i64 (s.room : Int), .int .i64 (s.clock : Int), .int .i64 (co.phase : Int), .slice G co.grey.length ng, .string ⟨co.at_.toArray⟩, .slice F fs.length cF] := by rw [hw1, hgb]; exact Arr.new w 58 _
 have hb01 : Below w.heap.size w w1 := by rw [hw1]; exact (Below.refl _ _).alloc (Nat.le_refl _) _
 have hs1 : w1.heap.size = gb + 1 := by rw [hw1, hgb]; exact World.size_alloc _ _
 obtain ⟨gr, hgr⟩ : ∃ g, g = gb + 1 := ⟨_, rfl⟩
 obtain ⟨w2, hw2⟩ : ∃ W, W = w1.alloc (.cells #[.slice none 0 0, .slice none 0 0, .int .i64 0, .int .i64 0, .int .i64 0, .slice none 0 0, .string ⟨#[]⟩, .slice none 0 0] 58) := ⟨_, rfl⟩
 have hR2 : Arr w2 gr 58 [.slice none 0 0, .slice none 0 0, .int .i64 0, .int .i64 0, .int .i64 0, .slice none 0 0, .string ⟨#[]⟩, .slice none 0 0] := by rw [hw2, hgr, ← hs1]; exact Arr.new w1 58 _
 have hb12 : Below w1.heap.size w1 w2 := by rw [hw2]; exact (Below.refl _ _).alloc (Nat.le_refl _) _
 have hr1 := hr.below hb01
 have HPB := Lib.hid (show ∀ W, Below w1.heap.size w1 W → (W.cell? ⟨gb, 0, none⟩ = some (.slice X s.blobs.length cX) ∧ W.cell? ⟨gb, 1, none⟩ = some (.slice Y s.ents.length dY) ∧ W.cell? ⟨gb, 2, none⟩ = some (.int .i64 (s.room : Int)) ∧ W.cell? ⟨gb, 3, none⟩ = some (.int .i64 (s.clock : Int)) ∧ W.cell? ⟨gb, 4, none⟩ = some (.int .i64 (co.phase : Int)) ∧ W.cell? ⟨gb, 5, none⟩ = some (.slice G co.grey.length ng) ∧ W.cell? ⟨gb, 6, none⟩ = some (.string ⟨co.at_.toArray⟩) ∧ W.cell? ⟨gb, 7, none⟩ = some (.slice F fs.length cF)) from fun W h =>
  ⟨(hP1.below h).cell (k := 0) rfl, (hP1.below h).cell (k := 1) rfl, (hP1.below h).cell (k := 2) rfl, (hP1.below h).cell (k := 3) rfl, (hP1.below h).cell (k := 4) rfl, (hP1.below h).cell (k := 5) rfl, (hP1.below h).cell (k := 6) rfl, (hP1.below h).cell (k := 7) rfl⟩)
 have HCP := Lib.hid (fun W (h : Below w1.heap.size w1 W) => uF X cX Y dY s W (by have : s.blobs.length ≤ 24 := hg.s.b.len; omega) (by have : s.ents.length ≤ 10 := hg.s.e.len; omega) (fun b hb => by have : b.data.length ≤ 300 := (hg.s.b.one b hb).2.1; omega) (fun x hx => by have := (zq (hg.s.e.one x hx).2.1).1; omega) (hr1.s.below h))
 have HCL := Lib.hid (fun W (h : Below w1.heap.size w1 W) => kE G ng co.grey W (by have : co.grey.length ≤ 1000 := hg.g; omega) (hr1.c.rd.below h))
 have HFC := Lib.hid (fun W (h : Below w1.heap.size w1 W) => qG F cF fs W (by have : fs.length ≤ 6 := hg.f.len; omega) (fun p hp => by have := (hg.f.all p hp).2.1; omega) (hr1.f.below h) hr1.fc)
 have HB12 := Lib.hid hb12
 have HB01 := Lib.hid hb01
 have HR := Lib.hid hR2
 have HRL := Lib.hid (show w1.heap.size ≤ gr by rw [hgr, hs1]; exact Nat.le_refl _)
 clear hg hr hr1 hP1 hb01 hb12 hR2
 go_enter Tryz.func34, Tryz.ntmps34
 go_wp2_with fail
 rw [← hw1, ← hw2, ← hgb, ← hgr]
 have HGB := Lib.hid hgb
 clear hw1 hw2 hgr hgb hs1
 apply qp
 intro REST
 refine zv [18] (S := (fun w' => (w'.cell? ⟨gb, 0, none⟩ = some (.slice X s.blobs.length cX) ∧ w'.cell? ⟨gb, 1, none⟩ = some (.slice Y s.ents.length dY) ∧ w'.cell? ⟨gb, 2, none⟩ = some (.int .i64 (s.room : Int)) ∧ w'.cell? ⟨gb, 3, none⟩ = some (.int .i64 (s.clock : Int)) ∧ w'.cell? ⟨gb, 4, none⟩ = some (.int .i64 (co.phase : Int)) ∧ w'.cell? ⟨gb, 5, none⟩ = some (.slice G co.grey.length ng) ∧ w'.cell? ⟨gb, 6, none⟩ = some (.string ⟨co.at_.toArray⟩) ∧ w'.cell? ⟨gb, 7, none⟩ = some (.slice F fs.length cF)))) (by kernel_rfl) ?_ (fun hHeld => ?_)
 ·exact HPB.out _ ((HB12.out).drew)
 have hB := (HB12.out).drew
 have hR := HR.out.below (Below.refl w2.heap.size w2).drew
 have hRl := HRL.out
 generalize w2.drew = wn0 at *
 refine tkP 0 ?_
 try simp only [sqP]
 refine tkU 1 ?_
 try simp only [sqP]
 refine tkP 3 ?_
 try simp only [sqP]
 refine tkP 4 ?_
 try simp only [sqP]
 refine tkU 5 ?_
 try simp only [sqP]
 refine tkP 6 ?_
 try simp only [sqP]
 refine tkP 7 ?_
 try simp only [sqP]
 refine tkU 8 ?_
 try simp only [sqP]
 refine tkP 10 ?_
 try simp only [sqP]
 refine tkP 11 ?_
 try simp only [sqP]
 refine tkU 12 ?_
 try simp only [sqP]
 refine tkP 14 ?_
 try simp only [sqP]
 refine tkU 15 ?_
 try simp only [sqP]
 refine za (rs := [2]) (by kernel_rfl) (by simp) ?_
 refine z8.cons (o := _) rfl (fun K hK => ?_) ?_
 ·
  go_simp
  refine (HCP.out wn0 hB).mono ?_
  rintro e5 w5 ⟨g1, g2, rfl, ho5, hb5⟩
  dsimp only
  refine ku hK ?_ (fun W => Below w1.heap.size w1 W ∧ Arr W gr 58 [.slice none 0 0, .slice none 0 0, .int .i64 0, .int .i64 0, .int .i64 0, .slice none 0 0, .string ⟨#[]⟩, .slice none 0 0] ∧ w1.heap.size ≤ gr ∧ OwSt W w1.heap.size (.slice (some ⟨g1, 0, none⟩) s.blobs.length s.blobs.length) (.slice (some ⟨g2, 0, none⟩) s.ents.length s.ents.length) s (fun b => b < w1.heap.size ∨ b = gr)) (fun W => True) ?_ ?_ (fun wn1 hHeld2 hF _ => ?_)
  ·exact HPB.out _ ((hB.trans (hb5.mono hB.size)))
  ·exact ⟨hB.trans (hb5.mono hB.size), hR.below hb5, hRl, (ho5.lower (base' := w1.heap.size) hB.size).mono (N' := (fun b => b < w1.heap.size ∨ b = gr)) (fun b hb => hb.elim (fun hb => Nat.lt_of_lt_of_le hb hB.size) (fun hb => (by rw [hb]; exact hR.lt)))⟩
  ·trivial
  clear hRl hR hB hHeld
  have hHeld := hHeld2
  clear hHeld2
  obtain ⟨hB, hR, hRl, ho⟩ := hF
  clear hb5 ho5
  clear hK K
  try simp only [sqP]
  refine za (rs := [9]) (by kernel_rfl) (by simp) ?_
  refine z8.cons (o := _) rfl (fun K hK => ?_) ?_
  ·
   go_simp
   refine (HCL.out wn1 hB).mono ?_
   rintro e5 w5 ⟨v5, rfl, hl5, hb5⟩
   obtain ⟨A3, n3, rfl, -, -⟩ := Rd.of_own' hl5
   dsimp only
   refine ku hK ?_ (fun W => Below w1.heap.size w1 W ∧ Arr W gr 58 [.slice none 0 0, .slice none 0 0, .int .i64 0, .int .i64 0, .int .i64 0, .slice none 0 0, .string ⟨#[]⟩, .slice none 0 0] ∧ w1.heap.size ≤ gr ∧ OwSt W w1.heap.size (.slice (some ⟨g1, 0, none⟩) s.blobs.length s.blobs.length) (.slice (some ⟨g2, 0, none⟩) s.ents.length s.ents.length) s (fun b => b < w1.heap.size ∨ b = gr) ∧ W.ownsRow w1.heap.size 9 1 (.slice A3 co.grey.length n3) co.grey.length (strs co.grey)) (fun W => True) ?_ ?_ (fun wn2 hHeld2 hF _ => ?_)
   ·exact HPB.out _ ((hB.trans (hb5.mono hB.size)))
   ·exact ⟨hB.trans (hb5.mono hB.size), hR.below hb5, hRl, ho.below hb5, zd hl5 hB.size⟩
   ·trivial
   clear ho hRl hR hB hHeld
   have hHeld := hHeld2
   clear hHeld2
   obtain ⟨hB, hR, hRl, ho, hl⟩ := hF
   clear hb5 hl5
   clear hK K
   try simp only [sqP]
   refine tkP 13 ?_
   try simp only [sqP]
   refine za (rs := [16]) (by kernel_rfl) (by simp) ?_
   refine z8.cons (o := _) rfl (fun K hK => ?_) ?_
   ·
    go_simp
    refine (HFC.out wn2 hB).mono ?_
    rintro e5 w5 ⟨v5, rfl, hz5, hb5⟩
    obtain ⟨A6, c6, rfl, -, -⟩ := hz5.fls
    dsimp only
    refine ku hK ?_ (fun W => Below w1.heap.size w1 W ∧ Arr W gr 58 [.slice none 0 0, .slice none 0 0, .int .i64 0, .int .i64 0, .int .i64 0, .slice none 0 0, .string ⟨#[]⟩, .slice none 0 0] ∧ w1.heap.size ≤ gr ∧ OwSt W w1.heap.size (.slice (some ⟨g1, 0, none⟩) s.blobs.length s.blobs.length) (.slice (some ⟨g2, 0, none⟩) s.ents.length s.ents.length) s (fun b => b < w1.heap.size ∨ b = gr) ∧ W.ownsRow w1.heap.size 9 1 (.slice A3 co.grey.length n3) co.grey.length (strs co.grey) ∧ FlsO W w1.heap.size (.slice A6 fs.length c6) fs) (fun W => True) ?_ ?_ (fun wn3 hHeld2 hF _ => ?_)
    ·exact HPB.out _ ((hB.trans (hb5.mono hB.size)))
    ·exact ⟨hB.trans (hb5.mono hB.size), hR.below hb5, hRl, ho.below hb5, zb hl hb5, hz5.lower hB.size⟩
    ·trivial
    clear hl ho hRl hR hB hHeld
    have hHeld := hHeld2
    clear hHeld2
    obtain ⟨hB, hR, hRl, ho, hl, hf⟩ := hF
    clear hb5 hz5
    clear hK K
    try simp only [sqP]
    refine tkP 17 ?_
    try simp only [sqP]
    refine za (rs := [18]) (by kernel_rfl) (by simp) ?_
    refine z8.store (o := _) rfl (by rfl) (fun K hK => ?_) ?_
    ·
     have hqho := ho.nb hR (by decide) (by decide)
     have hqhl := zm hl hR (by decide)
     have z0 := hR.cell (k := 0) rfl
     have f0 := hR.frozen 0
     have z1 := hR.cell (k := 1) rfl
     have f1 := hR.frozen 1
     have z2 := hR.cell (k := 2) rfl
     have f2 := hR.frozen 2
     have z3 := hR.cell (k := 3) rfl
     have f3 := hR.frozen 3
     have z4 := hR.cell (k := 4) rfl
     have f4 := hR.frozen 4
     have z5 := hR.cell (k := 5) rfl
     have f5 := hR.frozen 5
     have z6 := hR.cell (k := 6) rfl
     have f6 := hR.frozen 6
     have z7 := hR.cell (k := 7) rfl
     have f7 := hR.frozen 7
     go_simp
     clear z0 f0 z1 f1 z2 f2 z3 f3 z4 f4 z5 f5 z6 f6 z7 f7
     refine Y5 hK (fun W => Below w1.heap.size w1 W ∧ Arr W gr 58 [(.slice (some ⟨g1, 0, none⟩) s.blobs.length s.blobs.length), (.slice (some ⟨g2, 0, none⟩) s.ents.length s.ents.length), .int .i64 (s.room : Int), .int .i64 (s.clock : Int), .int .i64 (co.phase : Int), (.slice A3 co.grey.length n3), .string ⟨co.at_.toArray⟩, (.slice A6 fs.length c6)] ∧ w1.heap.size ≤ gr ∧ OwSt W w1.heap.size (.slice (some ⟨g1, 0, none⟩) s.blobs.length s.blobs.length) (.slice (some ⟨g2, 0, none⟩) s.ents.length s.ents.length) s (fun b => b < w1.heap.size ∨ b = gr) ∧ W.ownsRow w1.heap.size 9 1 (.slice A3 co.grey.length n3) co.grey.length (strs co.grey) ∧ FlsO W w1.heap.size (.slice A6 fs.length c6) fs) (fun W => True) ?_ ?_ (fun wn4 hF _ => ?_)
     ·exact ⟨((((((((hB).setCell (p := ⟨gr, 0, none⟩) hRl _).setCell (p := ⟨gr, 1, none⟩) hRl _).setCell (p := ⟨gr, 2, none⟩) hRl _).setCell (p := ⟨gr, 3, none⟩) hRl _).setCell (p := ⟨gr, 4, none⟩) hRl _).setCell (p := ⟨gr, 5, none⟩) hRl _).setCell (p := ⟨gr, 6, none⟩) hRl _).setCell (p := ⟨gr, 7, none⟩) hRl _, hR.all8 _ _ _ _ _ _ _ _, hRl, ho.set8N (.inr rfl) hqho.1 hqho.2 _ _ _ _ _ _ _ _, zM hl hqhl _ _ _ _ _ _ _ _, hf.set8 hR (by decide) (by decide) _ _ _ _ _ _ _ _⟩
     ·trivial
     clear hf hl ho hRl hR hB hHeld
     obtain ⟨hB, hR, hRl, ho, hl, hf⟩ := hF
     clear hqho hqhl
     clear hK K
     try simp only [sqP]
     refine zN (by kernel_rfl) ?_ _
     try dsimp only [Exit.then]
     have hall := And.intro hB (And.intro hR (And.intro hRl (And.intro ho (And.intro hl hf))))
     clear hf hl ho hRl hR hB
     generalize wn4 = wz at hall ⊢
     revert hall
     revert wz
     revert c6
     revert A6
     revert n3
     revert A3
     revert g2
     revert g1
     exact REST.out
    exact z8.nil
   exact z8.nil
  exact z8.nil
 exact z8.nil
 intro g1 g2 A3 n3 A6 c6 w3 hall
 obtain ⟨hB, hR, hRl, ho, hl, hf⟩ := hall
 go_wp2_with fail
 have hb01 : Below w.heap.size w w1 := HB01.out
 have hsz : w.heap.size ≤ w1.heap.size := hb01.size
 refine bodyPost_ret (results_cell_row rfl _ _ gr _ _ _ _ (by rfl) hR Tryz.underlying58 rfl (by kernel_rfl)) rfl ?_
 exact ⟨_, _, _, _, rfl, ⟨(ho.lower hsz).mono (fun b hb => .inl (Nat.lt_of_lt_of_le hb hsz)), zd hl hsz, hf.lower hsz⟩, hb01.trans (hB.mono hsz)⟩
theorem ke {P : Program} {fn : Func} {p u z y : Tmp} {ty : TypeId} (h : fn.results = #[.cell p ty, .tmp u, .tmp z, .tmp y]) (tmps : Array Value) (w : World) (g : Nat) (t : TypeId) (cs : Array Value) (fr : Nat × Nat) (d : TypeDesc)
  (hp : tmps.getD p undef = .pointer (some ⟨g, 0, none⟩)) (hg : w.heap[g]? = some (.cells cs t fr))
  (hu : P.underlying ty = some d) (hd : (match d with | .struct _ | .array _ _ => true | _ => false) = true) (hi : (P.info? ty).map (·.size) = some cs.size) :
  (results fn tmps).run P w = .ok (.tuple #[.agg cs, tmps.getD u undef, tmps.getD z undef, tmps.getD y undef]) w := by
 have hp' : tmps[p]?.getD undef = .pointer (some ⟨g, 0, none⟩) := by simpa using hp
 simp [results, h, hp', asAddr, run_loadVar_row w g t ty cs fr d hg hu hd hi]
section
variable {w : World} {g base : Nat} {v1 v2 v3 v4 : Value} {l : LoP} {N N' : Nat → Prop}
theorem OwLo.mono (h : OwLo w base v1 v2 v3 v4 l N) (hN : ∀ b, N' b → N b) : OwLo w base v1 v2 v3 v4 l N' := ⟨h.s.mono hN, h.c, h.f⟩
theorem OwLo.wider (h : OwLo w base v1 v2 v3 v4 l N) (hN : ∀ b, N' b → N b ∨ w.heap.size ≤ b) : OwLo w base v1 v2 v3 v4 l N' := ⟨h.s.wider hN, h.c, h.f⟩
theorem OwLo.lower {b' : Nat} (h : OwLo w base v1 v2 v3 v4 l N) (hb : b' ≤ base) : OwLo w b' v1 v2 v3 v4 l N := ⟨h.s.lower hb, zd h.c hb, h.f.lower hb⟩
theorem OwLo.set8 {xs : List Value} (h : OwLo w base v1 v2 v3 v4 l N) (hA : Arr w g 58 xs) (hN : N g) (u0 u1 u2 u3 u4 u5 u6 u7 : Value) : OwLo (Zu w g u0 u1 u2 u3 u4 u5 u6 u7) base v1 v2 v3 v4 l N :=
 ⟨h.s.set8N hN (h.s.nb hA (by decide) (by decide)).1 (h.s.nb hA (by decide) (by decide)).2 _ _ _ _ _ _ _ _, zM h.c (zm h.c hA (by decide)) _ _ _ _ _ _ _ _, h.f.set8 hA (by decide) (by decide) _ _ _ _ _ _ _ _⟩
theorem FlsO.set1 {k : Nat} {v : Value} {fs : List FlP} {e : TypeId} {xs : List Value} (h : FlsO w base v fs) (hA : Arr w g e xs) (h1 : 142 ≠ e) (h2 : 3 ≠ e) (u : Value) : FlsO (w.setCell ⟨g, k, none⟩ u) base v fs := by
 obtain ⟨As, hl, ho, hr, hd⟩ := h
 exact ⟨As, hl, zc ho (zm ho hA h1), fun k p a hp ha => ⟨zc (hr k p a hp ha).1 (zm (hr k p a hp ha).1 hA h2), (hr k p a hp ha).2⟩, hd⟩
theorem OwLo.set1 {k : Nat} {xs : List Value} (h : OwLo w base v1 v2 v3 v4 l N) (hA : Arr w g 58 xs) (hN : N g) (u : Value) : OwLo (w.setCell ⟨g, k, none⟩ u) base v1 v2 v3 v4 l N := by
 refine ⟨h.s.setX hN (h.s.nb hA (by decide) (by decide)).1 (h.s.nb hA (by decide) (by decide)).2 _, zc h.c (zm h.c hA (by decide)), h.f.set1 hA (by decide) (by decide) u⟩
theorem Arr.fst4 {e : TypeId} {x0 x1 x2 x3 x4 x5 x6 x7 : Value} (h : Arr w g e [x0, x1, x2, x3, x4, x5, x6, x7]) (u0 u1 u2 u3 : Value) : Arr (V6 w g u0 u1 u2 u3) g e [u0, u1, u2, u3, x4, x5, x6, x7] :=
 (((h.set (k := 0) (by simp) u0).set (k := 1) (by simp) u1).set (k := 2) (by simp) u2).set (k := 3) (by simp) u3
theorem OwLo.set4 {x0 x1 x2 x3 x4 x5 x6 x7 : Value} (h : OwLo w base v1 v2 v3 v4 l N) (hA : Arr w g 58 [x0, x1, x2, x3, x4, x5, x6, x7]) (hN : N g) (u0 u1 u2 u3 : Value) : OwLo (V6 w g u0 u1 u2 u3) base v1 v2 v3 v4 l N :=
 (((h.set1 hA hN u0).set1 (hA.set (k := 0) (by simp) u0) hN u1).set1 ((hA.set (k := 0) (by simp) u0).set (k := 1) (by simp) u1) hN u2).set1 (((hA.set (k := 0) (by simp) u0).set (k := 1) (by simp) u1).set (k := 2) (by simp) u2) hN u3
theorem ZO {k : Nat} {e : TypeId} {xs : List Value} (hA : Arr w k e xs) (h1 : k ≠ g) (u0 u1 u2 u3 u4 u5 u6 u7 : Value) : Arr (Zu w g u0 u1 u2 u3 u4 u5 u6 u7) k e xs :=
 (((((((hA.other h1 u0).other h1 u1).other h1 u2).other h1 u3).other h1 u4).other h1 u5).other h1 u6).other h1 u7
theorem zy {B : Nat} {w0 : World} (hb : Below B w0 w) (hg : B ≤ g) (u0 u1 u2 u3 u4 u5 u6 u7 : Value) : Below B w0 (Zu w g u0 u1 u2 u3 u4 u5 u6 u7) := Below.setCell (Below.setCell (Below.setCell (Below.setCell (Below.setCell (Below.setCell (Below.setCell (Below.setCell hb hg u0) hg u1) hg u2) hg u3) hg u4) hg u5) hg u6) hg u7
theorem OwLo.nil_ : OwLo w base (.slice none 0 0) (.slice none 0 0) (.slice none 0 0) (.slice none 0 0) loZ N :=
 ⟨⟨RwX.nil_ (World.ownsRow_nil _ _ _ _), RwX.nil_ (World.ownsRow_nil _ _ _ _), fun g h => by cases h⟩, World.ownsRow_nil _ _ _ _, FlsO.nil_ _ _ _ (World.ownsRow_nil _ _ _ _)⟩
end
set_option maxHeartbeats 8000000 in
theorem Kx (p : LoW) (l : LoP) (key : List UInt8) (n : Int) (i : Nat) (x : EntP) (w : World) (hg : GoodL l) (hr : RdLo w p l) (hx : l.st.ents[i]? = some x) (hf : l.st.ents.findIdx? (fun x => x.key == key) = some i) (h1 : 1 ≤ n) (h2 : n ≤ 1000) (hclk : l.st.clock < 1099511627776) :
  Calls Tryz.prog 32 #[loV p l, .string ⟨key.toArray⟩, .int .i64 n] w fun e w' => ∃ v1 v2 v3 v4 vp, e = .returned (.tuple #[QD v1 v2 v3 v4 { l with st := qD l.st i x }, vp, .bool false, .int .i64 0]) ∧ OwLo w' w.heap.size v1 v2 v3 v4 { l with st := qD l.st i x } (fun b => b < w.heap.size) ∧ w'.ownsRow w.heap.size 68 3 vp x.parts.length (pcs x.parts) ∧ Below w.heap.size w w' := by
 obtain ⟨X, cX, Y, dY, G, ng, F, cF⟩ := p
 obtain ⟨s, co, fs⟩ := l
 have hgs : GoodS s := hg.s
 have hlb : s.blobs.length ≤ 24 := hgs.b.len
 have hle : s.ents.length ≤ 10 := hgs.e.len
 have hlf : fs.length ≤ 6 := hg.f.len
 have hcm : cF ≤ maxLen := hr.fm
 obtain ⟨w1, hw1, hP, hR, hbx⟩ := zO w 58 58 [.slice X s.blobs.length cX, .slice Y s.ents.length dY, .int .i64 (s.room : Int), .int .i64 (s.clock : Int), .int .i64 (co.phase : Int), .slice G co.grey.length ng, .string ⟨co.at_.toArray⟩, .slice F fs.length cF] [.slice none 0 0, .slice none 0 0, .int .i64 0, .int .i64 0, .int .i64 0, .slice none 0 0, .string ⟨#[]⟩, .slice none 0 0]
 have hr1 := hr.below hbx
 have HCK := Lib.hid (yf ⟨X, cX, Y, dY, G, ng, F, cF⟩ ⟨s, co, fs⟩ w1 hg hr1)
 have HRD := Lib.hid (fun W (h : Below w1.heap.size w1 W) => hr1.below h)
 obtain ⟨gb, hgb⟩ : ∃ g, g = w.heap.size := ⟨_, rfl⟩
 rw [← hgb] at hP hR hbx ⊢
 have HPX := Lib.hid (show ∀ W, Below w1.heap.size w1 W → Arr W gb 58 [.slice X s.blobs.length cX, .slice Y s.ents.length dY, .int .i64 (s.room : Int), .int .i64 (s.clock : Int), .int .i64 (co.phase : Int), .slice G co.grey.length ng, .string ⟨co.at_.toArray⟩, .slice F fs.length cF] ∧ Arr W (gb + 1) 58 [.slice none 0 0, .slice none 0 0, .int .i64 0, .int .i64 0, .int .i64 0, .slice none 0 0, .string ⟨#[]⟩, .slice none 0 0] from fun W h => ⟨hP.below h, hR.below h⟩)
 have hg1 : gb + 1 < w1.heap.size := hR.lt
 have HG := Lib.hid hg
 have HGS := Lib.hid hgs
 have HBX := Lib.hid hbx
 have HW1 := Lib.hid hw1
 have HGB := Lib.hid hgb
 clear hg hgs hr hr1 hP hR hbx hw1 hgb
 go_enter Tryz.func32, Tryz.ntmps32
 go_wp2_with fail
 rw [← HW1.out, ← HGB.out]
 clear HW1
 refine ((HCK.out)).mono ?_; rintro e_ w2 ⟨rfl, hb2⟩; dsimp only
 clear HCK
 have HB2 := Lib.hid hb2
 have HCP := Lib.hid (yb ⟨X, cX, Y, dY, G, ng, F, cF⟩ ⟨s, co, fs⟩ w2 HG.out (HRD.out w2 HB2.out))
 have x0 := (HPX.out _ HB2.out).1.cell (k := 0) rfl
 have x1 := (HPX.out _ HB2.out).1.cell (k := 1) rfl
 have x2 := (HPX.out _ HB2.out).1.cell (k := 2) rfl
 have x3 := (HPX.out _ HB2.out).1.cell (k := 3) rfl
 have x4 := (HPX.out _ HB2.out).1.cell (k := 4) rfl
 have x5 := (HPX.out _ HB2.out).1.cell (k := 5) rfl
 have x6 := (HPX.out _ HB2.out).1.cell (k := 6) rfl
 have x7 := (HPX.out _ HB2.out).1.cell (k := 7) rfl
 go_wp2_with fail
 refine ((HCP.out)).mono ?_; rintro e_ w3 ⟨v1, v2, v3, v4, rfl, ho3, hb3⟩; dsimp only
 obtain ⟨⟨X3, cX3, Y3, dY3, G3, ng3, F3, cF3⟩, rfl, rfl, rfl, rfl, hrd3⟩ := ho3.rd
 clear x0 x1 x2 x3 x4 x5 x6 x7 HCP
 obtain ⟨w4, hw4⟩ : ∃ W, W = w3.alloc (.cells #[.slice X3 s.blobs.length cX3, .slice Y3 s.ents.length dY3, .int .i64 (s.room : Int), .int .i64 (s.clock : Int), .int .i64 (co.phase : Int), .slice G3 co.grey.length ng3, .string ⟨co.at_.toArray⟩, .slice F3 fs.length cF3] 58) := ⟨_, rfl⟩
 have hO4 : Arr w4 w3.heap.size 58 [.slice X3 s.blobs.length cX3, .slice Y3 s.ents.length dY3, .int .i64 (s.room : Int), .int .i64 (s.clock : Int), .int .i64 (co.phase : Int), .slice G3 co.grey.length ng3, .string ⟨co.at_.toArray⟩, .slice F3 fs.length cF3] := by rw [hw4]; exact Arr.new w3 58 _
 have hb34 : Below w3.heap.size w3 w4 := by rw [hw4]; exact (Below.refl _ _).alloc (Nat.le_refl _) _
 have hb13 := HB2.out.trans (hb3.mono HB2.out.size)
 have hb14 := hb13.trans (hb34.mono hb13.size)
 obtain ⟨go, hgo⟩ : ∃ g, g = w3.heap.size := ⟨_, rfl⟩
 rw [← hgo] at hO4
 have hgl : w1.heap.size ≤ go := by rw [hgo]; exact hb13.size
 have hgl4 : go < w4.heap.size := hO4.lt
 have ho4 := ((ho3.wider (N' := fun b => b < w1.heap.size ∨ b = go) (fun b hb => hb.elim (fun h => .inl (Nat.lt_of_lt_of_le h HB2.out.size)) (fun h => .inr (by rw [h, hgo]; exact Nat.le_refl _)))).below hb34).lower (b' := w1.heap.size) HB2.out.size
 have HO4 := Lib.hid ho4
 have HOB := Lib.hid hO4
 have HB14 := Lib.hid hb14
 have HBO := Lib.hid (hb3.trans (hb34.mono hb3.size))
 have HW4 := Lib.hid hw4
 have HGO := Lib.hid hgo
 clear ho3 hb3 hrd3 hO4 hb34 hb13 hb14 ho4 hw4 hgo
 repeat' ((fail_if_success (with_reducible refine zl 5 ?_)); (fail_if_success (with_reducible refine zi 5 ?_)); (fail_if_success (with_reducible refine zg 5 ?_)); (fail_if_success (with_reducible refine zk 5 ?_)); (fail_if_success (with_reducible refine zh 5 ?_)); (fail_if_success (with_reducible refine zj 5 ?_)); (fail_if_success at_builtin); (fail_if_success at_make); (first | go_values | go_skip | go_guarded | go_step | go_upon | go_back))
 rw [← HW4.out, ← HGO.out]
 clear HW4
 have hfe := xd Y dY s.ents key w4 (by omega) (HRD.out w4 HB14.out).s.e
 rw [hf] at hfe
 dsimp only [QJ] at hfe
 obtain ⟨hi, hke⟩ := uB hf
 have hxe : s.ents[i] = x := by rw [List.getElem?_eq_getElem hi] at hx; injection hx
 have hgt := fun W (h : Below w1.heap.size w1 W) => Vr X cX Y dY s key i W HGS.out (HRD.out W h).s hi hke hclk
 obtain ⟨k1, hk1⟩ : ∃ k : Int, k = ((s.clock + 1 : Nat) : Int) := ⟨_, rfl⟩
 simp only [hxe, ← hk1] at hgt
 have HK1 := Lib.hid hk1
 have HFE := Lib.hid hfe
 have HGT := Lib.hid hgt
 have hn1 : decide (n < 1) = false := decide_eq_false (by omega)
 have hn2 : decide (n > 1000) = false := decide_eq_false (by omega)
 have hn3 : decide (1000 < n) = false := decide_eq_false (by omega)
 clear hfe hgt hf hke hxe hi hx hclk h1 h2 hk1
 have x0 := (HPX.out _ HB14.out).1.cell (k := 0) rfl
 have x1 := (HPX.out _ HB14.out).1.cell (k := 1) rfl
 have x2 := (HPX.out _ HB14.out).1.cell (k := 2) rfl
 have x3 := (HPX.out _ HB14.out).1.cell (k := 3) rfl
 have x4 := (HPX.out _ HB14.out).1.cell (k := 4) rfl
 have x5 := (HPX.out _ HB14.out).1.cell (k := 5) rfl
 have x6 := (HPX.out _ HB14.out).1.cell (k := 6) rfl
 have x7 := (HPX.out _ HB14.out).1.cell (k := 7) rfl
 go_wp2_with fail
 refine ((HFE.out)).mono ?_; rintro e_ w5 ⟨rfl, hb5⟩; dsimp only
 have hb15 := HB14.out.trans (hb5.mono HB14.out.size)
 clear x0 x1 x2 x3 x4 x5 x6 x7
 have x0 := (HPX.out _ hb15).1.cell (k := 0) rfl
 have x1 := (HPX.out _ hb15).1.cell (k := 1) rfl
 have x2 := (HPX.out _ hb15).1.cell (k := 2) rfl
 have x3 := (HPX.out _ hb15).1.cell (k := 3) rfl
 have x4 := (HPX.out _ hb15).1.cell (k := 4) rfl
 have x5 := (HPX.out _ hb15).1.cell (k := 5) rfl
 have x6 := (HPX.out _ hb15).1.cell (k := 6) rfl
 have x7 := (HPX.out _ hb15).1.cell (k := 7) rfl
 have HGT5 := Lib.hid (HGT.out w5 hb15)
 have HB15 := Lib.hid hb15
 have HOB5 := Lib.hid (HOB.out.below hb5)
 have HO5 := Lib.hid (HO4.out.below hb5)
 have hgl5 : go < w5.heap.size := HOB5.out.lt
 clear hb5 hb15 HGT HFE HOB HO4
 go_wp2_with fail
 clear x0 x1 x2 x3 x4 x5 x6 x7
 refine ((HGT5.out)).mono ?_; rintro e_ w6 ⟨v5, v6, v7, rfl, ho6, hp6, hb6⟩; dsimp only
 obtain ⟨X6, cX6, Y6, dY6, rfl, rfl, hr6⟩ := ho6.rows
 obtain ⟨P6, p6, rfl, _, _⟩ := Sl.of_own hp6
 obtain ⟨w7, hw7⟩ : ∃ W, W = w6.alloc (.cells #[.slice X6 (qD s i x).blobs.length cX6, .slice Y6 (qD s i x).ents.length dY6, .int .i64 (s.room : Int), .int .i64 k1] 26) := ⟨_, rfl⟩
 have hS7 : Arr w7 w6.heap.size 26 [.slice X6 (qD s i x).blobs.length cX6, .slice Y6 (qD s i x).ents.length dY6, .int .i64 (s.room : Int), .int .i64 k1] := by rw [hw7]; exact Arr.new w6 26 _
 have hb67 : Below w6.heap.size w6 w7 := by rw [hw7]; exact (Below.refl _ _).alloc (Nat.le_refl _) _
 have hb57 := hb6.trans (hb67.mono hb6.size)
 obtain ⟨gs, hgs⟩ : ∃ g, g = w6.heap.size := ⟨_, rfl⟩
 rw [← hgs] at hS7
 have HW7 := Lib.hid hw7
 have HGS7 := Lib.hid hgs
 have HS7 := Lib.hid hS7
 have HO6 := Lib.hid (ho6.below hb67)
 have HP6 := Lib.hid (zb hp6 hb67)
 have HO7 := Lib.hid (HO5.out.below hb57)
 have HOB7 := Lib.hid (HOB5.out.below hb57)
 have HB17 := Lib.hid (HB15.out.trans (hb57.mono HB15.out.size))
 have hs57 : w5.heap.size ≤ w7.heap.size := hb57.size
 clear ho6 hp6 hb6 hr6 hw7 hS7 hb67 hb57 hgs HGT5 HO5 HOB5
 repeat' ((fail_if_success (with_reducible refine zl 12 ?_)); (fail_if_success (with_reducible refine zi 12 ?_)); (fail_if_success (with_reducible refine zg 12 ?_)); (fail_if_success (with_reducible refine zk 12 ?_)); (fail_if_success (with_reducible refine zh 12 ?_)); (fail_if_success (with_reducible refine zj 12 ?_)); (fail_if_success at_builtin); (fail_if_success at_make); (first | go_values | go_skip | go_guarded | go_step | go_upon | go_back))
 rw [← HW7.out, ← HGS7.out]
 clear HW7
 have s0 := HS7.out.cell (k := 0) rfl
 have s1 := HS7.out.cell (k := 1) rfl
 have s2 := HS7.out.cell (k := 2) rfl
 have s3 := HS7.out.cell (k := 3) rfl
 have hO7 := HOB7.out
 have o0 := hO7.cell (k := 0) rfl
 have o1 := hO7.cell (k := 1) rfl
 have o2 := hO7.cell (k := 2) rfl
 have o3 := hO7.cell (k := 3) rfl
 have o4 := hO7.cell (k := 4) rfl
 have o5 := hO7.cell (k := 5) rfl
 have o6 := hO7.cell (k := 6) rfl
 have o7 := hO7.cell (k := 7) rfl
 have m0 := hO7.frozen 0
 have m1 := hO7.frozen 1
 have m2 := hO7.frozen 2
 have m3 := hO7.frozen 3
 have m4 := hO7.frozen 4
 have m5 := hO7.frozen 5
 have m6 := hO7.frozen 6
 have m7 := hO7.frozen 7
 have hR7 := (HPX.out _ HB17.out).2
 have hbg : gb + 1 ≠ go := by omega
 have hgo1 : gb ≤ go := by omega
 have HO8 := Lib.hid (hO7.fst4 (.slice X6 (qD s i x).blobs.length cX6) (.slice Y6 (qD s i x).ents.length dY6) (.int .i64 (s.room : Int)) (.int .i64 k1))
 have HR8 := Lib.hid (XV (.slice X6 (qD s i x).blobs.length cX6) (.slice Y6 (qD s i x).ents.length dY6) (.int .i64 (s.room : Int)) (.int .i64 k1) hR7 hbg)
 have HL8 := Lib.hid (HO7.out.set4 hO7 (.inr rfl) (.slice X6 (qD s i x).blobs.length cX6) (.slice Y6 (qD s i x).ents.length dY6) (.int .i64 (s.room : Int)) (.int .i64 k1))
 have HS8 := Lib.hid (HO6.out.set4N hgl5 (HO6.out.nb hO7 (by decide) (by decide)).1 (HO6.out.nb hO7 (by decide) (by decide)).2 (.slice X6 (qD s i x).blobs.length cX6) (.slice Y6 (qD s i x).ents.length dY6) (.int .i64 (s.room : Int)) (.int .i64 k1))
 have HP8 := Lib.hid (xg HP6.out (zm HP6.out hO7 (by decide)) (.slice X6 (qD s i x).blobs.length cX6) (.slice Y6 (qD s i x).ents.length dY6) (.int .i64 (s.room : Int)) (.int .i64 k1))
 have HB8 := Lib.hid (QC (HBX.out.trans (HB17.out.mono (by omega))) hgo1 (.slice X6 (qD s i x).blobs.length cX6) (.slice Y6 (qD s i x).ents.length dY6) (.int .i64 (s.room : Int)) (.int .i64 k1))
 clear hO7 hR7 HO6 HO7 HOB7 HP6 HS7
 repeat' ((fail_if_success (with_reducible refine zl 13 ?_)); (fail_if_success (with_reducible refine zi 13 ?_)); (fail_if_success (with_reducible refine zg 13 ?_)); (fail_if_success (with_reducible refine zk 13 ?_)); (fail_if_success (with_reducible refine zh 13 ?_)); (fail_if_success (with_reducible refine zj 13 ?_)); (fail_if_success at_builtin); (fail_if_success at_make); (first | go_values | go_skip | go_guarded | go_step | go_upon | go_back))
 clear s0 s1 s2 s3 o0 o1 o2 o3 o4 o5 o6 o7 m0 m1 m2 m3 m4 m5 m6 m7
 dsimp only [V6] at HO8 HR8 HL8 HS8 HP8 HB8
 generalize (((w7.setCell ⟨go, 0, none⟩ (.slice X6 (qD s i x).blobs.length cX6)).setCell ⟨go, 1, none⟩ (.slice Y6 (qD s i x).ents.length dY6)).setCell ⟨go, 2, none⟩ (.int .i64 (s.room : Int))).setCell ⟨go, 3, none⟩ (.int .i64 k1) = w8 at *
 have hO := HO8.out
 have hR := HR8.out
 have o0 := hO.cell (k := 0) rfl
 have o1 := hO.cell (k := 1) rfl
 have o2 := hO.cell (k := 2) rfl
 have o3 := hO.cell (k := 3) rfl
 have o4 := hO.cell (k := 4) rfl
 have o5 := hO.cell (k := 5) rfl
 have o6 := hO.cell (k := 6) rfl
 have o7 := hO.cell (k := 7) rfl
 have m0 := hO.frozen 0
 have m1 := hO.frozen 1
 have m2 := hO.frozen 2
 have m3 := hO.frozen 3
 have m4 := hO.frozen 4
 have m5 := hO.frozen 5
 have m6 := hO.frozen 6
 have m7 := hO.frozen 7
 have y0 := hR.cell (k := 0) rfl
 have y1 := hR.cell (k := 1) rfl
 have y2 := hR.cell (k := 2) rfl
 have y3 := hR.cell (k := 3) rfl
 have y4 := hR.cell (k := 4) rfl
 have y5 := hR.cell (k := 5) rfl
 have y6 := hR.cell (k := 6) rfl
 have y7 := hR.cell (k := 7) rfl
 have f0 := hR.frozen 0
 have f1 := hR.frozen 1
 have f2 := hR.frozen 2
 have f3 := hR.frozen 3
 have f4 := hR.frozen 4
 have f5 := hR.frozen 5
 have f6 := hR.frozen 6
 have f7 := hR.frozen 7
 have HFN := Lib.hid (hR.all8 (.slice X6 (qD s i x).blobs.length cX6) (.slice Y6 (qD s i x).ents.length dY6) (.int .i64 (s.room : Int)) (.int .i64 k1) (.int .i64 (co.phase : Int)) (.slice G3 co.grey.length ng3) (.string ⟨co.at_.toArray⟩) (.slice F3 fs.length cF3))
 have HS9 := Lib.hid (HS8.out.set8N (show gb + 1 < w5.heap.size by omega) (HS8.out.nb hR (by decide) (by decide)).1 (HS8.out.nb hR (by decide) (by decide)).2 (.slice X6 (qD s i x).blobs.length cX6) (.slice Y6 (qD s i x).ents.length dY6) (.int .i64 (s.room : Int)) (.int .i64 k1) (.int .i64 (co.phase : Int)) (.slice G3 co.grey.length ng3) (.string ⟨co.at_.toArray⟩) (.slice F3 fs.length cF3))
 have HC9 := Lib.hid (zM HL8.out.c (zm HL8.out.c hR (by decide)) (.slice X6 (qD s i x).blobs.length cX6) (.slice Y6 (qD s i x).ents.length dY6) (.int .i64 (s.room : Int)) (.int .i64 k1) (.int .i64 (co.phase : Int)) (.slice G3 co.grey.length ng3) (.string ⟨co.at_.toArray⟩) (.slice F3 fs.length cF3))
 have HF9 := Lib.hid (HL8.out.f.set8 hR (by decide) (by decide) (.slice X6 (qD s i x).blobs.length cX6) (.slice Y6 (qD s i x).ents.length dY6) (.int .i64 (s.room : Int)) (.int .i64 k1) (.int .i64 (co.phase : Int)) (.slice G3 co.grey.length ng3) (.string ⟨co.at_.toArray⟩) (.slice F3 fs.length cF3))
 have HP9 := Lib.hid (zM HP8.out (zm HP8.out hR (by decide)) (.slice X6 (qD s i x).blobs.length cX6) (.slice Y6 (qD s i x).ents.length dY6) (.int .i64 (s.room : Int)) (.int .i64 k1) (.int .i64 (co.phase : Int)) (.slice G3 co.grey.length ng3) (.string ⟨co.at_.toArray⟩) (.slice F3 fs.length cF3))
 have HB9 := Lib.hid (zy HB8.out (show gb ≤ gb + 1 by omega) (.slice X6 (qD s i x).blobs.length cX6) (.slice Y6 (qD s i x).ents.length dY6) (.int .i64 (s.room : Int)) (.int .i64 k1) (.int .i64 (co.phase : Int)) (.slice G3 co.grey.length ng3) (.string ⟨co.at_.toArray⟩) (.slice F3 fs.length cF3))
 clear hO hR
 go_wp2_with fail
 have hk1 : k1 = (((qD s i x).clock : Nat) : Int) := HK1.out
 clear HK1
 subst hk1
 have hb5 : gb ≤ w5.heap.size := by omega
 have hb1 : gb ≤ w1.heap.size := by omega
 refine bodyPost_ret (ke rfl _ _ (gb + 1) _ _ _ _ (by rfl) HFN.out Tryz.underlying58 rfl (by kernel_rfl)) rfl ?_
 exact ⟨_, _, _, _, _, rfl, ⟨(HS9.out.lower hb5).mono (fun b hb => by omega), zd HC9.out hb1, HF9.out.lower hb1⟩, zd HP9.out hb5, HB9.out⟩
theorem YM (A : Option Addr) (c : Nat) (fs : List FlP) (key : List UInt8) (n : Int) (w : World) (hG : GoodF fs) (hf : Fls w A fs) (hc : fs.length ≤ c) (hm : c ≤ maxLen) (hk : hexC key = 0) (hks : key.length ≤ 1000) (h1 : 1 ≤ n) (h2 : n ≤ 1000) :
  Calls Tryz.prog 92 #[.slice A fs.length c, .string ⟨key.toArray⟩, .int .i64 n] w fun e w' => ∃ v, e = .returned (.tuple #[v, .bool (qN fs key n).2.1, .int .i64 ((qN fs key n).2.2 : Int)]) ∧ FlsO w' w.heap.size v (qN fs key n).1 ∧ Below w.heap.size w w' := by
 have hkk : (⟨key.toArray⟩ : ByteArray).data.toList = key := List.toList_toArray
 have hsz : (⟨key.toArray⟩ : ByteArray).size ≤ 140737488351232 := by show key.toArray.size ≤ _; rw [List.size_toArray]; omega
 have hno : ∀ {w' : World}, FlsO w' w.heap.size (.slice none 0 0) [] := fun {w'} => FlsO.nil_ _ _ _ (World.ownsRow_nil _ _ _ _)
 unfold qN
 cases hfn : fnd 0 fs key with
 | none =>
  simp only
  by_cases h6 : fs.length = 6
  ·rw [if_pos h6]
   exact (KD A c fs ⟨key.toArray⟩ n w hG hf hc hm (by rw [hkk]; exact hk) hsz h1 h2 (by rw [hkk]; exact hfn) h6).mono fun e w' ⟨he, hb⟩ => ⟨_, he, hno, hb⟩
  ·rw [if_neg h6]
   have h := Xq A c fs ⟨key.toArray⟩ n w hG hf hc hm (by rw [hkk]; exact hk) hsz h1 h2 (by rw [hkk]; exact hfn) (by have := hG.len; omega)
   rw [hkk] at h
   exact h
 | some i =>
  obtain ⟨hi, _⟩ := ki hfn
  simp only [List.getElem?_eq_getElem hi]
  by_cases hin : (fs[i].lead :: fs[i].wait).contains n = true
  ·rw [if_pos hin]
   exact (VQ A c fs ⟨key.toArray⟩ n i w hG hf hc hm (by rw [hkk]; exact hk) hsz h1 h2 (by rw [hkk]; exact hfn) hi hin).mono fun e w' ⟨he, hb⟩ => ⟨_, he, hno, hb⟩
  ·rw [if_neg hin]
   have hin' : (fs[i].lead :: fs[i].wait).contains n = false := by simpa using hin
   by_cases h5 : fs[i].wait.length = 5
   ·rw [if_pos h5]
    exact (YE A c fs ⟨key.toArray⟩ n i w hG hf hc hm (by rw [hkk]; exact hk) hsz h1 h2 (by rw [hkk]; exact hfn) hi hin' h5).mono fun e w' ⟨he, hb⟩ => ⟨_, he, hno, hb⟩
   ·rw [if_neg h5]
    exact Kq A c fs ⟨key.toArray⟩ n i w hG hf hc hm (by rw [hkk]; exact hk) hsz h1 h2 (by rw [hkk]; exact hfn) hi hin' (by have := hG.few i hi; omega)
set_option maxHeartbeats 8000000 in
theorem Qt (p : LoW) (l : LoP) (key : List UInt8) (n : Int) (w : World) (hg : GoodL l) (hr : RdLo w p l) (hf : l.st.ents.findIdx? (fun x => x.key == key) = none) (hk : hexC key = 0) (hkl : key.length ≤ 1000) (h1 : 1 ≤ n) (h2 : n ≤ 1000) (fs2 : List FlP) (lead : Bool) (q : Nat) (hj : qN l.fs key n = (fs2, lead, q)) :
  Calls Tryz.prog 32 #[loV p l, .string ⟨key.toArray⟩, .int .i64 n] w fun e w' => ∃ v1 v2 v3 v4, e = .returned (.tuple #[QD v1 v2 v3 v4 (if q = 0 then { l with fs := fs2 } else loZ), .slice none 0 0, .bool (if q = 0 then lead else false), .int .i64 (q : Int)]) ∧ OwLo w' w.heap.size v1 v2 v3 v4 (if q = 0 then { l with fs := fs2 } else loZ) (fun b => b < w.heap.size) ∧ Below w.heap.size w w' := by
 obtain ⟨X, cX, Y, dY, G, ng, F, cF⟩ := p
 obtain ⟨s, co, fs⟩ := l
 have hgs : GoodS s := hg.s
 have hlb : s.blobs.length ≤ 24 := hgs.b.len
 have hle : s.ents.length ≤ 10 := hgs.e.len
 have hlf : fs.length ≤ 6 := hg.f.len
 have hcm : cF ≤ maxLen := hr.fm
 obtain ⟨w1, hw1, hP, hR, hbx⟩ := zO w 58 58 [.slice X s.blobs.length cX, .slice Y s.ents.length dY, .int .i64 (s.room : Int), .int .i64 (s.clock : Int), .int .i64 (co.phase : Int), .slice G co.grey.length ng, .string ⟨co.at_.toArray⟩, .slice F fs.length cF] [.slice none 0 0, .slice none 0 0, .int .i64 0, .int .i64 0, .int .i64 0, .slice none 0 0, .string ⟨#[]⟩, .slice none 0 0]
 have hr1 := hr.below hbx
 have HCK := Lib.hid (yf ⟨X, cX, Y, dY, G, ng, F, cF⟩ ⟨s, co, fs⟩ w1 hg hr1)
 have HRD := Lib.hid (fun W (h : Below w1.heap.size w1 W) => hr1.below h)
 obtain ⟨gb, hgb⟩ : ∃ g, g = w.heap.size := ⟨_, rfl⟩
 rw [← hgb] at hP hR hbx ⊢
 have HPX := Lib.hid (show ∀ W, Below w1.heap.size w1 W → Arr W gb 58 [.slice X s.blobs.length cX, .slice Y s.ents.length dY, .int .i64 (s.room : Int), .int .i64 (s.clock : Int), .int .i64 (co.phase : Int), .slice G co.grey.length ng, .string ⟨co.at_.toArray⟩, .slice F fs.length cF] ∧ Arr W (gb + 1) 58 [.slice none 0 0, .slice none 0 0, .int .i64 0, .int .i64 0, .int .i64 0, .slice none 0 0, .string ⟨#[]⟩, .slice none 0 0] from fun W h => ⟨hP.below h, hR.below h⟩)
 have hg1 : gb + 1 < w1.heap.size := hR.lt
 have HG := Lib.hid hg
 have HGS := Lib.hid hgs
 have HBX := Lib.hid hbx
 have HW1 := Lib.hid hw1
 have HGB := Lib.hid hgb
 clear hg hgs hr hr1 hP hR hbx hw1 hgb
 go_enter Tryz.func32, Tryz.ntmps32
 repeat' (fail_if_success (first|at_builtin|at_make));first|go_values|go_skip|go_guarded|go_step|go_upon|go_back
 rw [← HW1.out, ← HGB.out]
 clear HW1
 refine ((HCK.out)).mono ?_; rintro e_ w2 ⟨rfl, hb2⟩; dsimp only
 clear HCK
 have HB2 := Lib.hid hb2
 have HCP := Lib.hid (yb ⟨X, cX, Y, dY, G, ng, F, cF⟩ ⟨s, co, fs⟩ w2 HG.out (HRD.out w2 HB2.out))
 have x0 := (HPX.out _ HB2.out).1.cell (k := 0) rfl
 have x1 := (HPX.out _ HB2.out).1.cell (k := 1) rfl
 have x2 := (HPX.out _ HB2.out).1.cell (k := 2) rfl
 have x3 := (HPX.out _ HB2.out).1.cell (k := 3) rfl
 have x4 := (HPX.out _ HB2.out).1.cell (k := 4) rfl
 have x5 := (HPX.out _ HB2.out).1.cell (k := 5) rfl
 have x6 := (HPX.out _ HB2.out).1.cell (k := 6) rfl
 have x7 := (HPX.out _ HB2.out).1.cell (k := 7) rfl
 repeat' (fail_if_success (first|at_builtin|at_make));first|go_values|go_skip|go_guarded|go_step|go_upon|go_back
 refine ((HCP.out)).mono ?_; rintro e_ w3 ⟨v1, v2, v3, v4, rfl, ho3, hb3⟩; dsimp only
 obtain ⟨⟨X3, cX3, Y3, dY3, G3, ng3, F3, cF3⟩, rfl, rfl, rfl, rfl, hrd3⟩ := ho3.rd
 clear x0 x1 x2 x3 x4 x5 x6 x7 HCP
 obtain ⟨w4, hw4⟩ : ∃ W, W = w3.alloc (.cells #[.slice X3 s.blobs.length cX3, .slice Y3 s.ents.length dY3, .int .i64 (s.room : Int), .int .i64 (s.clock : Int), .int .i64 (co.phase : Int), .slice G3 co.grey.length ng3, .string ⟨co.at_.toArray⟩, .slice F3 fs.length cF3] 58) := ⟨_, rfl⟩
 have hO4 : Arr w4 w3.heap.size 58 [.slice X3 s.blobs.length cX3, .slice Y3 s.ents.length dY3, .int .i64 (s.room : Int), .int .i64 (s.clock : Int), .int .i64 (co.phase : Int), .slice G3 co.grey.length ng3, .string ⟨co.at_.toArray⟩, .slice F3 fs.length cF3] := by rw [hw4]; exact Arr.new w3 58 _
 have hb34 : Below w3.heap.size w3 w4 := by rw [hw4]; exact (Below.refl _ _).alloc (Nat.le_refl _) _
 have hb13 := HB2.out.trans (hb3.mono HB2.out.size)
 have hb14 := hb13.trans (hb34.mono hb13.size)
 obtain ⟨go, hgo⟩ : ∃ g, g = w3.heap.size := ⟨_, rfl⟩
 rw [← hgo] at hO4
 have hgl : w1.heap.size ≤ go := by rw [hgo]; exact hb13.size
 have hgl4 : go < w4.heap.size := hO4.lt
 have ho4 := ((ho3.wider (N' := fun b => b < w1.heap.size ∨ b = go) (fun b hb => hb.elim (fun h => .inl (Nat.lt_of_lt_of_le h HB2.out.size)) (fun h => .inr (by rw [h, hgo]; exact Nat.le_refl _)))).below hb34).lower (b' := w1.heap.size) HB2.out.size
 have HO4 := Lib.hid ho4
 have HOB := Lib.hid hO4
 have HB14 := Lib.hid hb14
 have HBO := Lib.hid (hb3.trans (hb34.mono hb3.size))
 have HW4 := Lib.hid hw4
 have HGO := Lib.hid hgo
 clear ho3 hb3 hrd3 hO4 hb34 hb13 hb14 ho4 hw4 hgo
 repeat' ((fail_if_success (with_reducible refine zl 5 ?_)); (fail_if_success (with_reducible refine zi 5 ?_)); (fail_if_success (with_reducible refine zg 5 ?_)); (fail_if_success (with_reducible refine zk 5 ?_)); (fail_if_success (with_reducible refine zh 5 ?_)); (fail_if_success (with_reducible refine zj 5 ?_)); (fail_if_success at_builtin); (fail_if_success at_make); (first | go_values | go_skip | go_guarded | go_step | go_upon | go_back))
 rw [← HW4.out, ← HGO.out]
 clear HW4
 have hfe := xd Y dY s.ents key w4 (by omega) (HRD.out w4 HB14.out).s.e
 rw [hf] at hfe
 dsimp only [QJ] at hfe
 have hjn := fun W (h : Below w1.heap.size w1 W) => YM F cF fs key n W HG.out.f (HRD.out W h).f (HRD.out W h).fc (HRD.out W h).fm hk hkl h1 h2
 dsimp only at hj
 simp only [hj] at hjn
 have HFE := Lib.hid hfe
 have HJN := Lib.hid hjn
 clear hfe hjn hf hk hkl h1 h2 hj
 have x0 := (HPX.out _ HB14.out).1.cell (k := 0) rfl
 have x1 := (HPX.out _ HB14.out).1.cell (k := 1) rfl
 have x2 := (HPX.out _ HB14.out).1.cell (k := 2) rfl
 have x3 := (HPX.out _ HB14.out).1.cell (k := 3) rfl
 have x4 := (HPX.out _ HB14.out).1.cell (k := 4) rfl
 have x5 := (HPX.out _ HB14.out).1.cell (k := 5) rfl
 have x6 := (HPX.out _ HB14.out).1.cell (k := 6) rfl
 have x7 := (HPX.out _ HB14.out).1.cell (k := 7) rfl
 repeat' (fail_if_success (first|at_builtin|at_make));first|go_values|go_skip|go_guarded|go_step|go_upon|go_back
 refine ((HFE.out)).mono ?_; rintro e_ w5 ⟨rfl, hb5⟩; dsimp only
 have hb15 := HB14.out.trans (hb5.mono HB14.out.size)
 clear x0 x1 x2 x3 x4 x5 x6 x7
 have x0 := (HPX.out _ hb15).1.cell (k := 0) rfl
 have x1 := (HPX.out _ hb15).1.cell (k := 1) rfl
 have x2 := (HPX.out _ hb15).1.cell (k := 2) rfl
 have x3 := (HPX.out _ hb15).1.cell (k := 3) rfl
 have x4 := (HPX.out _ hb15).1.cell (k := 4) rfl
 have x5 := (HPX.out _ hb15).1.cell (k := 5) rfl
 have x6 := (HPX.out _ hb15).1.cell (k := 6) rfl
 have x7 := (HPX.out _ hb15).1.cell (k := 7) rfl
 have HJN5 := Lib.hid (HJN.out w5 hb15)
 have HB15 := Lib.hid hb15
 have HOB5 := Lib.hid (HOB.out.below hb5)
 have HO5 := Lib.hid (HO4.out.below hb5)
 have hgl5 : go < w5.heap.size := HOB5.out.lt
 clear hb5 hb15 HJN HFE HOB HO4
 repeat' (fail_if_success (first|at_builtin|at_make));first|go_values|go_skip|go_guarded|go_step|go_upon|go_back
 clear x0 x1 x2 x3 x4 x5 x6 x7
 refine ((HJN5.out)).mono ?_; rintro e_ w6 ⟨v5, rfl, hf6, hb6⟩; dsimp only
 obtain ⟨F6, c6, rfl, _, _⟩ := hf6.fls
 have hb16 := HB15.out.trans (hb6.mono HB15.out.size)
 by_cases hq : q = 0
 rotate_left
 ·have hq1 : ((q : Int) != 0) = true := by rw [bne_iff_ne]; omega
  have HQ := Lib.hid hq
  clear hq
  have hR := (HPX.out _ hb16).2
  have y0 := hR.cell (k := 0) rfl
  have y1 := hR.cell (k := 1) rfl
  have y2 := hR.cell (k := 2) rfl
  have y3 := hR.cell (k := 3) rfl
  have y4 := hR.cell (k := 4) rfl
  have y5 := hR.cell (k := 5) rfl
  have y6 := hR.cell (k := 6) rfl
  have y7 := hR.cell (k := 7) rfl
  have f0 := hR.frozen 0
  have f1 := hR.frozen 1
  have f2 := hR.frozen 2
  have f3 := hR.frozen 3
  have f4 := hR.frozen 4
  have f5 := hR.frozen 5
  have f6 := hR.frozen 6
  have f7 := hR.frozen 7
  have HFN := Lib.hid (hR.all8 (.slice none 0 0) (.slice none 0 0) (.int .i64 0) (.int .i64 0) (.int .i64 0) (.slice none 0 0) (.string ⟨#[]⟩) (.slice none 0 0))
  have HB9 := Lib.hid (zy (HBX.out.trans (Below.mono hb16 (by omega))) (show gb ≤ gb + 1 by omega) (.slice none 0 0) (.slice none 0 0) (.int .i64 0) (.int .i64 0) (.int .i64 0) (.slice none 0 0) (.string ⟨#[]⟩) (.slice none 0 0))
  clear hR
  repeat' (fail_if_success (first|at_builtin|at_make));first|go_values|go_skip|go_guarded|go_step|go_upon|go_back
  refine bodyPost_ret (ke rfl _ _ (gb + 1) _ _ _ _ (by rfl) HFN.out Tryz.underlying58 rfl (by kernel_rfl)) rfl ?_
  rw [if_neg HQ.out, if_neg HQ.out]
  exact ⟨_, _, _, _, rfl, OwLo.nil_, HB9.out⟩
 subst hq
 have hO6 := HOB5.out.below hb6
 have hR6 := (HPX.out _ hb16).2
 have hbg : gb + 1 ≠ go := by omega
 have hgo1 : gb ≤ go := by omega
 have o0 := hO6.cell (k := 0) rfl
 have o1 := hO6.cell (k := 1) rfl
 have o2 := hO6.cell (k := 2) rfl
 have o3 := hO6.cell (k := 3) rfl
 have o4 := hO6.cell (k := 4) rfl
 have o5 := hO6.cell (k := 5) rfl
 have o6 := hO6.cell (k := 6) rfl
 have o7 := hO6.cell (k := 7) rfl
 have m0 := hO6.frozen 0
 have m1 := hO6.frozen 1
 have m2 := hO6.frozen 2
 have m3 := hO6.frozen 3
 have m4 := hO6.frozen 4
 have m5 := hO6.frozen 5
 have m6 := hO6.frozen 6
 have m7 := hO6.frozen 7
 have HO7 := Lib.hid (hO6.set (k := 7) (by simp) (.slice F6 fs2.length c6))
 have HR7 := Lib.hid (hR6.other hbg (k := 7) (.slice F6 fs2.length c6))
 have HL7 := Lib.hid ((HO5.out.below hb6).set1 (k := 7) hO6 (.inr rfl) (.slice F6 fs2.length c6))
 have HF7 := Lib.hid (hf6.set1 (k := 7) hO6 (by decide) (by decide) (.slice F6 fs2.length c6))
 have HB7 := Lib.hid (Below.setCell (p := ⟨go, 7, none⟩) (HBX.out.trans (hb16.mono (by omega))) hgo1 (.slice F6 fs2.length c6))
 clear hO6 hR6 hf6 hb6 hb16 HJN5 HO5 HOB5
 repeat' ((fail_if_success (with_reducible refine zl 18 ?_)); (fail_if_success (with_reducible refine zi 18 ?_)); (fail_if_success (with_reducible refine zg 18 ?_)); (fail_if_success (with_reducible refine zk 18 ?_)); (fail_if_success (with_reducible refine zh 18 ?_)); (fail_if_success (with_reducible refine zj 18 ?_)); (fail_if_success at_builtin); (fail_if_success at_make); (first | go_values | go_skip | go_guarded | go_step | go_upon | go_back))
 clear o0 o1 o2 o3 o4 o5 o6 o7 m0 m1 m2 m3 m4 m5 m6 m7
 generalize w6.setCell ⟨go, 7, none⟩ (.slice F6 fs2.length c6) = w8 at *
 have hO := HO7.out
 have hR := HR7.out
 have o0 := hO.cell (k := 0) rfl
 have o1 := hO.cell (k := 1) rfl
 have o2 := hO.cell (k := 2) rfl
 have o3 := hO.cell (k := 3) rfl
 have o4 := hO.cell (k := 4) rfl
 have o5 := hO.cell (k := 5) rfl
 have o6 := hO.cell (k := 6) rfl
 have o7 := hO.cell (k := 7) rfl
 have m0 := hO.frozen 0
 have m1 := hO.frozen 1
 have m2 := hO.frozen 2
 have m3 := hO.frozen 3
 have m4 := hO.frozen 4
 have m5 := hO.frozen 5
 have m6 := hO.frozen 6
 have m7 := hO.frozen 7
 have y0 := hR.cell (k := 0) rfl
 have y1 := hR.cell (k := 1) rfl
 have y2 := hR.cell (k := 2) rfl
 have y3 := hR.cell (k := 3) rfl
 have y4 := hR.cell (k := 4) rfl
 have y5 := hR.cell (k := 5) rfl
 have y6 := hR.cell (k := 6) rfl
 have y7 := hR.cell (k := 7) rfl
 have f0 := hR.frozen 0
 have f1 := hR.frozen 1
 have f2 := hR.frozen 2
 have f3 := hR.frozen 3
 have f4 := hR.frozen 4
 have f5 := hR.frozen 5
 have f6 := hR.frozen 6
 have f7 := hR.frozen 7
 have HFN := Lib.hid (hR.all8 (.slice X3 s.blobs.length cX3) (.slice Y3 s.ents.length dY3) (.int .i64 (s.room : Int)) (.int .i64 (s.clock : Int)) (.int .i64 (co.phase : Int)) (.slice G3 co.grey.length ng3) (.string ⟨co.at_.toArray⟩) (.slice F6 fs2.length c6))
 have HL9 := Lib.hid (HL7.out.set8 hR (.inl (by omega)) (.slice X3 s.blobs.length cX3) (.slice Y3 s.ents.length dY3) (.int .i64 (s.room : Int)) (.int .i64 (s.clock : Int)) (.int .i64 (co.phase : Int)) (.slice G3 co.grey.length ng3) (.string ⟨co.at_.toArray⟩) (.slice F6 fs2.length c6))
 have HF9 := Lib.hid (HF7.out.set8 hR (by decide) (by decide) (.slice X3 s.blobs.length cX3) (.slice Y3 s.ents.length dY3) (.int .i64 (s.room : Int)) (.int .i64 (s.clock : Int)) (.int .i64 (co.phase : Int)) (.slice G3 co.grey.length ng3) (.string ⟨co.at_.toArray⟩) (.slice F6 fs2.length c6))
 have HB9 := Lib.hid (zy HB7.out (show gb ≤ gb + 1 by omega) (.slice X3 s.blobs.length cX3) (.slice Y3 s.ents.length dY3) (.int .i64 (s.room : Int)) (.int .i64 (s.clock : Int)) (.int .i64 (co.phase : Int)) (.slice G3 co.grey.length ng3) (.string ⟨co.at_.toArray⟩) (.slice F6 fs2.length c6))
 clear hO hR
 repeat' (fail_if_success (first|at_builtin|at_make));first|go_values|go_skip|go_guarded|go_step|go_upon|go_back
 have hb5 : gb ≤ w5.heap.size := by omega
 have hb1 : gb ≤ w1.heap.size := by omega
 refine bodyPost_ret (ke rfl _ _ (gb + 1) _ _ _ _ (by rfl) HFN.out Tryz.underlying58 rfl (by kernel_rfl)) rfl ?_
 rw [if_pos rfl, if_pos rfl]
 exact ⟨_, _, _, _, rfl, ⟨(HL9.out.s.lower hb1).mono (fun b hb => .inl (by omega)), zd HL9.out.c hb1, HF9.out.lower hb5⟩, HB9.out⟩
theorem uq (p : LoW) (l : LoP) (key : List UInt8) (n : Int) (w : World) (hg : GoodL l) (hr : RdLo w p l) (hk : hexC key = 0) (hkl : key.length ≤ 1000) (h1 : 1 ≤ n) (h2 : n ≤ 1000) (hclk : l.st.clock < 1099511627776) :
  Calls Tryz.prog 32 #[loV p l, .string ⟨key.toArray⟩, .int .i64 n] w fun e w' => ∃ v1 v2 v3 v4 vp, e = .returned (.tuple #[QD v1 v2 v3 v4 (yW l key n).1, vp, .bool (yW l key n).2.2.1, .int .i64 ((yW l key n).2.2.2 : Int)]) ∧ OwLo w' w.heap.size v1 v2 v3 v4 (yW l key n).1 (fun b => b < w.heap.size) ∧ w'.ownsRow w.heap.size 68 3 vp (yW l key n).2.1.length (pcs (yW l key n).2.1) ∧ Below w.heap.size w w' := by
 unfold yW
 cases hf : l.st.ents.findIdx? (fun x => x.key == key) with
 | some i =>
  obtain ⟨hi, _⟩ := uB hf
  simp only [List.getElem?_eq_getElem hi]
  exact Kx p l key n i l.st.ents[i] w hg hr (List.getElem?_eq_getElem hi) hf h1 h2 hclk
 | none =>
  simp only
  refine (Qt p l key n w hg hr hf hk hkl h1 h2 (qN l.fs key n).1 (qN l.fs key n).2.1 (qN l.fs key n).2.2 rfl).mono ?_
  rintro e w' ⟨v1, v2, v3, v4, he, ho, hb⟩
  by_cases hq : (qN l.fs key n).2.2 = 0
  ·rw [if_pos hq]
   rw [if_pos hq, if_pos hq] at he
   rw [if_pos hq] at ho
   rw [hq] at he
   exact ⟨v1, v2, v3, v4, _, he, ho, World.ownsRow_nil _ _ _ _, hb⟩
  ·rw [if_neg hq]
   rw [if_neg hq, if_neg hq] at he
   rw [if_neg hq] at ho
   exact ⟨v1, v2, v3, v4, _, he, ho, World.ownsRow_nil _ _ _ _, hb⟩
end Go.Proofs.YtpbacomdoddhdaaGreat
