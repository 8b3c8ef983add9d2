/- mark.Step. Condition: a store that may be. -/
import Derived.Test.YtmjcoebfldmgnaaGreatMrk
namespace Go.Proofs.YtmjcoebfldmgnaaGreat
open Go.RowKit Go.Maps
set_option linter.unusedVariables false
set_option linter.unusedSimpArgs false
set_option maxRecDepth 100000

/-! short words -/
abbrev qv (g n : Nat) : Value := .slice (some ⟨g, 0, none⟩) n n
abbrev z4 : List Value := [.slice none 0 0, .slice none 0 0, .int .i64 0, .int .i64 0]
abbrev z3 : List Value := [.int .i64 0, .slice none 0 0, .string ⟨#[]⟩]
abbrev ms (s : StoP) (grey : List (List UInt8)) : StoP × ColP := mStep s ⟨1, grey, []⟩
theorem share_m {P Q : Prop} (h : Hid P → Q) (p : P) : Q := h (Lib.hid p)
set_option maxHeartbeats 16000000 in
theorem MStep_ok (A : Option Addr) (c : Nat) (B : Option Addr) (d : Nat) (s : StoP) (Ag : Option Addr) (ng : Nat) (cp : ColP) (w : World) (hg : GoodS s) (hr : RdSt w A c B d s) (hp : cp.phase = 1) (hat : cp.at_ = []) (hgl : cp.grey.length ≤ 1000) (hc : RdC w Ag ng cp) :
    Calls Tryz.prog 34 #[.agg #[.slice A s.blobs.length c, .slice B s.ents.length d, .int .i64 (s.room : Int), .int .i64 (s.clock : Int)], coV (.slice Ag cp.grey.length ng) cp] w fun e w' =>
      ∃ v1 v2 v3, e = .returned (.tuple #[stV v1 v2 s, coV v3 (mStep s cp).2, .int .i64 0]) ∧ OwSt w' w.heap.size v1 v2 (mStep s cp).1 (fun b => b < w.heap.size) ∧ w'.ownsRow w.heap.size 9 1 v3 (mStep s cp).2.grey.length (strs (mStep s cp).2.grey) ∧ Below w.heap.size w w' := by
  obtain ⟨phase, grey, at_⟩ := cp
  simp only at hp hat hgl
  subst hp hat
  have hlb : s.blobs.length ≤ 24 := hg.b.len
  have hle : s.ents.length ≤ 10 := hg.e.len
  have HGD := Lib.hid hg
  obtain ⟨w0, hw0, hS, hC, hR, hD, hb0⟩ := four_new w 26 60 [.slice A s.blobs.length c, .slice B s.ents.length d, .int .i64 (s.room : Int), .int .i64 (s.clock : Int)] [.int .i64 1, .slice Ag grey.length ng, .string ⟨#[]⟩] [.slice none 0 0, .slice none 0 0, .int .i64 0, .int .i64 0] [.int .i64 0, .slice none 0 0, .string ⟨#[]⟩]
  have hr0 := hr.below hb0
  have hc0 := hc.below hb0
  obtain ⟨H, hH⟩ : ∃ H, H = w.heap.size := ⟨_, rfl⟩
  have HCK := Lib.hid (CheckS_ok A c B d s w0 hg hr0)
  rw [← hH] at hS hC hR hD hb0 ⊢
  have hHl : H + 1 + 1 + 1 < w0.heap.size := hD.lt
  have x0 := hS.cell (k := 0) rfl
  have x1 := hS.cell (k := 1) rfl
  have x2 := hS.cell (k := 2) rfl
  have x3 := hS.cell (k := 3) rfl
  rw [hw0, hH] at x0 x1 x2 x3
  have HPL := Lib.hid (show ∀ b ∈ s.blobs, b.data.length ≤ 1000000 from fun b hb => by have := (hg.b.one b hb).2.1; omega)
  have HQL := Lib.hid (show ∀ x ∈ s.ents, x.parts.length ≤ 1000000 from fun x hx => by have := (chk_zero (hg.e.one x hx).2.1).1; omega)
  clear hg hr hc
  go_enter Tryz.func34, Tryz.ntmps34
  repeat' ((fail_if_success at_builtin); (fail_if_success at_make); (first | go_values | go_skip | go_guarded | go_step | go_upon | go_back))
  rw [← hw0, ← hH]
  have HH := Lib.hid hH
  clear hw0 hH x0 x1 x2 x3
  refine ((HCK.out)).mono ?_; rintro e_ w1 ⟨rfl, hb1⟩; dsimp only
  have hr1 := hr0.below hb1
  have hc1 := hc0.below hb1
  have hS1 := hS.below hb1
  have hC1 := hC.below hb1
  have hR1 := hR.below hb1
  have hD1 := hD.below hb1
  have hs1 := hb1.size
  have hb01 := hb0.trans (hb1.mono (by omega))
  have x0 := hC1.cell (k := 0) rfl
  clear hr0 hc0 hS hC hR hD hb0 hb1 HCK
  repeat' ((fail_if_success (with_reducible refine at_reg_ 6 ?_)); (fail_if_success (with_reducible refine at_sreg_ 6 ?_)); (fail_if_success (with_reducible refine at_ssreg_ 6 ?_)); (fail_if_success at_builtin); (fail_if_success at_make); (first | go_values | go_skip | go_guarded | go_step | go_upon | go_back))
  clear x0
  have HSB := Lib.hid (show ∀ W, Below w1.heap.size w1 W → (W.cell? ⟨H, 0, none⟩ = some (.slice A s.blobs.length c) ∧ W.cell? ⟨H, 1, none⟩ = some (.slice B s.ents.length d) ∧ W.cell? ⟨H, 2, none⟩ = some (.int .i64 (s.room : Int)) ∧ W.cell? ⟨H, 3, none⟩ = some (.int .i64 (s.clock : Int))) ∧ (W.cell? ⟨H + 1, 0, none⟩ = some (.int .i64 1) ∧ W.cell? ⟨H + 1, 1, none⟩ = some (.slice Ag grey.length ng) ∧ W.cell? ⟨H + 1, 2, none⟩ = some (.string ⟨#[]⟩)) from fun W h => ⟨⟨(hS1.below h).cell (k := 0) rfl, (hS1.below h).cell (k := 1) rfl, (hS1.below h).cell (k := 2) rfl, (hS1.below h).cell (k := 3) rfl⟩, (hC1.below h).cell (k := 0) rfl, (hC1.below h).cell (k := 1) rfl, (hC1.below h).cell (k := 2) rfl⟩)
  have HCP := Lib.hid (fun W (h : Below w1.heap.size w1 W) => CopyS_ok A c B d s W (by omega) (by omega) HPL.out HQL.out (hr1.below h))
  have HST := Lib.hid (fun W base q1 q2 N (ho : OwSt W base _ _ s N) (h : Below w1.heap.size w1 W) => mstep_ok base q1 q2 Ag ng s ⟨1, grey, []⟩ W N HGD.out rfl rfl hgl ho (hc1.below h))
  have HRD := Lib.hid (show ∀ W, Below w1.heap.size w1 W → Arr W (H + 1 + 1) 26 [.slice none 0 0, .slice none 0 0, .int .i64 0, .int .i64 0] ∧ Arr W (H + 1 + 1 + 1) 60 [.int .i64 0, .slice none 0 0, .string ⟨#[]⟩] from fun W h => ⟨hR1.below h, hD1.below h⟩)
  clear hr1 hc1 hS1 hC1 hR1 hD1
  apply share_m
  intro REST
  --HELDS
  refine wp_region_held_drew (S := (fun w' => (w'.cell? ⟨H, 0, none⟩ = some (.slice A s.blobs.length c) ∧ w'.cell? ⟨H, 1, none⟩ = some (.slice B s.ents.length d) ∧ w'.cell? ⟨H, 2, none⟩ = some (.int .i64 (s.room : Int)) ∧ w'.cell? ⟨H, 3, none⟩ = some (.int .i64 (s.clock : Int))) ∧ (w'.cell? ⟨H + 1, 0, none⟩ = some (.int .i64 1) ∧ w'.cell? ⟨H + 1, 1, none⟩ = some (.slice Ag grey.length ng) ∧ w'.cell? ⟨H + 1, 2, none⟩ = some (.string ⟨#[]⟩)))) (by kernel_rfl) ?_ (fun hHeld => ?_)
  · exact HSB.out _ (Below.refl _ w1).drew
  have hB := (Below.refl w1.heap.size w1).drew
  generalize w1.drew = wn0 at *
  refine wpAnyH_take (i := 0) (oi := _) (v := ?_) rfl (by kernel_rfl) (by kernel_rfl) (by kernel_rfl) (fun _ _ _ h => h) (Or.inl ⟨by rfl, ?_⟩) (by assumption) ?_
  rotate_left
  · (intro w hSw; (try dsimp only at hSw); go_simp; try (with_reducible rfl))
  try simp only [List.getElem_toArray, List.getElem_cons_zero, List.getElem_cons_succ, Act.put, List.setIfInBounds_toArray, List.set_cons_zero, List.set_cons_succ]
  refine wpAnyH_take (i := 2) (oi := _) (v := ?_) rfl (by kernel_rfl) (by kernel_rfl) (by kernel_rfl) (fun _ _ _ h => h) (Or.inl ⟨by rfl, ?_⟩) (by assumption) ?_
  rotate_left
  · (intro w hSw; (try dsimp only at hSw); go_simp; try (with_reducible rfl))
  try simp only [List.getElem_toArray, List.getElem_cons_zero, List.getElem_cons_succ, Act.put, List.setIfInBounds_toArray, List.set_cons_zero, List.set_cons_succ]
  refine wpAnyH_ready (rs := [1, 7, 8]) (by kernel_rfl) (by simp) ?_
  refine AllReadyH.cons (o := _) rfl (fun K hK => ?_) ?_
  ·
    go_simp
    refine (HCP.out wn0 hB).mono ?_
    rintro e5 w5 ⟨q1, q2, rfl, ho5, hb5⟩
    dsimp only
    have ho := ho5.lower (base' := w1.heap.size) hB.size
    obtain ⟨N, hNd⟩ : ∃ N : Nat → Prop, N = fun b => b < wn0.heap.size := ⟨_, rfl⟩
    have hN0 : ∀ b, b < w1.heap.size → N b := fun b hb => by rw [hNd]; exact Nat.lt_of_lt_of_le hb hB.size
    rw [← hNd] at ho
    clear hNd
    have hB := hB.trans (hb5.mono hB.size)
    refine outG hK ?_ (fun W => Below w1.heap.size w1 W ∧ OwSt W w1.heap.size (qv q1 s.blobs.length) (qv q2 s.ents.length) s N) (fun W => True) ?_ ?_ (fun wn1 hHeld hF _ => ?_)
    · exact HSB.out _ hB
    · exact ⟨hB, ho⟩
    · trivial
    clear hB ho
    obtain ⟨hB, ho⟩ := hF
    clear hK K
    try simp only [List.getElem_toArray, List.getElem_cons_zero, List.getElem_cons_succ, Act.put, List.setIfInBounds_toArray, List.set_cons_zero, List.set_cons_succ]
    refine wpAnyH_ready (rs := [3, 7, 8]) (by kernel_rfl) (by simp) ?_
    refine AllReadyH.cons (o := _) rfl (fun K hK => ?_) ?_
    ·
      go_simp
      refine (HST.out wn1 _ q1 q2 N ho hB).mono ?_
      rintro e5 w5 ⟨v3, rfl, ho5, hl5, hg5⟩
      obtain ⟨A3, c3, rfl, _, _⟩ := Rd.of_own' hl5
      dsimp only
      have hl := own_lower hl5 hB.size
      have hq1 := (ho.b.rwo.blk rfl).1
      have hB := hB.grown hg5 hB.size (fun b e => by cases e; exact hq1)
      have ho := ho5
      clear ho5 hl5 hg5 hq1
      refine outG hK ?_ (fun W => Below w1.heap.size w1 W ∧ OwSt W w1.heap.size (qv q1 s.blobs.length) (qv q2 s.ents.length) (ms s grey).1 N ∧ W.ownsRow w1.heap.size 9 1 (.slice A3 (ms s grey).2.grey.length c3) (ms s grey).2.grey.length (strs (ms s grey).2.grey)) (fun W => True) ?_ ?_ (fun wn2 hHeld hF _ => ?_)
      · exact HSB.out _ hB
      · exact ⟨hB, ho, hl⟩
      · trivial
      clear hB ho hl
      obtain ⟨hB, ho, hl⟩ := hF
      clear hK K
      try simp only [List.getElem_toArray, List.getElem_cons_zero, List.getElem_cons_succ, Act.put, List.setIfInBounds_toArray, List.set_cons_zero, List.set_cons_succ]
      refine wpAnyH_take (i := 4) (oi := _) (v := ?_) rfl (by kernel_rfl) (by kernel_rfl) (by kernel_rfl) (fun _ _ _ h => h) (Or.inl ⟨by rfl, ?_⟩) (by assumption) ?_
      rotate_left
      · (intro w hSw; (try dsimp only at hSw); go_simp; try (with_reducible rfl))
      try simp only [List.getElem_toArray, List.getElem_cons_zero, List.getElem_cons_succ, Act.put, List.setIfInBounds_toArray, List.set_cons_zero, List.set_cons_succ]
      refine wpAnyH_take (i := 5) (oi := _) (v := ?_) rfl (by kernel_rfl) (by kernel_rfl) (by kernel_rfl) (fun _ _ _ h => h) (Or.inl ⟨by rfl, ?_⟩) (by assumption) ?_
      rotate_left
      · (intro w hSw; (try dsimp only at hSw); go_simp; try (with_reducible rfl))
      try simp only [List.getElem_toArray, List.getElem_cons_zero, List.getElem_cons_succ, Act.put, List.setIfInBounds_toArray, List.set_cons_zero, List.set_cons_succ]
      refine wpAnyH_take (i := 6) (oi := _) (v := ?_) rfl (by kernel_rfl) (by kernel_rfl) (by kernel_rfl) (fun _ _ _ h => h) (Or.inl ⟨by rfl, ?_⟩) (by assumption) ?_
      rotate_left
      · (intro w hSw; (try dsimp only at hSw); go_simp; try (with_reducible rfl))
      try simp only [List.getElem_toArray, List.getElem_cons_zero, List.getElem_cons_succ, Act.put, List.setIfInBounds_toArray, List.set_cons_zero, List.set_cons_succ]
      refine wpAnyH_ready (rs := [7, 8]) (by kernel_rfl) (by simp) ?_
      refine AllReadyH.cons (o := _) rfl (fun K hK => ?_) ?_
      ·
        have ho := ho.wider (N' := fun b => N b ∨ b = wn2.heap.size) (fun b hb => hb.imp id (fun e => by omega))
        go_simp
        have hsz := hB.size
        have hba := (Below.refl wn2.heap.size wn2).alloc (Nat.le_refl _) (.cells #[.slice none 0 0, .slice none 0 0, .int .i64 0, .int .i64 0] 26)
        have hx : Arr (wn2.alloc (.cells #[.slice none 0 0, .slice none 0 0, .int .i64 0, .int .i64 0] 26)) wn2.heap.size 26 z4 := Arr.new _ _ _
        have hl := own_below hl hba
        have ho := ho.below hba
        have hB := hB.trans (hba.mono hB.size)
        obtain ⟨g8, hgx⟩ : ∃ g, g = wn2.heap.size := ⟨_, rfl⟩
        rw [← hgx] at hx hsz ⊢
        have h8 := hx
        have hg8 := hsz
        clear hx hsz
        rw [← hgx] at ho
        obtain ⟨N, hNd⟩ : ∃ M : Nat → Prop, M = fun b => N b ∨ b = g8 := ⟨_, rfl⟩
        have hN0 : ∀ b, b < w1.heap.size → N b := fun b hb => by rw [hNd]; exact .inl (hN0 b hb)
        have hN8 : N g8 := by rw [hNd]; exact .inr rfl
        rw [← hNd] at ho
        clear hNd
        clear hgx hba
        refine outG hK ?_ (fun W => Below w1.heap.size w1 W ∧ OwSt W w1.heap.size (qv q1 s.blobs.length) (qv q2 s.ents.length) (ms s grey).1 N ∧ W.ownsRow w1.heap.size 9 1 (.slice A3 (ms s grey).2.grey.length c3) (ms s grey).2.grey.length (strs (ms s grey).2.grey) ∧ Arr W g8 26 z4) (fun W => True) ?_ ?_ (fun wn3 hHeld hF _ => ?_)
        · exact HSB.out _ hB
        · exact ⟨hB, ho, hl, h8⟩
        · trivial
        clear hB ho hl h8
        obtain ⟨hB, ho, hl, h8⟩ := hF
        clear hK K
        try simp only [List.getElem_toArray, List.getElem_cons_zero, List.getElem_cons_succ, Act.put, List.setIfInBounds_toArray, List.set_cons_zero, List.set_cons_succ]
        refine wpAnyH_ready (rs := [8]) (by kernel_rfl) (by simp) ?_
        refine AllReadyH.cons (o := _) rfl (fun K hK => ?_) ?_
        ·
          have ho := ho.wider (N' := fun b => N b ∨ b = wn3.heap.size) (fun b hb => hb.imp id (fun e => by omega))
          go_simp
          have hsz := hB.size
          have hba := (Below.refl wn3.heap.size wn3).alloc (Nat.le_refl _) (.cells #[.int .i64 0, .slice none 0 0, .string ⟨#[]⟩] 60)
          have hx : Arr (wn3.alloc (.cells #[.int .i64 0, .slice none 0 0, .string ⟨#[]⟩] 60)) wn3.heap.size 60 z3 := Arr.new _ _ _
          have hl := own_below hl hba
          have ho := ho.below hba
          have h8 := h8.below hba
          have hB := hB.trans (hba.mono hB.size)
          obtain ⟨g9, hgx⟩ : ∃ g, g = wn3.heap.size := ⟨_, rfl⟩
          rw [← hgx] at hx hsz ⊢
          have h9 := hx
          have hg9 := hsz
          clear hx hsz
          rw [← hgx] at ho
          obtain ⟨N, hNd⟩ : ∃ M : Nat → Prop, M = fun b => N b ∨ b = g9 := ⟨_, rfl⟩
          have hN0 : ∀ b, b < w1.heap.size → N b := fun b hb => by rw [hNd]; exact .inl (hN0 b hb)
          have hN9 : N g9 := by rw [hNd]; exact .inr rfl
          have hN8 : N g8 := by rw [hNd]; exact .inl hN8
          rw [← hNd] at ho
          clear hNd
          clear hgx hba
          refine outG hK ?_ (fun W => Below w1.heap.size w1 W ∧ OwSt W w1.heap.size (qv q1 s.blobs.length) (qv q2 s.ents.length) (ms s grey).1 N ∧ W.ownsRow w1.heap.size 9 1 (.slice A3 (ms s grey).2.grey.length c3) (ms s grey).2.grey.length (strs (ms s grey).2.grey) ∧ Arr W g8 26 z4 ∧ Arr W g9 60 z3) (fun W => True) ?_ ?_ (fun wn4 hHeld hF _ => ?_)
          · exact HSB.out _ hB
          · exact ⟨hB, ho, hl, h8, h9⟩
          · trivial
          clear hB ho hl h8 h9
          obtain ⟨hB, ho, hl, h8, h9⟩ := hF
          clear hK K
          try simp only [List.getElem_toArray, List.getElem_cons_zero, List.getElem_cons_succ, Act.put, List.setIfInBounds_toArray, List.set_cons_zero, List.set_cons_succ]
          have hall := And.intro hHeld (And.intro hB (And.intro (ho.mono (N' := fun b => b < w1.heap.size ∨ b = g8 ∨ b = g9) (fun b hb => hb.elim (fun h => hN0 b h) (fun h => h.elim (fun e => e ▸ hN8) (fun e => e ▸ hN9)))) (And.intro hl (And.intro h8 (And.intro h9 (And.intro hg8 hg9))))))
          generalize wn4 = wz at hall ⊢
          generalize g8 = gx at hall ⊢
          generalize g9 = gy at hall ⊢
          generalize q1 = p1 at hall ⊢
          generalize q2 = p2 at hall ⊢
          generalize A3 = A4 at hall ⊢
          generalize c3 = c4 at hall ⊢
          clear hHeld
          revert wz gx gy p1 p2 A4 c4
          exact REST.out
        exact AllReadyH.nil
      refine AllReadyH.cons (o := _) rfl (fun K hK => ?_) ?_
      ·
        have ho := ho.wider (N' := fun b => N b ∨ b = wn2.heap.size) (fun b hb => hb.imp id (fun e => by omega))
        go_simp
        have hsz := hB.size
        have hba := (Below.refl wn2.heap.size wn2).alloc (Nat.le_refl _) (.cells #[.int .i64 0, .slice none 0 0, .string ⟨#[]⟩] 60)
        have hx : Arr (wn2.alloc (.cells #[.int .i64 0, .slice none 0 0, .string ⟨#[]⟩] 60)) wn2.heap.size 60 z3 := Arr.new _ _ _
        have hl := own_below hl hba
        have ho := ho.below hba
        have hB := hB.trans (hba.mono hB.size)
        obtain ⟨g9, hgx⟩ : ∃ g, g = wn2.heap.size := ⟨_, rfl⟩
        rw [← hgx] at hx hsz ⊢
        have h9 := hx
        have hg9 := hsz
        clear hx hsz
        rw [← hgx] at ho
        obtain ⟨N, hNd⟩ : ∃ M : Nat → Prop, M = fun b => N b ∨ b = g9 := ⟨_, rfl⟩
        have hN0 : ∀ b, b < w1.heap.size → N b := fun b hb => by rw [hNd]; exact .inl (hN0 b hb)
        have hN9 : N g9 := by rw [hNd]; exact .inr rfl
        rw [← hNd] at ho
        clear hNd
        clear hgx hba
        refine outG hK ?_ (fun W => Below w1.heap.size w1 W ∧ OwSt W w1.heap.size (qv q1 s.blobs.length) (qv q2 s.ents.length) (ms s grey).1 N ∧ W.ownsRow w1.heap.size 9 1 (.slice A3 (ms s grey).2.grey.length c3) (ms s grey).2.grey.length (strs (ms s grey).2.grey) ∧ Arr W g9 60 z3) (fun W => True) ?_ ?_ (fun wn5 hHeld hF _ => ?_)
        · exact HSB.out _ hB
        · exact ⟨hB, ho, hl, h9⟩
        · trivial
        clear hB ho hl h9
        obtain ⟨hB, ho, hl, h9⟩ := hF
        clear hK K
        try simp only [List.getElem_toArray, List.getElem_cons_zero, List.getElem_cons_succ, Act.put, List.setIfInBounds_toArray, List.set_cons_zero, List.set_cons_succ]
        refine wpAnyH_ready (rs := [7]) (by kernel_rfl) (by simp) ?_
        refine AllReadyH.cons (o := _) rfl (fun K hK => ?_) ?_
        ·
          have ho := ho.wider (N' := fun b => N b ∨ b = wn5.heap.size) (fun b hb => hb.imp id (fun e => by omega))
          go_simp
          have hsz := hB.size
          have hba := (Below.refl wn5.heap.size wn5).alloc (Nat.le_refl _) (.cells #[.slice none 0 0, .slice none 0 0, .int .i64 0, .int .i64 0] 26)
          have hx : Arr (wn5.alloc (.cells #[.slice none 0 0, .slice none 0 0, .int .i64 0, .int .i64 0] 26)) wn5.heap.size 26 z4 := Arr.new _ _ _
          have hl := own_below hl hba
          have ho := ho.below hba
          have h9 := h9.below hba
          have hB := hB.trans (hba.mono hB.size)
          obtain ⟨g8, hgx⟩ : ∃ g, g = wn5.heap.size := ⟨_, rfl⟩
          rw [← hgx] at hx hsz ⊢
          have h8 := hx
          have hg8 := hsz
          clear hx hsz
          rw [← hgx] at ho
          obtain ⟨N, hNd⟩ : ∃ M : Nat → Prop, M = fun b => N b ∨ b = g8 := ⟨_, rfl⟩
          have hN0 : ∀ b, b < w1.heap.size → N b := fun b hb => by rw [hNd]; exact .inl (hN0 b hb)
          have hN8 : N g8 := by rw [hNd]; exact .inr rfl
          have hN9 : N g9 := by rw [hNd]; exact .inl hN9
          rw [← hNd] at ho
          clear hNd
          clear hgx hba
          refine outG hK ?_ (fun W => Below w1.heap.size w1 W ∧ OwSt W w1.heap.size (qv q1 s.blobs.length) (qv q2 s.ents.length) (ms s grey).1 N ∧ W.ownsRow w1.heap.size 9 1 (.slice A3 (ms s grey).2.grey.length c3) (ms s grey).2.grey.length (strs (ms s grey).2.grey) ∧ Arr W g8 26 z4 ∧ Arr W g9 60 z3) (fun W => True) ?_ ?_ (fun wn6 hHeld hF _ => ?_)
          · exact HSB.out _ hB
          · exact ⟨hB, ho, hl, h8, h9⟩
          · trivial
          clear hB ho hl h8 h9
          obtain ⟨hB, ho, hl, h8, h9⟩ := hF
          clear hK K
          try simp only [List.getElem_toArray, List.getElem_cons_zero, List.getElem_cons_succ, Act.put, List.setIfInBounds_toArray, List.set_cons_zero, List.set_cons_succ]
          have hall := And.intro hHeld (And.intro hB (And.intro (ho.mono (N' := fun b => b < w1.heap.size ∨ b = g8 ∨ b = g9) (fun b hb => hb.elim (fun h => hN0 b h) (fun h => h.elim (fun e => e ▸ hN8) (fun e => e ▸ hN9)))) (And.intro hl (And.intro h8 (And.intro h9 (And.intro hg8 hg9))))))
          generalize wn6 = wz at hall ⊢
          generalize g8 = gx at hall ⊢
          generalize g9 = gy at hall ⊢
          generalize q1 = p1 at hall ⊢
          generalize q2 = p2 at hall ⊢
          generalize A3 = A4 at hall ⊢
          generalize c3 = c4 at hall ⊢
          clear hHeld
          revert wz gx gy p1 p2 A4 c4
          exact REST.out
        exact AllReadyH.nil
      exact AllReadyH.nil
    refine AllReadyH.cons (o := _) rfl (fun K hK => ?_) ?_
    ·
      have ho := ho.wider (N' := fun b => N b ∨ b = wn1.heap.size) (fun b hb => hb.imp id (fun e => by omega))
      go_simp
      have hsz := hB.size
      have hba := (Below.refl wn1.heap.size wn1).alloc (Nat.le_refl _) (.cells #[.slice none 0 0, .slice none 0 0, .int .i64 0, .int .i64 0] 26)
      have hx : Arr (wn1.alloc (.cells #[.slice none 0 0, .slice none 0 0, .int .i64 0, .int .i64 0] 26)) wn1.heap.size 26 z4 := Arr.new _ _ _
      have ho := ho.below hba
      have hB := hB.trans (hba.mono hB.size)
      obtain ⟨g8, hgx⟩ : ∃ g, g = wn1.heap.size := ⟨_, rfl⟩
      rw [← hgx] at hx hsz ⊢
      have h8 := hx
      have hg8 := hsz
      clear hx hsz
      rw [← hgx] at ho
      obtain ⟨N, hNd⟩ : ∃ M : Nat → Prop, M = fun b => N b ∨ b = g8 := ⟨_, rfl⟩
      have hN0 : ∀ b, b < w1.heap.size → N b := fun b hb => by rw [hNd]; exact .inl (hN0 b hb)
      have hN8 : N g8 := by rw [hNd]; exact .inr rfl
      rw [← hNd] at ho
      clear hNd
      clear hgx hba
      refine outG hK ?_ (fun W => Below w1.heap.size w1 W ∧ OwSt W w1.heap.size (qv q1 s.blobs.length) (qv q2 s.ents.length) s N ∧ Arr W g8 26 z4) (fun W => True) ?_ ?_ (fun wn7 hHeld hF _ => ?_)
      · exact HSB.out _ hB
      · exact ⟨hB, ho, h8⟩
      · trivial
      clear hB ho h8
      obtain ⟨hB, ho, h8⟩ := hF
      clear hK K
      try simp only [List.getElem_toArray, List.getElem_cons_zero, List.getElem_cons_succ, Act.put, List.setIfInBounds_toArray, List.set_cons_zero, List.set_cons_succ]
      refine wpAnyH_ready (rs := [3, 8]) (by kernel_rfl) (by simp) ?_
      refine AllReadyH.cons (o := _) rfl (fun K hK => ?_) ?_
      ·
        go_simp
        refine (HST.out wn7 _ q1 q2 N ho hB).mono ?_
        rintro e5 w5 ⟨v3, rfl, ho5, hl5, hg5⟩
        obtain ⟨A3, c3, rfl, _, _⟩ := Rd.of_own' hl5
        dsimp only
        have hl := own_lower hl5 hB.size
        have hq1 := (ho.b.rwo.blk rfl).1
        have h8 := h8.grown hg5 (fun e => (ho.nb h8 (by decide) (by decide)).1 (by simpa [Value.ownBlock] using e))
        have hB := hB.grown hg5 hB.size (fun b e => by cases e; exact hq1)
        have ho := ho5
        clear ho5 hl5 hg5 hq1
        refine outG hK ?_ (fun W => Below w1.heap.size w1 W ∧ OwSt W w1.heap.size (qv q1 s.blobs.length) (qv q2 s.ents.length) (ms s grey).1 N ∧ W.ownsRow w1.heap.size 9 1 (.slice A3 (ms s grey).2.grey.length c3) (ms s grey).2.grey.length (strs (ms s grey).2.grey) ∧ Arr W g8 26 z4) (fun W => True) ?_ ?_ (fun wn8 hHeld hF _ => ?_)
        · exact HSB.out _ hB
        · exact ⟨hB, ho, hl, h8⟩
        · trivial
        clear hB ho hl h8
        obtain ⟨hB, ho, hl, h8⟩ := hF
        clear hK K
        try simp only [List.getElem_toArray, List.getElem_cons_zero, List.getElem_cons_succ, Act.put, List.setIfInBounds_toArray, List.set_cons_zero, List.set_cons_succ]
        refine wpAnyH_take (i := 4) (oi := _) (v := ?_) rfl (by kernel_rfl) (by kernel_rfl) (by kernel_rfl) (fun _ _ _ h => h) (Or.inl ⟨by rfl, ?_⟩) (by assumption) ?_
        rotate_left
        · (intro w hSw; (try dsimp only at hSw); go_simp; try (with_reducible rfl))
        try simp only [List.getElem_toArray, List.getElem_cons_zero, List.getElem_cons_succ, Act.put, List.setIfInBounds_toArray, List.set_cons_zero, List.set_cons_succ]
        refine wpAnyH_take (i := 5) (oi := _) (v := ?_) rfl (by kernel_rfl) (by kernel_rfl) (by kernel_rfl) (fun _ _ _ h => h) (Or.inl ⟨by rfl, ?_⟩) (by assumption) ?_
        rotate_left
        · (intro w hSw; (try dsimp only at hSw); go_simp; try (with_reducible rfl))
        try simp only [List.getElem_toArray, List.getElem_cons_zero, List.getElem_cons_succ, Act.put, List.setIfInBounds_toArray, List.set_cons_zero, List.set_cons_succ]
        refine wpAnyH_take (i := 6) (oi := _) (v := ?_) rfl (by kernel_rfl) (by kernel_rfl) (by kernel_rfl) (fun _ _ _ h => h) (Or.inl ⟨by rfl, ?_⟩) (by assumption) ?_
        rotate_left
        · (intro w hSw; (try dsimp only at hSw); go_simp; try (with_reducible rfl))
        try simp only [List.getElem_toArray, List.getElem_cons_zero, List.getElem_cons_succ, Act.put, List.setIfInBounds_toArray, List.set_cons_zero, List.set_cons_succ]
        refine wpAnyH_ready (rs := [8]) (by kernel_rfl) (by simp) ?_
        refine AllReadyH.cons (o := _) rfl (fun K hK => ?_) ?_
        ·
          have ho := ho.wider (N' := fun b => N b ∨ b = wn8.heap.size) (fun b hb => hb.imp id (fun e => by omega))
          go_simp
          have hsz := hB.size
          have hba := (Below.refl wn8.heap.size wn8).alloc (Nat.le_refl _) (.cells #[.int .i64 0, .slice none 0 0, .string ⟨#[]⟩] 60)
          have hx : Arr (wn8.alloc (.cells #[.int .i64 0, .slice none 0 0, .string ⟨#[]⟩] 60)) wn8.heap.size 60 z3 := Arr.new _ _ _
          have hl := own_below hl hba
          have ho := ho.below hba
          have h8 := h8.below hba
          have hB := hB.trans (hba.mono hB.size)
          obtain ⟨g9, hgx⟩ : ∃ g, g = wn8.heap.size := ⟨_, rfl⟩
          rw [← hgx] at hx hsz ⊢
          have h9 := hx
          have hg9 := hsz
          clear hx hsz
          rw [← hgx] at ho
          obtain ⟨N, hNd⟩ : ∃ M : Nat → Prop, M = fun b => N b ∨ b = g9 := ⟨_, rfl⟩
          have hN0 : ∀ b, b < w1.heap.size → N b := fun b hb => by rw [hNd]; exact .inl (hN0 b hb)
          have hN9 : N g9 := by rw [hNd]; exact .inr rfl
          have hN8 : N g8 := by rw [hNd]; exact .inl hN8
          rw [← hNd] at ho
          clear hNd
          clear hgx hba
          refine outG hK ?_ (fun W => Below w1.heap.size w1 W ∧ OwSt W w1.heap.size (qv q1 s.blobs.length) (qv q2 s.ents.length) (ms s grey).1 N ∧ W.ownsRow w1.heap.size 9 1 (.slice A3 (ms s grey).2.grey.length c3) (ms s grey).2.grey.length (strs (ms s grey).2.grey) ∧ Arr W g8 26 z4 ∧ Arr W g9 60 z3) (fun W => True) ?_ ?_ (fun wn9 hHeld hF _ => ?_)
          · exact HSB.out _ hB
          · exact ⟨hB, ho, hl, h8, h9⟩
          · trivial
          clear hB ho hl h8 h9
          obtain ⟨hB, ho, hl, h8, h9⟩ := hF
          clear hK K
          try simp only [List.getElem_toArray, List.getElem_cons_zero, List.getElem_cons_succ, Act.put, List.setIfInBounds_toArray, List.set_cons_zero, List.set_cons_succ]
          have hall := And.intro hHeld (And.intro hB (And.intro (ho.mono (N' := fun b => b < w1.heap.size ∨ b = g8 ∨ b = g9) (fun b hb => hb.elim (fun h => hN0 b h) (fun h => h.elim (fun e => e ▸ hN8) (fun e => e ▸ hN9)))) (And.intro hl (And.intro h8 (And.intro h9 (And.intro hg8 hg9))))))
          generalize wn9 = wz at hall ⊢
          generalize g8 = gx at hall ⊢
          generalize g9 = gy at hall ⊢
          generalize q1 = p1 at hall ⊢
          generalize q2 = p2 at hall ⊢
          generalize A3 = A4 at hall ⊢
          generalize c3 = c4 at hall ⊢
          clear hHeld
          revert wz gx gy p1 p2 A4 c4
          exact REST.out
        exact AllReadyH.nil
      refine AllReadyH.cons (o := _) rfl (fun K hK => ?_) ?_
      ·
        have ho := ho.wider (N' := fun b => N b ∨ b = wn7.heap.size) (fun b hb => hb.imp id (fun e => by omega))
        go_simp
        have hsz := hB.size
        have hba := (Below.refl wn7.heap.size wn7).alloc (Nat.le_refl _) (.cells #[.int .i64 0, .slice none 0 0, .string ⟨#[]⟩] 60)
        have hx : Arr (wn7.alloc (.cells #[.int .i64 0, .slice none 0 0, .string ⟨#[]⟩] 60)) wn7.heap.size 60 z3 := Arr.new _ _ _
        have ho := ho.below hba
        have h8 := h8.below hba
        have hB := hB.trans (hba.mono hB.size)
        obtain ⟨g9, hgx⟩ : ∃ g, g = wn7.heap.size := ⟨_, rfl⟩
        rw [← hgx] at hx hsz ⊢
        have h9 := hx
        have hg9 := hsz
        clear hx hsz
        rw [← hgx] at ho
        obtain ⟨N, hNd⟩ : ∃ M : Nat → Prop, M = fun b => N b ∨ b = g9 := ⟨_, rfl⟩
        have hN0 : ∀ b, b < w1.heap.size → N b := fun b hb => by rw [hNd]; exact .inl (hN0 b hb)
        have hN9 : N g9 := by rw [hNd]; exact .inr rfl
        have hN8 : N g8 := by rw [hNd]; exact .inl hN8
        rw [← hNd] at ho
        clear hNd
        clear hgx hba
        refine outG hK ?_ (fun W => Below w1.heap.size w1 W ∧ OwSt W w1.heap.size (qv q1 s.blobs.length) (qv q2 s.ents.length) s N ∧ Arr W g8 26 z4 ∧ Arr W g9 60 z3) (fun W => True) ?_ ?_ (fun wn10 hHeld hF _ => ?_)
        · exact HSB.out _ hB
        · exact ⟨hB, ho, h8, h9⟩
        · trivial
        clear hB ho h8 h9
        obtain ⟨hB, ho, h8, h9⟩ := hF
        clear hK K
        try simp only [List.getElem_toArray, List.getElem_cons_zero, List.getElem_cons_succ, Act.put, List.setIfInBounds_toArray, List.set_cons_zero, List.set_cons_succ]
        refine wpAnyH_ready (rs := [3]) (by kernel_rfl) (by simp) ?_
        refine AllReadyH.cons (o := _) rfl (fun K hK => ?_) ?_
        ·
          go_simp
          refine (HST.out wn10 _ q1 q2 N ho hB).mono ?_
          rintro e5 w5 ⟨v3, rfl, ho5, hl5, hg5⟩
          obtain ⟨A3, c3, rfl, _, _⟩ := Rd.of_own' hl5
          dsimp only
          have hl := own_lower hl5 hB.size
          have hq1 := (ho.b.rwo.blk rfl).1
          have h8 := h8.grown hg5 (fun e => (ho.nb h8 (by decide) (by decide)).1 (by simpa [Value.ownBlock] using e))
          have h9 := h9.grown hg5 (fun e => (ho.nb h9 (by decide) (by decide)).1 (by simpa [Value.ownBlock] using e))
          have hB := hB.grown hg5 hB.size (fun b e => by cases e; exact hq1)
          have ho := ho5
          clear ho5 hl5 hg5 hq1
          refine outG hK ?_ (fun W => Below w1.heap.size w1 W ∧ OwSt W w1.heap.size (qv q1 s.blobs.length) (qv q2 s.ents.length) (ms s grey).1 N ∧ W.ownsRow w1.heap.size 9 1 (.slice A3 (ms s grey).2.grey.length c3) (ms s grey).2.grey.length (strs (ms s grey).2.grey) ∧ Arr W g8 26 z4 ∧ Arr W g9 60 z3) (fun W => True) ?_ ?_ (fun wn11 hHeld hF _ => ?_)
          · exact HSB.out _ hB
          · exact ⟨hB, ho, hl, h8, h9⟩
          · trivial
          clear hB ho hl h8 h9
          obtain ⟨hB, ho, hl, h8, h9⟩ := hF
          clear hK K
          try simp only [List.getElem_toArray, List.getElem_cons_zero, List.getElem_cons_succ, Act.put, List.setIfInBounds_toArray, List.set_cons_zero, List.set_cons_succ]
          refine wpAnyH_take (i := 4) (oi := _) (v := ?_) rfl (by kernel_rfl) (by kernel_rfl) (by kernel_rfl) (fun _ _ _ h => h) (Or.inl ⟨by rfl, ?_⟩) (by assumption) ?_
          rotate_left
          · (intro w hSw; (try dsimp only at hSw); go_simp; try (with_reducible rfl))
          try simp only [List.getElem_toArray, List.getElem_cons_zero, List.getElem_cons_succ, Act.put, List.setIfInBounds_toArray, List.set_cons_zero, List.set_cons_succ]
          refine wpAnyH_take (i := 5) (oi := _) (v := ?_) rfl (by kernel_rfl) (by kernel_rfl) (by kernel_rfl) (fun _ _ _ h => h) (Or.inl ⟨by rfl, ?_⟩) (by assumption) ?_
          rotate_left
          · (intro w hSw; (try dsimp only at hSw); go_simp; try (with_reducible rfl))
          try simp only [List.getElem_toArray, List.getElem_cons_zero, List.getElem_cons_succ, Act.put, List.setIfInBounds_toArray, List.set_cons_zero, List.set_cons_succ]
          refine wpAnyH_take (i := 6) (oi := _) (v := ?_) rfl (by kernel_rfl) (by kernel_rfl) (by kernel_rfl) (fun _ _ _ h => h) (Or.inl ⟨by rfl, ?_⟩) (by assumption) ?_
          rotate_left
          · (intro w hSw; (try dsimp only at hSw); go_simp; try (with_reducible rfl))
          try simp only [List.getElem_toArray, List.getElem_cons_zero, List.getElem_cons_succ, Act.put, List.setIfInBounds_toArray, List.set_cons_zero, List.set_cons_succ]
          have hall := And.intro hHeld (And.intro hB (And.intro (ho.mono (N' := fun b => b < w1.heap.size ∨ b = g8 ∨ b = g9) (fun b hb => hb.elim (fun h => hN0 b h) (fun h => h.elim (fun e => e ▸ hN8) (fun e => e ▸ hN9)))) (And.intro hl (And.intro h8 (And.intro h9 (And.intro hg8 hg9))))))
          generalize wn11 = wz at hall ⊢
          generalize g8 = gx at hall ⊢
          generalize g9 = gy at hall ⊢
          generalize q1 = p1 at hall ⊢
          generalize q2 = p2 at hall ⊢
          generalize A3 = A4 at hall ⊢
          generalize c3 = c4 at hall ⊢
          clear hHeld
          revert wz gx gy p1 p2 A4 c4
          exact REST.out
        exact AllReadyH.nil
      exact AllReadyH.nil
    refine AllReadyH.cons (o := _) rfl (fun K hK => ?_) ?_
    ·
      have ho := ho.wider (N' := fun b => N b ∨ b = wn1.heap.size) (fun b hb => hb.imp id (fun e => by omega))
      go_simp
      have hsz := hB.size
      have hba := (Below.refl wn1.heap.size wn1).alloc (Nat.le_refl _) (.cells #[.int .i64 0, .slice none 0 0, .string ⟨#[]⟩] 60)
      have hx : Arr (wn1.alloc (.cells #[.int .i64 0, .slice none 0 0, .string ⟨#[]⟩] 60)) wn1.heap.size 60 z3 := Arr.new _ _ _
      have ho := ho.below hba
      have hB := hB.trans (hba.mono hB.size)
      obtain ⟨g9, hgx⟩ : ∃ g, g = wn1.heap.size := ⟨_, rfl⟩
      rw [← hgx] at hx hsz ⊢
      have h9 := hx
      have hg9 := hsz
      clear hx hsz
      rw [← hgx] at ho
      obtain ⟨N, hNd⟩ : ∃ M : Nat → Prop, M = fun b => N b ∨ b = g9 := ⟨_, rfl⟩
      have hN0 : ∀ b, b < w1.heap.size → N b := fun b hb => by rw [hNd]; exact .inl (hN0 b hb)
      have hN9 : N g9 := by rw [hNd]; exact .inr rfl
      rw [← hNd] at ho
      clear hNd
      clear hgx hba
      refine outG hK ?_ (fun W => Below w1.heap.size w1 W ∧ OwSt W w1.heap.size (qv q1 s.blobs.length) (qv q2 s.ents.length) s N ∧ Arr W g9 60 z3) (fun W => True) ?_ ?_ (fun wn12 hHeld hF _ => ?_)
      · exact HSB.out _ hB
      · exact ⟨hB, ho, h9⟩
      · trivial
      clear hB ho h9
      obtain ⟨hB, ho, h9⟩ := hF
      clear hK K
      try simp only [List.getElem_toArray, List.getElem_cons_zero, List.getElem_cons_succ, Act.put, List.setIfInBounds_toArray, List.set_cons_zero, List.set_cons_succ]
      refine wpAnyH_ready (rs := [3, 7]) (by kernel_rfl) (by simp) ?_
      refine AllReadyH.cons (o := _) rfl (fun K hK => ?_) ?_
      ·
        go_simp
        refine (HST.out wn12 _ q1 q2 N ho hB).mono ?_
        rintro e5 w5 ⟨v3, rfl, ho5, hl5, hg5⟩
        obtain ⟨A3, c3, rfl, _, _⟩ := Rd.of_own' hl5
        dsimp only
        have hl := own_lower hl5 hB.size
        have hq1 := (ho.b.rwo.blk rfl).1
        have h9 := h9.grown hg5 (fun e => (ho.nb h9 (by decide) (by decide)).1 (by simpa [Value.ownBlock] using e))
        have hB := hB.grown hg5 hB.size (fun b e => by cases e; exact hq1)
        have ho := ho5
        clear ho5 hl5 hg5 hq1
        refine outG hK ?_ (fun W => Below w1.heap.size w1 W ∧ OwSt W w1.heap.size (qv q1 s.blobs.length) (qv q2 s.ents.length) (ms s grey).1 N ∧ W.ownsRow w1.heap.size 9 1 (.slice A3 (ms s grey).2.grey.length c3) (ms s grey).2.grey.length (strs (ms s grey).2.grey) ∧ Arr W g9 60 z3) (fun W => True) ?_ ?_ (fun wn13 hHeld hF _ => ?_)
        · exact HSB.out _ hB
        · exact ⟨hB, ho, hl, h9⟩
        · trivial
        clear hB ho hl h9
        obtain ⟨hB, ho, hl, h9⟩ := hF
        clear hK K
        try simp only [List.getElem_toArray, List.getElem_cons_zero, List.getElem_cons_succ, Act.put, List.setIfInBounds_toArray, List.set_cons_zero, List.set_cons_succ]
        refine wpAnyH_take (i := 4) (oi := _) (v := ?_) rfl (by kernel_rfl) (by kernel_rfl) (by kernel_rfl) (fun _ _ _ h => h) (Or.inl ⟨by rfl, ?_⟩) (by assumption) ?_
        rotate_left
        · (intro w hSw; (try dsimp only at hSw); go_simp; try (with_reducible rfl))
        try simp only [List.getElem_toArray, List.getElem_cons_zero, List.getElem_cons_succ, Act.put, List.setIfInBounds_toArray, List.set_cons_zero, List.set_cons_succ]
        refine wpAnyH_take (i := 5) (oi := _) (v := ?_) rfl (by kernel_rfl) (by kernel_rfl) (by kernel_rfl) (fun _ _ _ h => h) (Or.inl ⟨by rfl, ?_⟩) (by assumption) ?_
        rotate_left
        · (intro w hSw; (try dsimp only at hSw); go_simp; try (with_reducible rfl))
        try simp only [List.getElem_toArray, List.getElem_cons_zero, List.getElem_cons_succ, Act.put, List.setIfInBounds_toArray, List.set_cons_zero, List.set_cons_succ]
        refine wpAnyH_take (i := 6) (oi := _) (v := ?_) rfl (by kernel_rfl) (by kernel_rfl) (by kernel_rfl) (fun _ _ _ h => h) (Or.inl ⟨by rfl, ?_⟩) (by assumption) ?_
        rotate_left
        · (intro w hSw; (try dsimp only at hSw); go_simp; try (with_reducible rfl))
        try simp only [List.getElem_toArray, List.getElem_cons_zero, List.getElem_cons_succ, Act.put, List.setIfInBounds_toArray, List.set_cons_zero, List.set_cons_succ]
        refine wpAnyH_ready (rs := [7]) (by kernel_rfl) (by simp) ?_
        refine AllReadyH.cons (o := _) rfl (fun K hK => ?_) ?_
        ·
          have ho := ho.wider (N' := fun b => N b ∨ b = wn13.heap.size) (fun b hb => hb.imp id (fun e => by omega))
          go_simp
          have hsz := hB.size
          have hba := (Below.refl wn13.heap.size wn13).alloc (Nat.le_refl _) (.cells #[.slice none 0 0, .slice none 0 0, .int .i64 0, .int .i64 0] 26)
          have hx : Arr (wn13.alloc (.cells #[.slice none 0 0, .slice none 0 0, .int .i64 0, .int .i64 0] 26)) wn13.heap.size 26 z4 := Arr.new _ _ _
          have hl := own_below hl hba
          have ho := ho.below hba
          have h9 := h9.below hba
          have hB := hB.trans (hba.mono hB.size)
          obtain ⟨g8, hgx⟩ : ∃ g, g = wn13.heap.size := ⟨_, rfl⟩
          rw [← hgx] at hx hsz ⊢
          have h8 := hx
          have hg8 := hsz
          clear hx hsz
          rw [← hgx] at ho
          obtain ⟨N, hNd⟩ : ∃ M : Nat → Prop, M = fun b => N b ∨ b = g8 := ⟨_, rfl⟩
          have hN0 : ∀ b, b < w1.heap.size → N b := fun b hb => by rw [hNd]; exact .inl (hN0 b hb)
          have hN8 : N g8 := by rw [hNd]; exact .inr rfl
          have hN9 : N g9 := by rw [hNd]; exact .inl hN9
          rw [← hNd] at ho
          clear hNd
          clear hgx hba
          refine outG hK ?_ (fun W => Below w1.heap.size w1 W ∧ OwSt W w1.heap.size (qv q1 s.blobs.length) (qv q2 s.ents.length) (ms s grey).1 N ∧ W.ownsRow w1.heap.size 9 1 (.slice A3 (ms s grey).2.grey.length c3) (ms s grey).2.grey.length (strs (ms s grey).2.grey) ∧ Arr W g8 26 z4 ∧ Arr W g9 60 z3) (fun W => True) ?_ ?_ (fun wn14 hHeld hF _ => ?_)
          · exact HSB.out _ hB
          · exact ⟨hB, ho, hl, h8, h9⟩
          · trivial
          clear hB ho hl h8 h9
          obtain ⟨hB, ho, hl, h8, h9⟩ := hF
          clear hK K
          try simp only [List.getElem_toArray, List.getElem_cons_zero, List.getElem_cons_succ, Act.put, List.setIfInBounds_toArray, List.set_cons_zero, List.set_cons_succ]
          have hall := And.intro hHeld (And.intro hB (And.intro (ho.mono (N' := fun b => b < w1.heap.size ∨ b = g8 ∨ b = g9) (fun b hb => hb.elim (fun h => hN0 b h) (fun h => h.elim (fun e => e ▸ hN8) (fun e => e ▸ hN9)))) (And.intro hl (And.intro h8 (And.intro h9 (And.intro hg8 hg9))))))
          generalize wn14 = wz at hall ⊢
          generalize g8 = gx at hall ⊢
          generalize g9 = gy at hall ⊢
          generalize q1 = p1 at hall ⊢
          generalize q2 = p2 at hall ⊢
          generalize A3 = A4 at hall ⊢
          generalize c3 = c4 at hall ⊢
          clear hHeld
          revert wz gx gy p1 p2 A4 c4
          exact REST.out
        exact AllReadyH.nil
      refine AllReadyH.cons (o := _) rfl (fun K hK => ?_) ?_
      ·
        have ho := ho.wider (N' := fun b => N b ∨ b = wn12.heap.size) (fun b hb => hb.imp id (fun e => by omega))
        go_simp
        have hsz := hB.size
        have hba := (Below.refl wn12.heap.size wn12).alloc (Nat.le_refl _) (.cells #[.slice none 0 0, .slice none 0 0, .int .i64 0, .int .i64 0] 26)
        have hx : Arr (wn12.alloc (.cells #[.slice none 0 0, .slice none 0 0, .int .i64 0, .int .i64 0] 26)) wn12.heap.size 26 z4 := Arr.new _ _ _
        have ho := ho.below hba
        have h9 := h9.below hba
        have hB := hB.trans (hba.mono hB.size)
        obtain ⟨g8, hgx⟩ : ∃ g, g = wn12.heap.size := ⟨_, rfl⟩
        rw [← hgx] at hx hsz ⊢
        have h8 := hx
        have hg8 := hsz
        clear hx hsz
        rw [← hgx] at ho
        obtain ⟨N, hNd⟩ : ∃ M : Nat → Prop, M = fun b => N b ∨ b = g8 := ⟨_, rfl⟩
        have hN0 : ∀ b, b < w1.heap.size → N b := fun b hb => by rw [hNd]; exact .inl (hN0 b hb)
        have hN8 : N g8 := by rw [hNd]; exact .inr rfl
        have hN9 : N g9 := by rw [hNd]; exact .inl hN9
        rw [← hNd] at ho
        clear hNd
        clear hgx hba
        refine outG hK ?_ (fun W => Below w1.heap.size w1 W ∧ OwSt W w1.heap.size (qv q1 s.blobs.length) (qv q2 s.ents.length) s N ∧ Arr W g8 26 z4 ∧ Arr W g9 60 z3) (fun W => True) ?_ ?_ (fun wn15 hHeld hF _ => ?_)
        · exact HSB.out _ hB
        · exact ⟨hB, ho, h8, h9⟩
        · trivial
        clear hB ho h8 h9
        obtain ⟨hB, ho, h8, h9⟩ := hF
        clear hK K
        try simp only [List.getElem_toArray, List.getElem_cons_zero, List.getElem_cons_succ, Act.put, List.setIfInBounds_toArray, List.set_cons_zero, List.set_cons_succ]
        refine wpAnyH_ready (rs := [3]) (by kernel_rfl) (by simp) ?_
        refine AllReadyH.cons (o := _) rfl (fun K hK => ?_) ?_
        ·
          go_simp
          refine (HST.out wn15 _ q1 q2 N ho hB).mono ?_
          rintro e5 w5 ⟨v3, rfl, ho5, hl5, hg5⟩
          obtain ⟨A3, c3, rfl, _, _⟩ := Rd.of_own' hl5
          dsimp only
          have hl := own_lower hl5 hB.size
          have hq1 := (ho.b.rwo.blk rfl).1
          have h8 := h8.grown hg5 (fun e => (ho.nb h8 (by decide) (by decide)).1 (by simpa [Value.ownBlock] using e))
          have h9 := h9.grown hg5 (fun e => (ho.nb h9 (by decide) (by decide)).1 (by simpa [Value.ownBlock] using e))
          have hB := hB.grown hg5 hB.size (fun b e => by cases e; exact hq1)
          have ho := ho5
          clear ho5 hl5 hg5 hq1
          refine outG hK ?_ (fun W => Below w1.heap.size w1 W ∧ OwSt W w1.heap.size (qv q1 s.blobs.length) (qv q2 s.ents.length) (ms s grey).1 N ∧ W.ownsRow w1.heap.size 9 1 (.slice A3 (ms s grey).2.grey.length c3) (ms s grey).2.grey.length (strs (ms s grey).2.grey) ∧ Arr W g8 26 z4 ∧ Arr W g9 60 z3) (fun W => True) ?_ ?_ (fun wn16 hHeld hF _ => ?_)
          · exact HSB.out _ hB
          · exact ⟨hB, ho, hl, h8, h9⟩
          · trivial
          clear hB ho hl h8 h9
          obtain ⟨hB, ho, hl, h8, h9⟩ := hF
          clear hK K
          try simp only [List.getElem_toArray, List.getElem_cons_zero, List.getElem_cons_succ, Act.put, List.setIfInBounds_toArray, List.set_cons_zero, List.set_cons_succ]
          refine wpAnyH_take (i := 4) (oi := _) (v := ?_) rfl (by kernel_rfl) (by kernel_rfl) (by kernel_rfl) (fun _ _ _ h => h) (Or.inl ⟨by rfl, ?_⟩) (by assumption) ?_
          rotate_left
          · (intro w hSw; (try dsimp only at hSw); go_simp; try (with_reducible rfl))
          try simp only [List.getElem_toArray, List.getElem_cons_zero, List.getElem_cons_succ, Act.put, List.setIfInBounds_toArray, List.set_cons_zero, List.set_cons_succ]
          refine wpAnyH_take (i := 5) (oi := _) (v := ?_) rfl (by kernel_rfl) (by kernel_rfl) (by kernel_rfl) (fun _ _ _ h => h) (Or.inl ⟨by rfl, ?_⟩) (by assumption) ?_
          rotate_left
          · (intro w hSw; (try dsimp only at hSw); go_simp; try (with_reducible rfl))
          try simp only [List.getElem_toArray, List.getElem_cons_zero, List.getElem_cons_succ, Act.put, List.setIfInBounds_toArray, List.set_cons_zero, List.set_cons_succ]
          refine wpAnyH_take (i := 6) (oi := _) (v := ?_) rfl (by kernel_rfl) (by kernel_rfl) (by kernel_rfl) (fun _ _ _ h => h) (Or.inl ⟨by rfl, ?_⟩) (by assumption) ?_
          rotate_left
          · (intro w hSw; (try dsimp only at hSw); go_simp; try (with_reducible rfl))
          try simp only [List.getElem_toArray, List.getElem_cons_zero, List.getElem_cons_succ, Act.put, List.setIfInBounds_toArray, List.set_cons_zero, List.set_cons_succ]
          have hall := And.intro hHeld (And.intro hB (And.intro (ho.mono (N' := fun b => b < w1.heap.size ∨ b = g8 ∨ b = g9) (fun b hb => hb.elim (fun h => hN0 b h) (fun h => h.elim (fun e => e ▸ hN8) (fun e => e ▸ hN9)))) (And.intro hl (And.intro h8 (And.intro h9 (And.intro hg8 hg9))))))
          generalize wn16 = wz at hall ⊢
          generalize g8 = gx at hall ⊢
          generalize g9 = gy at hall ⊢
          generalize q1 = p1 at hall ⊢
          generalize q2 = p2 at hall ⊢
          generalize A3 = A4 at hall ⊢
          generalize c3 = c4 at hall ⊢
          clear hHeld
          revert wz gx gy p1 p2 A4 c4
          exact REST.out
        exact AllReadyH.nil
      exact AllReadyH.nil
    exact AllReadyH.nil
  refine AllReadyH.cons (o := _) rfl (fun K hK => ?_) ?_
  ·
    go_simp
    have hsz := hB.size
    have hba := (Below.refl wn0.heap.size wn0).alloc (Nat.le_refl _) (.cells #[.slice none 0 0, .slice none 0 0, .int .i64 0, .int .i64 0] 26)
    have hx : Arr (wn0.alloc (.cells #[.slice none 0 0, .slice none 0 0, .int .i64 0, .int .i64 0] 26)) wn0.heap.size 26 z4 := Arr.new _ _ _
    have hB := hB.trans (hba.mono hB.size)
    obtain ⟨g8, hgx⟩ : ∃ g, g = wn0.heap.size := ⟨_, rfl⟩
    rw [← hgx] at hx hsz ⊢
    have h8 := hx
    have hg8 := hsz
    clear hx hsz
    clear hgx hba
    refine outG hK ?_ (fun W => Below w1.heap.size w1 W ∧ Arr W g8 26 z4) (fun W => True) ?_ ?_ (fun wn17 hHeld hF _ => ?_)
    · exact HSB.out _ hB
    · exact ⟨hB, h8⟩
    · trivial
    clear hB h8
    obtain ⟨hB, h8⟩ := hF
    clear hK K
    try simp only [List.getElem_toArray, List.getElem_cons_zero, List.getElem_cons_succ, Act.put, List.setIfInBounds_toArray, List.set_cons_zero, List.set_cons_succ]
    refine wpAnyH_ready (rs := [1, 8]) (by kernel_rfl) (by simp) ?_
    refine AllReadyH.cons (o := _) rfl (fun K hK => ?_) ?_
    ·
      go_simp
      refine (HCP.out wn17 hB).mono ?_
      rintro e5 w5 ⟨q1, q2, rfl, ho5, hb5⟩
      dsimp only
      have ho := ho5.lower (base' := w1.heap.size) hB.size
      obtain ⟨N, hNd⟩ : ∃ N : Nat → Prop, N = fun b => b < wn17.heap.size := ⟨_, rfl⟩
      have hN0 : ∀ b, b < w1.heap.size → N b := fun b hb => by rw [hNd]; exact Nat.lt_of_lt_of_le hb hB.size
      have hN8 : N g8 := by rw [hNd]; exact h8.lt
      rw [← hNd] at ho
      clear hNd
      have h8 := h8.below hb5
      have hB := hB.trans (hb5.mono hB.size)
      refine outG hK ?_ (fun W => Below w1.heap.size w1 W ∧ OwSt W w1.heap.size (qv q1 s.blobs.length) (qv q2 s.ents.length) s N ∧ Arr W g8 26 z4) (fun W => True) ?_ ?_ (fun wn18 hHeld hF _ => ?_)
      · exact HSB.out _ hB
      · exact ⟨hB, ho, h8⟩
      · trivial
      clear hB ho h8
      obtain ⟨hB, ho, h8⟩ := hF
      clear hK K
      try simp only [List.getElem_toArray, List.getElem_cons_zero, List.getElem_cons_succ, Act.put, List.setIfInBounds_toArray, List.set_cons_zero, List.set_cons_succ]
      refine wpAnyH_ready (rs := [3, 8]) (by kernel_rfl) (by simp) ?_
      refine AllReadyH.cons (o := _) rfl (fun K hK => ?_) ?_
      ·
        go_simp
        refine (HST.out wn18 _ q1 q2 N ho hB).mono ?_
        rintro e5 w5 ⟨v3, rfl, ho5, hl5, hg5⟩
        obtain ⟨A3, c3, rfl, _, _⟩ := Rd.of_own' hl5
        dsimp only
        have hl := own_lower hl5 hB.size
        have hq1 := (ho.b.rwo.blk rfl).1
        have h8 := h8.grown hg5 (fun e => (ho.nb h8 (by decide) (by decide)).1 (by simpa [Value.ownBlock] using e))
        have hB := hB.grown hg5 hB.size (fun b e => by cases e; exact hq1)
        have ho := ho5
        clear ho5 hl5 hg5 hq1
        refine outG hK ?_ (fun W => Below w1.heap.size w1 W ∧ OwSt W w1.heap.size (qv q1 s.blobs.length) (qv q2 s.ents.length) (ms s grey).1 N ∧ W.ownsRow w1.heap.size 9 1 (.slice A3 (ms s grey).2.grey.length c3) (ms s grey).2.grey.length (strs (ms s grey).2.grey) ∧ Arr W g8 26 z4) (fun W => True) ?_ ?_ (fun wn19 hHeld hF _ => ?_)
        · exact HSB.out _ hB
        · exact ⟨hB, ho, hl, h8⟩
        · trivial
        clear hB ho hl h8
        obtain ⟨hB, ho, hl, h8⟩ := hF
        clear hK K
        try simp only [List.getElem_toArray, List.getElem_cons_zero, List.getElem_cons_succ, Act.put, List.setIfInBounds_toArray, List.set_cons_zero, List.set_cons_succ]
        refine wpAnyH_take (i := 4) (oi := _) (v := ?_) rfl (by kernel_rfl) (by kernel_rfl) (by kernel_rfl) (fun _ _ _ h => h) (Or.inl ⟨by rfl, ?_⟩) (by assumption) ?_
        rotate_left
        · (intro w hSw; (try dsimp only at hSw); go_simp; try (with_reducible rfl))
        try simp only [List.getElem_toArray, List.getElem_cons_zero, List.getElem_cons_succ, Act.put, List.setIfInBounds_toArray, List.set_cons_zero, List.set_cons_succ]
        refine wpAnyH_take (i := 5) (oi := _) (v := ?_) rfl (by kernel_rfl) (by kernel_rfl) (by kernel_rfl) (fun _ _ _ h => h) (Or.inl ⟨by rfl, ?_⟩) (by assumption) ?_
        rotate_left
        · (intro w hSw; (try dsimp only at hSw); go_simp; try (with_reducible rfl))
        try simp only [List.getElem_toArray, List.getElem_cons_zero, List.getElem_cons_succ, Act.put, List.setIfInBounds_toArray, List.set_cons_zero, List.set_cons_succ]
        refine wpAnyH_take (i := 6) (oi := _) (v := ?_) rfl (by kernel_rfl) (by kernel_rfl) (by kernel_rfl) (fun _ _ _ h => h) (Or.inl ⟨by rfl, ?_⟩) (by assumption) ?_
        rotate_left
        · (intro w hSw; (try dsimp only at hSw); go_simp; try (with_reducible rfl))
        try simp only [List.getElem_toArray, List.getElem_cons_zero, List.getElem_cons_succ, Act.put, List.setIfInBounds_toArray, List.set_cons_zero, List.set_cons_succ]
        refine wpAnyH_ready (rs := [8]) (by kernel_rfl) (by simp) ?_
        refine AllReadyH.cons (o := _) rfl (fun K hK => ?_) ?_
        ·
          have ho := ho.wider (N' := fun b => N b ∨ b = wn19.heap.size) (fun b hb => hb.imp id (fun e => by omega))
          go_simp
          have hsz := hB.size
          have hba := (Below.refl wn19.heap.size wn19).alloc (Nat.le_refl _) (.cells #[.int .i64 0, .slice none 0 0, .string ⟨#[]⟩] 60)
          have hx : Arr (wn19.alloc (.cells #[.int .i64 0, .slice none 0 0, .string ⟨#[]⟩] 60)) wn19.heap.size 60 z3 := Arr.new _ _ _
          have hl := own_below hl hba
          have ho := ho.below hba
          have h8 := h8.below hba
          have hB := hB.trans (hba.mono hB.size)
          obtain ⟨g9, hgx⟩ : ∃ g, g = wn19.heap.size := ⟨_, rfl⟩
          rw [← hgx] at hx hsz ⊢
          have h9 := hx
          have hg9 := hsz
          clear hx hsz
          rw [← hgx] at ho
          obtain ⟨N, hNd⟩ : ∃ M : Nat → Prop, M = fun b => N b ∨ b = g9 := ⟨_, rfl⟩
          have hN0 : ∀ b, b < w1.heap.size → N b := fun b hb => by rw [hNd]; exact .inl (hN0 b hb)
          have hN9 : N g9 := by rw [hNd]; exact .inr rfl
          have hN8 : N g8 := by rw [hNd]; exact .inl hN8
          rw [← hNd] at ho
          clear hNd
          clear hgx hba
          refine outG hK ?_ (fun W => Below w1.heap.size w1 W ∧ OwSt W w1.heap.size (qv q1 s.blobs.length) (qv q2 s.ents.length) (ms s grey).1 N ∧ W.ownsRow w1.heap.size 9 1 (.slice A3 (ms s grey).2.grey.length c3) (ms s grey).2.grey.length (strs (ms s grey).2.grey) ∧ Arr W g8 26 z4 ∧ Arr W g9 60 z3) (fun W => True) ?_ ?_ (fun wn20 hHeld hF _ => ?_)
          · exact HSB.out _ hB
          · exact ⟨hB, ho, hl, h8, h9⟩
          · trivial
          clear hB ho hl h8 h9
          obtain ⟨hB, ho, hl, h8, h9⟩ := hF
          clear hK K
          try simp only [List.getElem_toArray, List.getElem_cons_zero, List.getElem_cons_succ, Act.put, List.setIfInBounds_toArray, List.set_cons_zero, List.set_cons_succ]
          have hall := And.intro hHeld (And.intro hB (And.intro (ho.mono (N' := fun b => b < w1.heap.size ∨ b = g8 ∨ b = g9) (fun b hb => hb.elim (fun h => hN0 b h) (fun h => h.elim (fun e => e ▸ hN8) (fun e => e ▸ hN9)))) (And.intro hl (And.intro h8 (And.intro h9 (And.intro hg8 hg9))))))
          generalize wn20 = wz at hall ⊢
          generalize g8 = gx at hall ⊢
          generalize g9 = gy at hall ⊢
          generalize q1 = p1 at hall ⊢
          generalize q2 = p2 at hall ⊢
          generalize A3 = A4 at hall ⊢
          generalize c3 = c4 at hall ⊢
          clear hHeld
          revert wz gx gy p1 p2 A4 c4
          exact REST.out
        exact AllReadyH.nil
      refine AllReadyH.cons (o := _) rfl (fun K hK => ?_) ?_
      ·
        have ho := ho.wider (N' := fun b => N b ∨ b = wn18.heap.size) (fun b hb => hb.imp id (fun e => by omega))
        go_simp
        have hsz := hB.size
        have hba := (Below.refl wn18.heap.size wn18).alloc (Nat.le_refl _) (.cells #[.int .i64 0, .slice none 0 0, .string ⟨#[]⟩] 60)
        have hx : Arr (wn18.alloc (.cells #[.int .i64 0, .slice none 0 0, .string ⟨#[]⟩] 60)) wn18.heap.size 60 z3 := Arr.new _ _ _
        have ho := ho.below hba
        have h8 := h8.below hba
        have hB := hB.trans (hba.mono hB.size)
        obtain ⟨g9, hgx⟩ : ∃ g, g = wn18.heap.size := ⟨_, rfl⟩
        rw [← hgx] at hx hsz ⊢
        have h9 := hx
        have hg9 := hsz
        clear hx hsz
        rw [← hgx] at ho
        obtain ⟨N, hNd⟩ : ∃ M : Nat → Prop, M = fun b => N b ∨ b = g9 := ⟨_, rfl⟩
        have hN0 : ∀ b, b < w1.heap.size → N b := fun b hb => by rw [hNd]; exact .inl (hN0 b hb)
        have hN9 : N g9 := by rw [hNd]; exact .inr rfl
        have hN8 : N g8 := by rw [hNd]; exact .inl hN8
        rw [← hNd] at ho
        clear hNd
        clear hgx hba
        refine outG hK ?_ (fun W => Below w1.heap.size w1 W ∧ OwSt W w1.heap.size (qv q1 s.blobs.length) (qv q2 s.ents.length) s N ∧ Arr W g8 26 z4 ∧ Arr W g9 60 z3) (fun W => True) ?_ ?_ (fun wn21 hHeld hF _ => ?_)
        · exact HSB.out _ hB
        · exact ⟨hB, ho, h8, h9⟩
        · trivial
        clear hB ho h8 h9
        obtain ⟨hB, ho, h8, h9⟩ := hF
        clear hK K
        try simp only [List.getElem_toArray, List.getElem_cons_zero, List.getElem_cons_succ, Act.put, List.setIfInBounds_toArray, List.set_cons_zero, List.set_cons_succ]
        refine wpAnyH_ready (rs := [3]) (by kernel_rfl) (by simp) ?_
        refine AllReadyH.cons (o := _) rfl (fun K hK => ?_) ?_
        ·
          go_simp
          refine (HST.out wn21 _ q1 q2 N ho hB).mono ?_
          rintro e5 w5 ⟨v3, rfl, ho5, hl5, hg5⟩
          obtain ⟨A3, c3, rfl, _, _⟩ := Rd.of_own' hl5
          dsimp only
          have hl := own_lower hl5 hB.size
          have hq1 := (ho.b.rwo.blk rfl).1
          have h8 := h8.grown hg5 (fun e => (ho.nb h8 (by decide) (by decide)).1 (by simpa [Value.ownBlock] using e))
          have h9 := h9.grown hg5 (fun e => (ho.nb h9 (by decide) (by decide)).1 (by simpa [Value.ownBlock] using e))
          have hB := hB.grown hg5 hB.size (fun b e => by cases e; exact hq1)
          have ho := ho5
          clear ho5 hl5 hg5 hq1
          refine outG hK ?_ (fun W => Below w1.heap.size w1 W ∧ OwSt W w1.heap.size (qv q1 s.blobs.length) (qv q2 s.ents.length) (ms s grey).1 N ∧ W.ownsRow w1.heap.size 9 1 (.slice A3 (ms s grey).2.grey.length c3) (ms s grey).2.grey.length (strs (ms s grey).2.grey) ∧ Arr W g8 26 z4 ∧ Arr W g9 60 z3) (fun W => True) ?_ ?_ (fun wn22 hHeld hF _ => ?_)
          · exact HSB.out _ hB
          · exact ⟨hB, ho, hl, h8, h9⟩
          · trivial
          clear hB ho hl h8 h9
          obtain ⟨hB, ho, hl, h8, h9⟩ := hF
          clear hK K
          try simp only [List.getElem_toArray, List.getElem_cons_zero, List.getElem_cons_succ, Act.put, List.setIfInBounds_toArray, List.set_cons_zero, List.set_cons_succ]
          refine wpAnyH_take (i := 4) (oi := _) (v := ?_) rfl (by kernel_rfl) (by kernel_rfl) (by kernel_rfl) (fun _ _ _ h => h) (Or.inl ⟨by rfl, ?_⟩) (by assumption) ?_
          rotate_left
          · (intro w hSw; (try dsimp only at hSw); go_simp; try (with_reducible rfl))
          try simp only [List.getElem_toArray, List.getElem_cons_zero, List.getElem_cons_succ, Act.put, List.setIfInBounds_toArray, List.set_cons_zero, List.set_cons_succ]
          refine wpAnyH_take (i := 5) (oi := _) (v := ?_) rfl (by kernel_rfl) (by kernel_rfl) (by kernel_rfl) (fun _ _ _ h => h) (Or.inl ⟨by rfl, ?_⟩) (by assumption) ?_
          rotate_left
          · (intro w hSw; (try dsimp only at hSw); go_simp; try (with_reducible rfl))
          try simp only [List.getElem_toArray, List.getElem_cons_zero, List.getElem_cons_succ, Act.put, List.setIfInBounds_toArray, List.set_cons_zero, List.set_cons_succ]
          refine wpAnyH_take (i := 6) (oi := _) (v := ?_) rfl (by kernel_rfl) (by kernel_rfl) (by kernel_rfl) (fun _ _ _ h => h) (Or.inl ⟨by rfl, ?_⟩) (by assumption) ?_
          rotate_left
          · (intro w hSw; (try dsimp only at hSw); go_simp; try (with_reducible rfl))
          try simp only [List.getElem_toArray, List.getElem_cons_zero, List.getElem_cons_succ, Act.put, List.setIfInBounds_toArray, List.set_cons_zero, List.set_cons_succ]
          have hall := And.intro hHeld (And.intro hB (And.intro (ho.mono (N' := fun b => b < w1.heap.size ∨ b = g8 ∨ b = g9) (fun b hb => hb.elim (fun h => hN0 b h) (fun h => h.elim (fun e => e ▸ hN8) (fun e => e ▸ hN9)))) (And.intro hl (And.intro h8 (And.intro h9 (And.intro hg8 hg9))))))
          generalize wn22 = wz at hall ⊢
          generalize g8 = gx at hall ⊢
          generalize g9 = gy at hall ⊢
          generalize q1 = p1 at hall ⊢
          generalize q2 = p2 at hall ⊢
          generalize A3 = A4 at hall ⊢
          generalize c3 = c4 at hall ⊢
          clear hHeld
          revert wz gx gy p1 p2 A4 c4
          exact REST.out
        exact AllReadyH.nil
      exact AllReadyH.nil
    refine AllReadyH.cons (o := _) rfl (fun K hK => ?_) ?_
    ·
      go_simp
      have hsz := hB.size
      have hba := (Below.refl wn17.heap.size wn17).alloc (Nat.le_refl _) (.cells #[.int .i64 0, .slice none 0 0, .string ⟨#[]⟩] 60)
      have hx : Arr (wn17.alloc (.cells #[.int .i64 0, .slice none 0 0, .string ⟨#[]⟩] 60)) wn17.heap.size 60 z3 := Arr.new _ _ _
      have h8 := h8.below hba
      have hB := hB.trans (hba.mono hB.size)
      obtain ⟨g9, hgx⟩ : ∃ g, g = wn17.heap.size := ⟨_, rfl⟩
      rw [← hgx] at hx hsz ⊢
      have h9 := hx
      have hg9 := hsz
      clear hx hsz
      clear hgx hba
      refine outG hK ?_ (fun W => Below w1.heap.size w1 W ∧ Arr W g8 26 z4 ∧ Arr W g9 60 z3) (fun W => True) ?_ ?_ (fun wn23 hHeld hF _ => ?_)
      · exact HSB.out _ hB
      · exact ⟨hB, h8, h9⟩
      · trivial
      clear hB h8 h9
      obtain ⟨hB, h8, h9⟩ := hF
      clear hK K
      try simp only [List.getElem_toArray, List.getElem_cons_zero, List.getElem_cons_succ, Act.put, List.setIfInBounds_toArray, List.set_cons_zero, List.set_cons_succ]
      refine wpAnyH_ready (rs := [1]) (by kernel_rfl) (by simp) ?_
      refine AllReadyH.cons (o := _) rfl (fun K hK => ?_) ?_
      ·
        go_simp
        refine (HCP.out wn23 hB).mono ?_
        rintro e5 w5 ⟨q1, q2, rfl, ho5, hb5⟩
        dsimp only
        have ho := ho5.lower (base' := w1.heap.size) hB.size
        obtain ⟨N, hNd⟩ : ∃ N : Nat → Prop, N = fun b => b < wn23.heap.size := ⟨_, rfl⟩
        have hN0 : ∀ b, b < w1.heap.size → N b := fun b hb => by rw [hNd]; exact Nat.lt_of_lt_of_le hb hB.size
        have hN8 : N g8 := by rw [hNd]; exact h8.lt
        have hN9 : N g9 := by rw [hNd]; exact h9.lt
        rw [← hNd] at ho
        clear hNd
        have h8 := h8.below hb5
        have h9 := h9.below hb5
        have hB := hB.trans (hb5.mono hB.size)
        refine outG hK ?_ (fun W => Below w1.heap.size w1 W ∧ OwSt W w1.heap.size (qv q1 s.blobs.length) (qv q2 s.ents.length) s N ∧ Arr W g8 26 z4 ∧ Arr W g9 60 z3) (fun W => True) ?_ ?_ (fun wn24 hHeld hF _ => ?_)
        · exact HSB.out _ hB
        · exact ⟨hB, ho, h8, h9⟩
        · trivial
        clear hB ho h8 h9
        obtain ⟨hB, ho, h8, h9⟩ := hF
        clear hK K
        try simp only [List.getElem_toArray, List.getElem_cons_zero, List.getElem_cons_succ, Act.put, List.setIfInBounds_toArray, List.set_cons_zero, List.set_cons_succ]
        refine wpAnyH_ready (rs := [3]) (by kernel_rfl) (by simp) ?_
        refine AllReadyH.cons (o := _) rfl (fun K hK => ?_) ?_
        ·
          go_simp
          refine (HST.out wn24 _ q1 q2 N ho hB).mono ?_
          rintro e5 w5 ⟨v3, rfl, ho5, hl5, hg5⟩
          obtain ⟨A3, c3, rfl, _, _⟩ := Rd.of_own' hl5
          dsimp only
          have hl := own_lower hl5 hB.size
          have hq1 := (ho.b.rwo.blk rfl).1
          have h8 := h8.grown hg5 (fun e => (ho.nb h8 (by decide) (by decide)).1 (by simpa [Value.ownBlock] using e))
          have h9 := h9.grown hg5 (fun e => (ho.nb h9 (by decide) (by decide)).1 (by simpa [Value.ownBlock] using e))
          have hB := hB.grown hg5 hB.size (fun b e => by cases e; exact hq1)
          have ho := ho5
          clear ho5 hl5 hg5 hq1
          refine outG hK ?_ (fun W => Below w1.heap.size w1 W ∧ OwSt W w1.heap.size (qv q1 s.blobs.length) (qv q2 s.ents.length) (ms s grey).1 N ∧ W.ownsRow w1.heap.size 9 1 (.slice A3 (ms s grey).2.grey.length c3) (ms s grey).2.grey.length (strs (ms s grey).2.grey) ∧ Arr W g8 26 z4 ∧ Arr W g9 60 z3) (fun W => True) ?_ ?_ (fun wn25 hHeld hF _ => ?_)
          · exact HSB.out _ hB
          · exact ⟨hB, ho, hl, h8, h9⟩
          · trivial
          clear hB ho hl h8 h9
          obtain ⟨hB, ho, hl, h8, h9⟩ := hF
          clear hK K
          try simp only [List.getElem_toArray, List.getElem_cons_zero, List.getElem_cons_succ, Act.put, List.setIfInBounds_toArray, List.set_cons_zero, List.set_cons_succ]
          refine wpAnyH_take (i := 4) (oi := _) (v := ?_) rfl (by kernel_rfl) (by kernel_rfl) (by kernel_rfl) (fun _ _ _ h => h) (Or.inl ⟨by rfl, ?_⟩) (by assumption) ?_
          rotate_left
          · (intro w hSw; (try dsimp only at hSw); go_simp; try (with_reducible rfl))
          try simp only [List.getElem_toArray, List.getElem_cons_zero, List.getElem_cons_succ, Act.put, List.setIfInBounds_toArray, List.set_cons_zero, List.set_cons_succ]
          refine wpAnyH_take (i := 5) (oi := _) (v := ?_) rfl (by kernel_rfl) (by kernel_rfl) (by kernel_rfl) (fun _ _ _ h => h) (Or.inl ⟨by rfl, ?_⟩) (by assumption) ?_
          rotate_left
          · (intro w hSw; (try dsimp only at hSw); go_simp; try (with_reducible rfl))
          try simp only [List.getElem_toArray, List.getElem_cons_zero, List.getElem_cons_succ, Act.put, List.setIfInBounds_toArray, List.set_cons_zero, List.set_cons_succ]
          refine wpAnyH_take (i := 6) (oi := _) (v := ?_) rfl (by kernel_rfl) (by kernel_rfl) (by kernel_rfl) (fun _ _ _ h => h) (Or.inl ⟨by rfl, ?_⟩) (by assumption) ?_
          rotate_left
          · (intro w hSw; (try dsimp only at hSw); go_simp; try (with_reducible rfl))
          try simp only [List.getElem_toArray, List.getElem_cons_zero, List.getElem_cons_succ, Act.put, List.setIfInBounds_toArray, List.set_cons_zero, List.set_cons_succ]
          have hall := And.intro hHeld (And.intro hB (And.intro (ho.mono (N' := fun b => b < w1.heap.size ∨ b = g8 ∨ b = g9) (fun b hb => hb.elim (fun h => hN0 b h) (fun h => h.elim (fun e => e ▸ hN8) (fun e => e ▸ hN9)))) (And.intro hl (And.intro h8 (And.intro h9 (And.intro hg8 hg9))))))
          generalize wn25 = wz at hall ⊢
          generalize g8 = gx at hall ⊢
          generalize g9 = gy at hall ⊢
          generalize q1 = p1 at hall ⊢
          generalize q2 = p2 at hall ⊢
          generalize A3 = A4 at hall ⊢
          generalize c3 = c4 at hall ⊢
          clear hHeld
          revert wz gx gy p1 p2 A4 c4
          exact REST.out
        exact AllReadyH.nil
      exact AllReadyH.nil
    exact AllReadyH.nil
  refine AllReadyH.cons (o := _) rfl (fun K hK => ?_) ?_
  ·
    go_simp
    have hsz := hB.size
    have hba := (Below.refl wn0.heap.size wn0).alloc (Nat.le_refl _) (.cells #[.int .i64 0, .slice none 0 0, .string ⟨#[]⟩] 60)
    have hx : Arr (wn0.alloc (.cells #[.int .i64 0, .slice none 0 0, .string ⟨#[]⟩] 60)) wn0.heap.size 60 z3 := Arr.new _ _ _
    have hB := hB.trans (hba.mono hB.size)
    obtain ⟨g9, hgx⟩ : ∃ g, g = wn0.heap.size := ⟨_, rfl⟩
    rw [← hgx] at hx hsz ⊢
    have h9 := hx
    have hg9 := hsz
    clear hx hsz
    clear hgx hba
    refine outG hK ?_ (fun W => Below w1.heap.size w1 W ∧ Arr W g9 60 z3) (fun W => True) ?_ ?_ (fun wn26 hHeld hF _ => ?_)
    · exact HSB.out _ hB
    · exact ⟨hB, h9⟩
    · trivial
    clear hB h9
    obtain ⟨hB, h9⟩ := hF
    clear hK K
    try simp only [List.getElem_toArray, List.getElem_cons_zero, List.getElem_cons_succ, Act.put, List.setIfInBounds_toArray, List.set_cons_zero, List.set_cons_succ]
    refine wpAnyH_ready (rs := [1, 7]) (by kernel_rfl) (by simp) ?_
    refine AllReadyH.cons (o := _) rfl (fun K hK => ?_) ?_
    ·
      go_simp
      refine (HCP.out wn26 hB).mono ?_
      rintro e5 w5 ⟨q1, q2, rfl, ho5, hb5⟩
      dsimp only
      have ho := ho5.lower (base' := w1.heap.size) hB.size
      obtain ⟨N, hNd⟩ : ∃ N : Nat → Prop, N = fun b => b < wn26.heap.size := ⟨_, rfl⟩
      have hN0 : ∀ b, b < w1.heap.size → N b := fun b hb => by rw [hNd]; exact Nat.lt_of_lt_of_le hb hB.size
      have hN9 : N g9 := by rw [hNd]; exact h9.lt
      rw [← hNd] at ho
      clear hNd
      have h9 := h9.below hb5
      have hB := hB.trans (hb5.mono hB.size)
      refine outG hK ?_ (fun W => Below w1.heap.size w1 W ∧ OwSt W w1.heap.size (qv q1 s.blobs.length) (qv q2 s.ents.length) s N ∧ Arr W g9 60 z3) (fun W => True) ?_ ?_ (fun wn27 hHeld hF _ => ?_)
      · exact HSB.out _ hB
      · exact ⟨hB, ho, h9⟩
      · trivial
      clear hB ho h9
      obtain ⟨hB, ho, h9⟩ := hF
      clear hK K
      try simp only [List.getElem_toArray, List.getElem_cons_zero, List.getElem_cons_succ, Act.put, List.setIfInBounds_toArray, List.set_cons_zero, List.set_cons_succ]
      refine wpAnyH_ready (rs := [3, 7]) (by kernel_rfl) (by simp) ?_
      refine AllReadyH.cons (o := _) rfl (fun K hK => ?_) ?_
      ·
        go_simp
        refine (HST.out wn27 _ q1 q2 N ho hB).mono ?_
        rintro e5 w5 ⟨v3, rfl, ho5, hl5, hg5⟩
        obtain ⟨A3, c3, rfl, _, _⟩ := Rd.of_own' hl5
        dsimp only
        have hl := own_lower hl5 hB.size
        have hq1 := (ho.b.rwo.blk rfl).1
        have h9 := h9.grown hg5 (fun e => (ho.nb h9 (by decide) (by decide)).1 (by simpa [Value.ownBlock] using e))
        have hB := hB.grown hg5 hB.size (fun b e => by cases e; exact hq1)
        have ho := ho5
        clear ho5 hl5 hg5 hq1
        refine outG hK ?_ (fun W => Below w1.heap.size w1 W ∧ OwSt W w1.heap.size (qv q1 s.blobs.length) (qv q2 s.ents.length) (ms s grey).1 N ∧ W.ownsRow w1.heap.size 9 1 (.slice A3 (ms s grey).2.grey.length c3) (ms s grey).2.grey.length (strs (ms s grey).2.grey) ∧ Arr W g9 60 z3) (fun W => True) ?_ ?_ (fun wn28 hHeld hF _ => ?_)
        · exact HSB.out _ hB
        · exact ⟨hB, ho, hl, h9⟩
        · trivial
        clear hB ho hl h9
        obtain ⟨hB, ho, hl, h9⟩ := hF
        clear hK K
        try simp only [List.getElem_toArray, List.getElem_cons_zero, List.getElem_cons_succ, Act.put, List.setIfInBounds_toArray, List.set_cons_zero, List.set_cons_succ]
        refine wpAnyH_take (i := 4) (oi := _) (v := ?_) rfl (by kernel_rfl) (by kernel_rfl) (by kernel_rfl) (fun _ _ _ h => h) (Or.inl ⟨by rfl, ?_⟩) (by assumption) ?_
        rotate_left
        · (intro w hSw; (try dsimp only at hSw); go_simp; try (with_reducible rfl))
        try simp only [List.getElem_toArray, List.getElem_cons_zero, List.getElem_cons_succ, Act.put, List.setIfInBounds_toArray, List.set_cons_zero, List.set_cons_succ]
        refine wpAnyH_take (i := 5) (oi := _) (v := ?_) rfl (by kernel_rfl) (by kernel_rfl) (by kernel_rfl) (fun _ _ _ h => h) (Or.inl ⟨by rfl, ?_⟩) (by assumption) ?_
        rotate_left
        · (intro w hSw; (try dsimp only at hSw); go_simp; try (with_reducible rfl))
        try simp only [List.getElem_toArray, List.getElem_cons_zero, List.getElem_cons_succ, Act.put, List.setIfInBounds_toArray, List.set_cons_zero, List.set_cons_succ]
        refine wpAnyH_take (i := 6) (oi := _) (v := ?_) rfl (by kernel_rfl) (by kernel_rfl) (by kernel_rfl) (fun _ _ _ h => h) (Or.inl ⟨by rfl, ?_⟩) (by assumption) ?_
        rotate_left
        · (intro w hSw; (try dsimp only at hSw); go_simp; try (with_reducible rfl))
        try simp only [List.getElem_toArray, List.getElem_cons_zero, List.getElem_cons_succ, Act.put, List.setIfInBounds_toArray, List.set_cons_zero, List.set_cons_succ]
        refine wpAnyH_ready (rs := [7]) (by kernel_rfl) (by simp) ?_
        refine AllReadyH.cons (o := _) rfl (fun K hK => ?_) ?_
        ·
          have ho := ho.wider (N' := fun b => N b ∨ b = wn28.heap.size) (fun b hb => hb.imp id (fun e => by omega))
          go_simp
          have hsz := hB.size
          have hba := (Below.refl wn28.heap.size wn28).alloc (Nat.le_refl _) (.cells #[.slice none 0 0, .slice none 0 0, .int .i64 0, .int .i64 0] 26)
          have hx : Arr (wn28.alloc (.cells #[.slice none 0 0, .slice none 0 0, .int .i64 0, .int .i64 0] 26)) wn28.heap.size 26 z4 := Arr.new _ _ _
          have hl := own_below hl hba
          have ho := ho.below hba
          have h9 := h9.below hba
          have hB := hB.trans (hba.mono hB.size)
          obtain ⟨g8, hgx⟩ : ∃ g, g = wn28.heap.size := ⟨_, rfl⟩
          rw [← hgx] at hx hsz ⊢
          have h8 := hx
          have hg8 := hsz
          clear hx hsz
          rw [← hgx] at ho
          obtain ⟨N, hNd⟩ : ∃ M : Nat → Prop, M = fun b => N b ∨ b = g8 := ⟨_, rfl⟩
          have hN0 : ∀ b, b < w1.heap.size → N b := fun b hb => by rw [hNd]; exact .inl (hN0 b hb)
          have hN8 : N g8 := by rw [hNd]; exact .inr rfl
          have hN9 : N g9 := by rw [hNd]; exact .inl hN9
          rw [← hNd] at ho
          clear hNd
          clear hgx hba
          refine outG hK ?_ (fun W => Below w1.heap.size w1 W ∧ OwSt W w1.heap.size (qv q1 s.blobs.length) (qv q2 s.ents.length) (ms s grey).1 N ∧ W.ownsRow w1.heap.size 9 1 (.slice A3 (ms s grey).2.grey.length c3) (ms s grey).2.grey.length (strs (ms s grey).2.grey) ∧ Arr W g8 26 z4 ∧ Arr W g9 60 z3) (fun W => True) ?_ ?_ (fun wn29 hHeld hF _ => ?_)
          · exact HSB.out _ hB
          · exact ⟨hB, ho, hl, h8, h9⟩
          · trivial
          clear hB ho hl h8 h9
          obtain ⟨hB, ho, hl, h8, h9⟩ := hF
          clear hK K
          try simp only [List.getElem_toArray, List.getElem_cons_zero, List.getElem_cons_succ, Act.put, List.setIfInBounds_toArray, List.set_cons_zero, List.set_cons_succ]
          have hall := And.intro hHeld (And.intro hB (And.intro (ho.mono (N' := fun b => b < w1.heap.size ∨ b = g8 ∨ b = g9) (fun b hb => hb.elim (fun h => hN0 b h) (fun h => h.elim (fun e => e ▸ hN8) (fun e => e ▸ hN9)))) (And.intro hl (And.intro h8 (And.intro h9 (And.intro hg8 hg9))))))
          generalize wn29 = wz at hall ⊢
          generalize g8 = gx at hall ⊢
          generalize g9 = gy at hall ⊢
          generalize q1 = p1 at hall ⊢
          generalize q2 = p2 at hall ⊢
          generalize A3 = A4 at hall ⊢
          generalize c3 = c4 at hall ⊢
          clear hHeld
          revert wz gx gy p1 p2 A4 c4
          exact REST.out
        exact AllReadyH.nil
      refine AllReadyH.cons (o := _) rfl (fun K hK => ?_) ?_
      ·
        have ho := ho.wider (N' := fun b => N b ∨ b = wn27.heap.size) (fun b hb => hb.imp id (fun e => by omega))
        go_simp
        have hsz := hB.size
        have hba := (Below.refl wn27.heap.size wn27).alloc (Nat.le_refl _) (.cells #[.slice none 0 0, .slice none 0 0, .int .i64 0, .int .i64 0] 26)
        have hx : Arr (wn27.alloc (.cells #[.slice none 0 0, .slice none 0 0, .int .i64 0, .int .i64 0] 26)) wn27.heap.size 26 z4 := Arr.new _ _ _
        have ho := ho.below hba
        have h9 := h9.below hba
        have hB := hB.trans (hba.mono hB.size)
        obtain ⟨g8, hgx⟩ : ∃ g, g = wn27.heap.size := ⟨_, rfl⟩
        rw [← hgx] at hx hsz ⊢
        have h8 := hx
        have hg8 := hsz
        clear hx hsz
        rw [← hgx] at ho
        obtain ⟨N, hNd⟩ : ∃ M : Nat → Prop, M = fun b => N b ∨ b = g8 := ⟨_, rfl⟩
        have hN0 : ∀ b, b < w1.heap.size → N b := fun b hb => by rw [hNd]; exact .inl (hN0 b hb)
        have hN8 : N g8 := by rw [hNd]; exact .inr rfl
        have hN9 : N g9 := by rw [hNd]; exact .inl hN9
        rw [← hNd] at ho
        clear hNd
        clear hgx hba
        refine outG hK ?_ (fun W => Below w1.heap.size w1 W ∧ OwSt W w1.heap.size (qv q1 s.blobs.length) (qv q2 s.ents.length) s N ∧ Arr W g8 26 z4 ∧ Arr W g9 60 z3) (fun W => True) ?_ ?_ (fun wn30 hHeld hF _ => ?_)
        · exact HSB.out _ hB
        · exact ⟨hB, ho, h8, h9⟩
        · trivial
        clear hB ho h8 h9
        obtain ⟨hB, ho, h8, h9⟩ := hF
        clear hK K
        try simp only [List.getElem_toArray, List.getElem_cons_zero, List.getElem_cons_succ, Act.put, List.setIfInBounds_toArray, List.set_cons_zero, List.set_cons_succ]
        refine wpAnyH_ready (rs := [3]) (by kernel_rfl) (by simp) ?_
        refine AllReadyH.cons (o := _) rfl (fun K hK => ?_) ?_
        ·
          go_simp
          refine (HST.out wn30 _ q1 q2 N ho hB).mono ?_
          rintro e5 w5 ⟨v3, rfl, ho5, hl5, hg5⟩
          obtain ⟨A3, c3, rfl, _, _⟩ := Rd.of_own' hl5
          dsimp only
          have hl := own_lower hl5 hB.size
          have hq1 := (ho.b.rwo.blk rfl).1
          have h8 := h8.grown hg5 (fun e => (ho.nb h8 (by decide) (by decide)).1 (by simpa [Value.ownBlock] using e))
          have h9 := h9.grown hg5 (fun e => (ho.nb h9 (by decide) (by decide)).1 (by simpa [Value.ownBlock] using e))
          have hB := hB.grown hg5 hB.size (fun b e => by cases e; exact hq1)
          have ho := ho5
          clear ho5 hl5 hg5 hq1
          refine outG hK ?_ (fun W => Below w1.heap.size w1 W ∧ OwSt W w1.heap.size (qv q1 s.blobs.length) (qv q2 s.ents.length) (ms s grey).1 N ∧ W.ownsRow w1.heap.size 9 1 (.slice A3 (ms s grey).2.grey.length c3) (ms s grey).2.grey.length (strs (ms s grey).2.grey) ∧ Arr W g8 26 z4 ∧ Arr W g9 60 z3) (fun W => True) ?_ ?_ (fun wn31 hHeld hF _ => ?_)
          · exact HSB.out _ hB
          · exact ⟨hB, ho, hl, h8, h9⟩
          · trivial
          clear hB ho hl h8 h9
          obtain ⟨hB, ho, hl, h8, h9⟩ := hF
          clear hK K
          try simp only [List.getElem_toArray, List.getElem_cons_zero, List.getElem_cons_succ, Act.put, List.setIfInBounds_toArray, List.set_cons_zero, List.set_cons_succ]
          refine wpAnyH_take (i := 4) (oi := _) (v := ?_) rfl (by kernel_rfl) (by kernel_rfl) (by kernel_rfl) (fun _ _ _ h => h) (Or.inl ⟨by rfl, ?_⟩) (by assumption) ?_
          rotate_left
          · (intro w hSw; (try dsimp only at hSw); go_simp; try (with_reducible rfl))
          try simp only [List.getElem_toArray, List.getElem_cons_zero, List.getElem_cons_succ, Act.put, List.setIfInBounds_toArray, List.set_cons_zero, List.set_cons_succ]
          refine wpAnyH_take (i := 5) (oi := _) (v := ?_) rfl (by kernel_rfl) (by kernel_rfl) (by kernel_rfl) (fun _ _ _ h => h) (Or.inl ⟨by rfl, ?_⟩) (by assumption) ?_
          rotate_left
          · (intro w hSw; (try dsimp only at hSw); go_simp; try (with_reducible rfl))
          try simp only [List.getElem_toArray, List.getElem_cons_zero, List.getElem_cons_succ, Act.put, List.setIfInBounds_toArray, List.set_cons_zero, List.set_cons_succ]
          refine wpAnyH_take (i := 6) (oi := _) (v := ?_) rfl (by kernel_rfl) (by kernel_rfl) (by kernel_rfl) (fun _ _ _ h => h) (Or.inl ⟨by rfl, ?_⟩) (by assumption) ?_
          rotate_left
          · (intro w hSw; (try dsimp only at hSw); go_simp; try (with_reducible rfl))
          try simp only [List.getElem_toArray, List.getElem_cons_zero, List.getElem_cons_succ, Act.put, List.setIfInBounds_toArray, List.set_cons_zero, List.set_cons_succ]
          have hall := And.intro hHeld (And.intro hB (And.intro (ho.mono (N' := fun b => b < w1.heap.size ∨ b = g8 ∨ b = g9) (fun b hb => hb.elim (fun h => hN0 b h) (fun h => h.elim (fun e => e ▸ hN8) (fun e => e ▸ hN9)))) (And.intro hl (And.intro h8 (And.intro h9 (And.intro hg8 hg9))))))
          generalize wn31 = wz at hall ⊢
          generalize g8 = gx at hall ⊢
          generalize g9 = gy at hall ⊢
          generalize q1 = p1 at hall ⊢
          generalize q2 = p2 at hall ⊢
          generalize A3 = A4 at hall ⊢
          generalize c3 = c4 at hall ⊢
          clear hHeld
          revert wz gx gy p1 p2 A4 c4
          exact REST.out
        exact AllReadyH.nil
      exact AllReadyH.nil
    refine AllReadyH.cons (o := _) rfl (fun K hK => ?_) ?_
    ·
      go_simp
      have hsz := hB.size
      have hba := (Below.refl wn26.heap.size wn26).alloc (Nat.le_refl _) (.cells #[.slice none 0 0, .slice none 0 0, .int .i64 0, .int .i64 0] 26)
      have hx : Arr (wn26.alloc (.cells #[.slice none 0 0, .slice none 0 0, .int .i64 0, .int .i64 0] 26)) wn26.heap.size 26 z4 := Arr.new _ _ _
      have h9 := h9.below hba
      have hB := hB.trans (hba.mono hB.size)
      obtain ⟨g8, hgx⟩ : ∃ g, g = wn26.heap.size := ⟨_, rfl⟩
      rw [← hgx] at hx hsz ⊢
      have h8 := hx
      have hg8 := hsz
      clear hx hsz
      clear hgx hba
      refine outG hK ?_ (fun W => Below w1.heap.size w1 W ∧ Arr W g8 26 z4 ∧ Arr W g9 60 z3) (fun W => True) ?_ ?_ (fun wn32 hHeld hF _ => ?_)
      · exact HSB.out _ hB
      · exact ⟨hB, h8, h9⟩
      · trivial
      clear hB h8 h9
      obtain ⟨hB, h8, h9⟩ := hF
      clear hK K
      try simp only [List.getElem_toArray, List.getElem_cons_zero, List.getElem_cons_succ, Act.put, List.setIfInBounds_toArray, List.set_cons_zero, List.set_cons_succ]
      refine wpAnyH_ready (rs := [1]) (by kernel_rfl) (by simp) ?_
      refine AllReadyH.cons (o := _) rfl (fun K hK => ?_) ?_
      ·
        go_simp
        refine (HCP.out wn32 hB).mono ?_
        rintro e5 w5 ⟨q1, q2, rfl, ho5, hb5⟩
        dsimp only
        have ho := ho5.lower (base' := w1.heap.size) hB.size
        obtain ⟨N, hNd⟩ : ∃ N : Nat → Prop, N = fun b => b < wn32.heap.size := ⟨_, rfl⟩
        have hN0 : ∀ b, b < w1.heap.size → N b := fun b hb => by rw [hNd]; exact Nat.lt_of_lt_of_le hb hB.size
        have hN8 : N g8 := by rw [hNd]; exact h8.lt
        have hN9 : N g9 := by rw [hNd]; exact h9.lt
        rw [← hNd] at ho
        clear hNd
        have h8 := h8.below hb5
        have h9 := h9.below hb5
        have hB := hB.trans (hb5.mono hB.size)
        refine outG hK ?_ (fun W => Below w1.heap.size w1 W ∧ OwSt W w1.heap.size (qv q1 s.blobs.length) (qv q2 s.ents.length) s N ∧ Arr W g8 26 z4 ∧ Arr W g9 60 z3) (fun W => True) ?_ ?_ (fun wn33 hHeld hF _ => ?_)
        · exact HSB.out _ hB
        · exact ⟨hB, ho, h8, h9⟩
        · trivial
        clear hB ho h8 h9
        obtain ⟨hB, ho, h8, h9⟩ := hF
        clear hK K
        try simp only [List.getElem_toArray, List.getElem_cons_zero, List.getElem_cons_succ, Act.put, List.setIfInBounds_toArray, List.set_cons_zero, List.set_cons_succ]
        refine wpAnyH_ready (rs := [3]) (by kernel_rfl) (by simp) ?_
        refine AllReadyH.cons (o := _) rfl (fun K hK => ?_) ?_
        ·
          go_simp
          refine (HST.out wn33 _ q1 q2 N ho hB).mono ?_
          rintro e5 w5 ⟨v3, rfl, ho5, hl5, hg5⟩
          obtain ⟨A3, c3, rfl, _, _⟩ := Rd.of_own' hl5
          dsimp only
          have hl := own_lower hl5 hB.size
          have hq1 := (ho.b.rwo.blk rfl).1
          have h8 := h8.grown hg5 (fun e => (ho.nb h8 (by decide) (by decide)).1 (by simpa [Value.ownBlock] using e))
          have h9 := h9.grown hg5 (fun e => (ho.nb h9 (by decide) (by decide)).1 (by simpa [Value.ownBlock] using e))
          have hB := hB.grown hg5 hB.size (fun b e => by cases e; exact hq1)
          have ho := ho5
          clear ho5 hl5 hg5 hq1
          refine outG hK ?_ (fun W => Below w1.heap.size w1 W ∧ OwSt W w1.heap.size (qv q1 s.blobs.length) (qv q2 s.ents.length) (ms s grey).1 N ∧ W.ownsRow w1.heap.size 9 1 (.slice A3 (ms s grey).2.grey.length c3) (ms s grey).2.grey.length (strs (ms s grey).2.grey) ∧ Arr W g8 26 z4 ∧ Arr W g9 60 z3) (fun W => True) ?_ ?_ (fun wn34 hHeld hF _ => ?_)
          · exact HSB.out _ hB
          · exact ⟨hB, ho, hl, h8, h9⟩
          · trivial
          clear hB ho hl h8 h9
          obtain ⟨hB, ho, hl, h8, h9⟩ := hF
          clear hK K
          try simp only [List.getElem_toArray, List.getElem_cons_zero, List.getElem_cons_succ, Act.put, List.setIfInBounds_toArray, List.set_cons_zero, List.set_cons_succ]
          refine wpAnyH_take (i := 4) (oi := _) (v := ?_) rfl (by kernel_rfl) (by kernel_rfl) (by kernel_rfl) (fun _ _ _ h => h) (Or.inl ⟨by rfl, ?_⟩) (by assumption) ?_
          rotate_left
          · (intro w hSw; (try dsimp only at hSw); go_simp; try (with_reducible rfl))
          try simp only [List.getElem_toArray, List.getElem_cons_zero, List.getElem_cons_succ, Act.put, List.setIfInBounds_toArray, List.set_cons_zero, List.set_cons_succ]
          refine wpAnyH_take (i := 5) (oi := _) (v := ?_) rfl (by kernel_rfl) (by kernel_rfl) (by kernel_rfl) (fun _ _ _ h => h) (Or.inl ⟨by rfl, ?_⟩) (by assumption) ?_
          rotate_left
          · (intro w hSw; (try dsimp only at hSw); go_simp; try (with_reducible rfl))
          try simp only [List.getElem_toArray, List.getElem_cons_zero, List.getElem_cons_succ, Act.put, List.setIfInBounds_toArray, List.set_cons_zero, List.set_cons_succ]
          refine wpAnyH_take (i := 6) (oi := _) (v := ?_) rfl (by kernel_rfl) (by kernel_rfl) (by kernel_rfl) (fun _ _ _ h => h) (Or.inl ⟨by rfl, ?_⟩) (by assumption) ?_
          rotate_left
          · (intro w hSw; (try dsimp only at hSw); go_simp; try (with_reducible rfl))
          try simp only [List.getElem_toArray, List.getElem_cons_zero, List.getElem_cons_succ, Act.put, List.setIfInBounds_toArray, List.set_cons_zero, List.set_cons_succ]
          have hall := And.intro hHeld (And.intro hB (And.intro (ho.mono (N' := fun b => b < w1.heap.size ∨ b = g8 ∨ b = g9) (fun b hb => hb.elim (fun h => hN0 b h) (fun h => h.elim (fun e => e ▸ hN8) (fun e => e ▸ hN9)))) (And.intro hl (And.intro h8 (And.intro h9 (And.intro hg8 hg9))))))
          generalize wn34 = wz at hall ⊢
          generalize g8 = gx at hall ⊢
          generalize g9 = gy at hall ⊢
          generalize q1 = p1 at hall ⊢
          generalize q2 = p2 at hall ⊢
          generalize A3 = A4 at hall ⊢
          generalize c3 = c4 at hall ⊢
          clear hHeld
          revert wz gx gy p1 p2 A4 c4
          exact REST.out
        exact AllReadyH.nil
      exact AllReadyH.nil
    exact AllReadyH.nil
  exact AllReadyH.nil
  intro wz g8 g9 q1 q2 A3 c3 hall
  obtain ⟨hHeld, hB, ho, hl, h8, h9, hg8, hg9⟩ := hall
  obtain ⟨N, hNd⟩ : ∃ N : Nat → Prop, N = fun b => b < w1.heap.size ∨ b = g8 ∨ b = g9 := ⟨_, rfl⟩
  have hN0 : ∀ b, b < w1.heap.size → N b := fun b hb => by rw [hNd]; exact .inl hb
  have hN8 : N g8 := by rw [hNd]; exact .inr (.inl rfl)
  have hN9 : N g9 := by rw [hNd]; exact .inr (.inr rfl)
  rw [← hNd] at ho
  clear hNd
  refine wpAnyH_ready (rs := [9]) (by kernel_rfl) (by simp) ?_
  refine AllReadyH.cons (o := _) rfl (fun K hK => ?_) ?_
  ·
    have f0 := h8.frozen 0
    have f1 := h8.frozen 1
    have f2 := h8.frozen 2
    have f3 := h8.frozen 3
    have y0 := h8.cell (k := 0) rfl
    have y1 := h8.cell (k := 1) rfl
    have y2 := h8.cell (k := 2) rfl
    have y3 := h8.cell (k := 3) rfl
    go_simp
    clear f0 f1 f2 f3 y0 y1 y2 y3
    obtain ⟨nb1, nb2⟩ := ho.nb h8 (by decide) (by decide)
    have nl := own_ne hl h8 (by decide)
    have n98 := arr_ne h9 h8 (by decide)
    have ho := ho.set4N (g := g8) hN8 nb1 nb2 (qv q1 s.blobs.length) (qv q2 s.ents.length) (.int .i64 (s.room : Int)) (.int .i64 (s.clock : Int))
    have hl := own_set4 (g := g8) hl nl (qv q1 s.blobs.length) (qv q2 s.ents.length) (.int .i64 (s.room : Int)) (.int .i64 (s.clock : Int))
    have h9 := h9.other4 (g := g8) n98 (qv q1 s.blobs.length) (qv q2 s.ents.length) (.int .i64 (s.room : Int)) (.int .i64 (s.clock : Int))
    have hB := below_set4 (g := g8) hB hg8 (qv q1 s.blobs.length) (qv q2 s.ents.length) (.int .i64 (s.room : Int)) (.int .i64 (s.clock : Int))
    have h8 := h8.all4 (qv q1 s.blobs.length) (qv q2 s.ents.length) (.int .i64 (s.room : Int)) (.int .i64 (s.clock : Int))
    clear nb1 nb2 nl n98
    refine outG hK ?_ (fun W => Below w1.heap.size w1 W ∧ OwSt W w1.heap.size (qv q1 s.blobs.length) (qv q2 s.ents.length) (ms s grey).1 N ∧ W.ownsRow w1.heap.size 9 1 (.slice A3 (ms s grey).2.grey.length c3) (ms s grey).2.grey.length (strs (ms s grey).2.grey) ∧ Arr W g8 26 [(qv q1 s.blobs.length), (qv q2 s.ents.length), (.int .i64 (s.room : Int)), (.int .i64 (s.clock : Int))] ∧ Arr W g9 60 z3) (fun W => True) ?_ ?_ (fun wn35 hHeld hF _ => ?_)
    · exact HSB.out _ hB
    · exact ⟨hB, ho, hl, h8, h9⟩
    · trivial
    clear hB ho hl h8 h9
    obtain ⟨hB, ho, hl, h8, h9⟩ := hF
    clear hK K
    try simp only [List.getElem_toArray, List.getElem_cons_zero, List.getElem_cons_succ, Act.put, List.setIfInBounds_toArray, List.set_cons_zero, List.set_cons_succ]
    refine wpAnyH_ready (rs := [10]) (by kernel_rfl) (by simp) ?_
    refine AllReadyH.cons (o := _) rfl (fun K hK => ?_) ?_
    ·
      have f0 := h9.frozen 0
      have f1 := h9.frozen 1
      have f2 := h9.frozen 2
      have y0 := h9.cell (k := 0) rfl
      have y1 := h9.cell (k := 1) rfl
      have y2 := h9.cell (k := 2) rfl
      go_simp
      clear f0 f1 f2 y0 y1 y2
      obtain ⟨nb1, nb2⟩ := ho.nb h9 (by decide) (by decide)
      have nl := own_ne hl h9 (by decide)
      have n98 := arr_ne h8 h9 (by decide)
      have ho := ho.set3N (g := g9) hN9 nb1 nb2 (.int .i64 ((ms s grey).2.phase : Int)) (.slice A3 (ms s grey).2.grey.length c3) (.string ⟨(ms s grey).2.at_.toArray⟩)
      have hl := own_set3 (g := g9) hl nl (.int .i64 ((ms s grey).2.phase : Int)) (.slice A3 (ms s grey).2.grey.length c3) (.string ⟨(ms s grey).2.at_.toArray⟩)
      have h8 := h8.other3 (g := g9) n98 (.int .i64 ((ms s grey).2.phase : Int)) (.slice A3 (ms s grey).2.grey.length c3) (.string ⟨(ms s grey).2.at_.toArray⟩)
      have hB := below_set3 (g := g9) hB hg9 (.int .i64 ((ms s grey).2.phase : Int)) (.slice A3 (ms s grey).2.grey.length c3) (.string ⟨(ms s grey).2.at_.toArray⟩)
      have h9 := h9.all3 (.int .i64 ((ms s grey).2.phase : Int)) (.slice A3 (ms s grey).2.grey.length c3) (.string ⟨(ms s grey).2.at_.toArray⟩)
      clear nb1 nb2 nl n98
      refine outG hK ?_ (fun W => Below w1.heap.size w1 W ∧ OwSt W w1.heap.size (qv q1 s.blobs.length) (qv q2 s.ents.length) (ms s grey).1 N ∧ W.ownsRow w1.heap.size 9 1 (.slice A3 (ms s grey).2.grey.length c3) (ms s grey).2.grey.length (strs (ms s grey).2.grey) ∧ Arr W g8 26 [(qv q1 s.blobs.length), (qv q2 s.ents.length), (.int .i64 (s.room : Int)), (.int .i64 (s.clock : Int))] ∧ Arr W g9 60 [(.int .i64 ((ms s grey).2.phase : Int)), (.slice A3 (ms s grey).2.grey.length c3), (.string ⟨(ms s grey).2.at_.toArray⟩)]) (fun W => True) ?_ ?_ (fun wn36 hHeld hF _ => ?_)
      · exact HSB.out _ hB
      · exact ⟨hB, ho, hl, h8, h9⟩
      · trivial
      clear hB ho hl h8 h9
      obtain ⟨hB, ho, hl, h8, h9⟩ := hF
      clear hK K
      try simp only [List.getElem_toArray, List.getElem_cons_zero, List.getElem_cons_succ, Act.put, List.setIfInBounds_toArray, List.set_cons_zero, List.set_cons_succ]
      refine wpAnyH_done (by kernel_rfl) ?_ _
      dsimp only [Exit.then]
      clear hHeld
      have ho := ho.mono (N' := fun b => b < w1.heap.size) (fun b hb => hN0 b hb)
      clear hN0 hN8 hN9
      obtain ⟨hR, hD⟩ := HRD.out _ hB
      have f0 := hR.frozen 0
      have f1 := hR.frozen 1
      have f2 := hR.frozen 2
      have f3 := hR.frozen 3
      have y0 := hR.cell (k := 0) rfl
      have y1 := hR.cell (k := 1) rfl
      have y2 := hR.cell (k := 2) rfl
      have y3 := hR.cell (k := 3) rfl
      have e0 := hD.frozen 0
      have e1 := hD.frozen 1
      have e2 := hD.frozen 2
      have x0 := hD.cell (k := 0) rfl
      have x1 := hD.cell (k := 1) rfl
      have x2 := hD.cell (k := 2) rfl
      have s0 := h8.cell (k := 0) rfl
      have s1 := h8.cell (k := 1) rfl
      have s2 := h8.cell (k := 2) rfl
      have s3 := h8.cell (k := 3) rfl
      have t0 := h9.cell (k := 0) rfl
      have t1 := h9.cell (k := 1) rfl
      have t2 := h9.cell (k := 2) rfl
      have hw1 := hB.size
      have n9 : ¬ (g9 = H + 1 + 1) := by omega
      have n8 : ¬ (g8 = H + 1 + 1) := by omega
      have n9' : ¬ (H + 1 + 1 = g9) := by omega
      have n98 : g8 ≠ g9 := arr_ne h8 h9 (by decide)
      have hF1 := Lib.hid (put7_g (h := H + 1 + 1 + 1) (u0 := qv q1 s.blobs.length) (u1 := qv q2 s.ents.length) (u2 := .int .i64 (s.room : Int)) (u3 := .int .i64 (s.clock : Int)) (x0 := .int .i64 ((ms s grey).2.phase : Int)) (x1 := (.slice A3 (ms s grey).2.grey.length c3)) (x2 := .string ⟨(ms s grey).2.at_.toArray⟩) hR (by omega))
      have hF2 := Lib.hid (put7_h (g := H + 1 + 1) (u0 := qv q1 s.blobs.length) (u1 := qv q2 s.ents.length) (u2 := .int .i64 (s.room : Int)) (u3 := .int .i64 (s.clock : Int)) (x0 := .int .i64 ((ms s grey).2.phase : Int)) (x1 := (.slice A3 (ms s grey).2.grey.length c3)) (x2 := .string ⟨(ms s grey).2.at_.toArray⟩) hD (by omega))
      have hF3 := Lib.hid (put7_ow (u0 := qv q1 s.blobs.length) (u1 := qv q2 s.ents.length) (u2 := .int .i64 (s.room : Int)) (u3 := .int .i64 (s.clock : Int)) (x0 := .int .i64 ((ms s grey).2.phase : Int)) (x1 := (.slice A3 (ms s grey).2.grey.length c3)) (x2 := .string ⟨(ms s grey).2.at_.toArray⟩) ho (g := H + 1 + 1) (h := H + 1 + 1 + 1) (by omega) (by omega) (ho.nb hR (by decide) (by decide)).1 (ho.nb hR (by decide) (by decide)).2 (ho.nb hD (by decide) (by decide)).1 (ho.nb hD (by decide) (by decide)).2)
      have hF4 := Lib.hid (put7_row (g := H + 1 + 1) (h := H + 1 + 1 + 1) (u0 := qv q1 s.blobs.length) (u1 := qv q2 s.ents.length) (u2 := .int .i64 (s.room : Int)) (u3 := .int .i64 (s.clock : Int)) (x0 := .int .i64 ((ms s grey).2.phase : Int)) (x1 := (.slice A3 (ms s grey).2.grey.length c3)) (x2 := .string ⟨(ms s grey).2.at_.toArray⟩) hl (own_ne hl hR (by decide)) (own_ne hl hD (by decide)))
      have hF5 := Lib.hid (put7_below (g := H + 1 + 1) (h := H + 1 + 1 + 1) (u0 := qv q1 s.blobs.length) (u1 := qv q2 s.ents.length) (u2 := .int .i64 (s.room : Int)) (u3 := .int .i64 (s.clock : Int)) (x0 := .int .i64 ((ms s grey).2.phase : Int)) (x1 := (.slice A3 (ms s grey).2.grey.length c3)) (x2 := .string ⟨(ms s grey).2.at_.toArray⟩) (hb01.trans (hB.mono (show H ≤ w1.heap.size by omega))) (by omega) (by omega))
      clear hR hD hB ho hl h8 h9 hg8 hg9 HSB HCP HST HRD
      repeat' ((fail_if_success (with_reducible refine at_reg_ 7 ?_)); (fail_if_success (with_reducible refine at_sreg_ 7 ?_)); (fail_if_success (with_reducible refine at_ssreg_ 7 ?_)); (fail_if_success at_builtin); (fail_if_success at_make); (first | go_values | go_skip | go_guarded | go_step | go_upon | go_back))
      go_region
      all_goals dsimp only [Exit.then]
      repeat' ((fail_if_success at_builtin); (fail_if_success at_make); (first | go_values | go_skip | go_guarded | go_step | go_upon | go_back))
      all_goals (refine bodyPost_ret (res_cell2_tmp1 rfl _ _ (H + 1 + 1) (H + 1 + 1 + 1) _ _ _ _ _ _ _ _ (by rfl) (Arr.drew hF1.out) Tryz.underlying26 rfl (by kernel_rfl) (by rfl) (Arr.drew hF2.out) Tryz.underlying60 rfl (by kernel_rfl)) rfl ?_)
      all_goals exact ⟨_, _, _, rfl, (hF3.out.drewX.lower (base' := H) (by omega)).mono (fun b hb => by omega), own_lower (own_below hF4.out (Below.refl _ _).drew) (by omega), hF5.out.drew⟩
    exact AllReadyH.nil
  exact AllReadyH.nil
  --HELDENDS
end Go.Proofs.YtmjcoebfldmgnaaGreat
