/- The walk of EvictHeld. Conditions: the sizes. -/
import Derived.Test.YtmjcoebfldmgnaaGreatLEv
import Derived.Test.YtmjcoebfldmgnaaGreatStd
namespace Go.Proofs.YtmjcoebfldmgnaaGreat
open Go.RowKit Go.Maps
set_option linter.unusedVariables false
set_option linter.unusedSimpArgs false
set_option maxRecDepth 100000

theorem share_e {P Q : Prop} (h : Hid P → Q) (p : P) : Q := h (Lib.hid p)
/-- append of elements just laid, the block's number given apart -/
theorem wpList_apH {P : Program} {w : World} {ops : Array Oper} {rest : List Oper} {o : Oper} {a : Act} {Q : Exit → Act → World → Prop} (hgd : o.guard = none) (s x : Operand) {t e e' : TypeId} {size bytes : Nat}
    (ho : o.op = .call { callee := .builtin .append, args := #[s, x], argTypes := #[t, t] }) (E : El P t e size bytes)
    {base : Nat} {v : Value} {n : Nat} {xs : List Value} (hs : a.eval s = v) (hown : w.ownsRow base e size v n xs) {H : Nat}
    {us : List Value} {m c : Nat} (hx : a.eval x = .slice (some ⟨H, 0, none⟩) m c) (hH : H = w.heap.size) (hl : us.length = m * size) (h1 : ∀ u ∈ us, u.oneCell' = true)
    (hb : (n + m) * bytes ≤ 140737488355328) (hbase : base ≤ w.heap.size)
    (h : ∀ v' w', w'.ownsRow base e size v' (n + m) (xs ++ us) → w.grownBy w' v.ownBlock → (v'.ownBlock = v.ownBlock ∨ ∃ g, v'.ownBlock = some g ∧ w.heap.size ≤ g) → wpList P ops Q rest (a.put o.dst v') w') :
    wpList P ops Q (o :: rest) a (w.alloc (.cells us.toArray e')) := by
  subst hH
  exact wpList_apN hgd s x ho E hs hown hx hl h1 hb hbase h
/-- the parts of those that are held -/
def pinE (es : List EntP) : List (List UInt8) := rtsE (es.filter (fun x => decide (0 < x.pins)))
theorem pinE_succ (es : List EntP) (k : Nat) (h : k < es.length) : pinE (es.take (k + 1)) = pinE (es.take k) ++ (if 0 < es[k].pins then es[k].parts.map (·.dig) else []) := by
  unfold pinE rtsE
  rw [List.take_succ_eq_append_getElem h, List.filter_append, List.flatMap_append]
  congr 1
  by_cases hp : 0 < es[k].pins
  · rw [if_pos hp, List.filter_cons_of_pos (by simpa using hp)]; simp
  · rw [if_neg hp, List.filter_cons_of_neg (by simpa using hp)]; simp
theorem pinE_len (es : List EntP) (h : ∀ x ∈ es, x.parts.length ≤ 8) : (pinE es).length ≤ 8 * es.length := by
  unfold pinE
  have h1 := rtsE_len (es.filter (fun x => decide (0 < x.pins))) (fun x hx => h x (List.mem_filter.1 hx).1)
  have h2 := List.length_filter_le (fun x : EntP => decide (0 < x.pins)) es
  omega
set_option maxHeartbeats 8000000 in
theorem EvictHeld_walk (A : Option Addr) (n c : Nat) (l : List RawP) (m : Int) (w : World) (hl : l.length = n) (hc : n ≤ c) (hm : c ≤ maxLen) (hok : ∀ r ∈ l, RawOk r) (hr : Rd w 4 A n (rcs l)) (m0 : -9223372036854775808 ≤ m) (m1 : m ≤ 9223372036854775807) :
    Calls Tryz.prog 5 #[.slice A n c, .int .i64 m] w fun e w' => e = .returned (.bool true) ∧ Below w.heap.size w w' := by
  have HS := Lib.hid (Store_ok A n c l w hl hc hm hok hr)
  have HGS := Lib.hid (sto_good l)
  clear hok hl hr hc hm
  generalize sto l = s at *
  have hbl := HGS.out.b.len
  have hel := HGS.out.e.len
  have HP1 := Lib.hid (fun w' => Picked_ok m 4001 4001 rfl w' m0 m1 (by omega) (by omega))
  have hp1 := pk_lt m (m := 4001) (by omega)
  clear m0 m1
  generalize pk m 4001 = k at *
  -- the store of raw things in a box gs
  go_enter Tryz.func5, Tryz.ntmps5
  repeat' ((fail_if_success at_builtin); (fail_if_success at_make); (first | go_values | go_skip | go_guarded | go_step | go_upon | go_back))
  refine (HS.out).mono ?_; rintro e_ w1 ⟨v1, v2, rfl, hb, he, hb1⟩; dsimp only
  obtain ⟨Ab, cb, rfl, hcb1, hcb2, hRb⟩ := hb.rows
  obtain ⟨Ae, ce, rfl, hce1, hce2, hRe⟩ := he.rows
  have hrd1 : RdSt w1 Ab cb Ae ce s := ⟨hRb, hRe, hcb1, hcb2, hce1, hce2⟩
  have hAs : Arr (w1.alloc (.cells #[.slice Ab s.blobs.length cb, .slice Ae s.ents.length ce, .int .i64 (s.room : Int), .int .i64 (s.clock : Int)] 26)) w1.heap.size 26 [.slice Ab s.blobs.length cb, .slice Ae s.ents.length ce, .int .i64 (s.room : Int), .int .i64 (s.clock : Int)] := Arr.new w1 26 _
  have hb2 := (Below.refl w1.heap.size w1).alloc (Nat.le_refl _) (.cells #[.slice Ab s.blobs.length cb, .slice Ae s.ents.length ce, .int .i64 (s.room : Int), .int .i64 (s.clock : Int)] 26)
  have hb12 := hb1.trans (hb2.mono hb1.size)
  have hrd2 := hrd1.below hb2
  have q0 := hAs.cell (k := 0) rfl
  have q1 := hAs.cell (k := 1) rfl
  have q2 := hAs.cell (k := 2) rfl
  have q3 := hAs.cell (k := 3) rfl
  clear hb he hRb hRe hrd1 hb2 hb1
  repeat' ((fail_if_success (with_reducible refine at_reg_ 2 ?_)); (fail_if_success (with_reducible refine at_sreg_ 2 ?_)); (fail_if_success (with_reducible refine at_ssreg_ 2 ?_)); (fail_if_success at_builtin); (fail_if_success at_make); (first | go_values | go_skip | go_guarded | go_step | go_upon | go_back))
  generalize w1.alloc (.cells #[.slice Ab s.blobs.length cb, .slice Ae s.ents.length ce, .int .i64 (s.room : Int), .int .i64 (s.clock : Int)] 26) = w2 at *
  generalize w1.heap.size = gs at *
  clear q0 q1 q2 q3
  have HSB := Lib.hid (show ∀ W, Below w2.heap.size w2 W → W.cell? ⟨gs, 0, none⟩ = some (.slice Ab s.blobs.length cb) ∧ W.cell? ⟨gs, 1, none⟩ = some (.slice Ae s.ents.length ce) ∧ W.cell? ⟨gs, 2, none⟩ = some (.int .i64 (s.room : Int)) ∧ W.cell? ⟨gs, 3, none⟩ = some (.int .i64 (s.clock : Int)) from fun W h => ⟨(hAs.below h).cell (k := 0) rfl, (hAs.below h).cell (k := 1) rfl, (hAs.below h).cell (k := 2) rfl, (hAs.below h).cell (k := 3) rfl⟩)
  obtain ⟨t, g, R, C, E, HRN, HEV⟩ : ∃ (t : StoP) (g : List (List UInt8)) (R C E : Int), Hid (∀ W, Below w2.heap.size w2 W → Calls Tryz.prog 23 #[.agg #[.slice Ab s.blobs.length cb, .slice Ae s.ents.length ce, .int .i64 (s.room : Int), .int .i64 (s.clock : Int)], .int .i64 (k : Int)] W fun e w' => ∃ A' c' B' d' Ag cg, e = .returned (.tuple #[.agg #[.slice A' t.blobs.length c', .slice B' t.ents.length d', .int .i64 R, .int .i64 C], .slice Ag g.length cg, .int .i64 E]) ∧ OwSt w' W.heap.size (.slice A' t.blobs.length c') (.slice B' t.ents.length d') t (fun b => b < W.heap.size) ∧ w'.ownsRow W.heap.size 9 1 (.slice Ag g.length cg) g.length (strs g) ∧ Below W.heap.size W w') ∧ Hid ((evRun k s = some (t, g) ∧ E = 0 ∧ R = (s.room : Int) ∧ C = (s.clock : Int)) ∨ E = 10) := by
    cases hev : evRun k s with
    | none =>
      refine ⟨⟨[], [], 0, 0⟩, [], 0, 0, 10, Lib.hid (fun W h => ?_), Lib.hid (.inr rfl)⟩
      refine (Run_ok Ab cb Ae ce s k W (by omega) HGS.out (hrd2.below h)).mono ?_
      rintro e w' ⟨h1, hb⟩
      rw [hev] at h1
      obtain rfl := h1
      exact ⟨none, 0, none, 0, none, 0, rfl, ⟨RwX.nil_ (World.ownsRow_nil _ _ _ _), RwX.nil_ (World.ownsRow_nil _ _ _ _), fun g h => by cases h⟩, World.ownsRow_nil _ _ _ _, hb⟩
    | some p =>
      obtain ⟨t, g⟩ := p
      refine ⟨t, g, _, _, 0, Lib.hid (fun W h => ?_), Lib.hid (.inl ⟨rfl, rfl, rfl, rfl⟩)⟩
      refine (RunO_ok Ab cb Ae ce s k W (by omega) HGS.out (hrd2.below h)).mono ?_
      rintro e w' ⟨h1, hb⟩
      rw [hev] at h1
      obtain ⟨v1, v2, v3, rfl, ho, hg3⟩ := h1
      obtain ⟨A9, c9, B9, d9, e1, e2, _⟩ := ho.rows
      obtain ⟨Ag, cg, e3, _, _⟩ := Rd.of_own' hg3
      subst e1 e2 e3
      exact ⟨_, _, _, _, _, _, rfl, ho, hg3, hb⟩
  apply share_e
  intro REST
  --HELD
  refine wp_region_held_drew (S := (fun w' => w'.cell? ⟨gs, 0, none⟩ = some (.slice Ab s.blobs.length cb) ∧ w'.cell? ⟨gs, 1, none⟩ = some (.slice Ae s.ents.length ce) ∧ w'.cell? ⟨gs, 2, none⟩ = some (.int .i64 (s.room : Int)) ∧ w'.cell? ⟨gs, 3, none⟩ = some (.int .i64 (s.clock : Int)))) (by kernel_rfl) ?_ (fun hHeld => ?_)
  · exact HSB.out _ (Below.refl _ w2).drew
  have hB := (Below.refl w2.heap.size w2).drew
  generalize w2.drew = wn0 at *
  refine wpAnyH_take (i := 0) (oi := _) (v := ?_) rfl (by kernel_rfl) (by kernel_rfl) (by kernel_rfl) (fun _ _ _ h => h) (Or.inl ⟨by rfl, ?_⟩) (by assumption) ?_
  rotate_left
  · (intro w hSw; (try dsimp only at hSw); go_simp; try (with_reducible rfl))
  try simp only [List.getElem_toArray, List.getElem_cons_zero, List.getElem_cons_succ, Act.put, List.setIfInBounds_toArray, List.set_cons_zero, List.set_cons_succ]
  refine wpAnyH_take (i := 1) (oi := _) (v := ?_) rfl (by kernel_rfl) (by kernel_rfl) (by kernel_rfl) (fun _ _ _ h => h) (Or.inl ⟨by rfl, ?_⟩) (by assumption) ?_
  rotate_left
  · (intro w hSw; (try dsimp only at hSw); go_simp; try (with_reducible rfl))
  try simp only [List.getElem_toArray, List.getElem_cons_zero, List.getElem_cons_succ, Act.put, List.setIfInBounds_toArray, List.set_cons_zero, List.set_cons_succ]
  refine wpAnyH_ready (rs := [2, 8]) (by kernel_rfl) (by simp) ?_
  refine AllReadyH.cons (o := _) rfl (fun K hK => ?_) ?_
  ·
    go_simp
    refine (HP1.out wn0).mono ?_
    rintro e5 w5 ⟨rfl, h5⟩
    subst h5
    dsimp only
    refine outG hK ?_ (Below wn0.heap.size wn0) (fun W => True) ?_ ?_ (fun wn1 hHeld hst hnew => ?_)
    · (exact HSB.out _ (hB.trans (Below.mono (show Below wn0.heap.size wn0 _ from by (first | exact (Below.refl _ _).alloc (Nat.le_refl _) _ | exact hbq | exact hb5 | exact Below.refl _ _)) hB.size)))
    · (first | exact (Below.refl _ _).alloc (Nat.le_refl _) _ | exact hbq | exact hb5 | exact Below.refl _ _)
    · (trivial)
    have hB := hB.trans (hst.mono hB.size)
    clear hst
    clear hK K
    try simp only [List.getElem_toArray, List.getElem_cons_zero, List.getElem_cons_succ, Act.put, List.setIfInBounds_toArray, List.set_cons_zero, List.set_cons_succ]
    refine wpAnyH_ready (rs := [3, 8]) (by kernel_rfl) (by simp) ?_
    refine AllReadyH.cons (o := _) rfl (fun K hK => ?_) ?_
    ·
      try have hA8 := h8.lt
      go_simp
      refine (HRN.out wn1 hB).mono ?_
      rintro e5 w5 ⟨A', c', B', d', Ag, cg, rfl, ho5, hg5, hb5⟩
      dsimp only
      refine outG hK ?_ (Below wn1.heap.size wn1) (fun W => OwSt W wn1.heap.size (Value.slice A' t.blobs.length c') (Value.slice B' t.ents.length d') t (fun b => b < wn1.heap.size) ∧ W.ownsRow 0 9 1 (Value.slice Ag g.length cg) g.length (strs g)) ?_ ?_ (fun wn2 hHeld hst hnew => ?_)
      · (exact HSB.out _ (hB.trans (Below.mono (show Below wn1.heap.size wn1 _ from by (first | exact (Below.refl _ _).alloc (Nat.le_refl _) _ | exact hbq | exact hb5 | exact Below.refl _ _)) hB.size)))
      · (first | exact (Below.refl _ _).alloc (Nat.le_refl _) _ | exact hbq | exact hb5 | exact Below.refl _ _)
      · (exact ⟨ho5, own_lower hg5 (Nat.zero_le _)⟩)
      have hB := hB.trans (hst.mono hB.size)
      obtain ⟨hnew, hgn⟩ := hnew
      have ho := hnew
      try (have hne1 : (Value.slice A' t.blobs.length c').ownBlock ≠ some g6 := fun e => by have := (ho.b.rwo.blk e).1; omega)
      try (have hne2 : (Value.slice B' t.ents.length d').ownBlock ≠ some g6 := fun e => by have := (ho.e.rwo.blk e).1; omega)
      try (have ho := ho.wider (N' := fun b => b = g6) (fun b hb => .inl (by omega)))
      try (have ho := ho.lower (base' := 0) (Nat.zero_le _))
      clear hst
      clear hK K
      try simp only [List.getElem_toArray, List.getElem_cons_zero, List.getElem_cons_succ, Act.put, List.setIfInBounds_toArray, List.set_cons_zero, List.set_cons_succ]
      refine wpAnyH_take (i := 4) (oi := _) (v := ?_) rfl (by kernel_rfl) (by kernel_rfl) (by kernel_rfl) (fun _ _ _ h => h) (Or.inl ⟨by rfl, ?_⟩) (by assumption) ?_
      rotate_left
      · (intro w hSw; (try dsimp only at hSw); go_simp; try (with_reducible rfl))
      try simp only [List.getElem_toArray, List.getElem_cons_zero, List.getElem_cons_succ, Act.put, List.setIfInBounds_toArray, List.set_cons_zero, List.set_cons_succ]
      refine wpAnyH_take (i := 5) (oi := _) (v := ?_) rfl (by kernel_rfl) (by kernel_rfl) (by kernel_rfl) (fun _ _ _ h => h) (Or.inl ⟨by rfl, ?_⟩) (by assumption) ?_
      rotate_left
      · (intro w hSw; (try dsimp only at hSw); go_simp; try (with_reducible rfl))
      try simp only [List.getElem_toArray, List.getElem_cons_zero, List.getElem_cons_succ, Act.put, List.setIfInBounds_toArray, List.set_cons_zero, List.set_cons_succ]
      refine wpAnyH_take (i := 6) (oi := _) (v := ?_) rfl (by kernel_rfl) (by kernel_rfl) (by kernel_rfl) (fun _ _ _ h => h) (Or.inl ⟨by rfl, ?_⟩) (by assumption) ?_
      rotate_left
      · (intro w hSw; (try dsimp only at hSw); go_simp; try (with_reducible rfl))
      try simp only [List.getElem_toArray, List.getElem_cons_zero, List.getElem_cons_succ, Act.put, List.setIfInBounds_toArray, List.set_cons_zero, List.set_cons_succ]
      refine wpAnyH_take (i := 7) (oi := _) (v := ?_) rfl (by kernel_rfl) (by kernel_rfl) (by kernel_rfl) (fun _ _ _ h => h) (Or.inl ⟨by rfl, ?_⟩) (by assumption) ?_
      rotate_left
      · (intro w hSw; (try dsimp only at hSw); go_simp; try (with_reducible rfl))
      try simp only [List.getElem_toArray, List.getElem_cons_zero, List.getElem_cons_succ, Act.put, List.setIfInBounds_toArray, List.set_cons_zero, List.set_cons_succ]
      refine wpAnyH_ready (rs := [8]) (by kernel_rfl) (by simp) ?_
      refine AllReadyH.cons (o := _) rfl (fun K hK => ?_) ?_
      ·
        try (have hA1 := fun b (e : (Value.slice A' t.blobs.length c').ownBlock = some b) => (ho.b.rwo.blk e).2)
        try (have hA2 := fun b (e : (Value.slice B' t.ents.length d').ownBlock = some b) => (ho.e.rwo.blk e).2)
        try (have ho := (ho.lower (base' := 0) (Nat.zero_le _)).wider (N' := fun b => b = wn2.heap.size) (fun b hb => .inr (by omega)))
        go_simp
        refine outG hK ?_ (Below wn2.heap.size wn2) (fun W => Arr W wn2.heap.size 26 [.slice none 0 0, .slice none 0 0, .int .i64 0, .int .i64 0] ∧ w2.heap.size ≤ wn2.heap.size) ?_ ?_ (fun wn3 hHeld hst hnew => ?_)
        · (exact HSB.out _ (hB.trans (Below.mono (show Below wn2.heap.size wn2 _ from by (first | exact (Below.refl _ _).alloc (Nat.le_refl _) _ | exact hbq | exact hb5 | exact Below.refl _ _)) hB.size)))
        · (first | exact (Below.refl _ _).alloc (Nat.le_refl _) _ | exact hbq | exact hb5 | exact Below.refl _ _)
        · (exact ⟨Arr.new _ _ _, hB.size⟩)
        have hB := hB.trans (hst.mono hB.size)
        have ho := ho.below hst
        have hgn := own_below hgn hst
        obtain ⟨h8, hl8⟩ := hnew
        obtain ⟨g6, hg6⟩ : ∃ g, g = wn2.heap.size := ⟨_, rfl⟩
        rw [← hg6] at h8 hl8 ⊢
        try (rw [← hg6] at ho)
        try (have hne1 : (Value.slice A' t.blobs.length c').ownBlock ≠ some g6 := fun e => by have := hA1 _ e; omega)
        try (have hne2 : (Value.slice B' t.ents.length d').ownBlock ≠ some g6 := fun e => by have := hA2 _ e; omega)
        try clear hA1
        try clear hA2
        clear hg6
        clear hst
        clear hK K
        try simp only [List.getElem_toArray, List.getElem_cons_zero, List.getElem_cons_succ, Act.put, List.setIfInBounds_toArray, List.set_cons_zero, List.set_cons_succ]
        refine wpAnyH_ready (rs := [9]) (by kernel_rfl) (by simp) ?_
        refine AllReadyH.cons (o := _) rfl (fun K hK => ?_) ?_
        ·
          have z0 := h8.cell (k := 0) rfl
          have z1 := h8.cell (k := 1) rfl
          have z2 := h8.cell (k := 2) rfl
          have z3 := h8.cell (k := 3) rfl
          have f0 := h8.frozen 0
          have f1 := h8.frozen 1
          have f2 := h8.frozen 2
          have f3 := h8.frozen 3
          go_simp
          clear z0 z1 z2 z3 f0 f1 f2 f3
          have hgne := own_ne hgn h8 (by decide)
          refine outG hK ?_ (fun W => Arr W g6 26 [.slice A' t.blobs.length c', .slice B' t.ents.length d', .int .i64 R, .int .i64 C]) (fun W => Below w2.heap.size w2 W ∧ OwSt W 0 (Value.slice A' t.blobs.length c') (Value.slice B' t.ents.length d') t (fun b => b = g6) ∧ W.ownsRow 0 9 1 (Value.slice Ag g.length cg) g.length (strs g)) ?_ ?_ (fun wn4 hHeld hF hG => ?_)
          · exact HSB.out _ ((((hB.setCell (p := ⟨g6, 0, none⟩) hl8 _).setCell (p := ⟨g6, 1, none⟩) hl8 _).setCell (p := ⟨g6, 2, none⟩) hl8 _).setCell (p := ⟨g6, 3, none⟩) hl8 _)
          · exact h8.all4 _ _ _ _
          · exact ⟨(((hB.setCell (p := ⟨g6, 0, none⟩) hl8 _).setCell (p := ⟨g6, 1, none⟩) hl8 _).setCell (p := ⟨g6, 2, none⟩) hl8 _).setCell (p := ⟨g6, 3, none⟩) hl8 _, (((ho.setX rfl hne1 hne2 _).setX rfl hne1 hne2 _).setX rfl hne1 hne2 _).setX rfl hne1 hne2 _, own_other (own_other (own_other (own_other hgn hgne) hgne) hgne) hgne⟩
          clear hB h8 ho
          clear hgn hgne
          clear hK K
          try simp only [List.getElem_toArray, List.getElem_cons_zero, List.getElem_cons_succ, Act.put, List.setIfInBounds_toArray, List.set_cons_zero, List.set_cons_succ]
          refine wpAnyH_take (i := 10) (oi := _) (v := ?_) rfl (by kernel_rfl) (by kernel_rfl) (by kernel_rfl) (fun _ _ _ h => h) (Or.inl ⟨by rfl, ?_⟩) (by assumption) ?_
          rotate_left
          · (intro w hSw; (try dsimp only at hSw); go_simp; try (with_reducible rfl))
          try simp only [List.getElem_toArray, List.getElem_cons_zero, List.getElem_cons_succ, Act.put, List.setIfInBounds_toArray, List.set_cons_zero, List.set_cons_succ]
          refine wpAnyH_take (i := 11) (oi := _) (v := ?_) rfl (by kernel_rfl) (by kernel_rfl) (by kernel_rfl) (fun _ _ _ h => h) (Or.inl ⟨by rfl, ?_⟩) (by assumption) ?_
          rotate_left
          · (intro w hSw; (try dsimp only at hSw); go_simp; try (with_reducible rfl))
          try simp only [List.getElem_toArray, List.getElem_cons_zero, List.getElem_cons_succ, Act.put, List.setIfInBounds_toArray, List.set_cons_zero, List.set_cons_succ]
          refine wpAnyH_done (by kernel_rfl) ?_ _
          dsimp only [Exit.then]
          clear hHeld
          obtain ⟨hBz, hoz, hgz⟩ := hG
          have hrz : RdSt wn4 A' c' B' d' t := by
            obtain ⟨A9, c9, B9, d9, e1, e2, h⟩ := hoz.rows
            cases e1; cases e2; exact h
          have hall := And.intro hBz (And.intro hrz (And.intro hF (Rd.of_own hgz)))
          generalize wn4 = wz at hall ⊢
          generalize g6 = gz at hall ⊢
          generalize A' = Az at hall ⊢
          generalize c' = cz at hall ⊢
          generalize B' = Bz at hall ⊢
          generalize d' = dz at hall ⊢
          generalize Ag = Agz at hall ⊢
          generalize cg = cgz at hall ⊢
          revert wz gz Az cz Bz dz Agz cgz
          exact REST.out
        exact AllReadyH.nil
      exact AllReadyH.nil
    refine AllReadyH.cons (o := _) rfl (fun K hK => ?_) ?_
    ·
      try (have hA1 := fun b (e : (Value.slice A' t.blobs.length c').ownBlock = some b) => (ho.b.rwo.blk e).2)
      try (have hA2 := fun b (e : (Value.slice B' t.ents.length d').ownBlock = some b) => (ho.e.rwo.blk e).2)
      try (have ho := (ho.lower (base' := 0) (Nat.zero_le _)).wider (N' := fun b => b = wn1.heap.size) (fun b hb => .inr (by omega)))
      go_simp
      refine outG hK ?_ (Below wn1.heap.size wn1) (fun W => Arr W wn1.heap.size 26 [.slice none 0 0, .slice none 0 0, .int .i64 0, .int .i64 0] ∧ w2.heap.size ≤ wn1.heap.size) ?_ ?_ (fun wn5 hHeld hst hnew => ?_)
      · (exact HSB.out _ (hB.trans (Below.mono (show Below wn1.heap.size wn1 _ from by (first | exact (Below.refl _ _).alloc (Nat.le_refl _) _ | exact hbq | exact hb5 | exact Below.refl _ _)) hB.size)))
      · (first | exact (Below.refl _ _).alloc (Nat.le_refl _) _ | exact hbq | exact hb5 | exact Below.refl _ _)
      · (exact ⟨Arr.new _ _ _, hB.size⟩)
      have hB := hB.trans (hst.mono hB.size)
      obtain ⟨h8, hl8⟩ := hnew
      obtain ⟨g6, hg6⟩ : ∃ g, g = wn1.heap.size := ⟨_, rfl⟩
      rw [← hg6] at h8 hl8 ⊢
      try (rw [← hg6] at ho)
      try (have hne1 : (Value.slice A' t.blobs.length c').ownBlock ≠ some g6 := fun e => by have := hA1 _ e; omega)
      try (have hne2 : (Value.slice B' t.ents.length d').ownBlock ≠ some g6 := fun e => by have := hA2 _ e; omega)
      try clear hA1
      try clear hA2
      clear hg6
      clear hst
      clear hK K
      try simp only [List.getElem_toArray, List.getElem_cons_zero, List.getElem_cons_succ, Act.put, List.setIfInBounds_toArray, List.set_cons_zero, List.set_cons_succ]
      refine wpAnyH_ready (rs := [3]) (by kernel_rfl) (by simp) ?_
      refine AllReadyH.cons (o := _) rfl (fun K hK => ?_) ?_
      ·
        try have hA8 := h8.lt
        go_simp
        refine (HRN.out wn5 hB).mono ?_
        rintro e5 w5 ⟨A', c', B', d', Ag, cg, rfl, ho5, hg5, hb5⟩
        dsimp only
        refine outG hK ?_ (Below wn5.heap.size wn5) (fun W => OwSt W wn5.heap.size (Value.slice A' t.blobs.length c') (Value.slice B' t.ents.length d') t (fun b => b < wn5.heap.size) ∧ W.ownsRow 0 9 1 (Value.slice Ag g.length cg) g.length (strs g)) ?_ ?_ (fun wn6 hHeld hst hnew => ?_)
        · (exact HSB.out _ (hB.trans (Below.mono (show Below wn5.heap.size wn5 _ from by (first | exact (Below.refl _ _).alloc (Nat.le_refl _) _ | exact hbq | exact hb5 | exact Below.refl _ _)) hB.size)))
        · (first | exact (Below.refl _ _).alloc (Nat.le_refl _) _ | exact hbq | exact hb5 | exact Below.refl _ _)
        · (exact ⟨ho5, own_lower hg5 (Nat.zero_le _)⟩)
        have hB := hB.trans (hst.mono hB.size)
        have h8 := h8.below hst
        obtain ⟨hnew, hgn⟩ := hnew
        have ho := hnew
        try (have hne1 : (Value.slice A' t.blobs.length c').ownBlock ≠ some g6 := fun e => by have := (ho.b.rwo.blk e).1; omega)
        try (have hne2 : (Value.slice B' t.ents.length d').ownBlock ≠ some g6 := fun e => by have := (ho.e.rwo.blk e).1; omega)
        try (have ho := ho.wider (N' := fun b => b = g6) (fun b hb => .inl (by omega)))
        try (have ho := ho.lower (base' := 0) (Nat.zero_le _))
        clear hst
        clear hK K
        try simp only [List.getElem_toArray, List.getElem_cons_zero, List.getElem_cons_succ, Act.put, List.setIfInBounds_toArray, List.set_cons_zero, List.set_cons_succ]
        refine wpAnyH_take (i := 4) (oi := _) (v := ?_) rfl (by kernel_rfl) (by kernel_rfl) (by kernel_rfl) (fun _ _ _ h => h) (Or.inl ⟨by rfl, ?_⟩) (by assumption) ?_
        rotate_left
        · (intro w hSw; (try dsimp only at hSw); go_simp; try (with_reducible rfl))
        try simp only [List.getElem_toArray, List.getElem_cons_zero, List.getElem_cons_succ, Act.put, List.setIfInBounds_toArray, List.set_cons_zero, List.set_cons_succ]
        refine wpAnyH_take (i := 5) (oi := _) (v := ?_) rfl (by kernel_rfl) (by kernel_rfl) (by kernel_rfl) (fun _ _ _ h => h) (Or.inl ⟨by rfl, ?_⟩) (by assumption) ?_
        rotate_left
        · (intro w hSw; (try dsimp only at hSw); go_simp; try (with_reducible rfl))
        try simp only [List.getElem_toArray, List.getElem_cons_zero, List.getElem_cons_succ, Act.put, List.setIfInBounds_toArray, List.set_cons_zero, List.set_cons_succ]
        refine wpAnyH_take (i := 6) (oi := _) (v := ?_) rfl (by kernel_rfl) (by kernel_rfl) (by kernel_rfl) (fun _ _ _ h => h) (Or.inl ⟨by rfl, ?_⟩) (by assumption) ?_
        rotate_left
        · (intro w hSw; (try dsimp only at hSw); go_simp; try (with_reducible rfl))
        try simp only [List.getElem_toArray, List.getElem_cons_zero, List.getElem_cons_succ, Act.put, List.setIfInBounds_toArray, List.set_cons_zero, List.set_cons_succ]
        refine wpAnyH_take (i := 7) (oi := _) (v := ?_) rfl (by kernel_rfl) (by kernel_rfl) (by kernel_rfl) (fun _ _ _ h => h) (Or.inl ⟨by rfl, ?_⟩) (by assumption) ?_
        rotate_left
        · (intro w hSw; (try dsimp only at hSw); go_simp; try (with_reducible rfl))
        try simp only [List.getElem_toArray, List.getElem_cons_zero, List.getElem_cons_succ, Act.put, List.setIfInBounds_toArray, List.set_cons_zero, List.set_cons_succ]
        refine wpAnyH_ready (rs := [9]) (by kernel_rfl) (by simp) ?_
        refine AllReadyH.cons (o := _) rfl (fun K hK => ?_) ?_
        ·
          have z0 := h8.cell (k := 0) rfl
          have z1 := h8.cell (k := 1) rfl
          have z2 := h8.cell (k := 2) rfl
          have z3 := h8.cell (k := 3) rfl
          have f0 := h8.frozen 0
          have f1 := h8.frozen 1
          have f2 := h8.frozen 2
          have f3 := h8.frozen 3
          go_simp
          clear z0 z1 z2 z3 f0 f1 f2 f3
          have hgne := own_ne hgn h8 (by decide)
          refine outG hK ?_ (fun W => Arr W g6 26 [.slice A' t.blobs.length c', .slice B' t.ents.length d', .int .i64 R, .int .i64 C]) (fun W => Below w2.heap.size w2 W ∧ OwSt W 0 (Value.slice A' t.blobs.length c') (Value.slice B' t.ents.length d') t (fun b => b = g6) ∧ W.ownsRow 0 9 1 (Value.slice Ag g.length cg) g.length (strs g)) ?_ ?_ (fun wn7 hHeld hF hG => ?_)
          · exact HSB.out _ ((((hB.setCell (p := ⟨g6, 0, none⟩) hl8 _).setCell (p := ⟨g6, 1, none⟩) hl8 _).setCell (p := ⟨g6, 2, none⟩) hl8 _).setCell (p := ⟨g6, 3, none⟩) hl8 _)
          · exact h8.all4 _ _ _ _
          · exact ⟨(((hB.setCell (p := ⟨g6, 0, none⟩) hl8 _).setCell (p := ⟨g6, 1, none⟩) hl8 _).setCell (p := ⟨g6, 2, none⟩) hl8 _).setCell (p := ⟨g6, 3, none⟩) hl8 _, (((ho.setX rfl hne1 hne2 _).setX rfl hne1 hne2 _).setX rfl hne1 hne2 _).setX rfl hne1 hne2 _, own_other (own_other (own_other (own_other hgn hgne) hgne) hgne) hgne⟩
          clear hB h8 ho
          clear hgn hgne
          clear hK K
          try simp only [List.getElem_toArray, List.getElem_cons_zero, List.getElem_cons_succ, Act.put, List.setIfInBounds_toArray, List.set_cons_zero, List.set_cons_succ]
          refine wpAnyH_take (i := 10) (oi := _) (v := ?_) rfl (by kernel_rfl) (by kernel_rfl) (by kernel_rfl) (fun _ _ _ h => h) (Or.inl ⟨by rfl, ?_⟩) (by assumption) ?_
          rotate_left
          · (intro w hSw; (try dsimp only at hSw); go_simp; try (with_reducible rfl))
          try simp only [List.getElem_toArray, List.getElem_cons_zero, List.getElem_cons_succ, Act.put, List.setIfInBounds_toArray, List.set_cons_zero, List.set_cons_succ]
          refine wpAnyH_take (i := 11) (oi := _) (v := ?_) rfl (by kernel_rfl) (by kernel_rfl) (by kernel_rfl) (fun _ _ _ h => h) (Or.inl ⟨by rfl, ?_⟩) (by assumption) ?_
          rotate_left
          · (intro w hSw; (try dsimp only at hSw); go_simp; try (with_reducible rfl))
          try simp only [List.getElem_toArray, List.getElem_cons_zero, List.getElem_cons_succ, Act.put, List.setIfInBounds_toArray, List.set_cons_zero, List.set_cons_succ]
          refine wpAnyH_done (by kernel_rfl) ?_ _
          dsimp only [Exit.then]
          clear hHeld
          obtain ⟨hBz, hoz, hgz⟩ := hG
          have hrz : RdSt wn7 A' c' B' d' t := by
            obtain ⟨A9, c9, B9, d9, e1, e2, h⟩ := hoz.rows
            cases e1; cases e2; exact h
          have hall := And.intro hBz (And.intro hrz (And.intro hF (Rd.of_own hgz)))
          generalize wn7 = wz at hall ⊢
          generalize g6 = gz at hall ⊢
          generalize A' = Az at hall ⊢
          generalize c' = cz at hall ⊢
          generalize B' = Bz at hall ⊢
          generalize d' = dz at hall ⊢
          generalize Ag = Agz at hall ⊢
          generalize cg = cgz at hall ⊢
          revert wz gz Az cz Bz dz Agz cgz
          exact REST.out
        exact AllReadyH.nil
      exact AllReadyH.nil
    exact AllReadyH.nil
  refine AllReadyH.cons (o := _) rfl (fun K hK => ?_) ?_
  ·
    try (have hA1 := fun b (e : (Value.slice A' t.blobs.length c').ownBlock = some b) => (ho.b.rwo.blk e).2)
    try (have hA2 := fun b (e : (Value.slice B' t.ents.length d').ownBlock = some b) => (ho.e.rwo.blk e).2)
    try (have ho := (ho.lower (base' := 0) (Nat.zero_le _)).wider (N' := fun b => b = wn0.heap.size) (fun b hb => .inr (by omega)))
    go_simp
    refine outG hK ?_ (Below wn0.heap.size wn0) (fun W => Arr W wn0.heap.size 26 [.slice none 0 0, .slice none 0 0, .int .i64 0, .int .i64 0] ∧ w2.heap.size ≤ wn0.heap.size) ?_ ?_ (fun wn8 hHeld hst hnew => ?_)
    · (exact HSB.out _ (hB.trans (Below.mono (show Below wn0.heap.size wn0 _ from by (first | exact (Below.refl _ _).alloc (Nat.le_refl _) _ | exact hbq | exact hb5 | exact Below.refl _ _)) hB.size)))
    · (first | exact (Below.refl _ _).alloc (Nat.le_refl _) _ | exact hbq | exact hb5 | exact Below.refl _ _)
    · (exact ⟨Arr.new _ _ _, hB.size⟩)
    have hB := hB.trans (hst.mono hB.size)
    obtain ⟨h8, hl8⟩ := hnew
    obtain ⟨g6, hg6⟩ : ∃ g, g = wn0.heap.size := ⟨_, rfl⟩
    rw [← hg6] at h8 hl8 ⊢
    try (rw [← hg6] at ho)
    try (have hne1 : (Value.slice A' t.blobs.length c').ownBlock ≠ some g6 := fun e => by have := hA1 _ e; omega)
    try (have hne2 : (Value.slice B' t.ents.length d').ownBlock ≠ some g6 := fun e => by have := hA2 _ e; omega)
    try clear hA1
    try clear hA2
    clear hg6
    clear hst
    clear hK K
    try simp only [List.getElem_toArray, List.getElem_cons_zero, List.getElem_cons_succ, Act.put, List.setIfInBounds_toArray, List.set_cons_zero, List.set_cons_succ]
    refine wpAnyH_ready (rs := [2]) (by kernel_rfl) (by simp) ?_
    refine AllReadyH.cons (o := _) rfl (fun K hK => ?_) ?_
    ·
      go_simp
      refine (HP1.out wn8).mono ?_
      rintro e5 w5 ⟨rfl, h5⟩
      subst h5
      dsimp only
      refine outG hK ?_ (Below wn8.heap.size wn8) (fun W => True) ?_ ?_ (fun wn9 hHeld hst hnew => ?_)
      · (exact HSB.out _ (hB.trans (Below.mono (show Below wn8.heap.size wn8 _ from by (first | exact (Below.refl _ _).alloc (Nat.le_refl _) _ | exact hbq | exact hb5 | exact Below.refl _ _)) hB.size)))
      · (first | exact (Below.refl _ _).alloc (Nat.le_refl _) _ | exact hbq | exact hb5 | exact Below.refl _ _)
      · (trivial)
      have hB := hB.trans (hst.mono hB.size)
      have h8 := h8.below hst
      clear hst
      clear hK K
      try simp only [List.getElem_toArray, List.getElem_cons_zero, List.getElem_cons_succ, Act.put, List.setIfInBounds_toArray, List.set_cons_zero, List.set_cons_succ]
      refine wpAnyH_ready (rs := [3]) (by kernel_rfl) (by simp) ?_
      refine AllReadyH.cons (o := _) rfl (fun K hK => ?_) ?_
      ·
        try have hA8 := h8.lt
        go_simp
        refine (HRN.out wn9 hB).mono ?_
        rintro e5 w5 ⟨A', c', B', d', Ag, cg, rfl, ho5, hg5, hb5⟩
        dsimp only
        refine outG hK ?_ (Below wn9.heap.size wn9) (fun W => OwSt W wn9.heap.size (Value.slice A' t.blobs.length c') (Value.slice B' t.ents.length d') t (fun b => b < wn9.heap.size) ∧ W.ownsRow 0 9 1 (Value.slice Ag g.length cg) g.length (strs g)) ?_ ?_ (fun wn10 hHeld hst hnew => ?_)
        · (exact HSB.out _ (hB.trans (Below.mono (show Below wn9.heap.size wn9 _ from by (first | exact (Below.refl _ _).alloc (Nat.le_refl _) _ | exact hbq | exact hb5 | exact Below.refl _ _)) hB.size)))
        · (first | exact (Below.refl _ _).alloc (Nat.le_refl _) _ | exact hbq | exact hb5 | exact Below.refl _ _)
        · (exact ⟨ho5, own_lower hg5 (Nat.zero_le _)⟩)
        have hB := hB.trans (hst.mono hB.size)
        have h8 := h8.below hst
        obtain ⟨hnew, hgn⟩ := hnew
        have ho := hnew
        try (have hne1 : (Value.slice A' t.blobs.length c').ownBlock ≠ some g6 := fun e => by have := (ho.b.rwo.blk e).1; omega)
        try (have hne2 : (Value.slice B' t.ents.length d').ownBlock ≠ some g6 := fun e => by have := (ho.e.rwo.blk e).1; omega)
        try (have ho := ho.wider (N' := fun b => b = g6) (fun b hb => .inl (by omega)))
        try (have ho := ho.lower (base' := 0) (Nat.zero_le _))
        clear hst
        clear hK K
        try simp only [List.getElem_toArray, List.getElem_cons_zero, List.getElem_cons_succ, Act.put, List.setIfInBounds_toArray, List.set_cons_zero, List.set_cons_succ]
        refine wpAnyH_take (i := 4) (oi := _) (v := ?_) rfl (by kernel_rfl) (by kernel_rfl) (by kernel_rfl) (fun _ _ _ h => h) (Or.inl ⟨by rfl, ?_⟩) (by assumption) ?_
        rotate_left
        · (intro w hSw; (try dsimp only at hSw); go_simp; try (with_reducible rfl))
        try simp only [List.getElem_toArray, List.getElem_cons_zero, List.getElem_cons_succ, Act.put, List.setIfInBounds_toArray, List.set_cons_zero, List.set_cons_succ]
        refine wpAnyH_take (i := 5) (oi := _) (v := ?_) rfl (by kernel_rfl) (by kernel_rfl) (by kernel_rfl) (fun _ _ _ h => h) (Or.inl ⟨by rfl, ?_⟩) (by assumption) ?_
        rotate_left
        · (intro w hSw; (try dsimp only at hSw); go_simp; try (with_reducible rfl))
        try simp only [List.getElem_toArray, List.getElem_cons_zero, List.getElem_cons_succ, Act.put, List.setIfInBounds_toArray, List.set_cons_zero, List.set_cons_succ]
        refine wpAnyH_take (i := 6) (oi := _) (v := ?_) rfl (by kernel_rfl) (by kernel_rfl) (by kernel_rfl) (fun _ _ _ h => h) (Or.inl ⟨by rfl, ?_⟩) (by assumption) ?_
        rotate_left
        · (intro w hSw; (try dsimp only at hSw); go_simp; try (with_reducible rfl))
        try simp only [List.getElem_toArray, List.getElem_cons_zero, List.getElem_cons_succ, Act.put, List.setIfInBounds_toArray, List.set_cons_zero, List.set_cons_succ]
        refine wpAnyH_take (i := 7) (oi := _) (v := ?_) rfl (by kernel_rfl) (by kernel_rfl) (by kernel_rfl) (fun _ _ _ h => h) (Or.inl ⟨by rfl, ?_⟩) (by assumption) ?_
        rotate_left
        · (intro w hSw; (try dsimp only at hSw); go_simp; try (with_reducible rfl))
        try simp only [List.getElem_toArray, List.getElem_cons_zero, List.getElem_cons_succ, Act.put, List.setIfInBounds_toArray, List.set_cons_zero, List.set_cons_succ]
        refine wpAnyH_ready (rs := [9]) (by kernel_rfl) (by simp) ?_
        refine AllReadyH.cons (o := _) rfl (fun K hK => ?_) ?_
        ·
          have z0 := h8.cell (k := 0) rfl
          have z1 := h8.cell (k := 1) rfl
          have z2 := h8.cell (k := 2) rfl
          have z3 := h8.cell (k := 3) rfl
          have f0 := h8.frozen 0
          have f1 := h8.frozen 1
          have f2 := h8.frozen 2
          have f3 := h8.frozen 3
          go_simp
          clear z0 z1 z2 z3 f0 f1 f2 f3
          have hgne := own_ne hgn h8 (by decide)
          refine outG hK ?_ (fun W => Arr W g6 26 [.slice A' t.blobs.length c', .slice B' t.ents.length d', .int .i64 R, .int .i64 C]) (fun W => Below w2.heap.size w2 W ∧ OwSt W 0 (Value.slice A' t.blobs.length c') (Value.slice B' t.ents.length d') t (fun b => b = g6) ∧ W.ownsRow 0 9 1 (Value.slice Ag g.length cg) g.length (strs g)) ?_ ?_ (fun wn11 hHeld hF hG => ?_)
          · exact HSB.out _ ((((hB.setCell (p := ⟨g6, 0, none⟩) hl8 _).setCell (p := ⟨g6, 1, none⟩) hl8 _).setCell (p := ⟨g6, 2, none⟩) hl8 _).setCell (p := ⟨g6, 3, none⟩) hl8 _)
          · exact h8.all4 _ _ _ _
          · exact ⟨(((hB.setCell (p := ⟨g6, 0, none⟩) hl8 _).setCell (p := ⟨g6, 1, none⟩) hl8 _).setCell (p := ⟨g6, 2, none⟩) hl8 _).setCell (p := ⟨g6, 3, none⟩) hl8 _, (((ho.setX rfl hne1 hne2 _).setX rfl hne1 hne2 _).setX rfl hne1 hne2 _).setX rfl hne1 hne2 _, own_other (own_other (own_other (own_other hgn hgne) hgne) hgne) hgne⟩
          clear hB h8 ho
          clear hgn hgne
          clear hK K
          try simp only [List.getElem_toArray, List.getElem_cons_zero, List.getElem_cons_succ, Act.put, List.setIfInBounds_toArray, List.set_cons_zero, List.set_cons_succ]
          refine wpAnyH_take (i := 10) (oi := _) (v := ?_) rfl (by kernel_rfl) (by kernel_rfl) (by kernel_rfl) (fun _ _ _ h => h) (Or.inl ⟨by rfl, ?_⟩) (by assumption) ?_
          rotate_left
          · (intro w hSw; (try dsimp only at hSw); go_simp; try (with_reducible rfl))
          try simp only [List.getElem_toArray, List.getElem_cons_zero, List.getElem_cons_succ, Act.put, List.setIfInBounds_toArray, List.set_cons_zero, List.set_cons_succ]
          refine wpAnyH_take (i := 11) (oi := _) (v := ?_) rfl (by kernel_rfl) (by kernel_rfl) (by kernel_rfl) (fun _ _ _ h => h) (Or.inl ⟨by rfl, ?_⟩) (by assumption) ?_
          rotate_left
          · (intro w hSw; (try dsimp only at hSw); go_simp; try (with_reducible rfl))
          try simp only [List.getElem_toArray, List.getElem_cons_zero, List.getElem_cons_succ, Act.put, List.setIfInBounds_toArray, List.set_cons_zero, List.set_cons_succ]
          refine wpAnyH_done (by kernel_rfl) ?_ _
          dsimp only [Exit.then]
          clear hHeld
          obtain ⟨hBz, hoz, hgz⟩ := hG
          have hrz : RdSt wn11 A' c' B' d' t := by
            obtain ⟨A9, c9, B9, d9, e1, e2, h⟩ := hoz.rows
            cases e1; cases e2; exact h
          have hall := And.intro hBz (And.intro hrz (And.intro hF (Rd.of_own hgz)))
          generalize wn11 = wz at hall ⊢
          generalize g6 = gz at hall ⊢
          generalize A' = Az at hall ⊢
          generalize c' = cz at hall ⊢
          generalize B' = Bz at hall ⊢
          generalize d' = dz at hall ⊢
          generalize Ag = Agz at hall ⊢
          generalize cg = cgz at hall ⊢
          revert wz gz Az cz Bz dz Agz cgz
          exact REST.out
        exact AllReadyH.nil
      exact AllReadyH.nil
    exact AllReadyH.nil
  exact AllReadyH.nil
  --HELDEND
  intro wz gz Az cz Bz dz Agz hall cgz
  obtain ⟨hbz, hrdx, hAx, hrg⟩ := hall
  have hAs3 := hAs.below hbz
  have hrd3 := hrd2.below hbz
  have hb13 := hb12.trans (hbz.mono hb12.size)
  rcases HEV.out with ⟨hev, rfl, rfl, rfl⟩ | rfl
  rotate_left
  · clear hrdx hAx hrg hAs3 hrd3 hbz hb12 hAs hrd2 HRN HSB
    repeat' ((fail_if_success at_builtin); (fail_if_success at_make); (first | go_values | go_skip | go_guarded | go_step | go_upon | go_back))
    refine ((comes_ok wz)).mono ?_; rintro e_ w4 ⟨rfl, hb4⟩; dsimp only
    have hb14 := hb13.trans (hb4.mono hb13.size)
    repeat' ((fail_if_success at_builtin); (fail_if_success at_make); (first | go_values | go_skip | go_guarded | go_step | go_upon | go_back))
    go_ret
    exact ⟨rfl, hb14⟩
  have HPN := Lib.hid (fun y (hy : y ∈ s.ents) (hp : 0 < y.pins) => evRun_gone HGS.out hev hy hp)
  have HHL := Lib.hid (fun x (hx : Rch s.blobs (pinR s) x) => evRun_held HGS.out hev hx)
  have hgl : g.length ≤ 10 := by have := (evRun_good HGS.out hev).2.2.1; omega
  have htl : t.blobs.length ≤ 24 := (evRun_good HGS.out hev).1.b.len
  clear hbz hb12 hAs hrd2 HRN hev HSB
  repeat' ((fail_if_success at_builtin); (fail_if_success at_make); (first | go_values | go_skip | go_guarded | go_step | go_upon | go_back))
  refine ((comes_ok wz)).mono ?_; rintro e_ w4 ⟨rfl, hb4⟩; dsimp only
  have hb14 := hb13.trans (hb4.mono hb13.size)
  have HAs := Lib.hid (hAs3.below hb4)
  have HRD := Lib.hid (hrd3.below hb4)
  have HAx := Lib.hid (hAx.below hb4)
  have HRX := Lib.hid (hrdx.below hb4)
  have HRG := Lib.hid (hrg.below hb4)
  have q1 := HAs.out.cell (k := 1) rfl
  clear hrdx hAx hrg hAs3 hrd3 hb13 hb4
  repeat' ((fail_if_success at_builtin); (fail_if_success at_make); (first | go_values | go_skip | go_guarded | go_step | go_upon | go_back))
  clear q1
  go_loopg [9, 35] s.ents.length (fun gn u i wr => ∃ k : Nat, gn = s.ents.length - k ∧ i = .int .i64 k ∧ k ≤ s.ents.length ∧ wr.ownsRow w4.heap.size 9 1 u (pinE (s.ents.take k)).length (strs (pinE (s.ents.take k))) ∧ Below w4.heap.size w4 wr)
  case atStart => exact ⟨0, rfl, rfl, by omega, World.ownsRow_nil _ _ _ _, Below.refl _ _⟩
  case round =>
    obtain ⟨k, hgk, rfl, hk, hown, hbel⟩ := hrel
    have HGK := Lib.hid hgk
    clear hgk
    have hpl := pinE_len (s.ents.take k) (fun x hx => HGS.out.rts.p x (List.mem_of_mem_take hx))
    rw [List.length_take] at hpl
    have hpl80 : (pinE (s.ents.take k)).length ≤ 80 := by omega
    clear hpl
    by_cases hlt : k < s.ents.length
    rotate_left
    · obtain rfl : k = s.ents.length := by omega
      have hlb : decide (s.ents.length < s.ents.length) = false := by simp
      rw [List.take_length] at hown hpl80
      have q0 := (HAs.out.below hbel).cell (k := 0) rfl
      repeat' ((fail_if_success at_builtin); (fail_if_success at_make); (first | go_values | go_skip | go_guarded | go_step | go_upon | go_back))
      clear q0
      generalize hwq : wr = wq at *
      clear hwq
      go_loopg [9, 63] s.blobs.length (fun gn u i wr => ∃ k : Nat, gn = s.blobs.length - k ∧ i = .int .i64 k ∧ k ≤ s.blobs.length ∧ wr.ownsRow w4.heap.size 9 1 u (pinE s.ents ++ rtsB (s.blobs.take k)).length (strs (pinE s.ents ++ rtsB (s.blobs.take k))) ∧ Below w4.heap.size w4 wr)
      case atStart => exact ⟨0, rfl, rfl, by omega, by rw [List.take_zero, show rtsB [] = [] from rfl, List.append_nil]; exact hown, hbel⟩
      case round =>
        clear hown hbel
        obtain ⟨k, hgk, rfl, hk, hown, hbel⟩ := hrel
        have HGK := Lib.hid hgk
        clear hgk
        have hrl := rtsB_len (s.blobs.take k)
        rw [List.length_take] at hrl
        have hgo2 : (pinE s.ents ++ rtsB (s.blobs.take k)).length ≤ 104 := by rw [List.length_append]; omega
        clear hrl
        by_cases hlt : k < s.blobs.length
        rotate_left
        · obtain rfl : k = s.blobs.length := by omega
          have hlb : decide (s.blobs.length < s.blobs.length) = false := by simp
          rw [List.take_length, show pinE s.ents ++ rtsB s.blobs = pinR s from rfl] at hown hgo2
          obtain ⟨AR, cR, rfl, _, hrR⟩ := Rd.of_own' hown
          have HFR := Lib.hid (From_ok Ab AR cb cR s.blobs (pinR s) wr (by omega) HRD.out.bc HRD.out.bm HGS.out.rts.g (HRD.out.b.below hbel) (by omega) hrR)
          have q0 := (HAs.out.below hbel).cell (k := 0) rfl
          clear hrR hown
          repeat' ((fail_if_success at_builtin); (fail_if_success at_make); (first | go_values | go_skip | go_guarded | go_step | go_upon | go_back))
          clear q0
          refine ((HFR.out)).mono ?_; rintro e_ w7 ⟨v7, L7, rfl, hL7, hLl, ho7, hb7⟩; dsimp only
          obtain ⟨A7, c7, rfl, _, hr7⟩ := Rd.of_own' ho7
          have hb47 := hbel.trans (hb7.mono hbel.size)
          have HL7 := Lib.hid hL7
          have HR7 := Lib.hid hr7
          have hL63 : (L7.length : Int) ≤ 9223372036854775807 := by omega
          clear hbel hb7 ho7 hL7 hr7 HFR
          repeat' ((fail_if_success at_builtin); (fail_if_success at_make); (first | go_values | go_skip | go_guarded | go_step | go_upon | go_back))
          go_loopg [81] L7.length (fun gn i wr => ∃ k : Nat, gn = L7.length - k ∧ i = .int .i64 k ∧ k ≤ L7.length ∧ Below w7.heap.size w7 wr)
          case atStart => exact ⟨0, rfl, rfl, by omega, Below.refl _ _⟩
          case round =>
            obtain ⟨j, hgj, rfl, hj, hbj⟩ := hrel
            have HGJ := Lib.hid hgj
            clear hgj
            by_cases hlt3 : j < L7.length
            rotate_left
            · obtain rfl : j = L7.length := by omega
              have hlb3 : decide (L7.length < L7.length) = false := by simp
              repeat' ((fail_if_success at_builtin); (fail_if_success at_make); (first | go_values | go_skip | go_guarded | go_step | go_upon | go_back))
              go_ret
              exact ⟨rfl, hb14.trans ((hb47.trans (hbj.mono hb47.size)).mono hb14.size)⟩
            have hlb3 : decide (j < L7.length) = true := decide_eq_true hlt3
            have hj0 : (0 : Int) ≤ (j : Int) := by omega
            have hj1 : (j : Int) < (L7.length : Int) := by omega
            obtain ⟨bb, off, hAb, _, hcell⟩ := (HR7.out.below hbj).2 (by omega)
            subst hAb
            have c0 := hcell j _ (strs_at L7 j hlt3)
            have hq0 := (HAx.out.below (hb47.trans (hbj.mono hb47.size))).cell (k := 0) rfl
            have hin : InB t.blobs L7[j] := HHL.out _ ((HL7.out.mem _).1 (List.getElem_mem hlt3))
            have hhs := Has_ok Az cz t.blobs L7[j] wr (by omega) ((HRX.out.below (hb47.trans (hbj.mono hb47.size))).b)
            rw [show t.blobs.any (fun x => x.dig == L7[j]) = true from by
              obtain ⟨b, hb, e⟩ := hin
              exact List.any_eq_true.2 ⟨b, hb, by simpa using e⟩] at hhs
            have HHS := Lib.hid hhs
            have HJL := Lib.hid hlt3
            generalize L7[j] = dj at *
            clear hin hhs hcell
            repeat' ((fail_if_success at_builtin); (fail_if_success at_make); (first | go_values | go_skip | go_guarded | go_step | go_upon | go_back))
            clear c0 hq0
            refine ((HHS.out)).mono ?_; rintro e_ w8 ⟨rfl, hb8⟩; dsimp only
            have hbj8 := hbj.trans (hb8.mono hbj.size)
            clear hb8 hbj
            repeat' ((fail_if_success at_builtin); (fail_if_success at_make); (first | go_values | go_skip | go_guarded | go_step | go_upon | go_back))
            go_roundg (L7.length - (j + 1))
            case measure => have := HGJ.out; have := HJL.out; omega
            case rel => exact ⟨j + 1, rfl, by go_num, by have := HJL.out; omega, hbj8⟩
        have hlb : decide (k < s.blobs.length) = true := decide_eq_true hlt
        have hk0 : (0 : Int) ≤ (k : Int) := by omega
        have hk1 : (k : Int) < (s.blobs.length : Int) := by omega
        obtain ⟨bq, oq, Bq, cq, hA, hbq, d0, d1, d2, d3, hsl⟩ := (HRD.out.b.below hbel).blob_at k hlt
        subst hA
        have HSU := Lib.hid (rtsB_succ s.blobs k hlt)
        have HKL := Lib.hid hlt
        generalize s.blobs[k] = q at *
        have hbox : Arr (wr.alloc (.cells #[.string ⟨q.dig.toArray⟩, .slice Bq q.data.length cq, .int .i64 (q.pins : Int), .bool q.mark] 51)) wr.heap.size 51 [.string ⟨q.dig.toArray⟩, .slice Bq q.data.length cq, .int .i64 (q.pins : Int), .bool q.mark] := Arr.new wr 51 _
        have hbA := hbel.alloc hbel.size (.cells #[.string ⟨q.dig.toArray⟩, .slice Bq q.data.length cq, .int .i64 (q.pins : Int), .bool q.mark] 51)
        have hownA := hown.alloc (.cells #[.string ⟨q.dig.toArray⟩, .slice Bq q.data.length cq, .int .i64 (q.pins : Int), .bool q.mark] 51)
        have p2 := hbox.cell (k := 2) rfl
        have p0 := hbox.cell (k := 0) rfl
        clear hsl hown hbox
        rcases Nat.eq_zero_or_pos q.pins with hp | hp
        · have hd0 : decide ((q.pins : Int) > 0) = false := decide_eq_false (by omega)
          have hd1 : decide ((0 : Int) < (q.pins : Int)) = false := decide_eq_false (by omega)
          have hd2 : decide (0 < q.pins) = false := decide_eq_false (by omega)
          have hsu := HSU.out
          rw [if_neg (by omega), List.append_nil] at hsu
          have HSV := Lib.hid hsu
          have HOA := Lib.hid hownA
          clear hsu hownA hp
          repeat' ((fail_if_success at_builtin); (fail_if_success at_make); (first | go_values | go_skip | go_guarded | go_step | go_upon | go_back))
          go_roundg (s.blobs.length - (k + 1))
          case measure => have := HGK.out; have := HKL.out; omega
          case rel => exact ⟨k + 1, rfl, by go_num, by have := HKL.out; omega, by rw [HSV.out]; exact HOA.out, hbA⟩
        · have hd0 : decide ((q.pins : Int) > 0) = true := decide_eq_true (by omega)
          have hd1 : decide ((0 : Int) < (q.pins : Int)) = true := decide_eq_true (by omega)
          have hd2 : decide (0 < q.pins) = true := decide_eq_true (by omega)
          have hsu := HSU.out
          rw [if_pos hp] at hsu
          have HSV := Lib.hid hsu
          clear hsu hp
          repeat' ((fail_if_success at_builtin); (fail_if_success at_make); (first | go_values | go_skip | go_guarded | go_step | go_upon | go_back))
          clear d0 d1 d2 d3
          have HSZ := Lib.hid (World.size_alloc wr (.cells #[.string ⟨q.dig.toArray⟩, .slice Bq q.data.length cq, .int .i64 (q.pins : Int), .bool q.mark] 51)).symm
          generalize (wr.alloc (.cells #[.string ⟨q.dig.toArray⟩, .slice Bq q.data.length cq, .int .i64 (q.pins : Int), .bool q.mark] 51)) = wA at *
          repeat' ((fail_if_success at_builtin); (fail_if_success at_make); (first | go_values | go_skip | go_guarded | go_step | go_upon | go_back))
          refine wpList_apH rfl (.tmp 70) (.tmp 73) rfl elStrS (by rfl) hownA (us := [.string ⟨q.dig.toArray⟩]) (by rfl) HSZ.out rfl (by intro u hu; rw [List.mem_singleton.1 hu]; rfl) (by omega) hbA.size ?_
          intro v9 w9 ho9 hg9 hv9
          have hb9 := below_own hbA hownA (Nat.le_refl _) hg9
          have HO9 := Lib.hid ho9
          clear ho9 hg9 hv9 hownA p0 p2
          repeat' ((fail_if_success at_builtin); (fail_if_success at_make); (first | go_values | go_skip | go_guarded | go_step | go_upon | go_back))
          go_roundg (s.blobs.length - (k + 1))
          case measure => have := HGK.out; have := HKL.out; omega
          case rel => exact ⟨k + 1, rfl, by go_num, by have := HKL.out; omega, by rw [HSV.out, ← List.append_assoc, strs_app, List.length_append]; exact HO9.out, hb9⟩
    have hlb : decide (k < s.ents.length) = true := decide_eq_true hlt
    have hk0 : (0 : Int) ≤ (k : Int) := by omega
    have hk1 : (k : Int) < (s.ents.length : Int) := by omega
    obtain ⟨bq, oq, Bq, cq, hA, hbq, c0, c1, c2, c3, hsl⟩ := HRD.out.e.ent_at k hlt
    subst hA
    have d0 := (hbel.cell (p := ⟨bq, _, none⟩) hbq).trans c0
    have d1 := (hbel.cell (p := ⟨bq, _, none⟩) hbq).trans c1
    have d2 := (hbel.cell (p := ⟨bq, _, none⟩) hbq).trans c2
    have d3 := (hbel.cell (p := ⟨bq, _, none⟩) hbq).trans c3
    clear c0 c1 c2 c3
    have HKL := Lib.hid hlt
    have HSU := Lib.hid (pinE_succ s.ents k hlt)
    have HMB := Lib.hid (List.getElem_mem hlt)
    have hq8 := HGS.out.rts.p _ (List.getElem_mem hlt)
    generalize s.ents[k] = q at *
    have hbox : Arr (wr.alloc (.cells #[.string ⟨q.key.toArray⟩, .slice Bq q.parts.length cq, .int .i64 (q.pins : Int), .int .i64 (q.stamp : Int)] 45)) wr.heap.size 45 [.string ⟨q.key.toArray⟩, .slice Bq q.parts.length cq, .int .i64 (q.pins : Int), .int .i64 (q.stamp : Int)] := Arr.new wr 45 _
    have hbA := hbel.alloc hbel.size (.cells #[.string ⟨q.key.toArray⟩, .slice Bq q.parts.length cq, .int .i64 (q.pins : Int), .int .i64 (q.stamp : Int)] 45)
    have hownA := hown.alloc (.cells #[.string ⟨q.key.toArray⟩, .slice Bq q.parts.length cq, .int .i64 (q.pins : Int), .int .i64 (q.stamp : Int)] 45)
    have hslA := hsl
    have p0 := hbox.cell (k := 0) rfl
    have p1 := hbox.cell (k := 1) rfl
    have p2 := hbox.cell (k := 2) rfl
    clear hsl hown
    rcases Nat.eq_zero_or_pos q.pins with hp | hp
    · have hd0 : decide ((q.pins : Int) > 0) = false := decide_eq_false (by omega)
      have hd1 : decide ((0 : Int) < (q.pins : Int)) = false := decide_eq_false (by omega)
      have hd2 : decide (0 < q.pins) = false := decide_eq_false (by omega)
      have hsu := HSU.out
      rw [if_neg (by omega), List.append_nil] at hsu
      have HSV := Lib.hid hsu
      have HOA := Lib.hid hownA
      clear hsu hownA hslA hp hbox
      repeat' ((fail_if_success at_builtin); (fail_if_success at_make); (first | go_values | go_skip | go_guarded | go_step | go_upon | go_back))
      go_roundg (s.ents.length - (k + 1))
      case measure => have := HGK.out; have := HKL.out; omega
      case rel => exact ⟨k + 1, rfl, by go_num, by have := HKL.out; omega, by rw [HSV.out]; exact HOA.out, hbA⟩
    · have hd0 : decide ((q.pins : Int) > 0) = true := decide_eq_true (by omega)
      have hd1 : decide ((0 : Int) < (q.pins : Int)) = true := decide_eq_true (by omega)
      have hd2 : decide (0 < q.pins) = true := decide_eq_true (by omega)
      have hsu := HSU.out
      rw [if_pos hp] at hsu
      have HSV := Lib.hid hsu
      have hct := Has_str Agz cgz g q.key _ (by omega) (HRG.out.below hbA)
      rw [decide_eq_false (HPN.out q HMB.out hp)] at hct
      have HCT := Lib.hid hct
      clear hsu hct hp
      repeat' ((fail_if_success at_builtin); (fail_if_success at_make); (first | go_values | go_skip | go_guarded | go_step | go_upon | go_back))
      clear d0 d1 d2 d3
      refine ((HCT.out)).mono ?_; rintro e_ wx ⟨rfl, rfl⟩; dsimp only
      generalize (wr.alloc (.cells #[.string ⟨q.key.toArray⟩, .slice Bq q.parts.length cq, .int .i64 (q.pins : Int), .int .i64 (q.stamp : Int)] 45)) = wA at *
      repeat' ((fail_if_success at_builtin); (fail_if_success at_make); (first | go_values | go_skip | go_guarded | go_step | go_upon | go_back))
      clear p0 p1 p2
      have hcqm : (q.parts.length : Int) ≤ 9223372036854775807 := by omega
      clear hbox
      go_loopg [9, 49] q.parts.length (fun gn u i wr => ∃ j : Nat, gn = q.parts.length - j ∧ i = .int .i64 j ∧ j ≤ q.parts.length ∧ wr.ownsRow w4.heap.size 9 1 u (pinE (s.ents.take k) ++ (q.parts.take j).map (·.dig)).length (strs (pinE (s.ents.take k) ++ (q.parts.take j).map (·.dig))) ∧ Below w4.heap.size w4 wr)
      case atStart => exact ⟨0, rfl, rfl, by omega, by rw [List.take_zero, List.map_nil, List.append_nil]; exact hownA, hbA⟩
      case round =>
        obtain ⟨j, hgj, rfl, hj, hown, hbel⟩ := hrel
        have HGJ := Lib.hid hgj
        clear hgj hownA hbA
        have hgo2 : (pinE (s.ents.take k) ++ (q.parts.take j).map (·.dig)).length ≤ 88 := by rw [List.length_append, List.length_map, List.length_take]; omega
        by_cases hlt2 : j < q.parts.length
        rotate_left
        · obtain rfl : j = q.parts.length := by omega
          have hlb2 : decide (q.parts.length < q.parts.length) = false := by simp
          rw [List.take_length, ← HSV.out] at hown
          have HST := Lib.hid hown
          clear hown hgo2
          repeat' ((fail_if_success at_builtin); (fail_if_success at_make); (first | go_values | go_skip | go_guarded | go_step | go_upon | go_back))
          go_roundg (s.ents.length - (k + 1))
          case measure => have := HGK.out; have := HKL.out; omega
          case rel => exact ⟨k + 1, rfl, by go_num, by have := HKL.out; omega, HST.out, hbel⟩
        have hlb2 : decide (j < q.parts.length) = true := decide_eq_true hlt2
        have hj0 : (0 : Int) ≤ (j : Int) := by omega
        have hj1 : (j : Int) < (q.parts.length : Int) := by omega
        obtain ⟨bb, off, hAb, _, hcell⟩ := (hslA.below hbel).rd.2 (by omega)
        subst hAb
        have hat := fun i (hi : i < 3) => pcs_at q.parts j i hlt2 hi
        have c0 := hcell (j * 3 + 0) _ (hat 0 (by omega))
        have c1 := hcell (j * 3 + 1) _ (hat 1 (by omega))
        have c2 := hcell (j * 3 + 2) _ (hat 2 (by omega))
        have HTK := Lib.hid (show (q.parts.take (j + 1)).map (·.dig) = (q.parts.take j).map (·.dig) ++ [q.parts[j].dig] from by rw [List.take_succ_eq_append_getElem hlt2, List.map_append]; rfl)
        have HJL := Lib.hid hlt2
        generalize q.parts[j] = pt at *
        obtain ⟨pn, pd, psz⟩ := pt
        dsimp only [pcell, List.getElem?_cons_zero, List.getElem?_cons_succ] at c0 c1 c2 HTK
        rw [Nat.add_zero] at c0
        rw [show off + (j * 3 + 1) = off + j * 3 + 1 by omega] at c1
        rw [show off + (j * 3 + 2) = off + j * 3 + 2 by omega] at c2
        have hbx : Arr (wr.alloc (.cells #[.string ⟨pn.toArray⟩, .string ⟨pd.toArray⟩, .int .i64 (psz : Int)] 48)) wr.heap.size 48 [.string ⟨pn.toArray⟩, .string ⟨pd.toArray⟩, .int .i64 (psz : Int)] := Arr.new wr 48 _
        have hbB := hbel.alloc hbel.size (.cells #[.string ⟨pn.toArray⟩, .string ⟨pd.toArray⟩, .int .i64 (psz : Int)] 48)
        have hownB := hown.alloc (.cells #[.string ⟨pn.toArray⟩, .string ⟨pd.toArray⟩, .int .i64 (psz : Int)] 48)
        have p1 := hbx.cell (k := 1) rfl
        clear hat hcell hown hbx
        repeat' ((fail_if_success at_builtin); (fail_if_success at_make); (first | go_values | go_skip | go_guarded | go_step | go_upon | go_back))
        clear c0 c1 c2
        have HSZ := Lib.hid (World.size_alloc wr (.cells #[.string ⟨pn.toArray⟩, .string ⟨pd.toArray⟩, .int .i64 (psz : Int)] 48)).symm
        generalize (wr.alloc (.cells #[.string ⟨pn.toArray⟩, .string ⟨pd.toArray⟩, .int .i64 (psz : Int)] 48)) = wB at *
        repeat' ((fail_if_success at_builtin); (fail_if_success at_make); (first | go_values | go_skip | go_guarded | go_step | go_upon | go_back))
        refine wpList_apH rfl (.tmp 53) (.tmp 56) rfl elStrS (by rfl) hownB (us := [.string ⟨pd.toArray⟩]) (by rfl) HSZ.out rfl (by intro u hu; rw [List.mem_singleton.1 hu]; rfl) (by omega) hbB.size ?_
        intro v9 w9 ho9 hg9 hv9
        have hb9 := below_own hbB hownB (Nat.le_refl _) hg9
        have HO9 := Lib.hid ho9
        clear ho9 hg9 hv9 hownB p1
        repeat' ((fail_if_success at_builtin); (fail_if_success at_make); (first | go_values | go_skip | go_guarded | go_step | go_upon | go_back))
        go_roundg (q.parts.length - (j + 1))
        case measure => have := HGJ.out; have := HJL.out; omega
        case rel => exact ⟨j + 1, rfl, by go_num, by have := HJL.out; omega, by rw [HTK.out, ← List.append_assoc, strs_app, List.length_append]; exact HO9.out, hb9⟩
end Go.Proofs.YtmjcoebfldmgnaaGreat
