/- SameBlobs, SameStore, by what they compare. Conditions: the sizes. -/
import Derived.Test.YtmjcoebfldmgnaaGreatBlP
import Derived.Test.YtmjcoebfldmgnaaGreatEqP
namespace Go.Proofs.YtmjcoebfldmgnaaGreat
open Go.RowKit
set_option linter.unusedVariables false
set_option linter.unusedSimpArgs false
set_option maxRecDepth 100000

instance : DecidableEq PartP := fun a b =>
  if h : a.name = b.name ∧ a.dig = b.dig ∧ a.size = b.size then isTrue (by obtain ⟨x, y, z⟩ := a; obtain ⟨u, v, t⟩ := b; obtain ⟨h1, h2, h3⟩ := h; simp only at h1 h2 h3; subst h1; subst h2; subst h3; rfl)
  else isFalse (fun e => h (by subst e; exact ⟨rfl, rfl, rfl⟩))
def sameB (x y : BlobP) : Bool := x.dig == y.dig && (x.data == y.data && x.pins == y.pins)
def sameE (x y : EntP) : Bool := x.key == y.key && (decide (x.parts = y.parts) && (x.pins == y.pins && x.stamp == y.stamp))
def sameBL : List BlobP → List BlobP → Bool
  | [], [] => true
  | x :: l, y :: m => sameB x y && sameBL l m
  | _, _ => false
def sameEL : List EntP → List EntP → Bool
  | [], [] => true
  | x :: l, y :: m => sameE x y && sameEL l m
  | _, _ => false
theorem sameBL_len : ∀ {l m : List BlobP}, l.length ≠ m.length → sameBL l m = false
  | [], [], h => absurd rfl h
  | [], _ :: _, _ => rfl
  | _ :: _, [], _ => rfl
  | x :: l, y :: m, h => by rw [sameBL, sameBL_len (l := l) (m := m) (by simpa using h), Bool.and_false]
theorem sameEL_len : ∀ {l m : List EntP}, l.length ≠ m.length → sameEL l m = false
  | [], [], h => absurd rfl h
  | [], _ :: _, _ => rfl
  | _ :: _, [], _ => rfl
  | x :: l, y :: m, h => by rw [sameEL, sameEL_len (l := l) (m := m) (by simpa using h), Bool.and_false]
theorem sameB_iff {x y : BlobP} : sameB x y = true ↔ x.dig = y.dig ∧ x.data = y.data ∧ x.pins = y.pins := by
  simp [sameB]
theorem sameE_iff {x y : EntP} : sameE x y = true ↔ x.key = y.key ∧ x.parts = y.parts ∧ x.pins = y.pins ∧ x.stamp = y.stamp := by
  simp [sameE]
theorem sameBL_iff : ∀ {l m : List BlobP}, sameBL l m = true ↔ l.map (fun b => (b.dig, b.data, b.pins)) = m.map (fun b => (b.dig, b.data, b.pins))
  | [], [] => by simp [sameBL]
  | [], _ :: _ => by simp [sameBL]
  | _ :: _, [] => by simp [sameBL]
  | x :: l, y :: m => by rw [sameBL, Bool.and_eq_true, sameB_iff, sameBL_iff (l := l) (m := m)]; simp
theorem sameEL_iff : ∀ {l m : List EntP}, sameEL l m = true ↔ l.map (fun b => (b.key, b.parts, b.pins, b.stamp)) = m.map (fun b => (b.key, b.parts, b.pins, b.stamp))
  | [], [] => by simp [sameEL]
  | [], _ :: _ => by simp [sameEL]
  | _ :: _, [] => by simp [sameEL]
  | x :: l, y :: m => by rw [sameEL, Bool.and_eq_true, sameE_iff, sameEL_iff (l := l) (m := m)]; simp
theorem sameBL_refl (l : List BlobP) : sameBL l l = true := sameBL_iff.2 rfl
theorem sameEL_refl (l : List EntP) : sameEL l l = true := sameEL_iff.2 rfl
set_option maxHeartbeats 3200000 in
theorem SameB1_ok (x y : BlobP) (A B : Option Addr) (c d : Nat) (w : World) (hx : x.data.length ≤ 1000000) (hy : y.data.length ≤ 1000000) (h1 : Sl w 1 A x.data.length c (bys x.data)) (h2 : Sl w 1 B y.data.length d (bys y.data)) :
    Calls Tryz.prog 79 #[.agg #[.string ⟨x.dig.toArray⟩, .slice A x.data.length c, .int .i64 (x.pins : Int), .bool x.mark], .agg #[.string ⟨y.dig.toArray⟩, .slice B y.data.length d, .int .i64 (y.pins : Int), .bool y.mark]] w fun e w' => e = .returned (.bool (sameB x y)) ∧ Below w.heap.size w w' := by
  obtain ⟨s, hs⟩ : ∃ s : ByteArray, s = ⟨x.dig.toArray⟩ := ⟨_, rfl⟩
  obtain ⟨t, ht⟩ : ∃ s : ByteArray, s = ⟨y.dig.toArray⟩ := ⟨_, rfl⟩
  have hst : (s.toList == t.toList) = (x.dig == y.dig) := by rw [hs, ht, ByteArray.toList_eq, ByteArray.toList_eq]
  obtain ⟨u, hu⟩ : ∃ s : ByteArray, s = ⟨x.data.toArray⟩ := ⟨_, rfl⟩
  obtain ⟨v, hv⟩ : ∃ s : ByteArray, s = ⟨y.data.toArray⟩ := ⟨_, rfl⟩
  have huv : (u.toList == v.toList) = (x.data == y.data) := by rw [hu, hv, ByteArray.toList_eq, ByteArray.toList_eq]
  have hpp : ((x.pins : Int) == (y.pins : Int)) = (x.pins == y.pins) := by rw [Bool.eq_iff_iff, beq_iff_eq, beq_iff_eq]; omega
  rw [← hs, ← ht]
  obtain ⟨W, hW, hA, hB, hb⟩ := two_new w 51 [.string s, .slice A x.data.length c, .int .i64 (x.pins : Int), .bool x.mark] [.string t, .slice B y.data.length d, .int .i64 (y.pins : Int), .bool y.mark]
  have hc1 : (convert 49 9 (.slice A x.data.length c)).run Tryz.prog W = .ok (.string u) W := by
    rw [hu]; exact run_str Tryz.underlying49 Tryz.underlying5 Tryz.underlying9 rfl (h1.below hb).rd
  have hc2 : (convert 49 9 (.slice B y.data.length d)).run Tryz.prog W = .ok (.string v) W := by
    rw [hv]; exact run_str Tryz.underlying49 Tryz.underlying5 Tryz.underlying9 rfl (h2.below hb).rd
  have a0 := hA.cell (k := 0) rfl
  have b0 := hB.cell (k := 0) rfl
  have a1 := hA.cell (k := 1) rfl
  have b1 := hB.cell (k := 1) rfl
  have a2 := hA.cell (k := 2) rfl
  have b2 := hB.cell (k := 2) rfl
  have hR : sameB x y = (x.dig == y.dig && (x.data == y.data && x.pins == y.pins)) := rfl
  rw [hR]
  rw [hW] at a0 b0 a1 b1 a2 b2 hc1 hc2
  clear hs ht hu hv h1 h2 hA hB hR
  generalize (x.dig == y.dig) = e1 at *
  generalize (x.data == y.data) = e2 at *
  generalize (x.pins == y.pins) = e3 at *
  cases e1 with
  | false =>
    go_enter Tryz.func79, Tryz.ntmps79
    repeat' ((fail_if_success at_builtin); (fail_if_success at_make); (first | go_values | go_skip | go_guarded | go_step | go_upon | go_back))
    go_ret
    rw [← hW]
    exact ⟨rfl, hb⟩
  | true =>
    cases e2 with
    | false =>
      go_enter Tryz.func79, Tryz.ntmps79
      repeat' ((fail_if_success at_builtin); (fail_if_success at_make); (first | go_values | go_skip | go_guarded | go_step | go_upon | go_back))
      go_ret
      rw [← hW]
      exact ⟨rfl, hb⟩
    | true =>
      cases e3 with
      | false =>
        go_enter Tryz.func79, Tryz.ntmps79
        repeat' ((fail_if_success at_builtin); (fail_if_success at_make); (first | go_values | go_skip | go_guarded | go_step | go_upon | go_back))
        go_ret
        rw [← hW]
        exact ⟨rfl, hb⟩
      | true =>
        go_enter Tryz.func79, Tryz.ntmps79
        repeat' ((fail_if_success at_builtin); (fail_if_success at_make); (first | go_values | go_skip | go_guarded | go_step | go_upon | go_back))
        go_ret
        rw [← hW]
        exact ⟨rfl, hb⟩
set_option maxHeartbeats 3200000 in
theorem EqBs_any (A B : Option Addr) (c d : Nat) (l m : List BlobP) (w : World) (hl : l.length ≤ 1000000) (hm : m.length ≤ 1000000) (hp : ∀ x ∈ l, x.data.length ≤ 1000000) (hq : ∀ x ∈ m, x.data.length ≤ 1000000) (hA : Rw BlobS w A l) (hB : Rw BlobS w B m) :
    Calls Tryz.prog 78 #[.slice A l.length c, .slice B m.length d, .func (.func 79) #[] #[]] w fun e w' => e = .returned (.bool (sameBL l m)) ∧ Below w.heap.size w w' := by
  have HP := Lib.hid hp
  have HQ := Lib.hid hq
  clear hp hq
  by_cases hln : l.length = m.length
  · have hnn : ((l.length : Int) != (m.length : Int)) = false := by rw [bne_eq_false_iff_eq]; omega
    generalize hR : sameBL l m = R
    have HR0 := Lib.hid hR
    have HLN := Lib.hid hln
    clear hR
    go_enter Tryz.func78, Tryz.ntmps78
    repeat' ((fail_if_success at_builtin); (fail_if_success at_make); (first | go_values | go_skip | go_guarded | go_step | go_upon | go_back))
    go_loopg [17] l.length (fun gn i wr => ∃ j : Nat, gn = l.length - j ∧ i = .int .i64 j ∧ j ≤ l.length ∧ sameBL (l.drop j) (m.drop j) = R ∧ Below w.heap.size w wr)
    case atStart => exact ⟨0, rfl, rfl, by omega, HR0.out, Below.refl _ _⟩
    case round =>
      obtain ⟨j, hgk, rfl, hj, hrs, hbl⟩ := hrel
      have HGK := Lib.hid hgk
      have HRS := Lib.hid hrs
      clear hgk hrs hnn
      by_cases hlt : j < l.length
      · have hcc : decide (j < l.length) = true := decide_eq_true hlt
        have hlt2 : j < m.length := by have := HLN.out; omega
        obtain ⟨b, off, B1, c1, rfl, hbb, p0, p1, p2, p3, hs⟩ := (hA.below hbl).blob_at j hlt
        obtain ⟨b', off', B2, c2, rfl, hbb', q0, q1, q2, q3, hs'⟩ := (hB.below hbl).blob_at j hlt2
        have hj0 : (0 : Int) ≤ (j : Int) := by omega
        have hj1 : (j : Int) < (l.length : Int) := by omega
        have hj2 : (j : Int) < (m.length : Int) := by omega
        have hpl := HP.out l[j] (List.getElem_mem hlt)
        have hpm := HQ.out m[j] (List.getElem_mem hlt2)
        have HST := Lib.hid (show (sameB l[j] m[j] && sameBL (l.drop (j + 1)) (m.drop (j + 1))) = R by rw [← HRS.out, List.drop_eq_getElem_cons hlt, List.drop_eq_getElem_cons hlt2]; rfl)
        generalize l[j] = x at *
        generalize m[j] = y at *
        obtain ⟨W, hW, hX, hY, hb⟩ := two_new wr 51 (blcell x B1 c1) (blcell y B2 c2)
        have HSM := Lib.hid (SameB1_ok x y B1 B2 c1 c2 W hpl hpm (hs.below hb) (hs'.below hb))
        have hba := (Below.refl wr.heap.size wr).alloc (Nat.le_refl _) (.cells (blcell x B1 c1).toArray 51)
        have q0' := (hba.cell (p := ⟨b', off' + j * 4, none⟩) hbb').trans q0
        have q1' := (hba.cell (p := ⟨b', off' + j * 4 + 1, none⟩) hbb').trans q1
        have q2' := (hba.cell (p := ⟨b', off' + j * 4 + 2, none⟩) hbb').trans q2
        have q3' := (hba.cell (p := ⟨b', off' + j * 4 + 3, none⟩) hbb').trans q3
        have x0 := hX.cell (k := 0) rfl
        have x1 := hX.cell (k := 1) rfl
        have x2 := hX.cell (k := 2) rfl
        have x3 := hX.cell (k := 3) rfl
        have y0 := hY.cell (k := 0) rfl
        have y1 := hY.cell (k := 1) rfl
        have y2 := hY.cell (k := 2) rfl
        have y3 := hY.cell (k := 3) rfl
        unfold blcell at hW q0' q1' q2' q3'
        dsimp only [List.toArray] at hW q0' q1' q2' q3'
        rw [hW] at x0 x1 x2 x3 y0 y1 y2 y3
        clear hs hs' q0 q1 q2 q3 hba
        repeat' ((fail_if_success at_builtin); (fail_if_success at_make); (first | go_values | go_skip | go_guarded | go_step | go_upon | go_back))
        rw [← hW] at x0 x1 x2 x3 y0 y1 y2 y3 ⊢
        clear hW x0 x1 x2 x3 y0 y1 y2 y3 p0 p1 p2 p3 q0' q1' q2' q3' hX hY
        cases hsm : sameB x y with
        | true =>
          rw [hsm] at HSM
          have HN := Lib.hid (show sameBL (l.drop (j + 1)) (m.drop (j + 1)) = R by rw [← HST.out, hsm]; rfl)
          clear hsm
          refine ((HSM.out)).mono ?_; rintro e_ w5 ⟨rfl, hb5⟩; dsimp only
          have hb1 := hbl.trans (hb.mono hbl.size)
          have hb2 := hb1.trans (hb5.mono hb1.size)
          repeat' ((fail_if_success at_builtin); (fail_if_success at_make); (first | go_values | go_skip | go_guarded | go_step | go_upon | go_back))
          go_roundg (l.length - (j + 1))
          case measure => have := HGK.out; omega
          case rel => exact ⟨j + 1, rfl, by go_num, by omega, HN.out, hb2⟩
        | false =>
          rw [hsm] at HSM
          have HN := Lib.hid (show R = false by rw [← HST.out, hsm]; rfl)
          clear hsm
          refine ((HSM.out)).mono ?_; rintro e_ w5 ⟨rfl, hb5⟩; dsimp only
          have hb1 := hbl.trans (hb.mono hbl.size)
          have hb2 := hb1.trans (hb5.mono hb1.size)
          repeat' ((fail_if_success at_builtin); (fail_if_success at_make); (first | go_values | go_skip | go_guarded | go_step | go_upon | go_back))
          go_ret
          rw [HN.out]
          exact ⟨rfl, hb2⟩
      · obtain rfl : j = l.length := by omega
        have hcc : decide (l.length < l.length) = false := by simp
        have HE := Lib.hid (show R = true by
          rw [← HRS.out, List.drop_length, List.drop_eq_nil_of_le (by have := HLN.out; omega)]; rfl)
        repeat' ((fail_if_success at_builtin); (fail_if_success at_make); (first | go_values | go_skip | go_guarded | go_step | go_upon | go_back))
        go_ret
        rw [HE.out]
        exact ⟨rfl, hbl⟩
  · have hnn : ((l.length : Int) != (m.length : Int)) = true := by rw [bne_iff_ne]; omega
    have HE := Lib.hid (show sameBL l m = false from sameBL_len hln)
    rw [HE.out]
    go_enter Tryz.func78, Tryz.ntmps78
    repeat' ((fail_if_success at_builtin); (fail_if_success at_make); (first | go_values | go_skip | go_guarded | go_step | go_upon | go_back))
    go_ret
    exact ⟨rfl, Below.refl _ _⟩
theorem SameBlobs_ok (A B : Option Addr) (c d : Nat) (l m : List BlobP) (w : World) (hl : l.length ≤ 1000000) (hm : m.length ≤ 1000000) (hp : ∀ x ∈ l, x.data.length ≤ 1000000) (hq : ∀ x ∈ m, x.data.length ≤ 1000000) (hA : Rw BlobS w A l) (hB : Rw BlobS w B m) :
    Calls Tryz.prog 36 #[.slice A l.length c, .slice B m.length d] w fun e w' => e = .returned (.bool (sameBL l m)) ∧ Below w.heap.size w w' := by
  have HE := Lib.hid (EqBs_any A B c d l m w hl hm hp hq hA hB)
  clear hp hq hA hB
  generalize sameBL l m = R at *
  go_enter Tryz.func36, Tryz.ntmps36
  repeat' ((fail_if_success at_builtin); (fail_if_success at_make); (first | go_values | go_skip | go_guarded | go_step | go_upon | go_back))
  refine ((HE.out)).mono ?_; rintro e_ w1 ⟨rfl, hb1⟩; dsimp only
  repeat' ((fail_if_success at_builtin); (fail_if_success at_make); (first | go_values | go_skip | go_guarded | go_step | go_upon | go_back))
  go_ret
  exact ⟨rfl, hb1⟩
theorem EqualP_any (A B : Option Addr) (n m c d : Nat) (x y : List PartP) (w : World) (hl : x.length = n) (hl' : y.length = m) (hn : n ≤ 140737488351232) (hm : m ≤ 140737488351232) (hr : Rd w 3 A n (pcs x)) (hs : Rd w 3 B m (pcs y)) :
    Calls Tryz.prog 61 #[.slice A n c, .slice B m d] w fun e w' => e = .returned (.bool (decide (x = y))) ∧ Below w.heap.size w w' := by
  by_cases h : x = y
  · subst h
    rw [decide_eq_true rfl]
    obtain rfl : n = m := by omega
    exact EqualP_same A B n c d x w hl hn hr hs
  · rw [decide_eq_false h]
    exact EqualP_diff A B n m c d x y w hl hl' hn hm hr hs h
set_option maxHeartbeats 3200000 in
theorem SameE1g_ok (x y : EntP) (A B : Option Addr) (c d : Nat) (w : World) (hx : x.parts.length ≤ 1000000) (hy : y.parts.length ≤ 1000000) (h1 : Sl w 3 A x.parts.length c (pcs x.parts)) (h2 : Sl w 3 B y.parts.length d (pcs y.parts)) :
    Calls Tryz.prog 60 #[.agg #[.string ⟨x.key.toArray⟩, .slice A x.parts.length c, .int .i64 (x.pins : Int), .int .i64 (x.stamp : Int)], .agg #[.string ⟨y.key.toArray⟩, .slice B y.parts.length d, .int .i64 (y.pins : Int), .int .i64 (y.stamp : Int)]] w fun e w' => e = .returned (.bool (sameE x y)) ∧ Below w.heap.size w w' := by
  obtain ⟨s, hs⟩ : ∃ s : ByteArray, s = ⟨x.key.toArray⟩ := ⟨_, rfl⟩
  obtain ⟨t, ht⟩ : ∃ s : ByteArray, s = ⟨y.key.toArray⟩ := ⟨_, rfl⟩
  have hst : (s.toList == t.toList) = (x.key == y.key) := by rw [hs, ht, ByteArray.toList_eq, ByteArray.toList_eq]
  have hpp : ((x.pins : Int) == (y.pins : Int)) = (x.pins == y.pins) := by rw [Bool.eq_iff_iff, beq_iff_eq, beq_iff_eq]; omega
  have hqq : ((x.stamp : Int) == (y.stamp : Int)) = (x.stamp == y.stamp) := by rw [Bool.eq_iff_iff, beq_iff_eq, beq_iff_eq]; omega
  rw [← hs, ← ht]
  obtain ⟨W, hW, hA, hB, hb⟩ := two_new w 45 [.string s, .slice A x.parts.length c, .int .i64 (x.pins : Int), .int .i64 (x.stamp : Int)] [.string t, .slice B y.parts.length d, .int .i64 (y.pins : Int), .int .i64 (y.stamp : Int)]
  have HEQ := Lib.hid (EqualP_any A B x.parts.length y.parts.length c d x.parts y.parts W rfl rfl (by omega) (by omega) (h1.below hb).rd (h2.below hb).rd)
  have a0 := hA.cell (k := 0) rfl
  have b0 := hB.cell (k := 0) rfl
  have a1 := hA.cell (k := 1) rfl
  have b1 := hB.cell (k := 1) rfl
  have hR : sameE x y = (x.key == y.key && (decide (x.parts = y.parts) && (x.pins == y.pins && x.stamp == y.stamp))) := rfl
  rw [hR]
  rw [hW] at a0 b0 a1 b1
  clear hs ht h1 h2 hR
  generalize (x.key == y.key) = e1 at *
  generalize (decide (x.parts = y.parts)) = e2 at *
  generalize (x.pins == y.pins) = e3 at *
  generalize (x.stamp == y.stamp) = e4 at *
  cases e1 with
  | false =>
    go_enter Tryz.func60, Tryz.ntmps60
    repeat' ((fail_if_success at_builtin); (fail_if_success at_make); (first | go_values | go_skip | go_guarded | go_step | go_upon | go_back))
    go_ret
    rw [← hW]
    exact ⟨rfl, hb⟩
  | true =>
    cases e2 with
    | false =>
      go_enter Tryz.func60, Tryz.ntmps60
      repeat' ((fail_if_success at_builtin); (fail_if_success at_make); (first | go_values | go_skip | go_guarded | go_step | go_upon | go_back))
      rw [← hW]
      clear hW a0 b0 a1 b1
      refine ((HEQ.out)).mono ?_; rintro e_ w1 ⟨rfl, hb1⟩; dsimp only
      have hb2 := hb.trans (hb1.mono hb.size)
      repeat' ((fail_if_success at_builtin); (fail_if_success at_make); (first | go_values | go_skip | go_guarded | go_step | go_upon | go_back))
      go_ret
      exact ⟨rfl, hb2⟩
    | true =>
      cases e3 with
      | false =>
        go_enter Tryz.func60, Tryz.ntmps60
        repeat' ((fail_if_success at_builtin); (fail_if_success at_make); (first | go_values | go_skip | go_guarded | go_step | go_upon | go_back))
        rw [← hW]
        clear hW a0 b0 a1 b1
        refine ((HEQ.out)).mono ?_; rintro e_ w1 ⟨rfl, hb1⟩; dsimp only
        have hb2 := hb.trans (hb1.mono hb.size)
        have a2 := (hA.below hb1).cell (k := 2) rfl
        have b2 := (hB.below hb1).cell (k := 2) rfl
        repeat' ((fail_if_success at_builtin); (fail_if_success at_make); (first | go_values | go_skip | go_guarded | go_step | go_upon | go_back))
        go_ret
        exact ⟨rfl, hb2⟩
      | true =>
        cases e4 with
        | false =>
          go_enter Tryz.func60, Tryz.ntmps60
          repeat' ((fail_if_success at_builtin); (fail_if_success at_make); (first | go_values | go_skip | go_guarded | go_step | go_upon | go_back))
          rw [← hW]
          clear hW a0 b0 a1 b1
          refine ((HEQ.out)).mono ?_; rintro e_ w1 ⟨rfl, hb1⟩; dsimp only
          have hb2 := hb.trans (hb1.mono hb.size)
          have a2 := (hA.below hb1).cell (k := 2) rfl
          have b2 := (hB.below hb1).cell (k := 2) rfl
          have a3 := (hA.below hb1).cell (k := 3) rfl
          have b3 := (hB.below hb1).cell (k := 3) rfl
          repeat' ((fail_if_success at_builtin); (fail_if_success at_make); (first | go_values | go_skip | go_guarded | go_step | go_upon | go_back))
          go_ret
          exact ⟨rfl, hb2⟩
        | true =>
          go_enter Tryz.func60, Tryz.ntmps60
          repeat' ((fail_if_success at_builtin); (fail_if_success at_make); (first | go_values | go_skip | go_guarded | go_step | go_upon | go_back))
          rw [← hW]
          clear hW a0 b0 a1 b1
          refine ((HEQ.out)).mono ?_; rintro e_ w1 ⟨rfl, hb1⟩; dsimp only
          have hb2 := hb.trans (hb1.mono hb.size)
          have a2 := (hA.below hb1).cell (k := 2) rfl
          have b2 := (hB.below hb1).cell (k := 2) rfl
          have a3 := (hA.below hb1).cell (k := 3) rfl
          have b3 := (hB.below hb1).cell (k := 3) rfl
          repeat' ((fail_if_success at_builtin); (fail_if_success at_make); (first | go_values | go_skip | go_guarded | go_step | go_upon | go_back))
          go_ret
          exact ⟨rfl, hb2⟩
set_option maxHeartbeats 3200000 in
theorem EqEs_any (A B : Option Addr) (c d : Nat) (l m : List EntP) (w : World) (hl : l.length ≤ 1000000) (hm : m.length ≤ 1000000) (hp : ∀ x ∈ l, x.parts.length ≤ 1000000) (hq : ∀ x ∈ m, x.parts.length ≤ 1000000) (hA : Rw EntS w A l) (hB : Rw EntS w B m) :
    Calls Tryz.prog 59 #[.slice A l.length c, .slice B m.length d, .func (.func 60) #[] #[]] w fun e w' => e = .returned (.bool (sameEL l m)) ∧ Below w.heap.size w w' := by
  have HP := Lib.hid hp
  have HQ := Lib.hid hq
  clear hp hq
  by_cases hln : l.length = m.length
  · have hnn : ((l.length : Int) != (m.length : Int)) = false := by rw [bne_eq_false_iff_eq]; omega
    generalize hR : sameEL l m = R
    have HR0 := Lib.hid hR
    have HLN := Lib.hid hln
    clear hR
    go_enter Tryz.func59, Tryz.ntmps59
    repeat' ((fail_if_success at_builtin); (fail_if_success at_make); (first | go_values | go_skip | go_guarded | go_step | go_upon | go_back))
    go_loopg [17] l.length (fun gn i wr => ∃ j : Nat, gn = l.length - j ∧ i = .int .i64 j ∧ j ≤ l.length ∧ sameEL (l.drop j) (m.drop j) = R ∧ Below w.heap.size w wr)
    case atStart => exact ⟨0, rfl, rfl, by omega, HR0.out, Below.refl _ _⟩
    case round =>
      obtain ⟨j, hgk, rfl, hj, hrs, hbl⟩ := hrel
      have HGK := Lib.hid hgk
      have HRS := Lib.hid hrs
      clear hgk hrs hnn
      by_cases hlt : j < l.length
      · have hcc : decide (j < l.length) = true := decide_eq_true hlt
        have hlt2 : j < m.length := by have := HLN.out; omega
        obtain ⟨b, off, B1, c1, rfl, hbb, p0, p1, p2, p3, hs⟩ := (hA.below hbl).ent_at j hlt
        obtain ⟨b', off', B2, c2, rfl, hbb', q0, q1, q2, q3, hs'⟩ := (hB.below hbl).ent_at j hlt2
        have hj0 : (0 : Int) ≤ (j : Int) := by omega
        have hj1 : (j : Int) < (l.length : Int) := by omega
        have hj2 : (j : Int) < (m.length : Int) := by omega
        have hpl := HP.out l[j] (List.getElem_mem hlt)
        have hpm := HQ.out m[j] (List.getElem_mem hlt2)
        have HST := Lib.hid (show (sameE l[j] m[j] && sameEL (l.drop (j + 1)) (m.drop (j + 1))) = R by rw [← HRS.out, List.drop_eq_getElem_cons hlt, List.drop_eq_getElem_cons hlt2]; rfl)
        generalize l[j] = x at *
        generalize m[j] = y at *
        obtain ⟨W, hW, hX, hY, hb⟩ := two_new wr 45 (ecell x B1 c1) (ecell y B2 c2)
        have HSM := Lib.hid (SameE1g_ok x y B1 B2 c1 c2 W hpl hpm (hs.below hb) (hs'.below hb))
        have hba := (Below.refl wr.heap.size wr).alloc (Nat.le_refl _) (.cells (ecell x B1 c1).toArray 45)
        have q0' := (hba.cell (p := ⟨b', off' + j * 4, none⟩) hbb').trans q0
        have q1' := (hba.cell (p := ⟨b', off' + j * 4 + 1, none⟩) hbb').trans q1
        have q2' := (hba.cell (p := ⟨b', off' + j * 4 + 2, none⟩) hbb').trans q2
        have q3' := (hba.cell (p := ⟨b', off' + j * 4 + 3, none⟩) hbb').trans q3
        have x0 := hX.cell (k := 0) rfl
        have x1 := hX.cell (k := 1) rfl
        have x2 := hX.cell (k := 2) rfl
        have x3 := hX.cell (k := 3) rfl
        have y0 := hY.cell (k := 0) rfl
        have y1 := hY.cell (k := 1) rfl
        have y2 := hY.cell (k := 2) rfl
        have y3 := hY.cell (k := 3) rfl
        unfold ecell at hW q0' q1' q2' q3'
        dsimp only [List.toArray] at hW q0' q1' q2' q3'
        rw [hW] at x0 x1 x2 x3 y0 y1 y2 y3
        clear hs hs' q0 q1 q2 q3 hba
        repeat' ((fail_if_success at_builtin); (fail_if_success at_make); (first | go_values | go_skip | go_guarded | go_step | go_upon | go_back))
        rw [← hW] at x0 x1 x2 x3 y0 y1 y2 y3 ⊢
        clear hW x0 x1 x2 x3 y0 y1 y2 y3 p0 p1 p2 p3 q0' q1' q2' q3' hX hY
        cases hsm : sameE x y with
        | true =>
          rw [hsm] at HSM
          have HN := Lib.hid (show sameEL (l.drop (j + 1)) (m.drop (j + 1)) = R by rw [← HST.out, hsm]; rfl)
          clear hsm
          refine ((HSM.out)).mono ?_; rintro e_ w5 ⟨rfl, hb5⟩; dsimp only
          have hb1 := hbl.trans (hb.mono hbl.size)
          have hb2 := hb1.trans (hb5.mono hb1.size)
          repeat' ((fail_if_success at_builtin); (fail_if_success at_make); (first | go_values | go_skip | go_guarded | go_step | go_upon | go_back))
          go_roundg (l.length - (j + 1))
          case measure => have := HGK.out; omega
          case rel => exact ⟨j + 1, rfl, by go_num, by omega, HN.out, hb2⟩
        | false =>
          rw [hsm] at HSM
          have HN := Lib.hid (show R = false by rw [← HST.out, hsm]; rfl)
          clear hsm
          refine ((HSM.out)).mono ?_; rintro e_ w5 ⟨rfl, hb5⟩; dsimp only
          have hb1 := hbl.trans (hb.mono hbl.size)
          have hb2 := hb1.trans (hb5.mono hb1.size)
          repeat' ((fail_if_success at_builtin); (fail_if_success at_make); (first | go_values | go_skip | go_guarded | go_step | go_upon | go_back))
          go_ret
          rw [HN.out]
          exact ⟨rfl, hb2⟩
      · obtain rfl : j = l.length := by omega
        have hcc : decide (l.length < l.length) = false := by simp
        have HE := Lib.hid (show R = true by
          rw [← HRS.out, List.drop_length, List.drop_eq_nil_of_le (by have := HLN.out; omega)]; rfl)
        repeat' ((fail_if_success at_builtin); (fail_if_success at_make); (first | go_values | go_skip | go_guarded | go_step | go_upon | go_back))
        go_ret
        rw [HE.out]
        exact ⟨rfl, hbl⟩
  · have hnn : ((l.length : Int) != (m.length : Int)) = true := by rw [bne_iff_ne]; omega
    have HE := Lib.hid (show sameEL l m = false from sameEL_len hln)
    rw [HE.out]
    go_enter Tryz.func59, Tryz.ntmps59
    repeat' ((fail_if_success at_builtin); (fail_if_success at_make); (first | go_values | go_skip | go_guarded | go_step | go_upon | go_back))
    go_ret
    exact ⟨rfl, Below.refl _ _⟩
set_option maxHeartbeats 3200000 in
theorem SameStore_ok (A A' B B' : Option Addr) (c c' d d' : Nat) (l m : List BlobP) (x y : List EntP) (r k : Int) (w : World) (hl : l.length ≤ 1000000) (hm : m.length ≤ 1000000) (hp : ∀ b ∈ l, b.data.length ≤ 1000000) (hq : ∀ b ∈ m, b.data.length ≤ 1000000)
    (kl : x.length ≤ 1000000) (km : y.length ≤ 1000000) (kp : ∀ b ∈ x, b.parts.length ≤ 1000000) (kq : ∀ b ∈ y, b.parts.length ≤ 1000000) (hA : Rw BlobS w A l) (hA' : Rw BlobS w A' m) (hB : Rw EntS w B x) (hB' : Rw EntS w B' y) :
    Calls Tryz.prog 18 #[.agg #[.slice A l.length c, .slice B x.length d, .int .i64 r, .int .i64 k], .agg #[.slice A' m.length c', .slice B' y.length d', .int .i64 r, .int .i64 k]] w fun e w' => e = .returned (.bool (sameBL l m && sameEL x y)) ∧ Below w.heap.size w w' := by
  obtain ⟨W, hW, hX, hY, hb⟩ := two_new w 26 [.slice A l.length c, .slice B x.length d, .int .i64 r, .int .i64 k] [.slice A' m.length c', .slice B' y.length d', .int .i64 r, .int .i64 k]
  have HS := Lib.hid (SameBlobs_ok A A' c c' l m W hl hm hp hq (hA.below hb) (hA'.below hb))
  have HE := Lib.hid (fun w' (h : Below W.heap.size W w') => EqEs_any B B' d d' x y w' kl km kp kq ((hB.below hb).below h) ((hB'.below hb).below h))
  have hrr : (r == r) = true := by simp
  have hkk : (k == k) = true := by simp
  have a0 := hX.cell (k := 0) rfl
  have b0 := hY.cell (k := 0) rfl
  rw [hW] at a0 b0
  clear hA hA' hB hB' hp hq kp kq
  generalize sameBL l m = e1 at *
  generalize sameEL x y = e2 at *
  cases e1 with
  | false =>
    go_enter Tryz.func18, Tryz.ntmps18
    repeat' ((fail_if_success at_builtin); (fail_if_success at_make); (first | go_values | go_skip | go_guarded | go_step | go_upon | go_back))
    rw [← hW]
    clear hW a0 b0
    refine ((HS.out)).mono ?_; rintro e_ w1 ⟨rfl, hb1⟩; dsimp only
    have hb2 := hb.trans (hb1.mono hb.size)
    repeat' ((fail_if_success at_builtin); (fail_if_success at_make); (first | go_values | go_skip | go_guarded | go_step | go_upon | go_back))
    go_ret
    exact ⟨rfl, hb2⟩
  | true =>
    go_enter Tryz.func18, Tryz.ntmps18
    repeat' ((fail_if_success at_builtin); (fail_if_success at_make); (first | go_values | go_skip | go_guarded | go_step | go_upon | go_back))
    rw [← hW]
    clear hW a0 b0
    refine ((HS.out)).mono ?_; rintro e_ w1 ⟨rfl, hb1⟩; dsimp only
    have hX1 := hX.below hb1
    have hY1 := hY.below hb1
    have HE1 := Lib.hid (HE.out w1 hb1)
    have a1 := hX1.cell (k := 1) rfl
    have a2 := hX1.cell (k := 2) rfl
    have a3 := hX1.cell (k := 3) rfl
    have b1 := hY1.cell (k := 1) rfl
    have b2 := hY1.cell (k := 2) rfl
    have b3 := hY1.cell (k := 3) rfl
    have hb2 := hb.trans (hb1.mono hb.size)
    repeat' ((fail_if_success at_builtin); (fail_if_success at_make); (first | go_values | go_skip | go_guarded | go_step | go_upon | go_back))
    refine ((HE1.out)).mono ?_; rintro e_ w2 ⟨rfl, hb3⟩; dsimp only
    have hb4 := hb2.trans (hb3.mono hb2.size)
    repeat' ((fail_if_success at_builtin); (fail_if_success at_make); (first | go_values | go_skip | go_guarded | go_step | go_upon | go_back))
    go_ret
    exact ⟨rfl, hb4⟩
end Go.Proofs.YtmjcoebfldmgnaaGreat
