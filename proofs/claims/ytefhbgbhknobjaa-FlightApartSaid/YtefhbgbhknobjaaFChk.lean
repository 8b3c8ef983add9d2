/- flight.Check of flights that may be. Conditions: the sizes. -/
import Derived.Test.YtefhbgbhknobjaaFind
import Derived.Test.YtefhbgbhknobjaaHexP
import Derived.StillTailTactics
namespace Go.Proofs.Ytefhbgbhknobjaa
open Go.RowKit
set_option linter.unusedVariables false
set_option linter.unusedSimpArgs false
set_option maxRecDepth 100000

def CrewOk (l : List Int) : Prop := ∀ j (h : j < l.length), (1 ≤ l[j] ∧ l[j] ≤ 1000) ∧ (l.take j).contains l[j] = false
structure GoodF (fs : List FlP) : Prop where
  len : fs.length ≤ 6
  key : ∀ j (h : j < fs.length), hexC fs[j].key = 0 ∧ fs[j].key.length ≤ 1000
  one : ∀ j (h : j < fs.length), fnd 0 (fs.take j) fs[j].key = none
  few : ∀ j (h : j < fs.length), fs[j].wait.length ≤ 5
  crew : ∀ j (h : j < fs.length), CrewOk (fs[j].lead :: fs[j].wait)
theorem cells_take : ∀ (fs : List FlP) (As : List (Option Addr × Nat)) (k : Nat), As.length = fs.length →
    ((fs.zip As).flatMap fun x => fcell x.1 x.2.1 x.2.2).take (k * 3) = ((fs.take k).zip (As.take k)).flatMap fun x => fcell x.1 x.2.1 x.2.2
  | [], [], k, _ => by simp
  | f :: fs, a :: As, 0, _ => by simp
  | f :: fs, a :: As, k + 1, h => by
    rw [List.zip_cons_cons, List.flatMap_cons, List.take_succ_cons, List.take_succ_cons, List.zip_cons_cons, List.flatMap_cons,
      ← cells_take fs As k (by simpa using h), List.take_append, List.take_of_length_le (by simp [fcell]; omega)]
    congr 2
    simp [fcell]; omega
theorem Fls.take {w : World} {A : Option Addr} {fs : List FlP} (h : Fls w A fs) (k : Nat) (hk : k ≤ fs.length) : Fls w A (fs.take k) := by
  obtain ⟨As, h1, h2, h3⟩ := h
  refine ⟨As.take k, by rw [List.length_take, List.length_take, h1], ?_, fun j p a hp ha => ?_⟩
  · have := h2.pre hk
    rw [cells_take fs As k h1] at this
    rw [List.length_take, Nat.min_eq_left hk]; exact this
  · rw [List.getElem?_take] at hp ha
    split at hp
    · rename_i hjk
      rw [if_pos hjk] at ha
      exact h3 j p a hp ha
    · cases hp

set_option maxHeartbeats 4000000 in
theorem FCheck_ok (A : Option Addr) (c : Nat) (fs : List FlP) (w : World) (hG : GoodF fs) (hf : Fls w A fs) (hc : fs.length ≤ c) (hm : c ≤ maxLen) :
    Calls Try.prog 7 #[.slice A fs.length c] w fun e w' => e = .returned (.int .i64 0) ∧ Below w.heap.size w w' := by
  have HG := Lib.hid hG
  have hn6 := hG.len
  have e6 : decide ((6 : Int) < (fs.length : Int)) = false := decide_eq_false (by omega)
  have e6' : decide (6 < fs.length) = false := decide_eq_false (by omega)
  have hcm : (c : Int) ≤ 9223372036854775807 := by unfold maxLen at hm; omega
  clear hG
  go_enter Try.func7, Try.ntmps7
  repeat' ((fail_if_success at_builtin); (fail_if_success at_make); (first | go_values | go_skip | go_guarded | go_step | go_upon | go_back))
  go_loopg [3, 16, 4] fs.length (fun gn u i v wr => ∃ j : Nat, gn = fs.length - j ∧ i = .int .i64 j ∧ j ≤ fs.length ∧ Below w.heap.size w wr)
  case atStart => exact ⟨0, rfl, rfl, by omega, Below.refl _ _⟩
  case round =>
    obtain ⟨j, hgk, rfl, hj, hbl⟩ := hrel
    have HGK := Lib.hid hgk
    clear hgk
    by_cases hlt : j < fs.length
    · have hcc : decide (j < fs.length) = true := decide_eq_true hlt
      have hfl := hf.below hbl
      obtain ⟨b, off, B, cb, rfl, hbb, c0, c1, c2, hrw, hwc, hcbm⟩ := hfl.at_ j hlt
      have hft := hfl.take j (by omega)
      have hk := HG.out.key j hlt
      have h1 := HG.out.one j hlt
      have hfw := HG.out.few j hlt
      have hcr := HG.out.crew j hlt
      have htl : (fs.take j).length = j := by rw [List.length_take]; omega
      obtain ⟨s, hs⟩ : ∃ s : ByteArray, s = ⟨fs[j].key.toArray⟩ := ⟨_, rfl⟩
      have hsd : s.data.toList = fs[j].key := by rw [hs]
      have hss : s.size ≤ 140737488351232 := by
        have h2 : s.data.toList.length = s.size := by rw [Array.length_toList]; rfl
        rw [hsd] at h2; omega
      rw [← hs] at c0
      rw [← hsd] at hk h1
      generalize fs[j].lead = ld at *
      generalize fs[j].wait = wt at *
      have hj0 : (0 : Int) ≤ (j : Int) := by omega
      have hj1 : (j : Int) < (fs.length : Int) := by omega
      have hjc : (j : Int) ≤ (c : Int) := by omega
      have HK := Lib.hid hk
      have HT := Lib.hid htl
      have H1 := Lib.hid h1
      have HCR := Lib.hid hcr
      have hP := Arr.new wr 31 [.string s, .int .i64 ld, .slice B wt.length cb]
      have hb1 := hbl.alloc hbl.size (.cells #[.string s, .int .i64 ld, .slice B wt.length cb] 31)
      have hft1 : Fls (wr.alloc (.cells #[.string s, .int .i64 ld, .slice B wt.length cb] 31)) (some ⟨b, off, none⟩) (fs.take j) := hft.below ((Below.refl _ _).alloc (Nat.le_refl _) _)
      have hrw1 := hrw.alloc (.cells #[.string s, .int .i64 ld, .slice B wt.length cb] 31)
      have hP' : Arr (wr.alloc (.cells #[.string s, .int .i64 ld, .slice B wt.length cb] 31)) wr.heap.size 31 [.string s, .int .i64 ld, .slice B wt.length cb] := hP
      clear hk h1 hcr hs hsd htl hft hrw hfl hP
      repeat' ((fail_if_success at_builtin); (fail_if_success at_make); (first | go_values | go_skip | go_guarded | go_step | go_upon | go_back))
      generalize wr.alloc (.cells #[.string s, .int .i64 ld, .slice B wt.length cb] 31) = w1 at *
      generalize wr.heap.size = gp at *
      refine ((hCheck_at 0 rfl HK.out.1 w1 hss)).mono ?_; rintro e_ w2 ⟨rfl, hb2⟩; dsimp only
      have hb12 := hb1.trans (hb2.mono hb1.size)
      have hP2 := hP'.below hb2
      have hft2 := hft1.below hb2
      have hrw2 := hrw1.below hb2
      have f0 := hP2.cell (k := 0) rfl
      have f2 := hP2.cell (k := 2) rfl
      clear c0 c1 c2
      repeat' ((fail_if_success at_builtin); (fail_if_success at_make); (first | go_values | go_skip | go_guarded | go_step | go_upon | go_back))
      --HELD
      refine wp_region_held_drew (S := (fun w' => w'.cell? ⟨gp, 0, none⟩ = some (.string s))) (by kernel_rfl) ?_ (fun hHeld => ?_)
      · exact (hP2.drew).cell (k := 0) rfl
      have hB := (Below.refl w2.heap.size w2).drew
      generalize w2.drew = wn0 at *
      refine wpAnyH_take (i := 0) (oi := _) (v := ?_) rfl (by kernel_rfl) (by kernel_rfl) (by kernel_rfl) (fun _ _ _ h => h) (Or.inl ⟨by rfl, ?_⟩) (by assumption) ?_
      rotate_left
      · (intro w hSw; (try dsimp only at hSw); go_simp; try (with_reducible rfl))
      try simp only [List.getElem_toArray, List.getElem_cons_zero, List.getElem_cons_succ, Act.put, List.setIfInBounds_toArray, List.set_cons_zero, List.set_cons_succ]
      refine wpAnyH_take (i := 1) (oi := _) (v := ?_) rfl (by kernel_rfl) (by kernel_rfl) (by kernel_rfl) (fun _ _ _ h => h) (Or.inl ⟨by rfl, ?_⟩) (by assumption) ?_
      rotate_left
      · (intro w hSw; (try dsimp only at hSw); go_simp; try (with_reducible rfl))
      try simp only [List.getElem_toArray, List.getElem_cons_zero, List.getElem_cons_succ, Act.put, List.setIfInBounds_toArray, List.set_cons_zero, List.set_cons_succ]
      refine wpAnyH_take (i := 2) (oi := _) (v := ?_) rfl (by kernel_rfl) (by kernel_rfl) (by kernel_rfl) (fun _ _ _ h => h) (Or.inl ⟨by rfl, ?_⟩) (by assumption) ?_
      rotate_left
      · (intro w hSw; (try dsimp only at hSw); go_simp; try (with_reducible rfl))
      try simp only [List.getElem_toArray, List.getElem_cons_zero, List.getElem_cons_succ, Act.put, List.setIfInBounds_toArray, List.set_cons_zero, List.set_cons_succ]
      refine wpAnyH_take (i := 3) (oi := _) (v := ?_) rfl (by kernel_rfl) (by kernel_rfl) (by kernel_rfl) (fun _ _ _ h => h) (Or.inl ⟨by rfl, ?_⟩) (by assumption) ?_
      rotate_left
      · (intro w hSw; (try dsimp only at hSw); go_simp; try (with_reducible rfl))
      try simp only [List.getElem_toArray, List.getElem_cons_zero, List.getElem_cons_succ, Act.put, List.setIfInBounds_toArray, List.set_cons_zero, List.set_cons_succ]
      refine wpAnyH_take (i := 4) (oi := _) (v := ?_) rfl (by kernel_rfl) (by kernel_rfl) (by kernel_rfl) (fun _ _ _ h => h) (Or.inl ⟨by rfl, ?_⟩) (by assumption) ?_
      rotate_left
      · (intro w hSw; (try dsimp only at hSw); go_simp; try (with_reducible rfl))
      try simp only [List.getElem_toArray, List.getElem_cons_zero, List.getElem_cons_succ, Act.put, List.setIfInBounds_toArray, List.set_cons_zero, List.set_cons_succ]
      refine wpAnyH_ready (rs := [5]) (by kernel_rfl) (by simp) ?_
      refine AllReadyH.cons (o := _) rfl (fun K hK => ?_) ?_
      ·
        have hfi := Find_ok (some ⟨b, off, none⟩) c (fs.take j) s wn0 (by rw [HT.out]; omega) (hft2.below hB)
        rw [H1.out, HT.out] at hfi
        go_simp
        refine (hfi).mono ?_
        rintro e5 w5 ⟨rfl, hb5⟩
        dsimp only
        refine outG hK ?_ (Below wn0.heap.size wn0) (fun W => True) ?_ ?_ (fun wn1 hHeld hst hnew => ?_)
        · (exact ((hP2.below hB).below hb5).cell (k := 0) rfl)
        · (exact hb5)
        · (trivial)
        have hB := hB.trans (hst.mono hB.size)
        clear hst
        clear hK K
        try simp only [List.getElem_toArray, List.getElem_cons_zero, List.getElem_cons_succ, Act.put, List.setIfInBounds_toArray, List.set_cons_zero, List.set_cons_succ]
        refine wpAnyH_take (i := 6) (oi := _) (v := ?_) rfl (by kernel_rfl) (by kernel_rfl) (by kernel_rfl) (fun _ _ _ h => h) (Or.inl ⟨by rfl, ?_⟩) (by assumption) ?_
        rotate_left
        · (intro w hSw; (try dsimp only at hSw); go_simp; try (with_reducible rfl))
        try simp only [List.getElem_toArray, List.getElem_cons_zero, List.getElem_cons_succ, Act.put, List.setIfInBounds_toArray, List.set_cons_zero, List.set_cons_succ]
        refine wpAnyH_take (i := 7) (oi := _) (v := ?_) rfl (by kernel_rfl) (by kernel_rfl) (by kernel_rfl) (fun _ _ _ h => h) (Or.inl ⟨by rfl, ?_⟩) (by assumption) ?_
        rotate_left
        · (intro w hSw; (try dsimp only at hSw); go_simp; try (with_reducible rfl))
        try simp only [List.getElem_toArray, List.getElem_cons_zero, List.getElem_cons_succ, Act.put, List.setIfInBounds_toArray, List.set_cons_zero, List.set_cons_succ]
        refine wpAnyH_take (i := 8) (oi := _) (v := ?_) rfl (by kernel_rfl) (by kernel_rfl) (by kernel_rfl) (fun _ _ _ h => h) (Or.inl ⟨by rfl, ?_⟩) (by assumption) ?_
        rotate_left
        · (intro w hSw; (try dsimp only at hSw); go_simp; try (with_reducible rfl))
        try simp only [List.getElem_toArray, List.getElem_cons_zero, List.getElem_cons_succ, Act.put, List.setIfInBounds_toArray, List.set_cons_zero, List.set_cons_succ]
        refine wpAnyH_take (i := 9) (oi := _) (v := ?_) rfl (by kernel_rfl) (by kernel_rfl) (by kernel_rfl) (fun _ _ _ h => h) (Or.inl ⟨by rfl, ?_⟩) (by assumption) ?_
        rotate_left
        · (intro w hSw; (try dsimp only at hSw); go_simp; try (with_reducible rfl))
        try simp only [List.getElem_toArray, List.getElem_cons_zero, List.getElem_cons_succ, Act.put, List.setIfInBounds_toArray, List.set_cons_zero, List.set_cons_succ]
        refine wpAnyH_take (i := 10) (oi := _) (v := ?_) rfl (by kernel_rfl) (by kernel_rfl) (by kernel_rfl) (fun _ _ _ h => h) (Or.inl ⟨by rfl, ?_⟩) (by assumption) ?_
        rotate_left
        · (intro w hSw; (try dsimp only at hSw); go_simp; try (with_reducible rfl))
        try simp only [List.getElem_toArray, List.getElem_cons_zero, List.getElem_cons_succ, Act.put, List.setIfInBounds_toArray, List.set_cons_zero, List.set_cons_succ]
        refine wpAnyH_done (by kernel_rfl) ?_ _
        clear hHeld
        have hP5 := hP2.below hB
        have hrw5 := hrw2.below hB
        have hb15 := hb12.trans (hB.mono hb12.size)
        have f0 := hP5.cell (k := 0) rfl
        have f1 := hP5.cell (k := 1) rfl
        have f2 := hP5.cell (k := 2) rfl
        have e5 : decide ((5 : Int) < (wt.length : Int)) = false := decide_eq_false (by omega)
        have e5' : decide (5 < wt.length) = false := decide_eq_false (by omega)
        clear hP2 hft2 hrw2 hb12 hB
        dsimp only [Exit.then]
        repeat' ((fail_if_success at_builtin); (fail_if_success at_make); (first | go_values | go_skip | go_guarded | go_step | go_upon | go_back))
        refine ((crew_ok s ld B cb wt wn1 (by omega) hrw5)).mono ?_; rintro e_ w6 ⟨v6, rfl, ho6, hb6⟩; dsimp only
        have hb16 := hb15.trans (hb6.mono hb15.size)
        obtain ⟨A6, c6, rfl, hc6, hr6⟩ := Rd.of_own' ho6
        have hl6 : (ld :: wt).length = wt.length + 1 := rfl
        obtain ⟨l6, hl6e⟩ : ∃ l6, l6 = ld :: wt := ⟨_, rfl⟩
        rw [← hl6e] at hr6 hl6
        have HCR6 := Lib.hid (show CrewOk l6 from by rw [hl6e]; exact HCR.out)
        have hcm6 : c6 ≤ maxLen := by
          rcases ho6.2 with ⟨h1, h2⟩ | ⟨_, cap, _, h1, _, _, _, h2, _⟩
          · omega
          · injection h1 with _ _ h3; subst h3; exact h2
        have hc63 : (c6 : Int) ≤ 9223372036854775807 := by unfold maxLen at hcm6; omega
        obtain ⟨m6, hm6⟩ : ∃ m6, m6 = wt.length + 1 := ⟨_, rfl⟩
        rw [← hm6] at hl6 hr6 hc6 ⊢
        have hm66 : m6 ≤ 6 := by omega
        clear ho6 hl6e hP5 hrw5 f0 f1 f2 hm6
        repeat' ((fail_if_success at_builtin); (fail_if_success at_make); (first | go_values | go_skip | go_guarded | go_step | go_upon | go_back))
        go_loopg [9, 10, 46] m6 (fun gn a b i wr => ∃ q : Nat, gn = m6 - q ∧ i = .int .i64 q ∧ q ≤ m6 ∧ Below w6.heap.size w6 wr)
        case atStart => exact ⟨0, rfl, rfl, by omega, Below.refl _ _⟩
        case round =>
          obtain ⟨q, hgq, rfl, hq, hbq⟩ := hrel
          have HGQ := Lib.hid hgq
          clear hgq
          have hb1q := hb16.trans (hbq.mono hb16.size)
          by_cases hqt : q < m6
          · have hqq : decide (q < m6) = true := decide_eq_true hqt
            have hql : q < l6.length := by omega
            obtain ⟨b6, off6, rfl, hbb6, hcell⟩ := (hr6.below hbq).2 (by omega)
            have cx := hcell q (.int .i64 l6[q]) (by rw [ins, List.getElem?_map, List.getElem?_eq_getElem hql]; rfl)
            obtain ⟨hw1, hw2⟩ := HCR6.out q hql
            have hrt := (hr6.below hbq).pre (k := q) (by omega)
            rw [Nat.mul_one, show (ins l6).take q = ins (l6.take q) by simp [ins]] at hrt
            have htq : (l6.take q).length = q := by rw [List.length_take]; omega
            have hwho := who_ok l6[q] wr
            rw [show decide (1 ≤ l6[q] ∧ l6[q] ≤ 1000) = true by simpa using hw1] at hwho
            have hcon := Contains_ok (some ⟨b6, off6, none⟩) c6 (l6.take q) l6[q] wr (by omega) (by rw [htq]; exact hrt)
            rw [hw2, htq] at hcon
            generalize l6[q] = z at *
            have HWH := Lib.hid hwho
            have HCO := Lib.hid hcon
            have hq0 : (0 : Int) ≤ (q : Int) := by omega
            have hq1 : (q : Int) < (m6 : Int) := by omega
            have hqc : (q : Int) ≤ (c6 : Int) := by omega
            clear hcell hw1 hw2 hrt htq hwho hcon
            repeat' ((fail_if_success at_builtin); (fail_if_success at_make); (first | go_values | go_skip | go_guarded | go_step | go_upon | go_back))
            refine ((HWH.out)).mono ?_; rintro e_ _ ⟨rfl, rfl⟩; dsimp only
            repeat' ((fail_if_success at_builtin); (fail_if_success at_make); (first | go_values | go_skip | go_guarded | go_step | go_upon | go_back))
            refine ((HCO.out)).mono ?_; rintro e_ _ ⟨rfl, rfl⟩; dsimp only
            repeat' ((fail_if_success at_builtin); (fail_if_success at_make); (first | go_values | go_skip | go_guarded | go_step | go_upon | go_back))
            go_roundg (m6 - (q + 1))
            case measure => have := HGQ.out; omega
            case rel => exact ⟨q + 1, rfl, by go_num, by omega, hbq⟩
          · obtain rfl : q = m6 := by omega
            have hqq : decide (q < q) = false := by simp
            repeat' ((fail_if_success at_builtin); (fail_if_success at_make); (first | go_values | go_skip | go_guarded | go_step | go_upon | go_back))
            go_roundg (fs.length - (j + 1))
            case measure => have := HGK.out; omega
            case rel => exact ⟨j + 1, rfl, by go_num, by omega, hb1q⟩
      exact AllReadyH.nil
      --HELDEND
    · obtain rfl : j = fs.length := by omega
      have hcc : decide (fs.length < fs.length) = false := by simp
      repeat' ((fail_if_success at_builtin); (fail_if_success at_make); (first | go_values | go_skip | go_guarded | go_step | go_upon | go_back))
      go_ret
      exact ⟨rfl, hbl⟩
end Go.Proofs.Ytefhbgbhknobjaa
