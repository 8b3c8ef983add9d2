/- action.Decode. Conditions: the sizes. -/
import Derived.Test.YtkfipkmkmhkfaaaActP
import Derived.Laws.ResultCell
namespace Go.Proofs.Ytkfipkmkmhkfaaa
open Go.RowKit
set_option linter.unusedVariables false
set_option linter.unusedSimpArgs false
set_option maxRecDepth 100000

theorem CutA_ok (A : Option Addr) (n c g : Nat) (l : List UInt8) (w : World) (hl : l.length = n) (hc : n ≤ c) (hr : Rd w 1 A n (bys l)) (h2 : Rd w 1 (some ⟨g, 0, none⟩) 3 (bys [65, 65, 49])) :
    Calls Try.prog 30 #[.slice A n c, .slice (some ⟨g, 0, none⟩) 3 3] w fun e w' => (∃ A' c', e = .returned (.tuple #[.slice A' (if [65, 65, 49].isPrefixOf l then (l.drop 3).length else n) c', .bool ([65, 65, 49].isPrefixOf l)]) ∧
      ([65, 65, 49].isPrefixOf l = true → Rd w 1 A' (l.drop 3).length (bys (l.drop 3)) ∧ (l.drop 3).length ≤ c' ∧ c' ≤ c ∧ Moved A A' w.heap.size (l.drop 3))) ∧ w = w' := by
  rcases Nat.eq_zero_or_pos n with h0 | h0
  · subst h0
    obtain rfl : l = [] := List.eq_nil_of_length_eq_zero hl
    refine (Try.bytes_CutPrefix_e1 A (some ⟨g, 0, none⟩) c 3 3 (by omega) w).mono fun e w' h => ⟨⟨A, c, ?_, fun h => by simp at h⟩, h.2.symm⟩
    rw [h.1]; rfl
  · obtain ⟨b, off, rfl, hb, hcell⟩ := hr.2 h0
    obtain ⟨b2, o2, e2, hb2, hcell2⟩ := h2.2 (by omega)
    cases e2
    refine (Try.bytes_CutPrefix b off n c g 0 3 3 (l.map fun x => (x.toNat : Int)) [65, 65, 49] w (by simpa using hl) rfl hc (fun i hi => ?_) (fun i hi => ?_)).mono fun e w' h => ⟨?_, h.2.symm⟩
    · refine hcell i _ ?_
      have : i < l.length := by omega
      simp [bys, this]
    · refine hcell2 i _ ?_
      match i, hi with
      | 0, _ => rfl
      | 1, _ => rfl
      | 2, _ => rfl
    · have hbo : Lib.bytesOf (l.map fun x => (x.toNat : Int)) = l := by
        simp only [Lib.bytesOf, List.map_map]
        conv => rhs; rw [← List.map_id l]
        exact List.map_congr_left fun a _ => by simp
      have hb3 : Lib.bytesOf [65, 65, 49] = [65, 65, 49] := rfl
      obtain ⟨h1, _⟩ := h
      rw [Lib.bytesTrimPrefix, hbo, hb3, Lib.hasPrefix] at h1
      by_cases hp : [65, 65, 49].isPrefixOf l = true
      · rw [hp, if_pos rfl, Lib.sliceFrom] at h1
        have h3 : 3 ≤ l.length := by
          have := List.IsPrefix.length_le (List.isPrefixOf_iff_prefix.1 hp); simpa using this
        have hr' := hr.cutAt (k := 3) (c := c) (by omega) hc
        rw [bys_drop] at hr'
        have hdl : (l.drop 3).length = n - 3 := by rw [List.length_drop, hl]
        refine ⟨_, c - 3, ?_, fun _ => ⟨by rw [hdl]; exact hr', by omega, by omega, ?_⟩⟩
        · rw [h1, hp, if_pos rfl, hdl]; rfl
        · intro b' o' e' _
          split at e'
          · cases e'; exact .inl ⟨_, rfl⟩
          · cases e'; exact .inl ⟨_, rfl⟩
      · have hp : [65, 65, 49].isPrefixOf l = false := Bool.eq_false_iff.2 hp
        rw [hp, if_neg (by decide)] at h1
        refine ⟨some ⟨b, off, none⟩, c, ?_, fun h => by rw [hp] at h; cases h⟩
        rw [h1, hp]; rfl


theorem results_cell_row_tmp {P : Program} {fn : Func} {p u : Tmp} {ty : TypeId} (h : fn.results = #[.cell p ty, .tmp u]) (tmps : Array Value) (w : World) (g : Nat) (t : TypeId) (cs : Array Value) (fr : Nat × Nat) (d : TypeDesc)
    (hp : tmps.getD p undef = .pointer (some ⟨g, 0, none⟩)) (hg : w.heap[g]? = some (.cells cs t fr))
    (hu : P.underlying ty = some d) (hd : (match d with | .struct _ | .array _ _ => true | _ => false) = true) (hi : (P.info? ty).map (·.size) = some cs.size) :
    (results fn tmps).run P w = .ok (.tuple #[.agg cs, tmps.getD u undef]) w := by
  rw [results_cell_tmp h, hp]
  simp [asAddr, run_loadVar_row w g t ty cs fr d hg hu hd hi]

/-- an action as a value -/
def actV (c : List UInt8) (v : Value) : Value := .agg #[.string ⟨c.toArray⟩, v]

theorem fine_parts {x : List PartP} (h : chk x = 0) : PartsOk x := fun p hp => by
  have h := (chk_zero h).2 p hp
  have h1 := nameC_zero h.1
  have h2 : p.dig.length = 64 := by
    have := h.2.1; unfold hexC at this; split at this
    · cases this
    · omega
  exact ⟨by omega, by omega, by have := h.2.2; omega⟩
theorem Arr.put2 {W : World} {g : Nat} {e : TypeId} {a b : Value} (h : Arr W g e [a, b]) (x y : Value) : Arr ((W.setCell ⟨g, 0, none⟩ x).setCell ⟨g, 1, none⟩ y) g e [x, y] :=
  (h.set (k := 0) (by simp) x).set (k := 1) (by simp) y
theorem Below.put2 {B : Nat} {a W : World} {g : Nat} (h : Below B a W) (hg : B ≤ g) (x y : Value) : Below B a ((W.setCell ⟨g, 0, none⟩ x).setCell ⟨g, 1, none⟩ y) :=
  Below.setCell (Below.setCell h hg _) hg _

set_option maxHeartbeats 4000000 in
theorem ADecode_ok (A : Option Addr) (n c : Nat) (l : List UInt8) (w : World) (hl : l.length = n) (hc : n ≤ c) (hm : c ≤ maxLen) (hr : Rd w 1 A n (bys l)) :
    Calls Try.prog 14 #[.slice A n c] w fun e w' => ∃ v, e = .returned (.tuple #[actV (decA l).1 v, .int .i64 ((decA l).2.2 : Nat)]) ∧ w'.ownsRow w.heap.size 45 3 v (decA l).2.1.length (pcs (decA l).2.1) ∧ Below w.heap.size w w' := by
  have HL := Lib.hid hl
  have hA0 : Arr (w.alloc (.cells #[.string ⟨#[]⟩, .slice none 0 0] 26)) w.heap.size 26 [.string ⟨#[]⟩, .slice none 0 0] := Arr.new w 26 _
  have hb0 := (Below.refl w.heap.size w).alloc (Nat.le_refl _) (.cells #[.string ⟨#[]⟩, .slice none 0 0] 26)
  have hr0 := hr.alloc (.cells #[.string ⟨#[]⟩, .slice none 0 0] 26)
  by_cases hbig : 2000 < n
  · have hfin : decA l = ([], [], 1) := by rw [decA, if_pos (by omega)]
    have hcm : n ≤ 9223372036854775807 := by unfold maxLen at hm; omega
    rw [hfin]
    clear hfin hl
    go_enter Try.func14, Try.ntmps14
    repeat' ((fail_if_success at_builtin); (fail_if_success at_make); (first | go_values | go_skip | go_guarded | go_step | go_upon | go_back))
    refine bodyPost_ret (results_cell_row_tmp rfl _ _ w.heap.size _ _ _ _ (by rfl) hA0 Try.underlying26 rfl (by kernel_rfl)) rfl ⟨.slice none 0 0, rfl, World.ownsRow_nil _ _ _ _, hb0⟩
  have hfin1 : decA l = if [65, 65, 49].isPrefixOf l = false then ([], [], 3) else
      if (rdTxt (l.drop 3)).2.2 ≠ 0 then ([], [], (rdTxt (l.drop 3)).2.2) else
      if (decL (rdTxt (l.drop 3)).2.1).2 ≠ 0 then ([], [], (decL (rdTxt (l.drop 3)).2.1).2) else
      if actC (rdTxt (l.drop 3)).1 (decL (rdTxt (l.drop 3)).2.1).1 ≠ 0 then ([], [], actC (rdTxt (l.drop 3)).1 (decL (rdTxt (l.drop 3)).2.1).1) else
      ((rdTxt (l.drop 3)).1, (decL (rdTxt (l.drop 3)).2.1).1, 0) := by rw [decA, if_neg (by omega)]
  generalize decA l = res at *
  obtain ⟨w0, hw0⟩ : ∃ w0, w0 = w.alloc (.cells #[.string ⟨#[]⟩, .slice none 0 0] 26) := ⟨_, rfl⟩
  rw [← hw0] at hA0 hb0 hr0
  have hs0 : w0.heap.size = w.heap.size + 1 := by rw [hw0]; exact World.size_alloc _ _
  have hb1 := hb0.alloc hb0.size (.cells #[.int .u8 65, .int .u8 65, .int .u8 49] 5 (3, 4))
  have hA1 := hA0.alloc (.cells #[.int .u8 65, .int .u8 65, .int .u8 49] 5 (3, 4))
  have hr1 := hr0.alloc (.cells #[.int .u8 65, .int .u8 65, .int .u8 49] 5 (3, 4))
  have hq1 : Rd (w0.alloc (.cells #[.int .u8 65, .int .u8 65, .int .u8 49] 5 (3, 4))) 1 (some ⟨w0.heap.size, 0, none⟩) 3 (bys [65, 65, 49]) :=
    ⟨rfl, fun _ => ⟨_, 0, rfl, by simp, fun j u hu => by rw [Nat.zero_add]; exact fz_cell (World.alloc_heap_new w0 _) hu⟩⟩
  have hkc := fun (w : World) (C : Array Value) (n c : Nat) => Lib.run_convert_bytes_const (P := Try.prog) w 35 5 C n c Try.underlying35 Try.underlying5
  have hkc0 := hkc w0 #[.int .u8 65, .int .u8 65, .int .u8 49] 3 3
  rw [hs0, hw0] at hkc0
  obtain ⟨w1, hw1⟩ : ∃ w1, w1 = w0.alloc (.cells #[.int .u8 65, .int .u8 65, .int .u8 49] 5 (3, 4)) := ⟨_, rfl⟩
  rw [← hw1] at hb1 hA1 hr1 hq1
  have HCP := Lib.hid (CutA_ok A n c w0.heap.size l w1 hl hc hr1 hq1)
  rw [hs0] at HCP
  have HW1 := Lib.hid (show (w.alloc (.cells #[.string ⟨#[]⟩, .slice none 0 0] 26)).alloc (.cells #[.int .u8 65, .int .u8 65, .int .u8 49] 5 (3, 4)) = w1 from by rw [hw1, hw0])
  have HF1 := Lib.hid hfin1
  obtain ⟨g, hg⟩ : ∃ g, g = w.heap.size := ⟨_, rfl⟩
  have hgw : w.heap.size ≤ g := by omega
  have HG := Lib.hid hg
  clear hfin1 hl hq1 hr0 hw1 hw0 hb0 hA0 hkc hs0
  generalize hpre : [65, 65, 49].isPrefixOf l = pre at HCP HF1
  go_enter Try.func14, Try.ntmps14
  repeat' ((fail_if_success at_builtin); (fail_if_success at_make); (first | go_values | go_skip | go_guarded | go_step | go_upon | go_back))
  rw [HW1.out]
  rw [← HG.out] at hA1 HCP ⊢
  clear hg hkc0
  refine ((HCP.out)).mono ?_; rintro e_ _ ⟨⟨A1, c1, rfl, hcut⟩, rfl⟩; dsimp only
  cases pre with
  | false =>
    have hres : res = ([], [], 3) := by rw [HF1.out, if_pos rfl]
    have HR := Lib.hid hres
    clear hres hpre
    have hA9 := hA1.put2 (.string ⟨#[]⟩) (.slice none 0 0)
    have hB9 := Below.put2 hb1 hgw (.string ⟨#[]⟩) (.slice none 0 0)
    have z0 := hA1.frozen 0
    have z1 := hA1.frozen 1
    have y0 := hA1.cell (k := 0) rfl
    have y1 := hA1.cell (k := 1) rfl
    have y2 := (hA1.set (k := 0) (by simp) (.string ⟨#[]⟩)).cell (k := 1) rfl
    have y3 := (hA1.set (k := 0) (by simp) (.string ⟨#[]⟩)).frozen 1
    repeat' ((fail_if_success at_builtin); (fail_if_success at_make); (first | go_values | go_skip | go_guarded | go_step | go_upon | go_back))
    refine bodyPost_ret (results_cell_row_tmp rfl _ _ g _ _ _ _ (by rfl) hA9 Try.underlying26 rfl (by kernel_rfl)) rfl ⟨.slice none 0 0, ?_, ?_, hB9⟩
    · rw [HR.out]; rfl
    · rw [HR.out]; exact World.ownsRow_nil _ _ _ _
  | true =>
    obtain ⟨hrr, hcr, hcrc, hmr⟩ := hcut rfl
    have hdl : (l.drop 3).length ≤ 2000 := by rw [List.length_drop, HL.out]; omega
    simp only [if_true]
    have HF2 := Lib.hid (show res = if (rdTxt (l.drop 3)).2.2 ≠ 0 then ([], [], (rdTxt (l.drop 3)).2.2) else
      if (decL (rdTxt (l.drop 3)).2.1).2 ≠ 0 then ([], [], (decL (rdTxt (l.drop 3)).2.1).2) else
      if actC (rdTxt (l.drop 3)).1 (decL (rdTxt (l.drop 3)).2.1).1 ≠ 0 then ([], [], actC (rdTxt (l.drop 3)).1 (decL (rdTxt (l.drop 3)).2.1).1) else
      ((rdTxt (l.drop 3)).1, (decL (rdTxt (l.drop 3)).2.1).1, 0) from by rw [HF1.out, if_neg (by decide)])
    clear HF1 HCP hcut hpre hr1
    generalize l.drop 3 = L at *
    obtain ⟨t, r, er, hrd⟩ : ∃ t r er, rdTxt L = (t, r, er) := ⟨_, _, _, rfl⟩
    have hrl := rdTxt_rest L
    have htl : t.length ≤ 2000 := by
      have h := txtR_name L 0
      rw [txtR, if_neg (by decide), hrd] at h
      dsimp only at h; omega
    rw [hrd] at HF2 hrl
    dsimp only at HF2 hrl
    have HT := Lib.hid (ReadText_at (A := A1) (n := L.length) (c := c1) (w := w1) (er : Int) rfl hrd rfl hcr (by omega) hrr)
    clear hrd
    repeat' ((fail_if_success at_builtin); (fail_if_success at_make); (first | go_values | go_skip | go_guarded | go_step | go_upon | go_back))
    refine ((HT.out)).mono ?_; rintro e_ w2 ⟨A2, c2, rfl, ho2, hb2⟩; dsimp only
    have hb12 := hb1.trans (hb2.mono hb1.size)
    have hA2 := hA1.below hb2
    by_cases her : er = 0
    · subst her
      rw [show ((0 : Nat) : Int) = 0 from rfl]
      have HF3 := Lib.hid (show res = if (decL r).2 ≠ 0 then ([], [], (decL r).2) else if actC t (decL r).1 ≠ 0 then ([], [], actC t (decL r).1) else (t, (decL r).1, 0) from by rw [HF2.out, if_neg (by decide)])
      have hcm2 : c2 ≤ maxLen := by
        rcases ho2.own.2 with ⟨h1, h2⟩ | ⟨_, cap, _, h1, _, _, _, h2, _⟩
        · injection h1 with _ _ h3; subst h3; exact Nat.zero_le _
        · injection h1 with _ _ h3; subst h3; exact h2
      have HD := Decode_ok A2 r.length c2 r w2 rfl ho2.cap hcm2 ho2.rd
      have hinv := fun (x : List PartP) => decL_inv (b := r) (x := x)
      generalize decL r = D at *
      obtain ⟨x, e2⟩ := D
      dsimp only at HF3 HD
      clear HF2 HT hA1 hb1 hb2 ho2
      repeat' ((fail_if_success at_builtin); (fail_if_success at_make); (first | go_values | go_skip | go_guarded | go_step | go_upon | go_back))
      refine ((HD)).mono ?_; rintro e_ w3 ⟨v3, rfl, ho3, hb3⟩; dsimp only
      have hb13 := hb12.trans (hb3.mono hb12.size)
      have hA3 := hA2.below hb3
      by_cases he2 : e2 = 0
      · subst he2
        rw [show ((0 : Nat) : Int) = 0 from rfl]
        have hchk := (hinv x rfl).2
        have HF4 := Lib.hid (show res = if actC t x ≠ 0 then ([], [], actC t x) else (t, x, 0) from by rw [HF3.out, if_neg (by decide)])
        have ho3' := own_lower ho3 hb12.size
        have hneg : v3.ownBlock ≠ some g := fun h => by have := (ho3.lt g h).1; have := hA2.lt; omega
        obtain ⟨A3, c3, rfl, hc3, hr3⟩ := Rd.of_own' ho3
        obtain ⟨S, hS⟩ : ∃ S : ByteArray, S = ⟨t.toArray⟩ := ⟨_, rfl⟩
        have hSd : S.data.toList = t := by rw [hS]
        have hSs : S.size ≤ 140737488351232 := by
          have h2 : S.data.toList.length = S.size := by rw [Array.length_toList]; rfl
          rw [hSd] at h2; omega
        rw [← hS]
        have HS := Lib.hid hS
        have hP4 := Arr.new w3 26 [.string S, .slice A3 x.length c3]
        have hP4' : Arr (w3.alloc (.cells #[.string S, .slice A3 x.length c3] 26)) w3.heap.size 26 [.string S, .slice A3 x.length c3] := hP4
        have hA4 := hA3.alloc (.cells #[.string S, .slice A3 x.length c3] 26)
        have hb4 := hb13.alloc hb13.size (.cells #[.string S, .slice A3 x.length c3] 26)
        have hr4 := hr3.alloc (.cells #[.string S, .slice A3 x.length c3] 26)
        have ho4 := ho3'.alloc (.cells #[.string S, .slice A3 x.length c3] 26)
        have hx8 := (chk_zero hchk).1
        have HCK := ACheck_ok S A3 x.length c3 x _ hSs rfl hc3 (by omega) (fine_parts hchk) hr4
        rw [hSd] at HCK
        have HCK' := Lib.hid HCK
        clear hP4 hr3 hr4 HCK ho3 ho3' hA3 hA2 hb12 hb3 hinv hSd hS HF3
        repeat' ((fail_if_success at_builtin); (fail_if_success at_make); (first | go_values | go_skip | go_guarded | go_step | go_upon | go_back))
        generalize hg3 : w3.heap.size = g3 at *
        generalize w3.alloc (.cells #[.string S, .slice A3 x.length c3] 26) = w4 at *
        refine ((HCK'.out)).mono ?_; rintro e_ w5 ⟨rfl, hb5⟩; dsimp only
        have hb15 := hb4.trans (hb5.mono hb4.size)
        have hA5 := hA4.below hb5
        have hP5 := hP4'.below hb5
        have ho5 := own_below ho4 hb5
        by_cases hac : actC t x = 0
        · have hres : res = (t, x, 0) := by rw [HF4.out, if_neg (by simpa using hac)]
          have HR := Lib.hid hres
          have e6 : ((actC t x : Int) != 0) = false := by rw [bne_eq_false_iff_eq]; omega
          clear hres hac HCK'
          generalize actC t x = ac at *
          have hA9 := hA5.put2 (.string S) (.slice A3 x.length c3)
          have hB9 := Below.put2 hb15 hgw (.string S) (.slice A3 x.length c3)
          have ho9 := own_other (k := 1) (u := .slice A3 x.length c3) (own_other (k := 0) (u := .string S) ho5 hneg) hneg
          have z0 := hA5.frozen 0
          have z1 := hA5.frozen 1
          have y0 := hA5.cell (k := 0) rfl
          have y1 := hA5.cell (k := 1) rfl
          have y2 := (hA5.set (k := 0) (by simp) (.string S)).cell (k := 1) rfl
          have y3 := (hA5.set (k := 0) (by simp) (.string S)).frozen 1
          have p0 := hP5.cell (k := 0) rfl
          have p1 := hP5.cell (k := 1) rfl
          repeat' ((fail_if_success at_builtin); (fail_if_success at_make); (first | go_values | go_skip | go_guarded | go_step | go_upon | go_back))
          refine bodyPost_ret (results_cell_row_tmp rfl _ _ g _ _ _ _ (by rfl) hA9 Try.underlying26 rfl (by kernel_rfl)) rfl ⟨.slice A3 x.length c3, ?_, ?_, hB9⟩
          · rw [HR.out, actV, ← HS.out]; rfl
          · rw [HR.out]; exact ho9
        · have hres : res = ([], [], actC t x) := by rw [HF4.out, if_pos hac]
          have HR := Lib.hid hres
          have e6 : ((actC t x : Int) != 0) = true := by rw [bne_iff_ne]; omega
          clear hres hac HCK'
          generalize actC t x = ac at *
          have hA9 := hA5.put2 (.string ⟨#[]⟩) (.slice none 0 0)
          have hB9 := Below.put2 hb15 hgw (.string ⟨#[]⟩) (.slice none 0 0)
          have z0 := hA5.frozen 0
          have z1 := hA5.frozen 1
          have y0 := hA5.cell (k := 0) rfl
          have y1 := hA5.cell (k := 1) rfl
          have y2 := (hA5.set (k := 0) (by simp) (.string ⟨#[]⟩)).cell (k := 1) rfl
          have y3 := (hA5.set (k := 0) (by simp) (.string ⟨#[]⟩)).frozen 1
          repeat' ((fail_if_success at_builtin); (fail_if_success at_make); (first | go_values | go_skip | go_guarded | go_step | go_upon | go_back))
          refine bodyPost_ret (results_cell_row_tmp rfl _ _ g _ _ _ _ (by rfl) hA9 Try.underlying26 rfl (by kernel_rfl)) rfl ⟨.slice none 0 0, ?_, ?_, hB9⟩
          · rw [HR.out]; rfl
          · rw [HR.out]; exact World.ownsRow_nil _ _ _ _
      · have hres : res = ([], [], e2) := by rw [HF3.out, if_pos he2]
        have HR := Lib.hid hres
        have e6 : ((e2 : Int) != 0) = true := by rw [bne_iff_ne]; omega
        clear hres he2
        have hA9 := hA3.put2 (.string ⟨#[]⟩) (.slice none 0 0)
        have hB9 := Below.put2 hb13 hgw (.string ⟨#[]⟩) (.slice none 0 0)
        have z0 := hA3.frozen 0
        have z1 := hA3.frozen 1
        have y0 := hA3.cell (k := 0) rfl
        have y1 := hA3.cell (k := 1) rfl
        have y2 := (hA3.set (k := 0) (by simp) (.string ⟨#[]⟩)).cell (k := 1) rfl
        have y3 := (hA3.set (k := 0) (by simp) (.string ⟨#[]⟩)).frozen 1
        repeat' ((fail_if_success at_builtin); (fail_if_success at_make); (first | go_values | go_skip | go_guarded | go_step | go_upon | go_back))
        refine bodyPost_ret (results_cell_row_tmp rfl _ _ g _ _ _ _ (by rfl) hA9 Try.underlying26 rfl (by kernel_rfl)) rfl ⟨.slice none 0 0, ?_, ?_, hB9⟩
        · rw [HR.out]; rfl
        · rw [HR.out]; exact World.ownsRow_nil _ _ _ _
    · have hres : res = ([], [], er) := by rw [HF2.out, if_pos her]
      have HR := Lib.hid hres
      have e6 : ((er : Int) != 0) = true := by rw [bne_iff_ne]; omega
      clear hres her
      have hA9 := hA2.put2 (.string ⟨#[]⟩) (.slice none 0 0)
      have hB9 := Below.put2 hb12 hgw (.string ⟨#[]⟩) (.slice none 0 0)
      have z0 := hA2.frozen 0
      have z1 := hA2.frozen 1
      have y0 := hA2.cell (k := 0) rfl
      have y1 := hA2.cell (k := 1) rfl
      have y2 := (hA2.set (k := 0) (by simp) (.string ⟨#[]⟩)).cell (k := 1) rfl
      have y3 := (hA2.set (k := 0) (by simp) (.string ⟨#[]⟩)).frozen 1
      repeat' ((fail_if_success at_builtin); (fail_if_success at_make); (first | go_values | go_skip | go_guarded | go_step | go_upon | go_back))
      refine bodyPost_ret (results_cell_row_tmp rfl _ _ g _ _ _ _ (by rfl) hA9 Try.underlying26 rfl (by kernel_rfl)) rfl ⟨.slice none 0 0, ?_, ?_, hB9⟩
      · rw [HR.out]; rfl
      · rw [HR.out]; exact World.ownsRow_nil _ _ _ _
end Go.Proofs.Ytkfipkmkmhkfaaa
