/- order.of and order.Check. Conditions: the sizes. -/
import Derived.Test.YtdpedkgdobfemaaOrL
namespace Go.Proofs.Ytdpedkgdobfemaa
open Go.RowKit
set_option linter.unusedVariables false
set_option linter.unusedSimpArgs false
set_option maxRecDepth 100000

theorem res_cell_tmp3 {P : Program} {fn : Func} {p u : Tmp} {ty : TypeId} (h : fn.results = #[.cell p ty, .tmp u]) (tmps : Array Value) (w : World) (g : Nat) (t : TypeId) (cs : Array Value) (fr : Nat × Nat) (d : TypeDesc)
    (hp : tmps.getD p undef = .pointer (some ⟨g, 0, none⟩)) (hg : w.heap[g]? = some (.cells cs t fr))
    (hu : P.underlying ty = some d) (hd : (match d with | .struct _ | .array _ _ => true | _ => false) = true) (hi : (P.info? ty).map (·.size) = some cs.size) :
    (results fn tmps).run P w = .ok (.tuple #[.agg cs, tmps.getD u undef]) w := by
  have hp' : tmps[p]?.getD undef = .pointer (some ⟨g, 0, none⟩) := by simpa using hp
  simp [results, h, hp', asAddr, run_loadVar_row w g t ty cs fr d hg hu hd hi]
def fcs (f : FldP) : Array Value := #[.bool f.n, .bool f.dig, .bool f.data, .bool f.parts]
def OfAt (k : Nat) (w : World) : Prop := Calls Try.prog 27 #[.int .i64 k] w fun e w' => e = .returned (.tuple #[.agg (fcs (fOf k).1), .bool (fOf k).2]) ∧ Below w.heap.size w w'
set_option maxHeartbeats 4000000 in
theorem Of_small (k : Nat) (hk : k ≤ 14) (w : World) : OfAt k w := by
  have h : k = 0 ∨ k = 1 ∨ k = 2 ∨ k = 3 ∨ k = 4 ∨ k = 5 ∨ k = 6 ∨ k = 7 ∨ k = 8 ∨ k = 9 ∨ k = 10 ∨ k = 11 ∨ k = 12 ∨ k = 13 ∨ k = 14 := by omega
  clear hk
  unfold OfAt
  rcases h with rfl | rfl | rfl | rfl | rfl | rfl | rfl | rfl | rfl | rfl | rfl | rfl | rfl | rfl | rfl
  all_goals (
    go_enter Try.func27, Try.ntmps27
    repeat' ((fail_if_success at_builtin); (fail_if_success at_make); (first | go_values | go_skip | go_guarded | go_step | go_upon | go_back))
    refine bodyPost_ret (res_cell_tmp3 rfl _ _ w.heap.size _ _ _ _ (by rfl) (World.alloc_heap_new w _) Try.underlying61 rfl (by kernel_rfl)) rfl ⟨by rfl, (Below.refl _ _).alloc (Nat.le_refl _) _⟩)
set_option maxHeartbeats 4000000 in
theorem Of_ok (k : Nat) (w : World) : OfAt k w := by
  rcases Nat.lt_or_ge 14 k with hk | hk
  · unfold OfAt
    rw [fOf_big hk]
    have e1 : ((k : Int) == 1) = false := by rw [beq_eq_false_iff_ne]; omega
    have e2 : ((k : Int) == 2) = false := by rw [beq_eq_false_iff_ne]; omega
    have e3 : ((k : Int) == 3) = false := by rw [beq_eq_false_iff_ne]; omega
    have e4 : ((k : Int) == 4) = false := by rw [beq_eq_false_iff_ne]; omega
    have e5 : ((k : Int) == 5) = false := by rw [beq_eq_false_iff_ne]; omega
    have e6 : ((k : Int) == 6) = false := by rw [beq_eq_false_iff_ne]; omega
    have e7 : ((k : Int) == 7) = false := by rw [beq_eq_false_iff_ne]; omega
    have e8 : ((k : Int) == 8) = false := by rw [beq_eq_false_iff_ne]; omega
    have e9 : ((k : Int) == 9) = false := by rw [beq_eq_false_iff_ne]; omega
    have e10 : ((k : Int) == 10) = false := by rw [beq_eq_false_iff_ne]; omega
    have e11 : ((k : Int) == 11) = false := by rw [beq_eq_false_iff_ne]; omega
    have e12 : ((k : Int) == 12) = false := by rw [beq_eq_false_iff_ne]; omega
    have e13 : ((k : Int) == 13) = false := by rw [beq_eq_false_iff_ne]; omega
    have e14 : ((k : Int) == 14) = false := by rw [beq_eq_false_iff_ne]; omega
    clear hk
    go_enter Try.func27, Try.ntmps27
    repeat' ((fail_if_success at_builtin); (fail_if_success at_make); (first | go_values | go_skip | go_guarded | go_step | go_upon | go_back))
    refine bodyPost_ret (res_cell_tmp3 rfl _ _ w.heap.size _ _ _ _ (by rfl) (World.alloc_heap_new w _) Try.underlying61 rfl (by kernel_rfl)) rfl ⟨rfl, (Below.refl _ _).alloc (Nat.le_refl _) _⟩
  · exact Of_small k hk w

/-- an order as a value -/
def ordV (o : OrdP) (A : Option Addr) (c : Nat) (A' : Option Addr) (c' : Nat) : Value := .agg #[.int .i64 (o.kind : Int), .int .i64 (o.n : Int), .string ⟨o.dig.toArray⟩, .slice A o.data.length c, .slice A' o.parts.length c']
--OCHECK
/-- what Check answers once the form is fine -/
def rstC (fd : Bool) (n : Nat) (dig data : List UInt8) (parts : List PartP) : Nat := if 4000 < n then 4 else if fd = true ∧ hexC dig ≠ 0 then hexC dig else if 300 < data.length then 1 else chk parts
set_option maxHeartbeats 4000000 in
theorem OCheck_f0 (k n : Nat) (dig data : List UInt8) (parts : List PartP) (A A' : Option Addr) (c c' : Nat) (w : World) (hff : fOf k = (⟨false, false, true, false⟩, true)) (hs : dig.length ≤ 140737488351232) (hc : parts.length ≤ c') (hm : parts.length ≤ 9223372036854775807) (hok : PartsOk parts) (hr : Rd w 3 A' parts.length (pcs parts)) (h1 : n = 0) (h2 : dig = []) (h4 : parts = []) :
    Calls Try.prog 26 #[.agg #[.int .i64 (k : Int), .int .i64 (n : Int), .string ⟨dig.toArray⟩, .slice A data.length c, .slice A' parts.length c']] w fun e w' => e = .returned (.int .i64 (rstC false n dig data parts)) ∧ Below w.heap.size w w' := by
  obtain ⟨S, hS⟩ : ∃ S : ByteArray, S = ⟨dig.toArray⟩ := ⟨_, rfl⟩
  have hSd : S.data.toList = dig := by rw [hS]
  have hSs : S.size = dig.length := by rw [hS]; simp [ByteArray.size]
  rw [← hS]
  have e2 : S.toList.isEmpty = true := by rw [hS, h2, ByteArray.toList, ByteArray.toList.loop]; simp [ByteArray.size]
  have hof := Of_ok k (w.alloc (.cells #[.int .i64 (k : Int), .int .i64 (n : Int), .string S, .slice A data.length c, .slice A' parts.length c'] 28))
  unfold OfAt at hof
  rw [hff] at hof
  simp only [fcs] at hof
  have hb1 := (Below.refl w.heap.size w).alloc (Nat.le_refl _) (.cells #[.int .i64 (k : Int), .int .i64 (n : Int), .string S, .slice A data.length c, .slice A' parts.length c'] 28)
  have hr1 := hr.alloc (.cells #[.int .i64 (k : Int), .int .i64 (n : Int), .string S, .slice A data.length c, .slice A' parts.length c'] 28)
  have hA1 : Arr (w.alloc (.cells #[.int .i64 (k : Int), .int .i64 (n : Int), .string S, .slice A data.length c, .slice A' parts.length c'] 28)) w.heap.size 28 [.int .i64 (k : Int), .int .i64 (n : Int), .string S, .slice A data.length c, .slice A' parts.length c'] := Arr.new w 28 _
  have f0 := hA1.cell (k := 0) rfl
  have HOF := Lib.hid hof
  have HOK := Lib.hid hok
  have HCL := Lib.hid (And.intro hc hm)
  clear hof hff hS hr hok hc hm
  have e1 : ((n : Int) != 0) = false := by rw [h1]; rfl
  have hp0 : parts.length = 0 := by rw [h4]; rfl
  have HCK := fun w' (hw : Rd w' 3 A' parts.length (pcs parts)) => Lib.hid (Check_ok A' parts.length c' parts w' rfl HCL.out.1 HCL.out.2 HOK.out hw)
  have HRS : rstC false n dig data parts = if 4000 < n then 4 else if false = true ∧ hexC dig ≠ 0 then hexC dig else if 300 < data.length then 1 else chk parts := rfl
  generalize rstC false n dig data parts = R at *
  generalize data.length = dl at *
  generalize chk parts = CK at *
  have e4 : decide ((0 : Int) < (parts.length : Int)) = false := decide_eq_false (by omega)
  have e4' : decide (0 < parts.length) = false := decide_eq_false (by omega)
  have e5 : decide ((n : Int) < 0) = false := decide_eq_false (by omega)
  have HN0 := Lib.hid h1
  clear h1
  clear h2
  have HP0 := Lib.hid hp0
  clear h4 hp0
  have HSD := Lib.hid hSd
  have HSS := Lib.hid hSs
  have HSL := Lib.hid hs
  clear hSd hSs hs
  go_enter Try.func26, Try.ntmps26
  repeat' ((fail_if_success at_builtin); (fail_if_success at_make); (first | go_values | go_skip | go_guarded | go_step | go_upon | go_back))
  generalize w.alloc (.cells #[.int .i64 (k : Int), .int .i64 (n : Int), .string S, .slice A dl c, .slice A' parts.length c'] 28) = w1 at *
  obtain ⟨g, hg⟩ : ∃ g, g = w.heap.size := ⟨_, rfl⟩
  rw [← hg] at hA1 f0 ⊢
  have HG := Lib.hid hg
  clear hg
  refine ((HOF.out)).mono ?_; rintro e_ w2 ⟨rfl, hb2⟩; dsimp only
  have hB2 := Below.alloc (hb1.trans (hb2.mono hb1.size)) (hb1.trans (hb2.mono hb1.size)).size (.cells #[.bool false, .bool false, .bool true, .bool false] 61)
  have hA2 := (hA1.below hb2).alloc (.cells #[.bool false, .bool false, .bool true, .bool false] 61)
  have hr2 := (hr1.below hb2).alloc (.cells #[.bool false, .bool false, .bool true, .bool false] 61)
  have hF2 : Arr (w2.alloc (.cells #[.bool false, .bool false, .bool true, .bool false] 61)) w2.heap.size 61 [.bool false, .bool false, .bool true, .bool false] := Arr.new w2 61 _
  clear f0 hA1 hr1
  have f1 := hA2.cell (k := 1) rfl
  have f2 := hA2.cell (k := 2) rfl
  have f3 := hA2.cell (k := 3) rfl
  have f4 := hA2.cell (k := 4) rfl
  have hn : ¬ 4000 < n := by have := HN0.out; omega
  have e6 : decide ((4000 : Int) < (n : Int)) = false := decide_eq_false (by omega)
  rw [if_neg hn] at HRS
  rw [if_neg (fun h => by cases h.1)] at HRS
  by_cases ht : 300 < dl
  · have hres : R = 1 := by rw [HRS, if_pos ht]
    have HR := Lib.hid hres
    have e8 : decide ((300 : Int) < (dl : Int)) = true := decide_eq_true (by omega)
    have e9 : decide (300 < dl) = true := decide_eq_true ht
    clear HRS hres
    repeat' ((fail_if_success at_builtin); (fail_if_success at_make); (first | go_values | go_skip | go_guarded | go_step | go_upon | go_back))
    go_ret
    rw [HR.out]
    exact ⟨rfl, hB2⟩
  have hres : R = CK := by rw [HRS, if_neg ht]
  have HR := Lib.hid hres
  have e8 : decide ((300 : Int) < (dl : Int)) = false := decide_eq_false (by omega)
  have e9 : decide (300 < dl) = false := decide_eq_false ht
  clear HRS hres ht
  repeat' ((fail_if_success at_builtin); (fail_if_success at_make); (first | go_values | go_skip | go_guarded | go_step | go_upon | go_back))
  generalize hw3 : w2.alloc (.cells #[.bool false, .bool false, .bool true, .bool false] 61) = w3 at *
  clear hw3
  refine (((HCK w3 hr2).out)).mono ?_; rintro e_ w5 ⟨rfl, hb5⟩; dsimp only
  repeat' ((fail_if_success at_builtin); (fail_if_success at_make); (first | go_values | go_skip | go_guarded | go_step | go_upon | go_back))
  go_ret
  rw [HR.out]
  exact ⟨rfl, hB2.trans (hb5.mono hB2.size)⟩
set_option maxHeartbeats 4000000 in
theorem OCheck_f1 (k n : Nat) (dig data : List UInt8) (parts : List PartP) (A A' : Option Addr) (c c' : Nat) (w : World) (hff : fOf k = (⟨false, true, false, false⟩, true)) (hs : dig.length ≤ 140737488351232) (hc : parts.length ≤ c') (hm : parts.length ≤ 9223372036854775807) (hok : PartsOk parts) (hr : Rd w 3 A' parts.length (pcs parts)) (h1 : n = 0) (h3 : data = []) (h4 : parts = []) :
    Calls Try.prog 26 #[.agg #[.int .i64 (k : Int), .int .i64 (n : Int), .string ⟨dig.toArray⟩, .slice A data.length c, .slice A' parts.length c']] w fun e w' => e = .returned (.int .i64 (rstC true n dig data parts)) ∧ Below w.heap.size w w' := by
  obtain ⟨S, hS⟩ : ∃ S : ByteArray, S = ⟨dig.toArray⟩ := ⟨_, rfl⟩
  have hSd : S.data.toList = dig := by rw [hS]
  have hSs : S.size = dig.length := by rw [hS]; simp [ByteArray.size]
  rw [← hS]
  have hof := Of_ok k (w.alloc (.cells #[.int .i64 (k : Int), .int .i64 (n : Int), .string S, .slice A data.length c, .slice A' parts.length c'] 28))
  unfold OfAt at hof
  rw [hff] at hof
  simp only [fcs] at hof
  have hb1 := (Below.refl w.heap.size w).alloc (Nat.le_refl _) (.cells #[.int .i64 (k : Int), .int .i64 (n : Int), .string S, .slice A data.length c, .slice A' parts.length c'] 28)
  have hr1 := hr.alloc (.cells #[.int .i64 (k : Int), .int .i64 (n : Int), .string S, .slice A data.length c, .slice A' parts.length c'] 28)
  have hA1 : Arr (w.alloc (.cells #[.int .i64 (k : Int), .int .i64 (n : Int), .string S, .slice A data.length c, .slice A' parts.length c'] 28)) w.heap.size 28 [.int .i64 (k : Int), .int .i64 (n : Int), .string S, .slice A data.length c, .slice A' parts.length c'] := Arr.new w 28 _
  have f0 := hA1.cell (k := 0) rfl
  have HOF := Lib.hid hof
  have HOK := Lib.hid hok
  have HCL := Lib.hid (And.intro hc hm)
  clear hof hff hS hr hok hc hm
  have e1 : ((n : Int) != 0) = false := by rw [h1]; rfl
  have hd0 : data.length = 0 := by rw [h3]; rfl
  have hp0 : parts.length = 0 := by rw [h4]; rfl
  have HCK := fun w' (hw : Rd w' 3 A' parts.length (pcs parts)) => Lib.hid (Check_ok A' parts.length c' parts w' rfl HCL.out.1 HCL.out.2 HOK.out hw)
  have HRS : rstC true n dig data parts = if 4000 < n then 4 else if true = true ∧ hexC dig ≠ 0 then hexC dig else if 300 < data.length then 1 else chk parts := rfl
  generalize rstC true n dig data parts = R at *
  generalize data.length = dl at *
  generalize chk parts = CK at *
  have e3 : decide ((0 : Int) < (dl : Int)) = false := decide_eq_false (by omega)
  have e3' : decide (0 < dl) = false := decide_eq_false (by omega)
  have e4 : decide ((0 : Int) < (parts.length : Int)) = false := decide_eq_false (by omega)
  have e4' : decide (0 < parts.length) = false := decide_eq_false (by omega)
  have e5 : decide ((n : Int) < 0) = false := decide_eq_false (by omega)
  have HN0 := Lib.hid h1
  clear h1
  have HD0 := Lib.hid hd0
  clear h3 hd0
  have HP0 := Lib.hid hp0
  clear h4 hp0
  have HSD := Lib.hid hSd
  have HSS := Lib.hid hSs
  have HSL := Lib.hid hs
  clear hSd hSs hs
  go_enter Try.func26, Try.ntmps26
  repeat' ((fail_if_success at_builtin); (fail_if_success at_make); (first | go_values | go_skip | go_guarded | go_step | go_upon | go_back))
  generalize w.alloc (.cells #[.int .i64 (k : Int), .int .i64 (n : Int), .string S, .slice A dl c, .slice A' parts.length c'] 28) = w1 at *
  obtain ⟨g, hg⟩ : ∃ g, g = w.heap.size := ⟨_, rfl⟩
  rw [← hg] at hA1 f0 ⊢
  have HG := Lib.hid hg
  clear hg
  refine ((HOF.out)).mono ?_; rintro e_ w2 ⟨rfl, hb2⟩; dsimp only
  have hB2 := Below.alloc (hb1.trans (hb2.mono hb1.size)) (hb1.trans (hb2.mono hb1.size)).size (.cells #[.bool false, .bool true, .bool false, .bool false] 61)
  have hA2 := (hA1.below hb2).alloc (.cells #[.bool false, .bool true, .bool false, .bool false] 61)
  have hr2 := (hr1.below hb2).alloc (.cells #[.bool false, .bool true, .bool false, .bool false] 61)
  have hF2 : Arr (w2.alloc (.cells #[.bool false, .bool true, .bool false, .bool false] 61)) w2.heap.size 61 [.bool false, .bool true, .bool false, .bool false] := Arr.new w2 61 _
  clear f0 hA1 hr1
  have f1 := hA2.cell (k := 1) rfl
  have f2 := hA2.cell (k := 2) rfl
  have f3 := hA2.cell (k := 3) rfl
  have f4 := hA2.cell (k := 4) rfl
  have hn : ¬ 4000 < n := by have := HN0.out; omega
  have e6 : decide ((4000 : Int) < (n : Int)) = false := decide_eq_false (by omega)
  rw [if_neg hn] at HRS
  by_cases hd : hexC dig = 0
  rotate_left
  · have hres : R = hexC dig := by rw [HRS, if_pos ⟨rfl, hd⟩]
    have HR := Lib.hid hres
    have HX := fun w' => hCheck_at (hexC dig : Int) rfl (by rw [HSD.out]) w' (by rw [HSS.out]; exact HSL.out)
    have e7 : ((hexC dig : Int) != 0) = true := by rw [bne_iff_ne]; omega
    clear HRS hres
    generalize hexC dig = hx at *
    repeat' ((fail_if_success at_builtin); (fail_if_success at_make); (first | go_values | go_skip | go_guarded | go_step | go_upon | go_back))
    generalize w2.alloc (.cells #[.bool false, .bool true, .bool false, .bool false] 61) = w3 at *
    refine ((HX w3)).mono ?_; rintro e_ w4 ⟨rfl, hb4⟩; dsimp only
    repeat' ((fail_if_success at_builtin); (fail_if_success at_make); (first | go_values | go_skip | go_guarded | go_step | go_upon | go_back))
    go_ret
    rw [HR.out]
    exact ⟨rfl, hB2.trans (hb4.mono hB2.size)⟩
  have HX := fun w' => hCheck_at 0 (r := 0) rfl (by rw [HSD.out, hd]) w' (by rw [HSS.out]; exact HSL.out)
  rw [if_neg (fun h => h.2 hd)] at HRS
  clear hd
  repeat' ((fail_if_success at_builtin); (fail_if_success at_make); (first | go_values | go_skip | go_guarded | go_step | go_upon | go_back))
  generalize hw3 : w2.alloc (.cells #[.bool false, .bool true, .bool false, .bool false] 61) = w3 at *
  clear hw3
  refine ((HX w3)).mono ?_; rintro e_ w4 ⟨rfl, hb4⟩; dsimp only
  have hB4 := hB2.trans (hb4.mono hB2.size)
  have hr4 := hr2.below hb4
  have hA4 := hA2.below hb4
  have hF4 := hF2.below hb4
  clear f1 f2 f3 f4 hA2 hr2 hF2
  have f3 := hA4.cell (k := 3) rfl
  have f4 := hA4.cell (k := 4) rfl
  have ht : ¬ 300 < dl := by have := HD0.out; omega
  have hres : R = CK := by rw [HRS, if_neg ht]
  have HR := Lib.hid hres
  have e8 : decide ((300 : Int) < (dl : Int)) = false := decide_eq_false (by omega)
  have e9 : decide (300 < dl) = false := decide_eq_false ht
  clear HRS hres ht
  repeat' ((fail_if_success at_builtin); (fail_if_success at_make); (first | go_values | go_skip | go_guarded | go_step | go_upon | go_back))
  refine (((HCK w4 hr4).out)).mono ?_; rintro e_ w5 ⟨rfl, hb5⟩; dsimp only
  repeat' ((fail_if_success at_builtin); (fail_if_success at_make); (first | go_values | go_skip | go_guarded | go_step | go_upon | go_back))
  go_ret
  rw [HR.out]
  exact ⟨rfl, hB4.trans (hb5.mono hB4.size)⟩
set_option maxHeartbeats 4000000 in
theorem OCheck_f2 (k n : Nat) (dig data : List UInt8) (parts : List PartP) (A A' : Option Addr) (c c' : Nat) (w : World) (hff : fOf k = (⟨false, true, false, true⟩, true)) (hs : dig.length ≤ 140737488351232) (hc : parts.length ≤ c') (hm : parts.length ≤ 9223372036854775807) (hok : PartsOk parts) (hr : Rd w 3 A' parts.length (pcs parts)) (h1 : n = 0) (h3 : data = []) :
    Calls Try.prog 26 #[.agg #[.int .i64 (k : Int), .int .i64 (n : Int), .string ⟨dig.toArray⟩, .slice A data.length c, .slice A' parts.length c']] w fun e w' => e = .returned (.int .i64 (rstC true n dig data parts)) ∧ Below w.heap.size w w' := by
  obtain ⟨S, hS⟩ : ∃ S : ByteArray, S = ⟨dig.toArray⟩ := ⟨_, rfl⟩
  have hSd : S.data.toList = dig := by rw [hS]
  have hSs : S.size = dig.length := by rw [hS]; simp [ByteArray.size]
  rw [← hS]
  have hof := Of_ok k (w.alloc (.cells #[.int .i64 (k : Int), .int .i64 (n : Int), .string S, .slice A data.length c, .slice A' parts.length c'] 28))
  unfold OfAt at hof
  rw [hff] at hof
  simp only [fcs] at hof
  have hb1 := (Below.refl w.heap.size w).alloc (Nat.le_refl _) (.cells #[.int .i64 (k : Int), .int .i64 (n : Int), .string S, .slice A data.length c, .slice A' parts.length c'] 28)
  have hr1 := hr.alloc (.cells #[.int .i64 (k : Int), .int .i64 (n : Int), .string S, .slice A data.length c, .slice A' parts.length c'] 28)
  have hA1 : Arr (w.alloc (.cells #[.int .i64 (k : Int), .int .i64 (n : Int), .string S, .slice A data.length c, .slice A' parts.length c'] 28)) w.heap.size 28 [.int .i64 (k : Int), .int .i64 (n : Int), .string S, .slice A data.length c, .slice A' parts.length c'] := Arr.new w 28 _
  have f0 := hA1.cell (k := 0) rfl
  have HOF := Lib.hid hof
  have HOK := Lib.hid hok
  have HCL := Lib.hid (And.intro hc hm)
  clear hof hff hS hr hok hc hm
  have e1 : ((n : Int) != 0) = false := by rw [h1]; rfl
  have hd0 : data.length = 0 := by rw [h3]; rfl
  have HCK := fun w' (hw : Rd w' 3 A' parts.length (pcs parts)) => Lib.hid (Check_ok A' parts.length c' parts w' rfl HCL.out.1 HCL.out.2 HOK.out hw)
  have HRS : rstC true n dig data parts = if 4000 < n then 4 else if true = true ∧ hexC dig ≠ 0 then hexC dig else if 300 < data.length then 1 else chk parts := rfl
  generalize rstC true n dig data parts = R at *
  generalize data.length = dl at *
  generalize chk parts = CK at *
  have e3 : decide ((0 : Int) < (dl : Int)) = false := decide_eq_false (by omega)
  have e3' : decide (0 < dl) = false := decide_eq_false (by omega)
  have e5 : decide ((n : Int) < 0) = false := decide_eq_false (by omega)
  have HN0 := Lib.hid h1
  clear h1
  have HD0 := Lib.hid hd0
  clear h3 hd0
  have HSD := Lib.hid hSd
  have HSS := Lib.hid hSs
  have HSL := Lib.hid hs
  clear hSd hSs hs
  go_enter Try.func26, Try.ntmps26
  repeat' ((fail_if_success at_builtin); (fail_if_success at_make); (first | go_values | go_skip | go_guarded | go_step | go_upon | go_back))
  generalize w.alloc (.cells #[.int .i64 (k : Int), .int .i64 (n : Int), .string S, .slice A dl c, .slice A' parts.length c'] 28) = w1 at *
  obtain ⟨g, hg⟩ : ∃ g, g = w.heap.size := ⟨_, rfl⟩
  rw [← hg] at hA1 f0 ⊢
  have HG := Lib.hid hg
  clear hg
  refine ((HOF.out)).mono ?_; rintro e_ w2 ⟨rfl, hb2⟩; dsimp only
  have hB2 := Below.alloc (hb1.trans (hb2.mono hb1.size)) (hb1.trans (hb2.mono hb1.size)).size (.cells #[.bool false, .bool true, .bool false, .bool true] 61)
  have hA2 := (hA1.below hb2).alloc (.cells #[.bool false, .bool true, .bool false, .bool true] 61)
  have hr2 := (hr1.below hb2).alloc (.cells #[.bool false, .bool true, .bool false, .bool true] 61)
  have hF2 : Arr (w2.alloc (.cells #[.bool false, .bool true, .bool false, .bool true] 61)) w2.heap.size 61 [.bool false, .bool true, .bool false, .bool true] := Arr.new w2 61 _
  clear f0 hA1 hr1
  have f1 := hA2.cell (k := 1) rfl
  have f2 := hA2.cell (k := 2) rfl
  have f3 := hA2.cell (k := 3) rfl
  have f4 := hA2.cell (k := 4) rfl
  have hn : ¬ 4000 < n := by have := HN0.out; omega
  have e6 : decide ((4000 : Int) < (n : Int)) = false := decide_eq_false (by omega)
  rw [if_neg hn] at HRS
  by_cases hd : hexC dig = 0
  rotate_left
  · have hres : R = hexC dig := by rw [HRS, if_pos ⟨rfl, hd⟩]
    have HR := Lib.hid hres
    have HX := fun w' => hCheck_at (hexC dig : Int) rfl (by rw [HSD.out]) w' (by rw [HSS.out]; exact HSL.out)
    have e7 : ((hexC dig : Int) != 0) = true := by rw [bne_iff_ne]; omega
    clear HRS hres
    generalize hexC dig = hx at *
    repeat' ((fail_if_success at_builtin); (fail_if_success at_make); (first | go_values | go_skip | go_guarded | go_step | go_upon | go_back))
    generalize w2.alloc (.cells #[.bool false, .bool true, .bool false, .bool true] 61) = w3 at *
    refine ((HX w3)).mono ?_; rintro e_ w4 ⟨rfl, hb4⟩; dsimp only
    repeat' ((fail_if_success at_builtin); (fail_if_success at_make); (first | go_values | go_skip | go_guarded | go_step | go_upon | go_back))
    go_ret
    rw [HR.out]
    exact ⟨rfl, hB2.trans (hb4.mono hB2.size)⟩
  have HX := fun w' => hCheck_at 0 (r := 0) rfl (by rw [HSD.out, hd]) w' (by rw [HSS.out]; exact HSL.out)
  rw [if_neg (fun h => h.2 hd)] at HRS
  clear hd
  repeat' ((fail_if_success at_builtin); (fail_if_success at_make); (first | go_values | go_skip | go_guarded | go_step | go_upon | go_back))
  generalize hw3 : w2.alloc (.cells #[.bool false, .bool true, .bool false, .bool true] 61) = w3 at *
  clear hw3
  refine ((HX w3)).mono ?_; rintro e_ w4 ⟨rfl, hb4⟩; dsimp only
  have hB4 := hB2.trans (hb4.mono hB2.size)
  have hr4 := hr2.below hb4
  have hA4 := hA2.below hb4
  have hF4 := hF2.below hb4
  clear f1 f2 f3 f4 hA2 hr2 hF2
  have f3 := hA4.cell (k := 3) rfl
  have f4 := hA4.cell (k := 4) rfl
  have ht : ¬ 300 < dl := by have := HD0.out; omega
  have hres : R = CK := by rw [HRS, if_neg ht]
  have HR := Lib.hid hres
  have e8 : decide ((300 : Int) < (dl : Int)) = false := decide_eq_false (by omega)
  have e9 : decide (300 < dl) = false := decide_eq_false ht
  clear HRS hres ht
  repeat' ((fail_if_success at_builtin); (fail_if_success at_make); (first | go_values | go_skip | go_guarded | go_step | go_upon | go_back))
  refine (((HCK w4 hr4).out)).mono ?_; rintro e_ w5 ⟨rfl, hb5⟩; dsimp only
  repeat' ((fail_if_success at_builtin); (fail_if_success at_make); (first | go_values | go_skip | go_guarded | go_step | go_upon | go_back))
  go_ret
  rw [HR.out]
  exact ⟨rfl, hB4.trans (hb5.mono hB4.size)⟩
set_option maxHeartbeats 4000000 in
theorem OCheck_f3 (k n : Nat) (dig data : List UInt8) (parts : List PartP) (A A' : Option Addr) (c c' : Nat) (w : World) (hff : fOf k = (⟨true, false, false, false⟩, true)) (hs : dig.length ≤ 140737488351232) (hc : parts.length ≤ c') (hm : parts.length ≤ 9223372036854775807) (hok : PartsOk parts) (hr : Rd w 3 A' parts.length (pcs parts)) (h2 : dig = []) (h3 : data = []) (h4 : parts = []) :
    Calls Try.prog 26 #[.agg #[.int .i64 (k : Int), .int .i64 (n : Int), .string ⟨dig.toArray⟩, .slice A data.length c, .slice A' parts.length c']] w fun e w' => e = .returned (.int .i64 (rstC false n dig data parts)) ∧ Below w.heap.size w w' := by
  obtain ⟨S, hS⟩ : ∃ S : ByteArray, S = ⟨dig.toArray⟩ := ⟨_, rfl⟩
  have hSd : S.data.toList = dig := by rw [hS]
  have hSs : S.size = dig.length := by rw [hS]; simp [ByteArray.size]
  rw [← hS]
  have e2 : S.toList.isEmpty = true := by rw [hS, h2, ByteArray.toList, ByteArray.toList.loop]; simp [ByteArray.size]
  have hof := Of_ok k (w.alloc (.cells #[.int .i64 (k : Int), .int .i64 (n : Int), .string S, .slice A data.length c, .slice A' parts.length c'] 28))
  unfold OfAt at hof
  rw [hff] at hof
  simp only [fcs] at hof
  have hb1 := (Below.refl w.heap.size w).alloc (Nat.le_refl _) (.cells #[.int .i64 (k : Int), .int .i64 (n : Int), .string S, .slice A data.length c, .slice A' parts.length c'] 28)
  have hr1 := hr.alloc (.cells #[.int .i64 (k : Int), .int .i64 (n : Int), .string S, .slice A data.length c, .slice A' parts.length c'] 28)
  have hA1 : Arr (w.alloc (.cells #[.int .i64 (k : Int), .int .i64 (n : Int), .string S, .slice A data.length c, .slice A' parts.length c'] 28)) w.heap.size 28 [.int .i64 (k : Int), .int .i64 (n : Int), .string S, .slice A data.length c, .slice A' parts.length c'] := Arr.new w 28 _
  have f0 := hA1.cell (k := 0) rfl
  have HOF := Lib.hid hof
  have HOK := Lib.hid hok
  have HCL := Lib.hid (And.intro hc hm)
  clear hof hff hS hr hok hc hm
  have hd0 : data.length = 0 := by rw [h3]; rfl
  have hp0 : parts.length = 0 := by rw [h4]; rfl
  have HCK := fun w' (hw : Rd w' 3 A' parts.length (pcs parts)) => Lib.hid (Check_ok A' parts.length c' parts w' rfl HCL.out.1 HCL.out.2 HOK.out hw)
  have HRS : rstC false n dig data parts = if 4000 < n then 4 else if false = true ∧ hexC dig ≠ 0 then hexC dig else if 300 < data.length then 1 else chk parts := rfl
  generalize rstC false n dig data parts = R at *
  generalize data.length = dl at *
  generalize chk parts = CK at *
  have e3 : decide ((0 : Int) < (dl : Int)) = false := decide_eq_false (by omega)
  have e3' : decide (0 < dl) = false := decide_eq_false (by omega)
  have e4 : decide ((0 : Int) < (parts.length : Int)) = false := decide_eq_false (by omega)
  have e4' : decide (0 < parts.length) = false := decide_eq_false (by omega)
  have e5 : decide ((n : Int) < 0) = false := decide_eq_false (by omega)
  clear h2
  have HD0 := Lib.hid hd0
  clear h3 hd0
  have HP0 := Lib.hid hp0
  clear h4 hp0
  have HSD := Lib.hid hSd
  have HSS := Lib.hid hSs
  have HSL := Lib.hid hs
  clear hSd hSs hs
  go_enter Try.func26, Try.ntmps26
  repeat' ((fail_if_success at_builtin); (fail_if_success at_make); (first | go_values | go_skip | go_guarded | go_step | go_upon | go_back))
  generalize w.alloc (.cells #[.int .i64 (k : Int), .int .i64 (n : Int), .string S, .slice A dl c, .slice A' parts.length c'] 28) = w1 at *
  obtain ⟨g, hg⟩ : ∃ g, g = w.heap.size := ⟨_, rfl⟩
  rw [← hg] at hA1 f0 ⊢
  have HG := Lib.hid hg
  clear hg
  refine ((HOF.out)).mono ?_; rintro e_ w2 ⟨rfl, hb2⟩; dsimp only
  have hB2 := Below.alloc (hb1.trans (hb2.mono hb1.size)) (hb1.trans (hb2.mono hb1.size)).size (.cells #[.bool true, .bool false, .bool false, .bool false] 61)
  have hA2 := (hA1.below hb2).alloc (.cells #[.bool true, .bool false, .bool false, .bool false] 61)
  have hr2 := (hr1.below hb2).alloc (.cells #[.bool true, .bool false, .bool false, .bool false] 61)
  have hF2 : Arr (w2.alloc (.cells #[.bool true, .bool false, .bool false, .bool false] 61)) w2.heap.size 61 [.bool true, .bool false, .bool false, .bool false] := Arr.new w2 61 _
  clear f0 hA1 hr1
  have f1 := hA2.cell (k := 1) rfl
  have f2 := hA2.cell (k := 2) rfl
  have f3 := hA2.cell (k := 3) rfl
  have f4 := hA2.cell (k := 4) rfl
  by_cases hn : 4000 < n
  · have hres : R = 4 := by rw [HRS, if_pos hn]
    have HR := Lib.hid hres
    have e6 : decide ((4000 : Int) < (n : Int)) = true := decide_eq_true (by omega)
    clear HRS hres
    repeat' ((fail_if_success at_builtin); (fail_if_success at_make); (first | go_values | go_skip | go_guarded | go_step | go_upon | go_back))
    go_ret
    rw [HR.out]
    exact ⟨rfl, hB2⟩
  have e6 : decide ((4000 : Int) < (n : Int)) = false := decide_eq_false (by omega)
  rw [if_neg hn] at HRS
  rw [if_neg (fun h => by cases h.1)] at HRS
  have ht : ¬ 300 < dl := by have := HD0.out; omega
  have hres : R = CK := by rw [HRS, if_neg ht]
  have HR := Lib.hid hres
  have e8 : decide ((300 : Int) < (dl : Int)) = false := decide_eq_false (by omega)
  have e9 : decide (300 < dl) = false := decide_eq_false ht
  clear HRS hres ht
  repeat' ((fail_if_success at_builtin); (fail_if_success at_make); (first | go_values | go_skip | go_guarded | go_step | go_upon | go_back))
  generalize hw3 : w2.alloc (.cells #[.bool true, .bool false, .bool false, .bool false] 61) = w3 at *
  clear hw3
  refine (((HCK w3 hr2).out)).mono ?_; rintro e_ w5 ⟨rfl, hb5⟩; dsimp only
  repeat' ((fail_if_success at_builtin); (fail_if_success at_make); (first | go_values | go_skip | go_guarded | go_step | go_upon | go_back))
  go_ret
  rw [HR.out]
  exact ⟨rfl, hB2.trans (hb5.mono hB2.size)⟩
set_option maxHeartbeats 4000000 in
theorem OCheck_f4 (k n : Nat) (dig data : List UInt8) (parts : List PartP) (A A' : Option Addr) (c c' : Nat) (w : World) (hff : fOf k = (⟨false, false, false, false⟩, true)) (hs : dig.length ≤ 140737488351232) (hc : parts.length ≤ c') (hm : parts.length ≤ 9223372036854775807) (hok : PartsOk parts) (hr : Rd w 3 A' parts.length (pcs parts)) (h1 : n = 0) (h2 : dig = []) (h3 : data = []) (h4 : parts = []) :
    Calls Try.prog 26 #[.agg #[.int .i64 (k : Int), .int .i64 (n : Int), .string ⟨dig.toArray⟩, .slice A data.length c, .slice A' parts.length c']] w fun e w' => e = .returned (.int .i64 (rstC false n dig data parts)) ∧ Below w.heap.size w w' := by
  obtain ⟨S, hS⟩ : ∃ S : ByteArray, S = ⟨dig.toArray⟩ := ⟨_, rfl⟩
  have hSd : S.data.toList = dig := by rw [hS]
  have hSs : S.size = dig.length := by rw [hS]; simp [ByteArray.size]
  rw [← hS]
  have e2 : S.toList.isEmpty = true := by rw [hS, h2, ByteArray.toList, ByteArray.toList.loop]; simp [ByteArray.size]
  have hof := Of_ok k (w.alloc (.cells #[.int .i64 (k : Int), .int .i64 (n : Int), .string S, .slice A data.length c, .slice A' parts.length c'] 28))
  unfold OfAt at hof
  rw [hff] at hof
  simp only [fcs] at hof
  have hb1 := (Below.refl w.heap.size w).alloc (Nat.le_refl _) (.cells #[.int .i64 (k : Int), .int .i64 (n : Int), .string S, .slice A data.length c, .slice A' parts.length c'] 28)
  have hr1 := hr.alloc (.cells #[.int .i64 (k : Int), .int .i64 (n : Int), .string S, .slice A data.length c, .slice A' parts.length c'] 28)
  have hA1 : Arr (w.alloc (.cells #[.int .i64 (k : Int), .int .i64 (n : Int), .string S, .slice A data.length c, .slice A' parts.length c'] 28)) w.heap.size 28 [.int .i64 (k : Int), .int .i64 (n : Int), .string S, .slice A data.length c, .slice A' parts.length c'] := Arr.new w 28 _
  have f0 := hA1.cell (k := 0) rfl
  have HOF := Lib.hid hof
  have HOK := Lib.hid hok
  have HCL := Lib.hid (And.intro hc hm)
  clear hof hff hS hr hok hc hm
  have e1 : ((n : Int) != 0) = false := by rw [h1]; rfl
  have hd0 : data.length = 0 := by rw [h3]; rfl
  have hp0 : parts.length = 0 := by rw [h4]; rfl
  have HCK := fun w' (hw : Rd w' 3 A' parts.length (pcs parts)) => Lib.hid (Check_ok A' parts.length c' parts w' rfl HCL.out.1 HCL.out.2 HOK.out hw)
  have HRS : rstC false n dig data parts = if 4000 < n then 4 else if false = true ∧ hexC dig ≠ 0 then hexC dig else if 300 < data.length then 1 else chk parts := rfl
  generalize rstC false n dig data parts = R at *
  generalize data.length = dl at *
  generalize chk parts = CK at *
  have e3 : decide ((0 : Int) < (dl : Int)) = false := decide_eq_false (by omega)
  have e3' : decide (0 < dl) = false := decide_eq_false (by omega)
  have e4 : decide ((0 : Int) < (parts.length : Int)) = false := decide_eq_false (by omega)
  have e4' : decide (0 < parts.length) = false := decide_eq_false (by omega)
  have e5 : decide ((n : Int) < 0) = false := decide_eq_false (by omega)
  have HN0 := Lib.hid h1
  clear h1
  clear h2
  have HD0 := Lib.hid hd0
  clear h3 hd0
  have HP0 := Lib.hid hp0
  clear h4 hp0
  have HSD := Lib.hid hSd
  have HSS := Lib.hid hSs
  have HSL := Lib.hid hs
  clear hSd hSs hs
  go_enter Try.func26, Try.ntmps26
  repeat' ((fail_if_success at_builtin); (fail_if_success at_make); (first | go_values | go_skip | go_guarded | go_step | go_upon | go_back))
  generalize w.alloc (.cells #[.int .i64 (k : Int), .int .i64 (n : Int), .string S, .slice A dl c, .slice A' parts.length c'] 28) = w1 at *
  obtain ⟨g, hg⟩ : ∃ g, g = w.heap.size := ⟨_, rfl⟩
  rw [← hg] at hA1 f0 ⊢
  have HG := Lib.hid hg
  clear hg
  refine ((HOF.out)).mono ?_; rintro e_ w2 ⟨rfl, hb2⟩; dsimp only
  have hB2 := Below.alloc (hb1.trans (hb2.mono hb1.size)) (hb1.trans (hb2.mono hb1.size)).size (.cells #[.bool false, .bool false, .bool false, .bool false] 61)
  have hA2 := (hA1.below hb2).alloc (.cells #[.bool false, .bool false, .bool false, .bool false] 61)
  have hr2 := (hr1.below hb2).alloc (.cells #[.bool false, .bool false, .bool false, .bool false] 61)
  have hF2 : Arr (w2.alloc (.cells #[.bool false, .bool false, .bool false, .bool false] 61)) w2.heap.size 61 [.bool false, .bool false, .bool false, .bool false] := Arr.new w2 61 _
  clear f0 hA1 hr1
  have f1 := hA2.cell (k := 1) rfl
  have f2 := hA2.cell (k := 2) rfl
  have f3 := hA2.cell (k := 3) rfl
  have f4 := hA2.cell (k := 4) rfl
  have hn : ¬ 4000 < n := by have := HN0.out; omega
  have e6 : decide ((4000 : Int) < (n : Int)) = false := decide_eq_false (by omega)
  rw [if_neg hn] at HRS
  rw [if_neg (fun h => by cases h.1)] at HRS
  have ht : ¬ 300 < dl := by have := HD0.out; omega
  have hres : R = CK := by rw [HRS, if_neg ht]
  have HR := Lib.hid hres
  have e8 : decide ((300 : Int) < (dl : Int)) = false := decide_eq_false (by omega)
  have e9 : decide (300 < dl) = false := decide_eq_false ht
  clear HRS hres ht
  repeat' ((fail_if_success at_builtin); (fail_if_success at_make); (first | go_values | go_skip | go_guarded | go_step | go_upon | go_back))
  generalize hw3 : w2.alloc (.cells #[.bool false, .bool false, .bool false, .bool false] 61) = w3 at *
  clear hw3
  refine (((HCK w3 hr2).out)).mono ?_; rintro e_ w5 ⟨rfl, hb5⟩; dsimp only
  repeat' ((fail_if_success at_builtin); (fail_if_success at_make); (first | go_values | go_skip | go_guarded | go_step | go_upon | go_back))
  go_ret
  rw [HR.out]
  exact ⟨rfl, hB2.trans (hb5.mono hB2.size)⟩
set_option maxHeartbeats 4000000 in
theorem OCheck_f5 (k n : Nat) (dig data : List UInt8) (parts : List PartP) (A A' : Option Addr) (c c' : Nat) (w : World) (hff : fOf k = (⟨true, true, false, false⟩, true)) (hs : dig.length ≤ 140737488351232) (hc : parts.length ≤ c') (hm : parts.length ≤ 9223372036854775807) (hok : PartsOk parts) (hr : Rd w 3 A' parts.length (pcs parts)) (h3 : data = []) (h4 : parts = []) :
    Calls Try.prog 26 #[.agg #[.int .i64 (k : Int), .int .i64 (n : Int), .string ⟨dig.toArray⟩, .slice A data.length c, .slice A' parts.length c']] w fun e w' => e = .returned (.int .i64 (rstC true n dig data parts)) ∧ Below w.heap.size w w' := by
  obtain ⟨S, hS⟩ : ∃ S : ByteArray, S = ⟨dig.toArray⟩ := ⟨_, rfl⟩
  have hSd : S.data.toList = dig := by rw [hS]
  have hSs : S.size = dig.length := by rw [hS]; simp [ByteArray.size]
  rw [← hS]
  have hof := Of_ok k (w.alloc (.cells #[.int .i64 (k : Int), .int .i64 (n : Int), .string S, .slice A data.length c, .slice A' parts.length c'] 28))
  unfold OfAt at hof
  rw [hff] at hof
  simp only [fcs] at hof
  have hb1 := (Below.refl w.heap.size w).alloc (Nat.le_refl _) (.cells #[.int .i64 (k : Int), .int .i64 (n : Int), .string S, .slice A data.length c, .slice A' parts.length c'] 28)
  have hr1 := hr.alloc (.cells #[.int .i64 (k : Int), .int .i64 (n : Int), .string S, .slice A data.length c, .slice A' parts.length c'] 28)
  have hA1 : Arr (w.alloc (.cells #[.int .i64 (k : Int), .int .i64 (n : Int), .string S, .slice A data.length c, .slice A' parts.length c'] 28)) w.heap.size 28 [.int .i64 (k : Int), .int .i64 (n : Int), .string S, .slice A data.length c, .slice A' parts.length c'] := Arr.new w 28 _
  have f0 := hA1.cell (k := 0) rfl
  have HOF := Lib.hid hof
  have HOK := Lib.hid hok
  have HCL := Lib.hid (And.intro hc hm)
  clear hof hff hS hr hok hc hm
  have hd0 : data.length = 0 := by rw [h3]; rfl
  have hp0 : parts.length = 0 := by rw [h4]; rfl
  have HCK := fun w' (hw : Rd w' 3 A' parts.length (pcs parts)) => Lib.hid (Check_ok A' parts.length c' parts w' rfl HCL.out.1 HCL.out.2 HOK.out hw)
  have HRS : rstC true n dig data parts = if 4000 < n then 4 else if true = true ∧ hexC dig ≠ 0 then hexC dig else if 300 < data.length then 1 else chk parts := rfl
  generalize rstC true n dig data parts = R at *
  generalize data.length = dl at *
  generalize chk parts = CK at *
  have e3 : decide ((0 : Int) < (dl : Int)) = false := decide_eq_false (by omega)
  have e3' : decide (0 < dl) = false := decide_eq_false (by omega)
  have e4 : decide ((0 : Int) < (parts.length : Int)) = false := decide_eq_false (by omega)
  have e4' : decide (0 < parts.length) = false := decide_eq_false (by omega)
  have e5 : decide ((n : Int) < 0) = false := decide_eq_false (by omega)
  have HD0 := Lib.hid hd0
  clear h3 hd0
  have HP0 := Lib.hid hp0
  clear h4 hp0
  have HSD := Lib.hid hSd
  have HSS := Lib.hid hSs
  have HSL := Lib.hid hs
  clear hSd hSs hs
  go_enter Try.func26, Try.ntmps26
  repeat' ((fail_if_success at_builtin); (fail_if_success at_make); (first | go_values | go_skip | go_guarded | go_step | go_upon | go_back))
  generalize w.alloc (.cells #[.int .i64 (k : Int), .int .i64 (n : Int), .string S, .slice A dl c, .slice A' parts.length c'] 28) = w1 at *
  obtain ⟨g, hg⟩ : ∃ g, g = w.heap.size := ⟨_, rfl⟩
  rw [← hg] at hA1 f0 ⊢
  have HG := Lib.hid hg
  clear hg
  refine ((HOF.out)).mono ?_; rintro e_ w2 ⟨rfl, hb2⟩; dsimp only
  have hB2 := Below.alloc (hb1.trans (hb2.mono hb1.size)) (hb1.trans (hb2.mono hb1.size)).size (.cells #[.bool true, .bool true, .bool false, .bool false] 61)
  have hA2 := (hA1.below hb2).alloc (.cells #[.bool true, .bool true, .bool false, .bool false] 61)
  have hr2 := (hr1.below hb2).alloc (.cells #[.bool true, .bool true, .bool false, .bool false] 61)
  have hF2 : Arr (w2.alloc (.cells #[.bool true, .bool true, .bool false, .bool false] 61)) w2.heap.size 61 [.bool true, .bool true, .bool false, .bool false] := Arr.new w2 61 _
  clear f0 hA1 hr1
  have f1 := hA2.cell (k := 1) rfl
  have f2 := hA2.cell (k := 2) rfl
  have f3 := hA2.cell (k := 3) rfl
  have f4 := hA2.cell (k := 4) rfl
  by_cases hn : 4000 < n
  · have hres : R = 4 := by rw [HRS, if_pos hn]
    have HR := Lib.hid hres
    have e6 : decide ((4000 : Int) < (n : Int)) = true := decide_eq_true (by omega)
    clear HRS hres
    repeat' ((fail_if_success at_builtin); (fail_if_success at_make); (first | go_values | go_skip | go_guarded | go_step | go_upon | go_back))
    go_ret
    rw [HR.out]
    exact ⟨rfl, hB2⟩
  have e6 : decide ((4000 : Int) < (n : Int)) = false := decide_eq_false (by omega)
  rw [if_neg hn] at HRS
  by_cases hd : hexC dig = 0
  rotate_left
  · have hres : R = hexC dig := by rw [HRS, if_pos ⟨rfl, hd⟩]
    have HR := Lib.hid hres
    have HX := fun w' => hCheck_at (hexC dig : Int) rfl (by rw [HSD.out]) w' (by rw [HSS.out]; exact HSL.out)
    have e7 : ((hexC dig : Int) != 0) = true := by rw [bne_iff_ne]; omega
    clear HRS hres
    generalize hexC dig = hx at *
    repeat' ((fail_if_success at_builtin); (fail_if_success at_make); (first | go_values | go_skip | go_guarded | go_step | go_upon | go_back))
    generalize w2.alloc (.cells #[.bool true, .bool true, .bool false, .bool false] 61) = w3 at *
    refine ((HX w3)).mono ?_; rintro e_ w4 ⟨rfl, hb4⟩; dsimp only
    repeat' ((fail_if_success at_builtin); (fail_if_success at_make); (first | go_values | go_skip | go_guarded | go_step | go_upon | go_back))
    go_ret
    rw [HR.out]
    exact ⟨rfl, hB2.trans (hb4.mono hB2.size)⟩
  have HX := fun w' => hCheck_at 0 (r := 0) rfl (by rw [HSD.out, hd]) w' (by rw [HSS.out]; exact HSL.out)
  rw [if_neg (fun h => h.2 hd)] at HRS
  clear hd
  repeat' ((fail_if_success at_builtin); (fail_if_success at_make); (first | go_values | go_skip | go_guarded | go_step | go_upon | go_back))
  generalize hw3 : w2.alloc (.cells #[.bool true, .bool true, .bool false, .bool false] 61) = w3 at *
  clear hw3
  refine ((HX w3)).mono ?_; rintro e_ w4 ⟨rfl, hb4⟩; dsimp only
  have hB4 := hB2.trans (hb4.mono hB2.size)
  have hr4 := hr2.below hb4
  have hA4 := hA2.below hb4
  have hF4 := hF2.below hb4
  clear f1 f2 f3 f4 hA2 hr2 hF2
  have f3 := hA4.cell (k := 3) rfl
  have f4 := hA4.cell (k := 4) rfl
  have ht : ¬ 300 < dl := by have := HD0.out; omega
  have hres : R = CK := by rw [HRS, if_neg ht]
  have HR := Lib.hid hres
  have e8 : decide ((300 : Int) < (dl : Int)) = false := decide_eq_false (by omega)
  have e9 : decide (300 < dl) = false := decide_eq_false ht
  clear HRS hres ht
  repeat' ((fail_if_success at_builtin); (fail_if_success at_make); (first | go_values | go_skip | go_guarded | go_step | go_upon | go_back))
  refine (((HCK w4 hr4).out)).mono ?_; rintro e_ w5 ⟨rfl, hb5⟩; dsimp only
  repeat' ((fail_if_success at_builtin); (fail_if_success at_make); (first | go_values | go_skip | go_guarded | go_step | go_upon | go_back))
  go_ret
  rw [HR.out]
  exact ⟨rfl, hB4.trans (hb5.mono hB4.size)⟩
end Go.Proofs.Ytdpedkgdobfemaa
