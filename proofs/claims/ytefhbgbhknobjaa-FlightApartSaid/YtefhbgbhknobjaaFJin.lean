/- flight.Join where somebody makes the flight already, or there are too many. Conditions: the sizes. -/
import Derived.Test.YtefhbgbhknobjaaFJoin
namespace Go.Proofs.Ytefhbgbhknobjaa
open Go.RowKit
set_option linter.unusedVariables false
set_option linter.unusedSimpArgs false
set_option maxRecDepth 100000

set_option maxHeartbeats 4000000 in
/-- six flights, and none of this key -/
theorem Join_full (A : Option Addr) (c : Nat) (fs : List FlP) (k : ByteArray) (n : Int) (w : World) (hG : GoodF fs) (hf : Fls w A fs) (hc : fs.length ≤ c) (hm : c ≤ maxLen) (hk : hexC k.data.toList = 0) (hks : k.size ≤ 140737488351232) (hn1 : 1 ≤ n) (hn2 : n ≤ 1000) (hfn : fnd 0 fs k.data.toList = none) (h6 : fs.length = 6) :
    Calls Try.prog 11 #[.slice A fs.length c, .string k, .int .i64 n] w fun e w' => e = .returned (.tuple #[.slice none 0 0, .bool false, .int .i64 7]) ∧ Below w.heap.size w w' := by
  have e6 : ((fs.length : Int) == 6) = true := by rw [beq_iff_eq]; omega
  have H6 := Lib.hid h6
  have h66 : fs.length ≤ 6 := by omega
  clear h6
  have HCK := Lib.hid (fun w' hf' => FCheck_ok A c fs w' hG hf' hc hm)
  have HHX := Lib.hid (fun w' => hCheck_at (s := k) 0 rfl hk w' hks)
  have HWH := Lib.hid (fun w' => who_ok n w')
  have hwd : decide (1 ≤ n ∧ n ≤ 1000) = true := by simp [hn1, hn2]
  have HWD := Lib.hid hwd
  have HCP := Lib.hid (fun w' hf' => FCopy_ok A c fs w' (by omega) (fun p hp => by
    obtain ⟨j, hj, rfl⟩ := List.mem_iff_getElem.1 hp
    have := hG.few j hj; omega) hf' hc)
  have HFI := Lib.hid (fun w' hf' => Find_ok A c fs k w' (by omega) hf')
  have HF := Lib.hid hfn
  clear hG hk hwd hfn
  go_enter Try.func11, Try.ntmps11
  repeat' ((fail_if_success at_builtin); (fail_if_success at_make); (first | go_values | go_skip | go_guarded | go_step | go_upon | go_back))
  refine ((HCK.out w hf)).mono ?_; rintro e_ w1 ⟨rfl, hb1⟩; dsimp only
  have hf1 := hf.below hb1
  repeat' ((fail_if_success at_builtin); (fail_if_success at_make); (first | go_values | go_skip | go_guarded | go_step | go_upon | go_back))
  refine ((HHX.out w1)).mono ?_; rintro e_ w2 ⟨rfl, hb2⟩; dsimp only
  have hb12 := hb1.trans (hb2.mono hb1.size)
  have hf2 := hf1.below hb2
  repeat' ((fail_if_success at_builtin); (fail_if_success at_make); (first | go_values | go_skip | go_guarded | go_step | go_upon | go_back))
  refine ((HWH.out w2)).mono ?_; rintro e_ _ ⟨rfl, rfl⟩; dsimp only
  rw [HWD.out]
  repeat' ((fail_if_success at_builtin); (fail_if_success at_make); (first | go_values | go_skip | go_guarded | go_step | go_upon | go_back))
  refine ((HCP.out w2 hf2)).mono ?_; rintro e_ w3 ⟨v3, rfl, ho3, hb3⟩; dsimp only
  have hb13 := hb12.trans (hb3.mono hb12.size)
  have hf3 := hf2.below hb3
  have hfi := HFI.out w3 hf3
  rw [HF.out] at hfi
  dsimp only at hfi
  have HFF := Lib.hid hfi
  clear hfi hf hf1 hf2
  repeat' ((fail_if_success at_builtin); (fail_if_success at_make); (first | go_values | go_skip | go_guarded | go_step | go_upon | go_back))
  refine ((HFF.out)).mono ?_; rintro e_ w4 ⟨rfl, hb4⟩; dsimp only
  have hb14 := hb13.trans (hb4.mono hb13.size)
  repeat' ((fail_if_success at_builtin); (fail_if_success at_make); (first | go_values | go_skip | go_guarded | go_step | go_upon | go_back))
  go_ret3
  exact ⟨rfl, hb14⟩

set_option maxHeartbeats 4000000 in
/-- a flight in which somebody is already -/
theorem Join_in (A : Option Addr) (c : Nat) (fs : List FlP) (k : ByteArray) (n : Int) (i : Nat) (w : World) (hG : GoodF fs) (hf : Fls w A fs) (hc : fs.length ≤ c) (hm : c ≤ maxLen) (hk : hexC k.data.toList = 0) (hks : k.size ≤ 140737488351232) (hn1 : 1 ≤ n) (hn2 : n ≤ 1000) (hfn : fnd 0 fs k.data.toList = some i) (hi : i < fs.length) (hin : (fs[i].lead :: fs[i].wait).contains n = true) :
    Calls Try.prog 11 #[.slice A fs.length c, .string k, .int .i64 n] w fun e w' => e = .returned (.tuple #[.slice none 0 0, .bool false, .int .i64 6]) ∧ Below w.heap.size w w' := by
  have h66 : fs.length ≤ 6 := hG.len
  have hfew := hG.few i hi
  have HIN := Lib.hid hin
  have FF := Lib.hid hf
  clear hin
  have HCK := Lib.hid (fun w' hf' => FCheck_ok A c fs w' hG hf' hc hm)
  have HHX := Lib.hid (fun w' => hCheck_at (s := k) 0 rfl hk w' hks)
  have HWH := Lib.hid (fun w' => who_ok n w')
  have hwd : decide (1 ≤ n ∧ n ≤ 1000) = true := by simp [hn1, hn2]
  have HWD := Lib.hid hwd
  have HCP := Lib.hid (fun w' hf' => FCopy_ok A c fs w' (by omega) (fun p hp => by
    obtain ⟨j, hj, rfl⟩ := List.mem_iff_getElem.1 hp
    have := hG.few j hj; omega) hf' hc)
  have HFI := Lib.hid (fun w' hf' => Find_ok A c fs k w' (by omega) hf')
  have HF := Lib.hid hfn
  clear hG hk hwd hfn
  go_enter Try.func11, Try.ntmps11
  repeat' ((fail_if_success at_builtin); (fail_if_success at_make); (first | go_values | go_skip | go_guarded | go_step | go_upon | go_back))
  refine ((HCK.out w hf)).mono ?_; rintro e_ w1 ⟨rfl, hb1⟩; dsimp only
  have hf1 := hf.below hb1
  repeat' ((fail_if_success at_builtin); (fail_if_success at_make); (first | go_values | go_skip | go_guarded | go_step | go_upon | go_back))
  refine ((HHX.out w1)).mono ?_; rintro e_ w2 ⟨rfl, hb2⟩; dsimp only
  have hb12 := hb1.trans (hb2.mono hb1.size)
  have hf2 := hf1.below hb2
  repeat' ((fail_if_success at_builtin); (fail_if_success at_make); (first | go_values | go_skip | go_guarded | go_step | go_upon | go_back))
  refine ((HWH.out w2)).mono ?_; rintro e_ _ ⟨rfl, rfl⟩; dsimp only
  rw [HWD.out]
  repeat' ((fail_if_success at_builtin); (fail_if_success at_make); (first | go_values | go_skip | go_guarded | go_step | go_upon | go_back))
  refine ((HCP.out w2 hf2)).mono ?_; rintro e_ w3 ⟨v3, rfl, ho3, hb3⟩; dsimp only
  have hb13 := hb12.trans (hb3.mono hb12.size)
  have hf3 := hf2.below hb3
  have hfi := HFI.out w3 hf3
  rw [HF.out] at hfi
  dsimp only at hfi
  have HFF := Lib.hid hfi
  clear hfi hf hf1 hf2
  repeat' ((fail_if_success at_builtin); (fail_if_success at_make); (first | go_values | go_skip | go_guarded | go_step | go_upon | go_back))
  refine ((HFF.out)).mono ?_; rintro e_ w4 ⟨rfl, hb4⟩; dsimp only
  have hb14 := hb13.trans (hb4.mono hb13.size)
  obtain ⟨b, off, B, cb, rfl, hbb, c0, c1, c2, hrw, hwc, hcbm⟩ := (FF.out.below hb14).at_ i hi
  have i1 : (0 : Int) ≤ (i : Int) := by omega
  have i2 : (i : Int) < (fs.length : Int) := by omega
  obtain ⟨s, hs⟩ : ∃ s : ByteArray, s = ⟨fs[i].key.toArray⟩ := ⟨_, rfl⟩
  rw [← hs] at c0
  have HI2 := HIN.out
  generalize fs[i].lead = ld at *
  generalize fs[i].wait = wt at *
  have HI3 := Lib.hid HI2
  clear HI2 HIN hs
  repeat' ((fail_if_success at_builtin); (fail_if_success at_make); (first | go_values | go_skip | go_guarded | go_step | go_upon | go_back))
  refine ((crew_ok s ld B cb wt w4 (by omega) hrw)).mono ?_; rintro e_ w5 ⟨v5, rfl, ho5, hb5⟩; dsimp only
  have hb15 := hb14.trans (hb5.mono hb14.size)
  obtain ⟨A5, c5, rfl, hc5, hr5⟩ := Rd.of_own' ho5
  have hcon := Contains_ok A5 c5 (ld :: wt) n w5 (by simp only [List.length_cons]; omega) hr5
  rw [HI3.out] at hcon
  simp only [List.length_cons] at hcon
  have HCO := Lib.hid hcon
  clear hcon ho5 hr5 c0 c1 c2
  repeat' ((fail_if_success at_builtin); (fail_if_success at_make); (first | go_values | go_skip | go_guarded | go_step | go_upon | go_back))
  refine ((HCO.out)).mono ?_; rintro e_ _ ⟨rfl, rfl⟩; dsimp only
  repeat' ((fail_if_success at_builtin); (fail_if_success at_make); (first | go_values | go_skip | go_guarded | go_step | go_upon | go_back))
  go_ret3
  exact ⟨rfl, hb15⟩
set_option maxHeartbeats 4000000 in
/-- a flight in which there are as many as may be -/
theorem Join_many (A : Option Addr) (c : Nat) (fs : List FlP) (k : ByteArray) (n : Int) (i : Nat) (w : World) (hG : GoodF fs) (hf : Fls w A fs) (hc : fs.length ≤ c) (hm : c ≤ maxLen) (hk : hexC k.data.toList = 0) (hks : k.size ≤ 140737488351232) (hn1 : 1 ≤ n) (hn2 : n ≤ 1000) (hfn : fnd 0 fs k.data.toList = some i) (hi : i < fs.length) (hin : (fs[i].lead :: fs[i].wait).contains n = false) (h5 : fs[i].wait.length = 5) :
    Calls Try.prog 11 #[.slice A fs.length c, .string k, .int .i64 n] w fun e w' => e = .returned (.tuple #[.slice none 0 0, .bool false, .int .i64 7]) ∧ Below w.heap.size w w' := by
  have h66 : fs.length ≤ 6 := hG.len
  have hfew := hG.few i hi
  have H5 := Lib.hid h5
  clear h5
  have HIN := Lib.hid hin
  have FF := Lib.hid hf
  clear hin
  have HCK := Lib.hid (fun w' hf' => FCheck_ok A c fs w' hG hf' hc hm)
  have HHX := Lib.hid (fun w' => hCheck_at (s := k) 0 rfl hk w' hks)
  have HWH := Lib.hid (fun w' => who_ok n w')
  have hwd : decide (1 ≤ n ∧ n ≤ 1000) = true := by simp [hn1, hn2]
  have HWD := Lib.hid hwd
  have HCP := Lib.hid (fun w' hf' => FCopy_ok A c fs w' (by omega) (fun p hp => by
    obtain ⟨j, hj, rfl⟩ := List.mem_iff_getElem.1 hp
    have := hG.few j hj; omega) hf' hc)
  have HFI := Lib.hid (fun w' hf' => Find_ok A c fs k w' (by omega) hf')
  have HF := Lib.hid hfn
  clear hG hk hwd hfn
  go_enter Try.func11, Try.ntmps11
  repeat' ((fail_if_success at_builtin); (fail_if_success at_make); (first | go_values | go_skip | go_guarded | go_step | go_upon | go_back))
  refine ((HCK.out w hf)).mono ?_; rintro e_ w1 ⟨rfl, hb1⟩; dsimp only
  have hf1 := hf.below hb1
  repeat' ((fail_if_success at_builtin); (fail_if_success at_make); (first | go_values | go_skip | go_guarded | go_step | go_upon | go_back))
  refine ((HHX.out w1)).mono ?_; rintro e_ w2 ⟨rfl, hb2⟩; dsimp only
  have hb12 := hb1.trans (hb2.mono hb1.size)
  have hf2 := hf1.below hb2
  repeat' ((fail_if_success at_builtin); (fail_if_success at_make); (first | go_values | go_skip | go_guarded | go_step | go_upon | go_back))
  refine ((HWH.out w2)).mono ?_; rintro e_ _ ⟨rfl, rfl⟩; dsimp only
  rw [HWD.out]
  repeat' ((fail_if_success at_builtin); (fail_if_success at_make); (first | go_values | go_skip | go_guarded | go_step | go_upon | go_back))
  refine ((HCP.out w2 hf2)).mono ?_; rintro e_ w3 ⟨v3, rfl, ho3, hb3⟩; dsimp only
  have hb13 := hb12.trans (hb3.mono hb12.size)
  have hf3 := hf2.below hb3
  have hfi := HFI.out w3 hf3
  rw [HF.out] at hfi
  dsimp only at hfi
  have HFF := Lib.hid hfi
  clear hfi hf hf1 hf2
  repeat' ((fail_if_success at_builtin); (fail_if_success at_make); (first | go_values | go_skip | go_guarded | go_step | go_upon | go_back))
  refine ((HFF.out)).mono ?_; rintro e_ w4 ⟨rfl, hb4⟩; dsimp only
  have hb14 := hb13.trans (hb4.mono hb13.size)
  obtain ⟨b, off, B, cb, rfl, hbb, c0, c1, c2, hrw, hwc, hcbm⟩ := (FF.out.below hb14).at_ i hi
  have i1 : (0 : Int) ≤ (i : Int) := by omega
  have i2 : (i : Int) < (fs.length : Int) := by omega
  obtain ⟨s, hs⟩ : ∃ s : ByteArray, s = ⟨fs[i].key.toArray⟩ := ⟨_, rfl⟩
  rw [← hs] at c0
  have HI2 := HIN.out
  generalize fs[i].lead = ld at *
  generalize fs[i].wait = wt at *
  have HI3 := Lib.hid HI2
  have H55 := H5.out
  have e5 : ((wt.length : Int) == 5) = true := by rw [beq_iff_eq]; omega
  have e5' : (wt.length == 5) = true := by rw [beq_iff_eq]; omega
  clear HI2 HIN hs H55
  repeat' ((fail_if_success at_builtin); (fail_if_success at_make); (first | go_values | go_skip | go_guarded | go_step | go_upon | go_back))
  refine ((crew_ok s ld B cb wt w4 (by omega) hrw)).mono ?_; rintro e_ w5 ⟨v5, rfl, ho5, hb5⟩; dsimp only
  have hb15 := hb14.trans (hb5.mono hb14.size)
  obtain ⟨A5, c5, rfl, hc5, hr5⟩ := Rd.of_own' ho5
  have hcon := Contains_ok A5 c5 (ld :: wt) n w5 (by simp only [List.length_cons]; omega) hr5
  rw [HI3.out] at hcon
  simp only [List.length_cons] at hcon
  have HCO := Lib.hid hcon
  have d2 := (hb5.cell (p := ⟨b, off + i * 3 + 2, none⟩) hbb).trans c2
  clear hcon ho5 hr5 c0 c1 c2
  repeat' ((fail_if_success at_builtin); (fail_if_success at_make); (first | go_values | go_skip | go_guarded | go_step | go_upon | go_back))
  refine ((HCO.out)).mono ?_; rintro e_ _ ⟨rfl, rfl⟩; dsimp only
  repeat' ((fail_if_success at_builtin); (fail_if_success at_make); (first | go_values | go_skip | go_guarded | go_step | go_upon | go_back))
  go_ret3
  exact ⟨rfl, hb15⟩
end Go.Proofs.Ytefhbgbhknobjaa
