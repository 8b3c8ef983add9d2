/- flight.Join of flights that may be. Conditions: the sizes. -/
import Derived.Test.YtefhbgbhknobjaaFCopy
namespace Go.Proofs.Ytefhbgbhknobjaa
open Go.RowKit
set_option linter.unusedVariables false
set_option linter.unusedSimpArgs false
set_option maxRecDepth 100000

theorem cellsF_one (fs : List FlP) (As : List (Option Addr × Nat)) : ∀ u ∈ cellsF fs As, u.oneCell' = true := by
  intro u hu
  simp only [cellsF, List.mem_flatMap] at hu
  obtain ⟨x, _, hx⟩ := hu
  simp only [fcell, List.mem_cons, List.not_mem_nil, or_false] at hx
  rcases hx with rfl | rfl | rfl <;> rfl
theorem CloneF_ok (v : Value) (base : Nat) (fs : List FlP) (w : World) (hn : fs.length ≤ 1000) (h0 : 0 < fs.length) (hbs : base ≤ w.heap.size) (h : FlsO w base v fs) :
    Calls Try.prog 25 #[v] w fun e w' => ∃ v', e = .returned v' ∧ FlsO w' base v' fs ∧ Below w.heap.size w w' := by
  obtain ⟨As, i1, i2, i3, i4⟩ := h
  obtain ⟨g, cap, cs, rfl, _, _, hcap, _, _, _⟩ := own_ex i2 h0
  have hr := Rd.of_own i2
  have I3 := Lib.hid i3
  have I4 := Lib.hid i4
  have I1 := Lib.hid i1
  have heq := fun W => Lib.run_eql_slice_nil (P := Try.prog) W 23 31 (some ⟨g, 0, none⟩) fs.length cap 0 0 Try.underlying23
  clear i1 i2 i3 i4
  go_enter Try.func25, Try.ntmps25
  repeat' ((fail_if_success at_builtin); (fail_if_success at_make); (first | go_values | go_skip | go_guarded | go_step | go_upon | go_back))
  refine wpList_ap rfl (.tmp 5) (.tmp 6) rfl elFl (by rfl) (World.ownsRow_made (size := 3) w #[] 0 (Nat.le_refl _) (by simp [maxLen]) rfl) (by rfl) (hr.alloc _) (cellsF_one fs As) (by omega) (by simp) ?_
  intro v1 w1 hown1 hg1 _
  have hb1 := below_own ((Below.refl _ _).alloc (Nat.le_refl _) _) (World.ownsRow_made (size := 3) w #[] 0 (Nat.le_refl _) (by simp [maxLen]) rfl) (Nat.le_refl _) hg1
  rw [Nat.zero_add, List.nil_append] at hown1
  repeat' ((fail_if_success at_builtin); (fail_if_success at_make); (first | go_values | go_skip | go_guarded | go_step | go_upon | go_back))
  go_ret
  refine ⟨_, rfl, ⟨As, I1.out, own_lower hown1 hbs, (fun k p a hp ha => ?_), I4.out⟩, hb1⟩
  obtain ⟨j1, _⟩ := I3.out k p a hp ha
  exact ⟨own_below j1 hb1, fun g h h' => by
    have := (j1.lt g (by rw [blk_own]; exact h)).2
    have := (hown1.lt g h').1
    omega⟩

set_option maxHeartbeats 4000000 in
/-- a flight that nobody makes yet -/
theorem Join_new (A : Option Addr) (c : Nat) (fs : List FlP) (k : ByteArray) (n : Int) (w : World) (hG : GoodF fs) (hf : Fls w A fs) (hc : fs.length ≤ c) (hm : c ≤ maxLen) (hk : hexC k.data.toList = 0) (hks : k.size ≤ 140737488351232) (hn1 : 1 ≤ n) (hn2 : n ≤ 1000) (hfn : fnd 0 fs k.data.toList = none) (h6 : fs.length < 6) :
    Calls Try.prog 11 #[.slice A fs.length c, .string k, .int .i64 n] w fun e w' => ∃ v, e = .returned (.tuple #[v, .bool true, .int .i64 0]) ∧ FlsO w' w.heap.size v (fs ++ [⟨k.data.toList, n, []⟩]) ∧ Below w.heap.size w w' := by
  have HCK := Lib.hid (fun w' hf' => FCheck_ok A c fs w' hG hf' hc hm)
  have HHX := Lib.hid (fun w' => hCheck_at (s := k) 0 rfl hk w' hks)
  have HWH := Lib.hid (fun w' => who_ok n w')
  have hwd : decide (1 ≤ n ∧ n ≤ 1000) = true := by simp [hn1, hn2]
  have HWD := Lib.hid hwd
  have HCP := Lib.hid (fun w' hf' => FCopy_ok A c fs w' (by omega) (fun p hp => by
    obtain ⟨j, hj, rfl⟩ := List.mem_iff_getElem.1 hp
    have := hG.few j hj; omega) hf' hc)
  have HFI := Lib.hid (fun w' hf' => Find_ok A c fs k w' (by omega) hf')
  have HF := Lib.hid hfn
  have e6 : ((fs.length : Int) == 6) = false := by rw [beq_eq_false_iff_ne]; omega
  have e6' : (fs.length == 6) = false := by rw [beq_eq_false_iff_ne]; omega
  clear hG hk hwd hfn
  go_enter Try.func11, Try.ntmps11
  repeat' ((fail_if_success at_builtin); (fail_if_success at_make); (first | go_values | go_skip | go_guarded | go_step | go_upon | go_back))
  refine ((HCK.out w hf)).mono ?_; rintro e_ w1 ⟨rfl, hb1⟩; dsimp only
  have hf1 := hf.below hb1
  repeat' ((fail_if_success at_builtin); (fail_if_success at_make); (first | go_values | go_skip | go_guarded | go_step | go_upon | go_back))
  refine ((HHX.out w1)).mono ?_; rintro e_ w2 ⟨rfl, hb2⟩; dsimp only
  have hb12 := hb1.trans (hb2.mono hb1.size)
  have hf2 := hf1.below hb2
  repeat' ((fail_if_success at_builtin); (fail_if_success at_make); (first | go_values | go_skip | go_guarded | go_step | go_upon | go_back))
  refine ((HWH.out w2)).mono ?_; rintro e_ _ ⟨rfl, rfl⟩; dsimp only
  rw [HWD.out]
  repeat' ((fail_if_success at_builtin); (fail_if_success at_make); (first | go_values | go_skip | go_guarded | go_step | go_upon | go_back))
  refine ((HCP.out w2 hf2)).mono ?_; rintro e_ w3 ⟨v3, rfl, ho3, hb3⟩; dsimp only
  have hb13 := hb12.trans (hb3.mono hb12.size)
  have hf3 := hf2.below hb3
  have hfi := HFI.out w3 hf3
  rw [HF.out] at hfi
  dsimp only at hfi
  have HFF := Lib.hid hfi
  clear hfi hf hf1 hf2
  repeat' ((fail_if_success at_builtin); (fail_if_success at_make); (first | go_values | go_skip | go_guarded | go_step | go_upon | go_back))
  refine ((HFF.out)).mono ?_; rintro e_ w4 ⟨rfl, hb4⟩; dsimp only
  have hb14 := hb13.trans (hb4.mono hb13.size)
  have ho4 := ho3.below hb4
  clear ho3 hf3
  repeat' ((fail_if_success at_builtin); (fail_if_success at_make); (first | go_values | go_skip | go_guarded | go_step | go_upon | go_back))
  obtain ⟨As, i1, i2, i3, i4⟩ := ho4
  refine wpList_apN rfl (.tmp 46) (.tmp 50) rfl elFl (by rfl) i2 (us := [.string k, .int .i64 n, .slice none 0 0]) (m := 1) (by rfl) rfl (by intro u hu; simp at hu; rcases hu with rfl | rfl | rfl <;> rfl) (by omega) (Nat.le_trans hb3.size hb4.size) ?_
  intro v5 w5 ho5 hg5 hv5
  have hbel5 : Below w.heap.size w w5 := hb14.grown hg5 hb14.size (fun k hk => Nat.le_trans hb12.size (i2.lt k hk).1)
  have ho6 := FlsO.snoc (p := ⟨k.data.toList, n, []⟩) (B := none) (c := 0) i1 i3 i4 ho5 hg5 hv5 (World.ownsRow_nil _ _ _ _) (fun g h => by cases h) (fun k' a _ g _ h => by cases h)
  have ho6 := ho6.lower hb12.size
  clear i1 i2 i3 i4 ho5 hg5 hv5
  have hlen : (fs ++ [(⟨k.data.toList, n, []⟩ : FlP)]).length ≤ 7 := by rw [List.length_append]; simp only [List.length_cons, List.length_nil]; omega
  have hpos : 0 < (fs ++ [(⟨k.data.toList, n, []⟩ : FlP)]).length := by rw [List.length_append]; simp
  generalize hgs : fs ++ [(⟨k.data.toList, n, []⟩ : FlP)] = gs at *
  have HGS := Lib.hid hgs
  clear hgs
  repeat' ((fail_if_success at_builtin); (fail_if_success at_make); (first | go_values | go_skip | go_guarded | go_step | go_upon | go_back))
  refine ((CloneF_ok _ _ gs w5 (by omega) hpos hbel5.size ho6)).mono ?_; rintro e_ w6 ⟨v6, rfl, ho8, hb6⟩; dsimp only
  rw [← HGS.out] at ho8
  repeat' ((fail_if_success at_builtin); (fail_if_success at_make); (first | go_values | go_skip | go_guarded | go_step | go_upon | go_back))
  go_ret3
  exact ⟨v6, rfl, ho8, hbel5.trans (hb6.mono hbel5.size)⟩
end Go.Proofs.Ytefhbgbhknobjaa
