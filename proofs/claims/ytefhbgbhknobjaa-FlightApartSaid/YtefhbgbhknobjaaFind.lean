/- flight.crew, flight.who, Contains, flight.Find. Conditions: the sizes. -/
import Derived.Test.YtefhbgbhknobjaaFly
namespace Go.Proofs.Ytefhbgbhknobjaa
open Go.RowKit
set_option linter.unusedVariables false
set_option linter.unusedSimpArgs false
set_option maxRecDepth 100000

theorem who_ok (n : Int) (w : World) : Calls Try.prog 19 #[.int .i64 n] w fun e w' => e = .returned (.bool (decide (1 ≤ n ∧ n ≤ 1000))) ∧ w = w' := by
  by_cases h1 : 1 ≤ n
  · by_cases h2 : n ≤ 1000
    · have e1 : decide (1 ≤ n) = true := by simpa using h1
      have e2 : decide (n ≤ 1000) = true := by simpa using h2
      have e3 : decide (1 ≤ n ∧ n ≤ 1000) = true := by simp [h1, h2]
      have H3 := Lib.hid e3
      clear e3
      go_enter Try.func19, Try.ntmps19
      repeat' ((fail_if_success at_builtin); (fail_if_success at_make); (first | go_values | go_skip | go_guarded | go_step | go_upon | go_back))
      go_ret
      rw [H3.out]
      exact ⟨rfl, rfl⟩
    · have e1 : decide (1 ≤ n) = true := by simpa using h1
      have e2 : decide (n ≤ 1000) = false := by simpa using h2
      have e3 : decide (1 ≤ n ∧ n ≤ 1000) = false := by simp [h1, h2]
      have H3 := Lib.hid e3
      clear e3
      go_enter Try.func19, Try.ntmps19
      repeat' ((fail_if_success at_builtin); (fail_if_success at_make); (first | go_values | go_skip | go_guarded | go_step | go_upon | go_back))
      go_ret
      rw [H3.out]
      exact ⟨rfl, rfl⟩
  · have e1 : decide (1 ≤ n) = false := by simpa using h1
    have e3 : decide (1 ≤ n ∧ n ≤ 1000) = false := by simp [h1]
    have H3 := Lib.hid e3
    clear e3
    go_enter Try.func19, Try.ntmps19
    repeat' ((fail_if_success at_builtin); (fail_if_success at_make); (first | go_values | go_skip | go_guarded | go_step | go_upon | go_back))
    go_ret
    rw [H3.out]
    exact ⟨rfl, rfl⟩

theorem elInt : El Try.prog 29 3 1 8 := El.mk' (z := .int .i64 0) Try.underlying29 (by kernel_rfl) rfl (by omega) (by omega)
theorem ins_len (l : List Int) : (ins l).length = l.length := by simp [ins]
theorem ins_one (l : List Int) : ∀ u ∈ ins l, u.oneCell' = true := by
  intro u hu; simp only [ins, List.mem_map] at hu; obtain ⟨_, _, rfl⟩ := hu; rfl
/-- is a number in a slice? -/
theorem Contains_ok (A : Option Addr) (c : Nat) (l : List Int) (x : Int) (w : World) (hn : l.length ≤ 9223372036854775807) (hr : Rd w 1 A l.length (ins l)) :
    Calls Try.prog 15 #[.slice A l.length c, .int .i64 x] w fun e w' => e = .returned (.bool (l.contains x)) ∧ w = w' := by
  rcases Nat.eq_zero_or_pos l.length with h0 | h0
  · obtain rfl := List.eq_nil_of_length_eq_zero h0
    exact (Try.slices_Contains_int_empty A c x w).mono fun e w' h => ⟨h.1, h.2.symm⟩
  · obtain ⟨b, off, rfl, _, hc⟩ := hr.2 h0
    refine (Try.slices_Contains_int b off l.length c l x w (Nat.le_refl _) hn (fun j hj => hc j _ ?_)).mono fun e w' h => ⟨?_, h.2.symm⟩
    · rw [ins, List.getElem?_map, List.getElem?_eq_getElem hj, List.getD_eq_getElem?_getD, List.getElem?_eq_getElem hj]; rfl
    · rw [h.1, List.take_length]

theorem crew_ok (s : ByteArray) (ld : Int) (A : Option Addr) (c : Nat) (l : List Int) (w : World) (hn : l.length ≤ 1000000) (hr : Rd w 1 A l.length (ins l)) :
    Calls Try.prog 18 #[.agg #[.string s, .int .i64 ld, .slice A l.length c]] w fun e w' => ∃ v, e = .returned v ∧ w'.ownsRow w.heap.size 3 1 v (l.length + 1) (ins (ld :: l)) ∧ Below w.heap.size w w' := by
  have hb1 := (Below.refl w.heap.size w).alloc (Nat.le_refl _) (.cells #[.string s, .int .i64 ld, .slice A l.length c] 31)
  have hr1 := hr.alloc (.cells #[.string s, .int .i64 ld, .slice A l.length c] 31)
  go_enter Try.func18, Try.ntmps18
  repeat' ((fail_if_success at_builtin); (fail_if_success at_make); (first | go_values | go_skip | go_guarded | go_step | go_upon | go_back))
  have hs1 : (w.alloc (.cells #[.string s, .int .i64 ld, .slice A l.length c] 31)).heap.size = w.heap.size + 1 := World.size_alloc _ _
  generalize w.alloc (.cells #[.string s, .int .i64 ld, .slice A l.length c] 31) = w1 at *
  rw [← hs1]
  have ho : (w1.alloc (.cells #[.int .i64 ld] 3)).ownsRow w.heap.size 3 1 (.slice (some ⟨w1.heap.size, 0, none⟩) 1 1) 1 [.int .i64 ld] :=
    ⟨rfl, .inr ⟨w1.heap.size, 1, #[.int .i64 ld], rfl, hb1.size, World.alloc_heap_new w1 _, Nat.le_refl _, by simp [maxLen], rfl, rfl⟩⟩
  have hb2 := hb1.alloc hb1.size (.cells #[.int .i64 ld] 3)
  have hr2 := hr1.alloc (.cells #[.int .i64 ld] 3)
  refine wpList_ap rfl (.tmp 5) (.tmp 7) rfl elInt (by rfl) ho (by rfl) hr2 (ins_one l) (by omega) hb2.size ?_
  intro v3 w3 ho3 hg3 _
  have hb3 := below_own hb2 ho (Nat.le_refl _) hg3
  rw [Nat.add_comm 1 l.length] at ho3
  repeat' ((fail_if_success at_builtin); (fail_if_success at_make); (first | go_values | go_skip | go_guarded | go_step | go_upon | go_back))
  go_ret
  exact ⟨_, rfl, ho3, hb3⟩

theorem FindF_ok (s k : ByteArray) (ld : Int) (sl : Value) (gk : Nat) (w : World) (hk : w.cell? ⟨gk, 0, none⟩ = some (.string k)) (hg : gk < w.heap.size) :
    Calls Try.prog 34 #[.agg #[.string s, .int .i64 ld, sl], .pointer (some ⟨gk, 0, none⟩)] w fun e w' => e = .returned (.bool (s.toList == k.toList)) ∧ Below w.heap.size w w' := by
  have hb1 := (Below.refl w.heap.size w).alloc (Nat.le_refl _) (.cells #[.string s, .int .i64 ld, sl] 31)
  have hk1 : (w.alloc (.cells #[.string s, .int .i64 ld, sl] 31)).cell? ⟨gk, 0, none⟩ = some (.string k) := (World.cell?_alloc_lt w _ ⟨gk, 0, none⟩ hg).trans hk
  go_enter Try.func34, Try.ntmps34
  repeat' ((fail_if_success at_builtin); (fail_if_success at_make); (first | go_values | go_skip | go_guarded | go_step | go_upon | go_back))
  go_ret
  exact ⟨rfl, hb1⟩

/-- the place of a key -/
def fnd : Nat → List FlP → List UInt8 → Option Nat
  | _, [], _ => none
  | i, p :: r, k => if p.key = k then some i else fnd (i + 1) r k
theorem fnd_lt : ∀ (fs : List FlP) (i j : Nat) (k : List UInt8), fnd i fs k = some j → i ≤ j ∧ j < i + fs.length
  | p :: r, i, j, k, h => by
    rw [fnd] at h
    split at h
    · cases h; simp
    · have := fnd_lt r (i + 1) j k h; simp only [List.length_cons]; omega

set_option maxHeartbeats 2000000 in
theorem IdxF_ok (A : Option Addr) (c : Nat) (fs : List FlP) (k : ByteArray) (gq : Nat) (w : World) (hn : fs.length ≤ 1000000) (hf : Fls w A fs) (hk : w.cell? ⟨gq, 0, none⟩ = some (.string k)) (hg : gq < w.heap.size) :
    Calls Try.prog 33 #[.slice A fs.length c, .func (.func 34) #[] #[.pointer (some ⟨gq, 0, none⟩)]] w fun e w' =>
      e = .returned (.int .i64 (match fnd 0 fs k.data.toList with | some i => (i : Int) | none => -1)) ∧ Below w.heap.size w w' := by
  generalize hR : fnd 0 fs k.data.toList = R
  have HR := Lib.hid hR
  clear hR
  go_enter Try.func33, Try.ntmps33
  repeat' ((fail_if_success at_builtin); (fail_if_success at_make); (first | go_values | go_skip | go_guarded | go_step | go_upon | go_back))
  go_loopg [5, 8] fs.length (fun gn u i wr => ∃ j : Nat, gn = fs.length - j ∧ i = .int .i64 j ∧ j ≤ fs.length ∧ fnd 0 fs k.data.toList = fnd j (fs.drop j) k.data.toList ∧ Below w.heap.size w wr)
  case atStart => exact ⟨0, rfl, rfl, by omega, rfl, Below.refl _ _⟩
  case round =>
    obtain ⟨j, hgk, rfl, hj, hfn, hbl⟩ := hrel
    have HGK := Lib.hid hgk
    clear hgk
    by_cases hlt : j < fs.length
    · have hcc : decide (j < fs.length) = true := decide_eq_true hlt
      obtain ⟨b, off, B, cb, rfl, hbb, c0, c1, c2, _, _, _⟩ := (hf.below hbl).at_ j hlt
      have hj0 : (0 : Int) ≤ (j : Int) := by omega
      have hj1 : (j : Int) < (fs.length : Int) := by omega
      have hstep : fnd j (fs.drop j) k.data.toList = if fs[j].key = k.data.toList then some j else fnd (j + 1) (fs.drop (j + 1)) k.data.toList := by
        rw [List.drop_eq_getElem_cons hlt, fnd]
      obtain ⟨s, hs⟩ : ∃ s : ByteArray, s = ⟨fs[j].key.toArray⟩ := ⟨_, rfl⟩
      have hsd : s.data.toList = fs[j].key := by rw [hs]
      rw [← hs] at c0
      rw [← hsd] at hstep
      have HST := Lib.hid (hfn.trans hstep)
      generalize fs[j].lead = ld at *
      generalize fs[j].wait.length = wl at *
      have hkk := (hbl.cell (p := ⟨gq, 0, none⟩) hg).trans hk
      have hgg := Nat.lt_of_lt_of_le hg hbl.size
      clear hfn hstep hs hsd
      repeat' ((fail_if_success at_builtin); (fail_if_success at_make); (first | go_values | go_skip | go_guarded | go_step | go_upon | go_back))
      refine ((FindF_ok s k ld (.slice B wl cb) gq wr hkk hgg)).mono ?_; rintro e_ w5 ⟨rfl, hb5⟩; dsimp only
      have hb05 := hbl.trans (hb5.mono hbl.size)
      by_cases he : s.data.toList = k.data.toList
      · have e1 : (s.toList == k.toList) = true := by rw [ByteArray.toList_eq, ByteArray.toList_eq, he, beq_self_eq_true]
        have HF := Lib.hid (show R = some j from by rw [← HR.out, HST.out, if_pos he])
        rw [e1]
        clear he e1
        repeat' ((fail_if_success at_builtin); (fail_if_success at_make); (first | go_values | go_skip | go_guarded | go_step | go_upon | go_back))
        go_ret
        rw [HF.out]
        exact ⟨rfl, hb05⟩
      · have e1 : (s.toList == k.toList) = false := by rw [beq_eq_false_iff_ne, ByteArray.toList_eq, ByteArray.toList_eq]; exact he
        have HF := Lib.hid (show fnd 0 fs k.data.toList = fnd (j + 1) (fs.drop (j + 1)) k.data.toList from by rw [HST.out, if_neg he])
        rw [e1]
        clear he e1
        repeat' ((fail_if_success at_builtin); (fail_if_success at_make); (first | go_values | go_skip | go_guarded | go_step | go_upon | go_back))
        go_roundg (fs.length - (j + 1))
        case measure => have := HGK.out; omega
        case rel => exact ⟨j + 1, rfl, by go_num, by omega, HF.out, hb05⟩
    · obtain rfl : j = fs.length := by omega
      have hcc : decide (fs.length < fs.length) = false := by simp
      have HF := Lib.hid (show R = none from by rw [← HR.out, hfn, List.drop_length, fnd])
      clear hfn
      repeat' ((fail_if_success at_builtin); (fail_if_success at_make); (first | go_values | go_skip | go_guarded | go_step | go_upon | go_back))
      go_ret
      rw [HF.out]
      exact ⟨rfl, hbl⟩

theorem Find_ok (A : Option Addr) (c : Nat) (fs : List FlP) (k : ByteArray) (w : World) (hn : fs.length ≤ 1000000) (hf : Fls w A fs) :
    Calls Try.prog 17 #[.slice A fs.length c, .string k] w fun e w' => e = .returned (.tuple (match fnd 0 fs k.data.toList with | some i => #[.int .i64 (i : Int), .int .i64 0] | none => #[.int .i64 0, .int .i64 5])) ∧ Below w.heap.size w w' := by
  obtain ⟨w1, hw1⟩ : ∃ w1, w1 = w.alloc (.cells #[.string k] 9) := ⟨_, rfl⟩
  have hb1 : Below w.heap.size w w1 := by rw [hw1]; exact (Below.refl _ _).alloc (Nat.le_refl _) _
  have hk1 : w1.cell? ⟨w.heap.size, 0, none⟩ = some (.string k) := by rw [hw1]; exact (Arr.new w 9 [.string k]).cell (k := 0) rfl
  have hg1 : w.heap.size < w1.heap.size := by rw [hw1]; simp
  have HI := Lib.hid (IdxF_ok A c fs k w.heap.size w1 hn (hf.below hb1) hk1 hg1)
  have HW := Lib.hid hw1
  clear hw1 hk1 hf
  cases hfn : fnd 0 fs k.data.toList with
  | none =>
    have hi := HI.out
    rw [hfn] at hi
    dsimp only at hi
    clear HI hfn
    go_enter Try.func17, Try.ntmps17
    repeat' ((fail_if_success at_builtin); (fail_if_success at_make); (first | go_values | go_skip | go_guarded | go_step | go_upon | go_back))
    rw [← HW.out]
    refine ((hi)).mono ?_; rintro e_ w2 ⟨rfl, hb2⟩; dsimp only
    repeat' ((fail_if_success at_builtin); (fail_if_success at_make); (first | go_values | go_skip | go_guarded | go_step | go_upon | go_back))
    go_ret2
    exact ⟨rfl, hb1.trans (hb2.mono hb1.size)⟩
  | some i =>
    have hi := HI.out
    rw [hfn] at hi
    dsimp only at hi
    have hneg : decide ((i : Int) < 0) = false := decide_eq_false (by omega)
    clear HI hfn
    go_enter Try.func17, Try.ntmps17
    repeat' ((fail_if_success at_builtin); (fail_if_success at_make); (first | go_values | go_skip | go_guarded | go_step | go_upon | go_back))
    rw [← HW.out]
    refine ((hi)).mono ?_; rintro e_ w2 ⟨rfl, hb2⟩; dsimp only
    repeat' ((fail_if_success at_builtin); (fail_if_success at_make); (first | go_values | go_skip | go_guarded | go_step | go_upon | go_back))
    go_ret2
    exact ⟨rfl, hb1.trans (hb2.mono hb1.size)⟩
end Go.Proofs.Ytefhbgbhknobjaa
