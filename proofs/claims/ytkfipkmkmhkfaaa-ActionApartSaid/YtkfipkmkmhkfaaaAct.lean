/- action.Check. Conditions: the sizes. -/
import Derived.Test.YtkfipkmkmhkfaaaDecP
import Derived.Test.YtkfipkmkmhkfaaaZ
namespace Go.Proofs.Ytkfipkmkmhkfaaa
open Go.RowKit
set_option linter.unusedVariables false
set_option linter.unusedSimpArgs false
set_option maxRecDepth 100000

def chA (c : UInt8) : Bool := decide (32 ≤ c.toNat ∧ c.toNat ≤ 126)
def cmdC (l : List UInt8) : Nat := if l.length < 1 ∨ 60 < l.length then 1 else if l.all chA then 0 else 3
/-- action.Check: what it answers -/
def actC (l : List UInt8) (x : List PartP) : Nat := if cmdC l ≠ 0 then cmdC l else chk x

set_option maxHeartbeats 2000000 in
theorem ACheck_ok (s : ByteArray) (A : Option Addr) (n c : Nat) (x : List PartP) (w : World) (hs : s.size ≤ 140737488351232) (hl : x.length = n) (hc : n ≤ c) (hm : n ≤ 9223372036854775807) (hok : PartsOk x) (hr : Rd w 3 A n (pcs x)) :
    Calls Try.prog 9 #[.agg #[.string s, .slice A n c]] w fun e w' => e = .returned (.int .i64 (actC s.data.toList x)) ∧ Below w.heap.size w w' := by
  have hsz : s.data.toList.length = s.size := by rw [Array.length_toList]; rfl
  obtain ⟨w1, hw1⟩ : ∃ w1, w1 = w.alloc (.cells #[.string s, .slice A n c] 26) := ⟨_, rfl⟩
  have hb1 : Below w.heap.size w w1 := by rw [hw1]; exact (Below.refl _ _).alloc (Nat.le_refl _) _
  have hA1 : Arr w1 w.heap.size 26 [.string s, .slice A n c] := by rw [hw1]; exact Arr.new w _ _
  have hr1 : Rd w1 3 A n (pcs x) := by rw [hw1]; exact hr.alloc _
  have HCK := Lib.hid (Check_ok A n c x w1 hl hc hm hok hr1)
  have HW := Lib.hid hw1
  have HZ := Lib.hid hsz
  have f0 : (w.alloc (.cells #[.string s, .slice A n c] 26)).cell? ⟨w.heap.size, 0, none⟩ = some (.string s) := by rw [← hw1]; exact hA1.cell (k := 0) rfl
  have F0 := hA1.cell (k := 0) rfl
  have F1 := hA1.cell (k := 1) rfl
  clear hl hok hr hr1 hw1
  by_cases hbad : s.size < 1 ∨ 60 < s.size
  · have hfin : actC s.data.toList x = 1 := by
      have : cmdC s.data.toList = 1 := by rw [cmdC, if_pos (by omega)]
      rw [actC, this]; rfl
    have HF := Lib.hid hfin
    clear hfin hsz
    have hb : s.size < 1 ∨ ¬ s.size < 1 ∧ 60 < s.size := by omega
    clear hbad
    rcases hb with h1 | ⟨h1, h2⟩
    · have e1 : decide ((s.size : Int) < 1) = true := decide_eq_true (by omega)
      go_enter Try.func9, Try.ntmps9
      repeat' ((fail_if_success at_builtin); (fail_if_success at_make); (first | go_values | go_skip | go_guarded | go_step | go_upon | go_back))
      rw [← HW.out]
      go_ret
      rw [HF.out]
      exact ⟨rfl, hb1⟩
    · have e1 : decide ((s.size : Int) < 1) = false := decide_eq_false (by omega)
      have e2 : decide ((60 : Int) < (s.size : Int)) = true := decide_eq_true (by omega)
      go_enter Try.func9, Try.ntmps9
      repeat' ((fail_if_success at_builtin); (fail_if_success at_make); (first | go_values | go_skip | go_guarded | go_step | go_upon | go_back))
      rw [← HW.out]
      go_ret
      rw [HF.out]
      exact ⟨rfl, hb1⟩
  · have hfin : cmdC s.data.toList = if s.data.toList.all chA then 0 else 3 := by rw [cmdC, if_neg (by omega)]
    have HF := Lib.hid hfin
    have e1 : decide ((s.size : Int) < 1) = false := decide_eq_false (by omega)
    have e2 : decide ((60 : Int) < (s.size : Int)) = false := decide_eq_false (by omega)
    have h60 : s.size ≤ 60 := by omega
    clear hfin hsz hbad
    go_enter Try.func9, Try.ntmps9
    repeat' ((fail_if_success at_builtin); (fail_if_success at_make); (first | go_values | go_skip | go_guarded | go_step | go_upon | go_back))
    rw [← HW.out]
    obtain ⟨g, hg⟩ : ∃ g, g = w.heap.size := ⟨_, rfl⟩
    rw [← hg] at F0 F1 ⊢
    clear hg f0 hA1
    go_loopg [17] s.size (fun gn i wr => ∃ k : Nat, gn = s.size - k ∧ i = .int .i64 k ∧ k ≤ s.size ∧ (s.data.toList.take k).all chA = true ∧ wr = w1)
    case atStart => exact ⟨0, rfl, rfl, by omega, rfl, rfl⟩
    case round =>
      obtain ⟨k, hgk, rfl, hk, hall, rfl⟩ := hrel
      have HGK := Lib.hid hgk
      have HA := Lib.hid hall
      clear hgk hall
      by_cases hlt : k < s.size
      · have hta : (s.data.toList.take (k + 1)).all chA = (chA s[k]) := by
          have e : s.data.toList.take (k + 1) = s.data.toList.take k ++ [s[k]] := by
            rw [List.take_succ_eq_append_getElem (by have := HZ.out; omega)]; rfl
          rw [e, List.all_append, HA.out]; simp
        have hno : chA s[k] = false → actC s.data.toList x = 3 := fun h => by
          have h3 : cmdC s.data.toList = 3 := by
            rw [HF.out, if_neg]
            intro ha
            have hm : s[k] ∈ s.data.toList := by
              have : s.data.toList[k]'(by have := HZ.out; omega) = s[k] := rfl
              rw [← this]; exact List.getElem_mem _
            have := List.all_eq_true.1 ha _ hm
            rw [h] at this; cases this
          rw [actC, h3]; rfl
        have HTA := Lib.hid hta
        have HNO := Lib.hid hno
        clear hta hno
        have hc := s[k].toNat_lt
        have hi0 : (0 : Int) ≤ (k : Int) := by omega
        have hi1 : (k : Int) < (s.size : Int) := by omega
        have hcc : decide (k < s.size) = true := decide_eq_true hlt
        by_cases hlo : s[k].toNat < 32
        · have hf := HNO.out (by simp [chA]; omega)
          have HFF := Lib.hid hf
          have hlo' : decide ((s[k].toNat : Int) < 32) = true := decide_eq_true (by omega)
          clear hf hlo
          repeat' ((fail_if_success at_builtin); (fail_if_success at_make); (first | go_values | go_skip | go_guarded | go_step | go_upon | go_back))
          go_ret
          rw [HFF.out]
          exact ⟨rfl, hb1⟩
        · have hlo' : decide ((s[k].toNat : Int) < 32) = false := decide_eq_false (by omega)
          by_cases hhi : 126 < s[k].toNat
          · have hf := HNO.out (by simp [chA]; omega)
            have HFF := Lib.hid hf
            have hhi' : decide ((126 : Int) < (s[k].toNat : Int)) = true := decide_eq_true (by omega)
            clear hf hlo hhi
            repeat' ((fail_if_success at_builtin); (fail_if_success at_make); (first | go_values | go_skip | go_guarded | go_step | go_upon | go_back))
            go_ret
            rw [HFF.out]
            exact ⟨rfl, hb1⟩
          · have hhi' : decide ((126 : Int) < (s[k].toNat : Int)) = false := decide_eq_false (by omega)
            have HT := Lib.hid (show (s.data.toList.take (k + 1)).all chA = true from by rw [HTA.out]; simp [chA]; omega)
            clear hlo hhi
            repeat' ((fail_if_success at_builtin); (fail_if_success at_make); (first | go_values | go_skip | go_guarded | go_step | go_upon | go_back))
            go_roundg (s.size - (k + 1))
            case measure => have := HGK.out; omega
            case rel => exact ⟨k + 1, rfl, by go_num, by omega, HT.out, rfl⟩
      · obtain rfl : k = s.size := by omega
        have hcc : decide (s.size < s.size) = false := by simp
        have h0 : cmdC s.data.toList = 0 := by
          rw [HF.out, if_pos]
          have h := HA.out
          rwa [List.take_of_length_le (by have := HZ.out; omega)] at h
        have HFF := Lib.hid (show actC s.data.toList x = chk x from by rw [actC, h0, if_neg (by decide)])
        clear h0
        repeat' ((fail_if_success at_builtin); (fail_if_success at_make); (first | go_values | go_skip | go_guarded | go_step | go_upon | go_back))
        refine ((HCK.out)).mono ?_; rintro e_ w3 ⟨rfl, hb3⟩; dsimp only
        repeat' ((fail_if_success at_builtin); (fail_if_success at_make); (first | go_values | go_skip | go_guarded | go_step | go_upon | go_back))
        go_ret
        rw [HFF.out]
        exact ⟨rfl, hb1.trans (hb3.mono hb1.size)⟩
end Go.Proofs.Ytkfipkmkmhkfaaa
