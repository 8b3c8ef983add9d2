/- manifest.Name. Condition: the string's size. -/
import Derived.Test.YtkfipkmkmhkfaaaPart
import Derived.Test.YtkfipkmkmhkfaaaPad
import Derived.WalkLawsBesides
import Derived.BigGuardPart
namespace Go.Proofs.Ytkfipkmkmhkfaaa
open Go.RowKit
set_option linter.unusedVariables false
set_option linter.unusedSimpArgs false
set_option maxRecDepth 20000

def chOk (c : UInt8) : Bool := decide (33 ≤ c.toNat ∧ c.toNat ≤ 126)
/-- manifest.Name: what it answers -/
def nameC (l : List UInt8) : Nat := if l.length < 1 ∨ 12 < l.length then 1 else if l.all chOk then 0 else 3
theorem Name_ok (s : ByteArray) (w : World) (hs : s.size ≤ 140737488351232) :
    Calls Try.prog 40 #[.string s] w fun e w' => e = .returned (.int .i64 (nameC s.data.toList)) ∧ w' = w := by
  have hsz : s.data.toList.length = s.size := by rw [Array.length_toList]; rfl
  by_cases hbad : s.size < 1 ∨ 12 < s.size
  · have hfin : nameC s.data.toList = 1 := by rw [nameC, if_pos (by omega)]
    have HF := Lib.hid hfin
    clear hfin hsz
    have hb : s.size < 1 ∨ ¬ s.size < 1 ∧ 12 < s.size := by omega
    clear hbad
    rcases hb with h1 | ⟨h1, h2⟩
    all_goals
      go_enter Try.func40, Try.ntmps40
      repeat' ((fail_if_success at_builtin); (fail_if_success at_make); (first | go_values | go_skip | go_guarded | go_step | go_upon | go_back))
      go_ret
      rw [HF.out]
      exact ⟨rfl, rfl⟩
  · have hfin : nameC s.data.toList = if s.data.toList.all chOk then 0 else 3 := by rw [nameC, if_neg (by omega)]
    have HF := Lib.hid hfin
    have HZ := Lib.hid hsz
    have h1 : ¬ s.size < 1 := by omega
    have h2 : ¬ 12 < s.size := by omega
    have h3 : s.size ≤ 12 := by omega
    have hb12 : decide (12 < (s.size : Int)) = false := by simp; omega
    clear hfin hsz hbad
    go_enter Try.func40, Try.ntmps40
    repeat' ((fail_if_success at_builtin); (fail_if_success at_make); (first | go_values | go_skip | go_guarded | go_step | go_upon | go_back))
    go_loopg [14] s.size (fun gn i wr => ∃ k : Nat, gn = s.size - k ∧ i = .int .i64 k ∧ k ≤ s.size ∧ (s.data.toList.take k).all chOk = true ∧ wr = w)
    case atStart => exact ⟨0, rfl, rfl, by omega, rfl, rfl⟩
    case round =>
      obtain ⟨k, hgk, rfl, hk, hall, rfl⟩ := hrel
      have HGK := Lib.hid hgk
      have HA := Lib.hid hall
      clear hgk hall
      by_cases hlt : k < s.size
      · have hta : (s.data.toList.take (k + 1)).all chOk = (chOk s[k]) := by
          have e : s.data.toList.take (k + 1) = s.data.toList.take k ++ [s[k]] := by
            rw [List.take_succ_eq_append_getElem (by have := HZ.out; omega)]; rfl
          rw [e, List.all_append, HA.out]; simp
        have hno : chOk s[k] = false → nameC s.data.toList = 3 := fun h => by
          rw [HF.out, if_neg]
          intro ha
          have hm : s[k] ∈ s.data.toList := by
            have : s.data.toList[k]'(by have := HZ.out; omega) = s[k] := rfl
            rw [← this]; exact List.getElem_mem _
          have := List.all_eq_true.1 ha _ hm
          rw [h] at this; cases this
        have HTA := Lib.hid hta
        have HNO := Lib.hid hno
        clear hta hno
        have hc := s[k].toNat_lt
        have hi0 : (0 : Int) ≤ (k : Int) := by omega
        have hi1 : (k : Int) < (s.size : Int) := by omega
        by_cases hlo : s[k].toNat ≤ 32
        · have hf := HNO.out (by simp [chOk]; omega)
          have HFF := Lib.hid hf
          have hlo' : (s[k].toNat : Int) ≤ 32 := by omega
          clear hf
          repeat' ((fail_if_success at_builtin); (fail_if_success at_make); (first | go_values | go_skip | go_guarded | go_step | go_upon | go_back))
          go_ret
          rw [HFF.out]
          exact ⟨rfl, rfl⟩
        · by_cases hhi : 126 < s[k].toNat
          · have hf := HNO.out (by simp [chOk]; omega)
            have HFF := Lib.hid hf
            have hlo' : ¬ (s[k].toNat : Int) ≤ 32 := by omega
            have hhi' : 126 < (s[k].toNat : Int) := by omega
            have hbh : decide (126 < (s[k].toNat : Int)) = true := by simpa using hhi'
            clear hf
            repeat' ((fail_if_success at_builtin); (fail_if_success at_make); (first | go_values | go_skip | go_guarded | go_step | go_upon | go_back))
            go_ret
            rw [HFF.out]
            exact ⟨rfl, rfl⟩
          · have hok : chOk s[k] = true := by simp [chOk]; omega
            have HOK := Lib.hid hok
            have hlo' : ¬ (s[k].toNat : Int) ≤ 32 := by omega
            have hhi' : ¬ 126 < (s[k].toNat : Int) := by omega
            have hbh : decide (126 < (s[k].toNat : Int)) = false := by simpa using hhi'
            clear hok
            repeat' ((fail_if_success at_builtin); (fail_if_success at_make); (first | go_values | go_skip | go_guarded | go_step | go_upon | go_back))
            go_roundg (s.size - (k + 1))
            case measure => have := HGK.out; omega
            case rel => exact ⟨k + 1, rfl, by go_num, by omega, by rw [HTA.out, HOK.out], rfl⟩
      · obtain rfl : k = s.size := by omega
        repeat' ((fail_if_success at_builtin); (fail_if_success at_make); (first | go_values | go_skip | go_guarded | go_step | go_upon | go_back))
        go_ret
        rw [HF.out, if_pos (by have := HA.out; rw [List.take_of_length_le (by have := HZ.out; omega)] at this; exact this)]
        exact ⟨rfl, rfl⟩
end Go.Proofs.Ytkfipkmkmhkfaaa
