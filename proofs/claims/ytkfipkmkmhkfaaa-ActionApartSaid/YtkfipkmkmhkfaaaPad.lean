/- sha.Pad and hex.Check. Conditions: the sizes. -/
import Derived.Test.YtkfipkmkmhkfaaaDigP
import Derived.Test.YtkfipkmkmhkfaaaTurns
import Derived.Deep.LoopGhost
namespace Go.Proofs.Ytkfipkmkmhkfaaa
open Go.RowKit
set_option linter.unusedVariables false
set_option linter.unusedSimpArgs false
set_option maxRecDepth 20000

theorem be_val2 (n k j : Nat) (hj : j + k = 7) : 8 * (n : Int) / 2 ^ (8 * j) % 256 = ((UInt8.ofNat (8 * n / 256 ^ (7 - k))).toNat : Int) := by
  have h := be_val n k (by omega)
  rw [show 56 - 8 * k = 8 * j by omega] at h
  rw [Int.mul_comm]; exact h

theorem Pad_big (A : Option Addr) (n c : Nat) (w : World) (hn : 2000 < n) (hc : n ≤ c) (hm : c ≤ 140737488355328) :
    Calls Try.prog 42 #[.slice A n c] w fun e w' => e = .returned (.tuple #[.slice none 0 0, .int .i64 1]) ∧ w = w' := by
  go_enter Try.func42, Try.ntmps42
  repeat' ((fail_if_success at_builtin); (fail_if_success at_make); (first | go_values | go_skip | go_guarded | go_step | go_upon | go_back))
  go_ret2
  exact ⟨rfl, rfl⟩

theorem Pad_ok (A : Option Addr) (n c : Nat) (l : List UInt8) (w : World) (hl : l.length = n) (hn : n ≤ 2000) (hc : n ≤ c) (hr : Rd w 1 A n (bys l)) :
    Calls Try.prog 42 #[.slice A n c] w fun e w' => ∃ A' c', e = .returned (.tuple #[.slice A' (shaPad l).length c', .int .i64 0]) ∧ OwnB 5 w.heap.size w' A' c' (shaPad l) ∧ Below w.heap.size w w' := by
  have HL := Lib.hid hl
  clear hl
  go_enter Try.func42, Try.ntmps42
  repeat' ((fail_if_success at_builtin); (fail_if_success at_make); (first | go_values | go_skip | go_guarded | go_step | go_upon | go_back))
  have hl := HL.out
  refine wpList_ap rfl (.const (.slice none 0 0)) (.tmp 10) rfl elU8 (by rfl) (World.ownsRow_nil w w.heap.size _ _) (by rfl) hr (bys_one _) (by omega) (Nat.le_refl _) ?_
  intro v1 w1 ho1 hg1 _
  have hb1 := below_own (Below.refl _ _) (World.ownsRow_nil w w.heap.size 5 1) (Nat.le_refl _) hg1
  rw [List.nil_append, Nat.zero_add] at ho1
  repeat' ((fail_if_success at_builtin); (fail_if_success at_make); (first | go_values | go_skip | go_guarded | go_step | go_upon | go_back))
  refine wpList_apN rfl (.tmp 11) (.tmp 12) rfl elU8 (by rfl) ho1 rfl rfl (by simp; rfl) (by omega) hb1.size ?_
  intro v2 w2 ho2 hg2 _
  have hb2 := below_own hb1 ho1 (Nat.le_refl _) hg2
  have ho3 : w2.ownsRow w.heap.size 5 1 v2 (n + 1 + 0) (bys (l ++ [128] ++ List.replicate 0 0)) := by
    rw [List.replicate_zero, List.append_nil, bys_app]; exact ho2
  clear hl ho1 ho2 hg2 hg1 hb1
  repeat' ((fail_if_success at_builtin); (fail_if_success at_make); (first | go_values | go_skip | go_guarded | go_step | go_upon | go_back))
  go_loopg [4] (zpad n) (fun gn v wr => ∃ k, gn = zpad n - k ∧ k ≤ zpad n ∧ wr.ownsRow w.heap.size 5 1 v (n + 1 + k) (bys (l ++ [128] ++ List.replicate k 0)) ∧ Below w.heap.size w wr)
  case atStart => exact ⟨0, rfl, by omega, ho3, hb2⟩
  case round =>
    clear ho3 hb2
    obtain ⟨k, hgk, hk, hown, hbel⟩ := hrel
    obtain ⟨A3, c3, rfl, hc3, hrd3⟩ := Rd.of_own' hown
    have hz : zpad n ≤ 63 := by unfold zpad; omega
    by_cases h56 : (n + 1 + k) % 64 = 56
    · have hkz := zpad_end n k h56 hk
      have hb56 : (((n + 1 + k : Nat) : Int) % 64 != 56) = false := by rw [bne_eq_false_iff_eq]; omega
      generalize hm1 : n + 1 + k = m at *
      have HM := Lib.hid hm1
      have hm2 : m ≤ n + 64 := by omega
      clear hm1 h56 hgk
      subst hkz
      repeat' ((fail_if_success at_builtin); (fail_if_success at_make); (first | go_values | go_skip | go_guarded | go_step | go_upon | go_back))
      have ho4 : wr.ownsRow w.heap.size 5 1 (.slice A3 m c3) (m + 0) (bys (l ++ [128] ++ List.replicate (zpad n) 0 ++ (be64 (8 * n)).take 0)) := by
        rw [List.take_zero, List.append_nil]; exact hown
      clear hown hrd3 hc3 hb56
      go_loopg [4, 6] 8 (fun gn v i wr => Below w.heap.size w wr ∧ ((∃ k j : Nat, gn = 8 - k ∧ i = .int .i64 j ∧ j + k = 7 ∧ wr.ownsRow w.heap.size 5 1 v (m + k) (bys (l ++ [128] ++ List.replicate (zpad n) 0 ++ (be64 (8 * n)).take k))) ∨
        (i = .int .i64 (-1) ∧ wr.ownsRow w.heap.size 5 1 v (m + 8) (bys (l ++ [128] ++ List.replicate (zpad n) 0 ++ (be64 (8 * n)).take 8)))))
      case atStart => exact ⟨hbel, .inl ⟨0, 7, rfl, rfl, rfl, ho4⟩⟩
      case round =>
        clear ho4 hbel
        obtain ⟨hbel, ⟨k, j, hgk, rfl, hjk, hown⟩ | ⟨rfl, hown⟩⟩ := hrel
        · have HGK := Lib.hid hgk
          clear hgk
          have HJK := Lib.hid hjk
          have hk7 : k ≤ 7 := by omega
          have hj7 : j ≤ 7 := by omega
          clear hjk
          have hbn := be_next (8 * n) k (by omega)
          have HBN := Lib.hid hbn
          clear hbn
          repeat' ((fail_if_success at_builtin); (fail_if_success at_make); (first | go_values | go_skip | go_guarded | go_step | go_upon | go_back))
          refine wpList_apN rfl (.tmp 28) (.tmp 34) rfl elU8 (by rfl) hown rfl rfl (by simp; rfl) (by omega) hbel.size ?_
          intro v2 w2 ho2 hg2 _
          have hb2 := below_own hbel hown (Nat.le_refl _) hg2
          rw [be_val2 n k j HJK.out] at ho2
          have ho9 : w2.ownsRow w.heap.size 5 1 v2 (m + (k + 1)) (bys (l ++ [128] ++ List.replicate (zpad n) 0 ++ (be64 (8 * n)).take (k + 1))) := by
            rw [HBN.out, ← List.append_assoc, bys_app _ [_]]; exact ho2
          by_cases hj0 : j = 0
          · subst hj0
            repeat' ((fail_if_success at_builtin); (fail_if_success at_make); (first | go_values | go_skip | go_guarded | go_step | go_upon | go_back))
            go_roundg 0
            case measure => have := HGK.out; omega
            case rel =>
              have hk : k = 7 := by have := HJK.out; omega
              subst hk
              exact ⟨hb2, .inr ⟨by go_num, ho9⟩⟩
          · have hj1 : 1 ≤ j := by omega
            clear hj0
            repeat' ((fail_if_success at_builtin); (fail_if_success at_make); (first | go_values | go_skip | go_guarded | go_step | go_upon | go_back))
            go_roundg (8 - (k + 1))
            case measure => have := HGK.out; omega
            case rel => exact ⟨hb2, .inl ⟨k + 1, j - 1, rfl, by go_num, by have := HJK.out; omega, ho9⟩⟩
        · have hsp : l ++ [128] ++ List.replicate (zpad n) 0 ++ (be64 (8 * n)).take 8 = shaPad l := by
            rw [List.take_of_length_le (by rw [be_len]; omega)]; unfold shaPad; rw [HL.out]
          have hpl2 : (shaPad l).length = m + 8 := by rw [← hsp]; have := HM.out; have := HL.out; simp [be_len]; omega
          rw [hsp] at hown
          clear hsp
          obtain ⟨A5, c5, rfl, hc5, hrd5⟩ := Rd.of_own' hown
          have HPL := Lib.hid hpl2
          clear hpl2 hown
          repeat' ((fail_if_success at_builtin); (fail_if_success at_make); (first | go_values | go_skip | go_guarded | go_step | go_upon | go_back))
          refine wpList_ap rfl (.const (.slice none 0 0)) (.tmp 36) rfl elU8 (by rfl) (World.ownsRow_nil wr w.heap.size _ _) (by rfl) hrd5 (bys_one _) (by omega) hbel.size ?_
          intro v8 w8 ho8 hg8 _
          have hb8 := below_own hbel (World.ownsRow_nil wr w.heap.size 5 1) (Nat.le_refl _) hg8
          rw [List.nil_append, Nat.zero_add] at ho8
          obtain ⟨A9, c9, rfl, ho9⟩ := OwnB.of HPL.out ho8
          repeat' ((fail_if_success at_builtin); (fail_if_success at_make); (first | go_values | go_skip | go_guarded | go_step | go_upon | go_back))
          go_ret2
          exact ⟨A9, c9, rfl, ho9, hb8⟩
    · have hkz := zpad_go n k h56 hk
      have hb56 : (((n + 1 + k : Nat) : Int) % 64 != 56) = true := by rw [bne_iff_ne]; omega
      generalize hm1 : n + 1 + k = m at *
      have HM := Lib.hid hm1
      have hm2 : m ≤ n + 64 := by omega
      have HGK := Lib.hid hgk
      clear hm1 h56 hgk
      repeat' ((fail_if_success at_builtin); (fail_if_success at_make); (first | go_values | go_skip | go_guarded | go_step | go_upon | go_back))
      refine wpList_apN rfl (.tmp 18) (.tmp 19) rfl elU8 (by rfl) hown rfl rfl (by simp; rfl) (by omega) hbel.size ?_
      intro v2 w2 ho2 hg2 _
      have hb2 := below_own hbel hown (Nat.le_refl _) hg2
      repeat' ((fail_if_success at_builtin); (fail_if_success at_make); (first | go_values | go_skip | go_guarded | go_step | go_upon | go_back))
      go_roundg (zpad n - (k + 1))
      case measure => have := HGK.out; omega
      case rel =>
        refine ⟨k + 1, rfl, by omega, ?_, hb2⟩
        rw [← Nat.add_assoc, HM.out, List.replicate_succ', ← List.append_assoc, bys_app]
        exact ho2

/-- hex.Check: what it answers -/
def hexC (l : List UInt8) : Nat := if l.length ≠ 64 then 1 else (hexB l).2
theorem hCheck_ok (s : ByteArray) (w : World) (hs : s.size ≤ 140737488351232) :
    Calls Try.prog 41 #[.string s] w fun e w' => e = .returned (.int .i64 (hexC s.data.toList)) ∧ Below w.heap.size w w' := by
  have hsz : s.data.toList.length = s.size := by rw [Array.length_toList]; rfl
  by_cases h64 : s.size = 64
  · have hb : ((s.size : Int) != 64) = false := by rw [bne_eq_false_iff_eq]; omega
    have hfin : hexC s.data.toList = (hexB s.data.toList).2 := by rw [hexC, if_neg (by omega)]
    have HF := Lib.hid hfin
    clear hfin hsz h64
    go_enter Try.func41, Try.ntmps41
    repeat' ((fail_if_success at_builtin); (fail_if_success at_make); (first | go_values | go_skip | go_guarded | go_step | go_upon | go_back))
    refine ((hBytes_ok s _ hs)).mono ?_; rintro e_ w1 ⟨A1, c1, rfl, ho1, hb1⟩; dsimp only
    repeat' ((fail_if_success at_builtin); (fail_if_success at_make); (first | go_values | go_skip | go_guarded | go_step | go_upon | go_back))
    go_ret
    rw [HF.out]
    exact ⟨rfl, hb1⟩
  · have hb : ((s.size : Int) != 64) = true := by rw [bne_iff_ne]; omega
    have hfin : hexC s.data.toList = 1 := by rw [hexC, if_pos (by omega)]
    have HF := Lib.hid hfin
    clear hfin hsz h64
    go_enter Try.func41, Try.ntmps41
    repeat' ((fail_if_success at_builtin); (fail_if_success at_make); (first | go_values | go_skip | go_guarded | go_step | go_upon | go_back))
    go_ret
    rw [HF.out]
    exact ⟨rfl, Below.refl _ _⟩
end Go.Proofs.Ytkfipkmkmhkfaaa
