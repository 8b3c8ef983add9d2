/- wire.Number gives a number's bytes. Condition: the number fits. -/
import Derived.Test.YtkfipkmkmhkfaaaMem
import Derived.Test.YtkfipkmkmhkfaaaNumM
import Derived.Test.YtkfipkmkmhkfaaaProg
namespace Go.Proofs.Ytkfipkmkmhkfaaa
open Go.RowKit
set_option linter.unusedVariables false
set_option linter.unusedSimpArgs false
theorem elU8 : El Try.prog 35 5 1 1 := El.mk' (z := .int .u8 0) Try.underlying35 (by kernel_rfl) rfl (by omega) (by omega)

theorem or128 (m : Nat) (h : m < 128) : bits .or .u8 (m : Int) 128 = ((m + 128 : Nat) : Int) := by
  have : ∀ m : Nat, m < 128 → bits .or .u8 (m : Int) 128 = ((m + 128 : Nat) : Int) := by decide +kernel
  exact this m h

theorem Number_ok (N : Nat) (w : World) (hN : N ≤ 4294967295) : Calls Try.prog 48 #[.int .i64 N] w fun e w' => ∃ v, e = .returned (.tuple #[v, .int .i64 0]) ∧
    w'.ownsRow w.heap.size 5 1 v (num N).length (bys (num N)) ∧ Below w.heap.size w w' := by
  go_enter Try.func48, Try.ntmps48
  go_wp2
  go_loopw [0, 4] (fun n v wr => ∃ (k : Nat) (acc : List UInt8), n = .int .i64 k ∧ k ≤ 4294967295 ∧ acc.length + (num k).length = (num N).length ∧ num N = acc ++ num k ∧ wr.ownsRow w.heap.size 5 1 v acc.length (bys acc) ∧ Below w.heap.size w wr) (fun n _ _ => (intOf n).toNat)
  case atStart => exact ⟨N, [], rfl, hN, by simp, rfl, World.ownsRow_nil _ _ _ _, Below.refl _ _⟩
  case round =>
    obtain ⟨k, acc, rfl, hk, hl, hnum, hown, hbel⟩ := hrel
    have HN := Lib.hid hnum; clear hnum
    have HL := Lib.hid hl; clear hl
    have hlen : acc.length ≤ 5 := by have := (num_len N 4 (by omega)).2; have := HL.out; omega
    have hsz := hbel.size
    by_cases hb : k < 128
    · repeat' ((fail_if_success at_builtin); (fail_if_success at_make); (first | go_values | go_skip | go_guarded | go_step | go_upon | go_back))
      refine wpList_apN rfl (.tmp 22) (.tmp 25) rfl elU8 (by rfl) hown rfl rfl (by simp; rfl) (by omega) hsz ?_
      intro v1 w1 hown1 hg1 _
      have hb1 := below_own hbel hown (Nat.le_refl _) hg1
      obtain ⟨A1, c1, rfl, hc1, hr1⟩ := Rd.of_own' hown1
      refine wpList_ap rfl (.const _) (.tmp 26) rfl elU8 (by rfl) (World.ownsRow_nil _ w.heap.size _ _) (by rfl) hr1 ?_ (by omega) hb1.size ?_
      · intro u hu; simp only [List.mem_append, List.mem_singleton] at hu; rcases hu with hu | rfl
        · exact bys_one _ u hu
        · rfl
      intro v2 w2 hown2 hg2 _
      have hb2 := below_own hb1 (World.ownsRow_nil w1 w.heap.size 5 1) (Nat.le_refl _) hg2
      repeat' ((fail_if_success at_builtin); (fail_if_success at_make); (first | go_values | go_skip | go_guarded | go_step | go_upon | go_back))
      go_ret2
      refine ⟨_, rfl, ?_, hb2⟩
      have e1 : num N = acc ++ [UInt8.ofNat k] := by rw [HN.out, num_small hb]
      have e2 : bys (num N) = [] ++ (bys acc ++ [.int .u8 k]) := by
        rw [e1, bys_app]; simp only [bys, List.map_cons, List.map_nil, List.nil_append]
        congr 3; simp; omega
      rw [e2, e1]; simpa using hown2
    · repeat' ((fail_if_success at_builtin); (fail_if_success at_make); (first | go_values | go_skip | go_guarded | go_step | go_upon | go_back))
      refine wpList_apN rfl (.tmp 13) (.tmp 18) rfl elU8 (by rfl) hown rfl rfl (by simp; rfl) (by omega) hsz ?_
      intro v1 w1 hown1 hg1 _
      have hb1 := below_own hbel hown (Nat.le_refl _) hg1
      repeat' ((fail_if_success at_builtin); (fail_if_success at_make); (first | go_values | go_skip | go_guarded | go_step | go_upon | go_back))
      have e0 : bits .or .u8 ((k : Int) % 128) 128 = ((k % 128 + 128 : Nat) : Int) := by
        rw [show ((k : Int) % 128) = ((k % 128 : Nat) : Int) by omega]; exact or128 _ (Nat.mod_lt _ (by omega))
      rw [e0] at hown1
      have e1 : bys acc ++ [.int .u8 ((k % 128 + 128 : Nat) : Int)] = bys (acc ++ [UInt8.ofNat (k % 128 + 128)]) := by
        rw [bys_app]; simp only [bys, List.map_cons, List.map_nil]; congr 3; simp; omega
      rw [e1] at hown1
      have hn := num_big hb
      go_roundw
      case rel => exact ⟨k / 128, acc ++ [UInt8.ofNat (k % 128 + 128)], by go_num, by omega, by have := HL.out; rw [hn] at this; simp at this ⊢; omega, by rw [HN.out, hn]; simp, by simpa using hown1, hb1⟩
      case measure => simp [intOf]; omega
end Go.Proofs.Ytkfipkmkmhkfaaa
