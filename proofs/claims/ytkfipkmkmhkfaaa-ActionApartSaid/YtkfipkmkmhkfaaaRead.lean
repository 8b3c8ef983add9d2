/- bytes.Clone and wire.ReadNumber. Conditions: the slices' sizes. -/
import Derived.Test.YtkfipkmkmhkfaaaNumW
namespace Go.Proofs.Ytkfipkmkmhkfaaa
open Go.RowKit
set_option linter.unusedVariables false
set_option linter.unusedSimpArgs false

theorem Clone_ok (A : Option Addr) (n c : Nat) (l : List UInt8) (w : World) (hl : l.length = n) (hc : n ≤ c) (hm : n ≤ 140737488353280) (hr : Rd w 1 A n (bys l)) :
    Calls Try.prog 51 #[.slice A n c] w fun e w' => ∃ v, e = .returned v ∧ w'.ownsRow w.heap.size 5 1 v n (bys l) ∧ Below w.heap.size w w' := by
  have heq := fun W => Lib.run_eql_slice_nil (P := Try.prog) W 35 5 A n c 0 0 Try.underlying35
  cases A with
  | none =>
    obtain rfl : n = 0 := by
      rcases Nat.eq_zero_or_pos n with h | h
      · exact h
      · obtain ⟨_, _, h1, _⟩ := hr.2 h; cases h1
    obtain rfl : l = [] := List.eq_nil_of_length_eq_zero hl
    go_enter Try.func51, Try.ntmps51
    repeat' ((fail_if_success at_builtin); (fail_if_success at_make); (first | go_values | go_skip | go_guarded | go_step | go_upon | go_back))
    go_ret
    exact ⟨_, rfl, World.ownsRow_nil _ _ _ _, Below.refl _ _⟩
  | some ad =>
    go_enter Try.func51, Try.ntmps51
    repeat' ((fail_if_success at_builtin); (fail_if_success at_make); (first | go_values | go_skip | go_guarded | go_step | go_upon | go_back))
    refine wpList_ap rfl (.tmp 5) (.tmp 6) rfl elU8 (by rfl) (World.ownsRow_made (size := 1) w #[] 0 (Nat.le_refl _) (by simp [maxLen]) rfl) (by rfl) (hr.alloc _) (bys_one _) (by omega) (by simp) ?_
    intro v1 w1 hown1 hg1 _
    have hb1 := below_own ((Below.refl _ _).alloc (Nat.le_refl _) _) (World.ownsRow_made (size := 1) w #[] 0 (Nat.le_refl _) (by simp [maxLen]) rfl) (Nat.le_refl _) hg1
    repeat' ((fail_if_success at_builtin); (fail_if_success at_make); (first | go_values | go_skip | go_guarded | go_step | go_upon | go_back))
    go_ret
    exact ⟨_, rfl, by simpa using hown1, hb1⟩

/-- reading a number: place, number so far, bytes: the number, what is left, what is wrong -/
def rdGo : Nat → Nat → List UInt8 → Nat × List UInt8 × Nat
  | _, _, [] => (0, [], 8)
  | i, n, c :: r =>
    if c.toNat < 128 then
      if 4294967295 < n + c.toNat % 128 * 128 ^ i ∨ (c.toNat = 0 ∧ 0 < i) then (0, [], 3) else (n + c.toNat % 128 * 128 ^ i, r, 0)
    else if i = 4 then (0, [], 3) else rdGo (i + 1) (n + c.toNat % 128 * 128 ^ i) r
def rdNum (b : List UInt8) : Nat × List UInt8 × Nat := rdGo 0 0 b

theorem wraps_i64 (n : Int) (h0 : 0 ≤ n) (h1 : n < 2 ^ 63) : IntKind.i64.wrap n = n := by
  rw [IntKind.wrap_i64]; simp at h1; omega
theorem or_i64 (N c k : Nat) (hk : k ≤ 4) (hN : N < 128 ^ k) (hc : c < 128) : bits .or .i64 (N : Int) (wrap64 ((c : Int) % 128 * 2 ^ (7 * k))) = ((N + c % 128 * 128 ^ k : Nat) : Int) := by
  have e0 : (128 : Nat) ^ k = 2 ^ (7 * k) := by rw [show (128 : Nat) = 2 ^ 7 by rfl, ← Nat.pow_mul]
  have hp : 2 ^ (7 * k) ≤ 2 ^ 28 := Nat.pow_le_pow_right (by omega) (by omega)
  have hm : c % 128 = c := Nat.mod_eq_of_lt hc
  have hb : c * 2 ^ (7 * k) ≤ 127 * 2 ^ 28 := Nat.mul_le_mul (by omega) hp
  have e1 : ((c : Int) % 128 * 2 ^ (7 * k)) = ((c * 2 ^ (7 * k) : Nat) : Int) := by
    rw [show ((c : Int) % 128) = (c : Int) by omega, Int.natCast_mul, Int.natCast_pow]; rfl
  rw [e1, show wrap64 ((c * 2 ^ (7 * k) : Nat) : Int) = ((c * 2 ^ (7 * k) : Nat) : Int) from IntWalk.wrap64_in _ ⟨by omega, by omega⟩]
  have h2 : N < 2 ^ 63 := by rw [e0] at hN; omega
  rw [(bits_nat .i64 63 (by decide) wraps_i64 N (c * 2 ^ (7 * k)) h2 (by omega)).2, hm, e0]
  congr 1
  rw [e0] at hN
  have := Nat.two_pow_add_eq_or_of_lt hN c
  rw [Nat.or_comm, Nat.mul_comm, ← this]; omega
theorem or_i64_0 (N : Nat) (h : N < 2 ^ 63) : bits .or .i64 (N : Int) (wrap64 0) = (N : Int) := by
  rw [show wrap64 0 = ((0 : Nat) : Int) from IntWalk.wrap64_in _ ⟨by omega, by omega⟩, (bits_nat .i64 63 (by decide) wraps_i64 N 0 h (by omega)).2]; simp

set_option maxRecDepth 20000 in
theorem ReadNumber_ok (A : Option Addr) (n c : Nat) (l : List UInt8) (w : World) (hl : l.length = n) (hc : n ≤ c) (hm : n ≤ 140737488353280) (hr : Rd w 1 A n (bys l)) :
    Calls Try.prog 54 #[.slice A n c] w fun e w' => ∃ v, e = .returned (.tuple #[.int .i64 (rdNum l).1, v, .int .i64 (rdNum l).2.2]) ∧
      w'.ownsRow w.heap.size 5 1 v (rdNum l).2.1.length (bys (rdNum l).2.1) ∧ Below w.heap.size w w' := by
  go_enter Try.func54, Try.ntmps54
  repeat' ((fail_if_success at_builtin); (fail_if_success at_make); (first | go_values | go_skip | go_guarded | go_step | go_upon | go_back))
  go_loop [5, 10] (fun m i => ∃ k N : Nat, i = .int .i64 k ∧ m = .int .i64 N ∧ k ≤ n ∧ k ≤ 4 ∧ N < 128 ^ k ∧ rdNum l = rdGo k N (l.drop k)) (fun _ i => n - (intOf i).toNat)
  case atStart => exact ⟨0, 0, rfl, rfl, by omega, by omega, by simp, rfl⟩
  case round =>
    obtain ⟨k, N, rfl, rfl, hk, hk4, hN, hrd⟩ := hrel
    have HR := Lib.hid hrd; clear hrd
    have HN := Lib.hid hN; clear hN
    by_cases hlt : k < n
    · obtain ⟨b, off, u, rfl, _, hu, hcell⟩ := hr.at_ hlt
      rw [bys_at l k (by omega)] at hu
      cases hu
      have hc0 := l[k].toNat_lt
      generalize hcc : l[k].toNat = cc at *
      have HC := Lib.hid hcc; clear hcc
      have hdr : l.drop k = l[k] :: l.drop (k + 1) := List.drop_eq_getElem_cons (by omega)
      have HD := Lib.hid hdr; clear hdr
      by_cases h128 : cc < 128
      · have hor := or_i64 N cc k hk4 HN.out h128
        generalize hM : N + cc % 128 * 128 ^ k = M at *
        have HM := Lib.hid hM; clear hM
        by_cases hbig : 4294967295 < M
        · have hfin : rdNum l = (0, [], 3) := by rw [HR.out, HD.out, rdGo, HC.out, if_pos h128, HM.out, if_pos (.inl hbig)]
          have HF := Lib.hid hfin; clear hfin
          repeat' ((fail_if_success at_builtin); (fail_if_success at_make); (first | go_values | go_skip | go_guarded | go_step | go_upon | go_back))
          go_ret3
          rw [HF.out]
          exact ⟨_, rfl, World.ownsRow_nil _ _ _ _, Below.refl _ _⟩
        · by_cases h00 : cc = 0 ∧ 0 < k
          · have hfin : rdNum l = (0, [], 3) := by rw [HR.out, HD.out, rdGo, HC.out, if_pos h128, if_pos (.inr h00)]
            have HF := Lib.hid hfin; clear hfin
            obtain ⟨h0, hk0⟩ := h00
            have hcc1 : ((cc : Int) == 0) = true := beq_iff_eq.2 (by omega)
            clear h0
            repeat' ((fail_if_success at_builtin); (fail_if_success at_make); (first | go_values | go_skip | go_guarded | go_step | go_upon | go_back))
            go_ret3
            rw [HF.out]
            exact ⟨_, rfl, World.ownsRow_nil _ _ _ _, Below.refl _ _⟩
          · have hfin : rdNum l = (M, l.drop (k + 1), 0) := by rw [HR.out, HD.out, rdGo, HC.out, if_pos h128, HM.out, if_neg (by omega)]
            have HF := Lib.hid hfin; clear hfin
            have hcut := hr.cutAt (k := k + 1) (c := c) (by omega) hc
            rw [bys_drop] at hcut
            have hlen : (l.drop (k + 1)).length = n - (k + 1) := by rw [List.length_drop, hl]
            have HL := Lib.hid hlen; clear hlen
            by_cases hc0' : cc = 0
            · have hcc1 : ((cc : Int) == 0) = true := beq_iff_eq.2 (by omega)
              have hk0 : k ≤ 0 := by omega
              clear hc0' h00
              repeat' ((fail_if_success at_builtin); (fail_if_success at_make); (first | go_values | go_skip | go_guarded | go_step | go_upon | go_back))
              refine ((Clone_ok _ _ _ _ _ HL.out (by omega) (by omega) hcut)).mono ?_; rintro e_ w_ ⟨v1, rfl, hown1, hb1⟩; dsimp only
              repeat' ((fail_if_success at_builtin); (fail_if_success at_make); (first | go_values | go_skip | go_guarded | go_step | go_upon | go_back))
              go_ret3
              rw [HF.out]
              exact ⟨_, rfl, by rw [HL.out]; exact hown1, hb1⟩
            · have hcc0 : ((cc : Int) == 0) = false := beq_eq_false_iff_ne.2 (by omega)
              repeat' ((fail_if_success at_builtin); (fail_if_success at_make); (first | go_values | go_skip | go_guarded | go_step | go_upon | go_back))
              refine ((Clone_ok _ _ _ _ _ HL.out (by omega) (by omega) hcut)).mono ?_; rintro e_ w_ ⟨v1, rfl, hown1, hb1⟩; dsimp only
              repeat' ((fail_if_success at_builtin); (fail_if_success at_make); (first | go_values | go_skip | go_guarded | go_step | go_upon | go_back))
              go_ret3
              rw [HF.out]
              exact ⟨_, rfl, by rw [HL.out]; exact hown1, hb1⟩
      · have hor := or_i64 N (cc - 128) k hk4 HN.out (by omega)
        have ecc : ((cc - 128 : Nat) : Int) % 128 = (cc : Int) % 128 := by omega
        have ecd : (cc - 128) % 128 = cc % 128 := by omega
        rw [ecc, ecd] at hor
        clear ecc ecd
        generalize hM : N + cc % 128 * 128 ^ k = M at *
        have HM := Lib.hid hM; clear hM
        by_cases h4 : k = 4
        · subst h4
          have hfin : rdNum l = (0, [], 3) := by rw [HR.out, HD.out, rdGo, HC.out, if_neg h128, if_pos rfl]
          have HF := Lib.hid hfin; clear hfin
          repeat' ((fail_if_success at_builtin); (fail_if_success at_make); (first | go_values | go_skip | go_guarded | go_step | go_upon | go_back))
          go_ret3
          rw [HF.out]
          exact ⟨_, rfl, World.ownsRow_nil _ _ _ _, Below.refl _ _⟩
        · have hnext : rdNum l = rdGo (k + 1) M (l.drop (k + 1)) := by rw [HR.out, HD.out, rdGo, HC.out, if_neg h128, if_neg h4, HM.out]
          have HF := Lib.hid hnext; clear hnext
          have hMlt : M < 128 ^ (k + 1) := by
            have h1 := HM.out; have h2 := HN.out
            have h3 : cc % 128 * 128 ^ k ≤ 127 * 128 ^ k := Nat.mul_le_mul (by omega) (Nat.le_refl _)
            rw [Nat.pow_succ]; omega
          have HG := Lib.hid hMlt; clear hMlt
          have hk4b : ((k : Int) == 4) = false := beq_eq_false_iff_ne.2 (by omega)
          repeat' ((fail_if_success at_builtin); (fail_if_success at_make); (first | go_values | go_skip | go_guarded | go_step | go_upon | go_back))
          go_round
          case rel => exact ⟨k + 1, M, by go_num, rfl, by omega, by omega, HG.out, HF.out⟩
          case measure => simp [intOf]; omega
    · have hfin : rdNum l = (0, [], 8) := by rw [HR.out, List.drop_of_length_le (by omega), rdGo]
      have HF := Lib.hid hfin; clear hfin
      repeat' ((fail_if_success at_builtin); (fail_if_success at_make); (first | go_values | go_skip | go_guarded | go_step | go_upon | go_back))
      go_ret3
      rw [HF.out]
      exact ⟨_, rfl, World.ownsRow_nil _ _ _ _, Below.refl _ _⟩

theorem ReadNumber_at {A : Option Addr} {n c : Nat} {l : List UInt8} {w : World} {m er : Nat} {rest : List UInt8} (E : Int) (hE : er = E) (hrd : rdNum l = (m, rest, er)) (hl : l.length = n) (hc : n ≤ c) (hm : n ≤ 140737488353280) (hr : Rd w 1 A n (bys l)) :
    Calls Try.prog 54 #[.slice A n c] w fun e w' => ∃ A' c', e = .returned (.tuple #[.int .i64 m, .slice A' rest.length c', .int .i64 E]) ∧
      OwnB 5 w.heap.size w' A' c' rest ∧ Below w.heap.size w w' := by
  subst hE
  refine (ReadNumber_ok A n c l w hl hc hm hr).mono fun e w' ⟨v, he, ho, hb⟩ => ?_
  rw [hrd] at he ho
  obtain ⟨A', c', rfl, h⟩ := OwnB.of rfl ho
  exact ⟨A', c', he, h, hb⟩
end Go.Proofs.Ytkfipkmkmhkfaaa
