/- bytes.Clone and wire.ReadNumber. Conditions: the slices' sizes. Reading what was written: numbers, plain. No condition. wire.Number's bytes, owned. Condition: the number fits. slices.Grow over nil bytes; slices.Concat of two slices of bytes. Conditions: the sizes. -/
import Derived.Test.YtmjcoebfldmgnaaGreatNumW
/-! bytes.Clone and wire.ReadNumber. Conditions: the slices' sizes -/
namespace Go.Proofs.YtmjcoebfldmgnaaGreat
open Go.RowKit
set_option linter.unusedVariables false
set_option linter.unusedSimpArgs false

theorem Clone_ok (A : Option Addr) (n c : Nat) (l : List UInt8) (w : World) (hl : l.length = n) (hc : n ≤ c) (hm : n ≤ 140737488353280) (hr : Rd w 1 A n (bys l)) :
    Calls Tryz.prog 110 #[.slice A n c] w fun e w' => ∃ v, e = .returned v ∧ w'.ownsRow w.heap.size 5 1 v n (bys l) ∧ Below w.heap.size w w' := by
  have heq := fun W => Lib.run_eql_slice_nil (P := Tryz.prog) W 49 5 A n c 0 0 Tryz.underlying49
  cases A with
  | none =>
    obtain rfl : n = 0 := by
      rcases Nat.eq_zero_or_pos n with h | h
      · exact h
      · obtain ⟨_, _, h1, _⟩ := hr.2 h; cases h1
    obtain rfl : l = [] := List.eq_nil_of_length_eq_zero hl
    go_enter Tryz.func110, Tryz.ntmps110
    repeat' ((fail_if_success at_builtin); (fail_if_success at_make); (first | go_values | go_skip | go_guarded | go_step | go_upon | go_back))
    go_ret
    exact ⟨_, rfl, World.ownsRow_nil _ _ _ _, Below.refl _ _⟩
  | some ad =>
    go_enter Tryz.func110, Tryz.ntmps110
    repeat' ((fail_if_success at_builtin); (fail_if_success at_make); (first | go_values | go_skip | go_guarded | go_step | go_upon | go_back))
    refine wpList_ap rfl (.tmp 5) (.tmp 6) rfl elU8 (by rfl) (World.ownsRow_made (size := 1) w #[] 0 (Nat.le_refl _) (by simp [maxLen]) rfl) (by rfl) (hr.alloc _) (bys_one _) (by omega) (by simp) ?_
    intro v1 w1 hown1 hg1 _
    have hb1 := below_own ((Below.refl _ _).alloc (Nat.le_refl _) _) (World.ownsRow_made (size := 1) w #[] 0 (Nat.le_refl _) (by simp [maxLen]) rfl) (Nat.le_refl _) hg1
    repeat' ((fail_if_success at_builtin); (fail_if_success at_make); (first | go_values | go_skip | go_guarded | go_step | go_upon | go_back))
    go_ret
    exact ⟨_, rfl, by simpa using hown1, hb1⟩

/-- reading a number: place, number so far, bytes: the number, what is left, what is wrong -/
def rdGo : Nat → Nat → List UInt8 → Nat × List UInt8 × Nat
  | _, _, [] => (0, [], 8)
  | i, n, c :: r =>
    if c.toNat < 128 then
      if 4294967295 < n + c.toNat % 128 * 128 ^ i ∨ (c.toNat = 0 ∧ 0 < i) then (0, [], 3) else (n + c.toNat % 128 * 128 ^ i, r, 0)
    else if i = 4 then (0, [], 3) else rdGo (i + 1) (n + c.toNat % 128 * 128 ^ i) r
def rdNum (b : List UInt8) : Nat × List UInt8 × Nat := rdGo 0 0 b

theorem wraps_i64 (n : Int) (h0 : 0 ≤ n) (h1 : n < 2 ^ 63) : IntKind.i64.wrap n = n := by
  rw [IntKind.wrap_i64]; simp at h1; omega
theorem or_i64 (N c k : Nat) (hk : k ≤ 4) (hN : N < 128 ^ k) (hc : c < 128) : bits .or .i64 (N : Int) (wrap64 ((c : Int) % 128 * 2 ^ (7 * k))) = ((N + c % 128 * 128 ^ k : Nat) : Int) := by
  have e0 : (128 : Nat) ^ k = 2 ^ (7 * k) := by rw [show (128 : Nat) = 2 ^ 7 by rfl, ← Nat.pow_mul]
  have hp : 2 ^ (7 * k) ≤ 2 ^ 28 := Nat.pow_le_pow_right (by omega) (by omega)
  have hm : c % 128 = c := Nat.mod_eq_of_lt hc
  have hb : c * 2 ^ (7 * k) ≤ 127 * 2 ^ 28 := Nat.mul_le_mul (by omega) hp
  have e1 : ((c : Int) % 128 * 2 ^ (7 * k)) = ((c * 2 ^ (7 * k) : Nat) : Int) := by
    rw [show ((c : Int) % 128) = (c : Int) by omega, Int.natCast_mul, Int.natCast_pow]; rfl
  rw [e1, show wrap64 ((c * 2 ^ (7 * k) : Nat) : Int) = ((c * 2 ^ (7 * k) : Nat) : Int) from IntWalk.wrap64_in _ ⟨by omega, by omega⟩]
  have h2 : N < 2 ^ 63 := by rw [e0] at hN; omega
  rw [(bits_nat .i64 63 (by decide) wraps_i64 N (c * 2 ^ (7 * k)) h2 (by omega)).2, hm, e0]
  congr 1
  rw [e0] at hN
  have := Nat.two_pow_add_eq_or_of_lt hN c
  rw [Nat.or_comm, Nat.mul_comm, ← this]; omega
theorem or_i64_0 (N : Nat) (h : N < 2 ^ 63) : bits .or .i64 (N : Int) (wrap64 0) = (N : Int) := by
  rw [show wrap64 0 = ((0 : Nat) : Int) from IntWalk.wrap64_in _ ⟨by omega, by omega⟩, (bits_nat .i64 63 (by decide) wraps_i64 N 0 h (by omega)).2]; simp

set_option maxRecDepth 20000 in
theorem ReadNumber_ok (A : Option Addr) (n c : Nat) (l : List UInt8) (w : World) (hl : l.length = n) (hc : n ≤ c) (hm : n ≤ 140737488353280) (hr : Rd w 1 A n (bys l)) :
    Calls Tryz.prog 176 #[.slice A n c] w fun e w' => ∃ v, e = .returned (.tuple #[.int .i64 (rdNum l).1, v, .int .i64 (rdNum l).2.2]) ∧
      w'.ownsRow w.heap.size 5 1 v (rdNum l).2.1.length (bys (rdNum l).2.1) ∧ Below w.heap.size w w' := by
  go_enter Tryz.func176, Tryz.ntmps176
  repeat' ((fail_if_success at_builtin); (fail_if_success at_make); (first | go_values | go_skip | go_guarded | go_step | go_upon | go_back))
  go_loop [5, 10] (fun m i => ∃ k N : Nat, i = .int .i64 k ∧ m = .int .i64 N ∧ k ≤ n ∧ k ≤ 4 ∧ N < 128 ^ k ∧ rdNum l = rdGo k N (l.drop k)) (fun _ i => n - (intOf i).toNat)
  case atStart => exact ⟨0, 0, rfl, rfl, by omega, by omega, by simp, rfl⟩
  case round =>
    obtain ⟨k, N, rfl, rfl, hk, hk4, hN, hrd⟩ := hrel
    have HR := Lib.hid hrd; clear hrd
    have HN := Lib.hid hN; clear hN
    by_cases hlt : k < n
    · obtain ⟨b, off, u, rfl, _, hu, hcell⟩ := hr.at_ hlt
      rw [bys_at l k (by omega)] at hu
      cases hu
      have hc0 := l[k].toNat_lt
      generalize hcc : l[k].toNat = cc at *
      have HC := Lib.hid hcc; clear hcc
      have hdr : l.drop k = l[k] :: l.drop (k + 1) := List.drop_eq_getElem_cons (by omega)
      have HD := Lib.hid hdr; clear hdr
      by_cases h128 : cc < 128
      · have hor := or_i64 N cc k hk4 HN.out h128
        generalize hM : N + cc % 128 * 128 ^ k = M at *
        have HM := Lib.hid hM; clear hM
        by_cases hbig : 4294967295 < M
        · have hfin : rdNum l = (0, [], 3) := by rw [HR.out, HD.out, rdGo, HC.out, if_pos h128, HM.out, if_pos (.inl hbig)]
          have HF := Lib.hid hfin; clear hfin
          repeat' ((fail_if_success at_builtin); (fail_if_success at_make); (first | go_values | go_skip | go_guarded | go_step | go_upon | go_back))
          go_ret3
          rw [HF.out]
          exact ⟨_, rfl, World.ownsRow_nil _ _ _ _, Below.refl _ _⟩
        · by_cases h00 : cc = 0 ∧ 0 < k
          · have hfin : rdNum l = (0, [], 3) := by rw [HR.out, HD.out, rdGo, HC.out, if_pos h128, if_pos (.inr h00)]
            have HF := Lib.hid hfin; clear hfin
            obtain ⟨h0, hk0⟩ := h00
            have hcc1 : ((cc : Int) == 0) = true := beq_iff_eq.2 (by omega)
            clear h0
            repeat' ((fail_if_success at_builtin); (fail_if_success at_make); (first | go_values | go_skip | go_guarded | go_step | go_upon | go_back))
            go_ret3
            rw [HF.out]
            exact ⟨_, rfl, World.ownsRow_nil _ _ _ _, Below.refl _ _⟩
          · have hfin : rdNum l = (M, l.drop (k + 1), 0) := by rw [HR.out, HD.out, rdGo, HC.out, if_pos h128, HM.out, if_neg (by omega)]
            have HF := Lib.hid hfin; clear hfin
            have hcut := hr.cutAt (k := k + 1) (c := c) (by omega) hc
            rw [bys_drop] at hcut
            have hlen : (l.drop (k + 1)).length = n - (k + 1) := by rw [List.length_drop, hl]
            have HL := Lib.hid hlen; clear hlen
            by_cases hc0' : cc = 0
            · have hcc1 : ((cc : Int) == 0) = true := beq_iff_eq.2 (by omega)
              have hk0 : k ≤ 0 := by omega
              clear hc0' h00
              repeat' ((fail_if_success at_builtin); (fail_if_success at_make); (first | go_values | go_skip | go_guarded | go_step | go_upon | go_back))
              refine ((Clone_ok _ _ _ _ _ HL.out (by omega) (by omega) hcut)).mono ?_; rintro e_ w_ ⟨v1, rfl, hown1, hb1⟩; dsimp only
              repeat' ((fail_if_success at_builtin); (fail_if_success at_make); (first | go_values | go_skip | go_guarded | go_step | go_upon | go_back))
              go_ret3
              rw [HF.out]
              exact ⟨_, rfl, by rw [HL.out]; exact hown1, hb1⟩
            · have hcc0 : ((cc : Int) == 0) = false := beq_eq_false_iff_ne.2 (by omega)
              repeat' ((fail_if_success at_builtin); (fail_if_success at_make); (first | go_values | go_skip | go_guarded | go_step | go_upon | go_back))
              refine ((Clone_ok _ _ _ _ _ HL.out (by omega) (by omega) hcut)).mono ?_; rintro e_ w_ ⟨v1, rfl, hown1, hb1⟩; dsimp only
              repeat' ((fail_if_success at_builtin); (fail_if_success at_make); (first | go_values | go_skip | go_guarded | go_step | go_upon | go_back))
              go_ret3
              rw [HF.out]
              exact ⟨_, rfl, by rw [HL.out]; exact hown1, hb1⟩
      · have hor := or_i64 N (cc - 128) k hk4 HN.out (by omega)
        have ecc : ((cc - 128 : Nat) : Int) % 128 = (cc : Int) % 128 := by omega
        have ecd : (cc - 128) % 128 = cc % 128 := by omega
        rw [ecc, ecd] at hor
        clear ecc ecd
        generalize hM : N + cc % 128 * 128 ^ k = M at *
        have HM := Lib.hid hM; clear hM
        by_cases h4 : k = 4
        · subst h4
          have hfin : rdNum l = (0, [], 3) := by rw [HR.out, HD.out, rdGo, HC.out, if_neg h128, if_pos rfl]
          have HF := Lib.hid hfin; clear hfin
          repeat' ((fail_if_success at_builtin); (fail_if_success at_make); (first | go_values | go_skip | go_guarded | go_step | go_upon | go_back))
          go_ret3
          rw [HF.out]
          exact ⟨_, rfl, World.ownsRow_nil _ _ _ _, Below.refl _ _⟩
        · have hnext : rdNum l = rdGo (k + 1) M (l.drop (k + 1)) := by rw [HR.out, HD.out, rdGo, HC.out, if_neg h128, if_neg h4, HM.out]
          have HF := Lib.hid hnext; clear hnext
          have hMlt : M < 128 ^ (k + 1) := by
            have h1 := HM.out; have h2 := HN.out
            have h3 : cc % 128 * 128 ^ k ≤ 127 * 128 ^ k := Nat.mul_le_mul (by omega) (Nat.le_refl _)
            rw [Nat.pow_succ]; omega
          have HG := Lib.hid hMlt; clear hMlt
          have hk4b : ((k : Int) == 4) = false := beq_eq_false_iff_ne.2 (by omega)
          repeat' ((fail_if_success at_builtin); (fail_if_success at_make); (first | go_values | go_skip | go_guarded | go_step | go_upon | go_back))
          go_round
          case rel => exact ⟨k + 1, M, by go_num, rfl, by omega, by omega, HG.out, HF.out⟩
          case measure => simp [intOf]; omega
    · have hfin : rdNum l = (0, [], 8) := by rw [HR.out, List.drop_of_length_le (by omega), rdGo]
      have HF := Lib.hid hfin; clear hfin
      repeat' ((fail_if_success at_builtin); (fail_if_success at_make); (first | go_values | go_skip | go_guarded | go_step | go_upon | go_back))
      go_ret3
      rw [HF.out]
      exact ⟨_, rfl, World.ownsRow_nil _ _ _ _, Below.refl _ _⟩

theorem ReadNumber_at {A : Option Addr} {n c : Nat} {l : List UInt8} {w : World} {m er : Nat} {rest : List UInt8} (E : Int) (hE : er = E) (hrd : rdNum l = (m, rest, er)) (hl : l.length = n) (hc : n ≤ c) (hm : n ≤ 140737488353280) (hr : Rd w 1 A n (bys l)) :
    Calls Tryz.prog 176 #[.slice A n c] w fun e w' => ∃ A' c', e = .returned (.tuple #[.int .i64 m, .slice A' rest.length c', .int .i64 E]) ∧
      OwnB 5 w.heap.size w' A' c' rest ∧ Below w.heap.size w w' := by
  subst hE
  refine (ReadNumber_ok A n c l w hl hc hm hr).mono fun e w' ⟨v, he, ho, hb⟩ => ?_
  rw [hrd] at he ho
  obtain ⟨A', c', rfl, h⟩ := OwnB.of rfl ho
  exact ⟨A', c', he, h, hb⟩
end Go.Proofs.YtmjcoebfldmgnaaGreat
/-! Reading what was written: numbers, plain. No condition -/
namespace Go.Proofs.YtmjcoebfldmgnaaGreat

theorem rdGo_num : ∀ (k n i a : Nat) (more : List UInt8), i + k = 4 → n < 128 ^ (k + 1) → (i = 0 ∨ 0 < n) → a + n * 128 ^ i ≤ 4294967295 →
    rdGo i a (num n ++ more) = (a + n * 128 ^ i, more, 0) := by
  intro k
  induction k with
  | zero =>
    intro n i a more hi hn h0 hb
    have hn : n < 128 := by simpa using hn
    rw [num_small hn, List.cons_append, List.nil_append, rdGo]
    have e : (UInt8.ofNat n).toNat = n := by simp; omega
    rw [e, if_pos hn, Nat.mod_eq_of_lt hn, if_neg (by omega)]
  | succ k ih =>
    intro n i a more hi hn h0 hb
    by_cases h : n < 128
    · rw [num_small h, List.cons_append, List.nil_append, rdGo]
      have e : (UInt8.ofNat n).toNat = n := by simp; omega
      rw [e, if_pos h, Nat.mod_eq_of_lt h, if_neg (by omega)]
    · rw [num_big h, List.cons_append, rdGo]
      have e : (UInt8.ofNat (n % 128 + 128)).toNat = n % 128 + 128 := by simp; omega
      have e2 : (n % 128 + 128) % 128 = n % 128 := by omega
      rw [e, if_neg (by omega), if_neg (by omega), e2]
      have hd : n = n % 128 + n / 128 * 128 := by omega
      have e3 : a + n * 128 ^ i = a + n % 128 * 128 ^ i + n / 128 * 128 ^ (i + 1) := by
        rw [Nat.pow_succ]
        have : n * 128 ^ i = (n % 128 + n / 128 * 128) * 128 ^ i := by rw [← hd]
        rw [this, Nat.add_mul, Nat.mul_assoc, Nat.mul_comm 128 (128 ^ i)]; omega
      rw [e3] at hb ⊢
      exact ih (n / 128) (i + 1) _ more (by omega) (by rw [Nat.div_lt_iff_lt_mul (by omega)]; simpa [Nat.pow_succ] using hn) (.inr (by omega)) hb

theorem rdNum_num (n : Nat) (more : List UInt8) (h : n ≤ 4294967295) : rdNum (num n ++ more) = (n, more, 0) := by
  have := rdGo_num 4 n 0 0 more rfl (by omega) (.inl rfl) (by simpa using h)
  simpa [rdNum] using this

/-- what is read is written so -/
theorem rdGo_inv : ∀ (b : List UInt8) (i a m : Nat) (rest : List UInt8), i ≤ 4 → rdGo i a b = (m, rest, 0) →
    m ≤ 4294967295 ∧ ∃ n, m = a + n * 128 ^ i ∧ b = num n ++ rest ∧ (i = 0 ∨ 0 < n) := by
  intro b
  induction b with
  | nil => intro i a m rest _ h; simp [rdGo] at h
  | cons c r ih =>
    intro i a m rest hi h
    rw [rdGo] at h
    by_cases hc : c.toNat < 128
    · rw [if_pos hc] at h
      split at h
      · simp at h
      · rename_i hx
        simp only [Prod.mk.injEq, and_true] at h
        obtain ⟨rfl, rfl⟩ := h
        rw [Nat.mod_eq_of_lt hc] at hx ⊢
        refine ⟨by omega, c.toNat, rfl, ?_, by omega⟩
        rw [num_small hc]; simp
    · rw [if_neg hc] at h
      split at h
      · simp at h
      · rename_i h4
        obtain ⟨hm, n, e1, e2, e3⟩ := ih (i + 1) _ m rest (by omega) h
        have hn : 0 < n := by omega
        have hc2 := c.toNat_lt
        refine ⟨hm, c.toNat % 128 + 128 * n, ?_, ?_, .inr (by omega)⟩
        · rw [e1, Nat.pow_succ, Nat.add_mul]
          have : n * (128 ^ i * 128) = 128 * n * 128 ^ i := by rw [Nat.mul_comm (128 ^ i) 128, ← Nat.mul_assoc, Nat.mul_comm n 128]
          omega
        · rw [num_big (by omega), e2]
          have h1 : (c.toNat % 128 + 128 * n) % 128 + 128 = c.toNat := by omega
          have h2 : (c.toNat % 128 + 128 * n) / 128 = n := by omega
          rw [h1, h2]; simp
theorem rdNum_inv {b rest : List UInt8} {m : Nat} (h : rdNum b = (m, rest, 0)) : m ≤ 4294967295 ∧ b = num m ++ rest := by
  obtain ⟨h1, n, h2, h3, _⟩ := rdGo_inv b 0 0 m rest (by omega) h
  simp at h2; subst h2; exact ⟨h1, h3⟩

/-- no beginning of a number is one -/
theorem rdGo_short : ∀ (k n i a j : Nat), i + k = 4 → n < 128 ^ (k + 1) → j < (num n).length → rdGo i a ((num n).take j) = (0, [], 8) := by
  intro k
  induction k with
  | zero =>
    intro n i a j _ hn hj
    have hn : n < 128 := by simpa using hn
    rw [num_small hn] at hj ⊢
    obtain rfl : j = 0 := by simpa using hj
    rfl
  | succ k ih =>
    intro n i a j hi hn hj
    by_cases h : n < 128
    · rw [num_small h] at hj ⊢
      obtain rfl : j = 0 := by simpa using hj
      rfl
    · rw [num_big h] at hj ⊢
      cases j with
      | zero => rfl
      | succ j =>
        rw [List.take_succ_cons, rdGo]
        have e : (UInt8.ofNat (n % 128 + 128)).toNat = n % 128 + 128 := by simp; omega
        rw [e, if_neg (by omega), if_neg (by omega)]
        exact ih (n / 128) (i + 1) _ j (by omega) (by rw [Nat.div_lt_iff_lt_mul (by omega)]; simpa [Nat.pow_succ] using hn) (by simpa using hj)
theorem rdNum_short (n j : Nat) (h : n ≤ 4294967295) (hj : j < (num n).length) : rdNum ((num n).take j) = (0, [], 8) :=
  rdGo_short 4 n 0 0 j rfl (by omega) hj

/-- how many bits -/
def bl (n : Nat) : Nat := if h : n = 0 then 0 else bl (n / 2) + 1
termination_by n
decreasing_by omega
theorem bl_0 : bl 0 = 0 := by rw [bl]; simp
theorem bl_s {n : Nat} (h : 0 < n) : bl n = bl (n / 2) + 1 := by rw [bl, dif_neg (by omega)]
theorem bl_128 {n : Nat} (h : 128 ≤ n) : bl n = bl (n / 128) + 7 := by
  rw [bl_s (by omega), bl_s (n := n / 2) (by omega), bl_s (n := n / 2 / 2) (by omega), bl_s (n := n / 2 / 2 / 2) (by omega), bl_s (n := n / 2 / 2 / 2 / 2) (by omega),
    bl_s (n := n / 2 / 2 / 2 / 2 / 2) (by omega), bl_s (n := n / 2 / 2 / 2 / 2 / 2 / 2) (by omega)]
  rw [show n / 2 / 2 / 2 / 2 / 2 / 2 / 2 = n / 128 by omega]
theorem bl_small : ∀ n, n < 128 → bl n ≤ 7 ∧ (0 < n → 1 ≤ bl n) := by
  intro n hn
  have key : ∀ (k n : Nat), n < 2 ^ k → bl n ≤ k := by
    intro k
    induction k with
    | zero => intro n h; obtain rfl : n = 0 := by simpa using h
              rw [bl_0]; omega
    | succ k ih =>
      intro n h
      rcases Nat.eq_zero_or_pos n with rfl | h0
      · rw [bl_0]; omega
      · rw [bl_s h0]; have := ih (n / 2) (by rw [Nat.pow_succ] at h; omega); omega
  exact ⟨key 7 n (by simpa using hn), fun h => by rw [bl_s h]; omega⟩
theorem num_bl (n : Nat) : (num n).length = max 1 ((bl n + 6) / 7) := by
  induction n using Nat.strongRecOn with
  | _ n ih =>
    by_cases h : n < 128
    · have := bl_small n h
      rw [num_small h]; simp only [List.length_cons, List.length_nil]; omega
    · have hp : 1 ≤ bl (n / 128) := by rw [bl_s (n := n / 128) (by omega)]; omega
      rw [num_big h, List.length_cons, ih (n / 128) (by omega), bl_128 (n := n) (by omega)]
      omega
theorem num_mono (n m : Nat) (h : n ≤ m) : (num n).length ≤ (num m).length := by
  induction m using Nat.strongRecOn generalizing n with
  | _ m ih =>
    by_cases hm : m < 128
    · rw [num_small hm, num_small (by omega)]; simp
    · by_cases hn : n < 128
      · rw [num_small hn, num_big hm]; simp
      · rw [num_big hn, num_big hm]
        have := ih (m / 128) (by omega) (n / 128) (Nat.div_le_div_right h)
        simpa using this
end Go.Proofs.YtmjcoebfldmgnaaGreat
/-! wire.Number's bytes, owned. Condition: the number fits -/
namespace Go.Proofs.YtmjcoebfldmgnaaGreat
open Go.RowKit
set_option linter.unusedVariables false
set_option maxRecDepth 20000
end Go.Proofs.YtmjcoebfldmgnaaGreat
/-! slices.Grow over nil bytes; slices.Concat of two slices of bytes. Conditions: the sizes -/
namespace Go.Proofs.YtmjcoebfldmgnaaGreat
open Go.RowKit
set_option linter.unusedVariables false
set_option maxRecDepth 20000

theorem own_cut {w : World} {base : Nat} {e : TypeId} {size : Nat} {A : Option Addr} {n cap k : Nat} {xs : List Value} (h : w.ownsRow base e size (.slice A n cap) n xs) (hk : k ≤ n) :
    w.ownsRow base e size (.slice A k cap) k (xs.take (k * size)) := by
  refine ⟨by rw [List.length_take, h.1]; exact Nat.min_eq_left (Nat.mul_le_mul_right _ hk), ?_⟩
  rcases h.2 with ⟨h1, h2⟩ | ⟨g, cap', cur, hv, hb, hg, hnc, hcm, hcs, htake⟩
  · left; injection h1 with e1 e2 e3; subst e1 e3; obtain rfl : k = 0 := by omega
    exact ⟨rfl, rfl⟩
  · right
    injection hv with e1 e2 e3; subst e1 e3
    refine ⟨g, cap, cur, rfl, hb, hg, by omega, hcm, hcs, ?_⟩
    rw [← htake, List.take_take, Nat.min_eq_left (Nat.mul_le_mul_right _ hk)]

/-- append(nil, make([]T, n)...) -/
theorem run_apz_nil {P : Program} {w : World} {t ty e it : TypeId} {size bytes : Nat} (E : El P t e size bytes) (hit : P.underlying it = some (.int .i64)) (n : Nat) (h0 : 0 < n) (hb : n * bytes ≤ 140737488355328) :
    ∃ cap cells, (Builtin.append_ #[t, it] ty #[.slice none 0 0, .int .i64 n]).run P w = .ok (.slice (some ⟨w.heap.size, 0, none⟩) n cap) (w.drew.alloc (.cells cells e)) ∧ n ≤ cap ∧ cap ≤ maxLen ∧ cells.size = cap * size := by
  have hpb := E.posb
  have hps := E.pos
  obtain ⟨hu, ⟨i, z, hi, hz, hs, hby, hzs⟩, _, _⟩ := E
  have hn47 : n ≤ 140737488355328 := Nat.le_trans (Nat.le_mul_of_pos_right n hpb) hb
  have hge := grownCap_ge w n 0 e
  have hcm := grownCap_le_maxLen w n 0 e (by simp only [maxLen]; omega)
  have h63' : ¬ (9223372036854775807 < (n : Int)) := by omega
  have h48' : ¬ (281474976710656 < Builtin.nextslicecap n 0 * i.bytes) := by rw [nextslicecap_zero h0, hby]; omega
  have hw : IntKind.i64.wrap (n : Int) = n := by rw [IntKind.wrap_i64]; omega
  have hl : ¬ ((n : Int) < 0) := by omega
  have hl2 : ¬ (281474976710656 < (n : Int) * (i.bytes : Int)) := by rw [hby, ← Int.natCast_mul]; omega
  have hns : ¬ (n * i.size = 0) := by rw [hs]; exact Nat.ne_of_gt (Nat.mul_pos h0 hps)
  have hn0 : n ≠ 0 := by omega
  refine ⟨grownCap w n 0 e, #[] ++ Builtin.zeroCells z.cells n ++ Builtin.zeroCells z.cells (grownCap w n 0 e - n), ?_, hge, hcm, ?_⟩
  · simp [Builtin.append_, run_underlying hu, run_underlying hit, sizeOf, typeInfo, zeroValue, hi, hz, asInt, asIntOf, hw, hl, hl2, hn0, h63', h48', Question.forced, run_firstCells_none, newRow, grownCap]
    intro h; exact absurd h hns
  · simp only [Array.size_append, size_zeroCells, hzs]
    rw [show (#[] : Array Value).size = 0 from rfl, Nat.zero_add, ← Nat.add_mul]; congr 1; omega

theorem wpList_apz {P : Program} {w : World} {ops : Array Oper} {rest : List Oper} {o : Oper} {a : Act} {Q : Exit → Act → World → Prop} (hgd : o.guard = none) (s x : Operand) {t e it : TypeId} {size bytes : Nat}
    (ho : o.op = .call { callee := .builtin .append, args := #[s, x], argTypes := #[t, it] }) (E : El P t e size bytes) (hit : P.underlying it = some (.int .i64))
    (n : Nat) (h0 : 0 < n) (hb : n * bytes ≤ 140737488355328) (hs : a.eval s = .slice none 0 0) (hx : a.eval x = .int .i64 n)
    (h : ∀ A c w', w'.ownsRow w.heap.size e size (.slice A 0 c) 0 [] → n ≤ c → Below w.heap.size w w' → wpList P ops Q rest (a.put o.dst (.slice A n c)) w') :
    wpList P ops Q (o :: rest) a w := by
  refine wpList_plain hgd fun _ hK => ?_
  obtain ⟨cap, cells, hrun, h1, h2, h3⟩ := run_apz_nil (P := P) (w := w) (ty := o.type) E hit n h0 hb
  unfold Oper.wp execOp
  simp only [ho, resolve, invoke, builtin, Sem.run_bind, Sem.run_pure, Result.andThen_ok, List.map_toArray, List.map_cons, List.map_nil, hs, hx, hrun]
  refine hK _ _ (h _ _ _ ?_ h1 ((Below.refl _ _).drew.alloc (Nat.le_refl _) _))
  exact World.ownsRow_made w.drew cells cap (Nat.le_refl _) h2 h3
end Go.Proofs.YtmjcoebfldmgnaaGreat
