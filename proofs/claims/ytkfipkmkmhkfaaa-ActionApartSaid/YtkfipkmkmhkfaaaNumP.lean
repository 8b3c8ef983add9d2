/- Reading what was written: numbers, plain. No condition. -/
import Derived.Test.YtkfipkmkmhkfaaaRead
namespace Go.Proofs.Ytkfipkmkmhkfaaa

theorem rdGo_num : ∀ (k n i a : Nat) (more : List UInt8), i + k = 4 → n < 128 ^ (k + 1) → (i = 0 ∨ 0 < n) → a + n * 128 ^ i ≤ 4294967295 →
    rdGo i a (num n ++ more) = (a + n * 128 ^ i, more, 0) := by
  intro k
  induction k with
  | zero =>
    intro n i a more hi hn h0 hb
    have hn : n < 128 := by simpa using hn
    rw [num_small hn, List.cons_append, List.nil_append, rdGo]
    have e : (UInt8.ofNat n).toNat = n := by simp; omega
    rw [e, if_pos hn, Nat.mod_eq_of_lt hn, if_neg (by omega)]
  | succ k ih =>
    intro n i a more hi hn h0 hb
    by_cases h : n < 128
    · rw [num_small h, List.cons_append, List.nil_append, rdGo]
      have e : (UInt8.ofNat n).toNat = n := by simp; omega
      rw [e, if_pos h, Nat.mod_eq_of_lt h, if_neg (by omega)]
    · rw [num_big h, List.cons_append, rdGo]
      have e : (UInt8.ofNat (n % 128 + 128)).toNat = n % 128 + 128 := by simp; omega
      have e2 : (n % 128 + 128) % 128 = n % 128 := by omega
      rw [e, if_neg (by omega), if_neg (by omega), e2]
      have hd : n = n % 128 + n / 128 * 128 := by omega
      have e3 : a + n * 128 ^ i = a + n % 128 * 128 ^ i + n / 128 * 128 ^ (i + 1) := by
        rw [Nat.pow_succ]
        have : n * 128 ^ i = (n % 128 + n / 128 * 128) * 128 ^ i := by rw [← hd]
        rw [this, Nat.add_mul, Nat.mul_assoc, Nat.mul_comm 128 (128 ^ i)]; omega
      rw [e3] at hb ⊢
      exact ih (n / 128) (i + 1) _ more (by omega) (by rw [Nat.div_lt_iff_lt_mul (by omega)]; simpa [Nat.pow_succ] using hn) (.inr (by omega)) hb

theorem rdNum_num (n : Nat) (more : List UInt8) (h : n ≤ 4294967295) : rdNum (num n ++ more) = (n, more, 0) := by
  have := rdGo_num 4 n 0 0 more rfl (by omega) (.inl rfl) (by simpa using h)
  simpa [rdNum] using this

/-- what is read is written so -/
theorem rdGo_inv : ∀ (b : List UInt8) (i a m : Nat) (rest : List UInt8), i ≤ 4 → rdGo i a b = (m, rest, 0) →
    m ≤ 4294967295 ∧ ∃ n, m = a + n * 128 ^ i ∧ b = num n ++ rest ∧ (i = 0 ∨ 0 < n) := by
  intro b
  induction b with
  | nil => intro i a m rest _ h; simp [rdGo] at h
  | cons c r ih =>
    intro i a m rest hi h
    rw [rdGo] at h
    by_cases hc : c.toNat < 128
    · rw [if_pos hc] at h
      split at h
      · simp at h
      · rename_i hx
        simp only [Prod.mk.injEq, and_true] at h
        obtain ⟨rfl, rfl⟩ := h
        rw [Nat.mod_eq_of_lt hc] at hx ⊢
        refine ⟨by omega, c.toNat, rfl, ?_, by omega⟩
        rw [num_small hc]; simp
    · rw [if_neg hc] at h
      split at h
      · simp at h
      · rename_i h4
        obtain ⟨hm, n, e1, e2, e3⟩ := ih (i + 1) _ m rest (by omega) h
        have hn : 0 < n := by omega
        have hc2 := c.toNat_lt
        refine ⟨hm, c.toNat % 128 + 128 * n, ?_, ?_, .inr (by omega)⟩
        · rw [e1, Nat.pow_succ, Nat.add_mul]
          have : n * (128 ^ i * 128) = 128 * n * 128 ^ i := by rw [Nat.mul_comm (128 ^ i) 128, ← Nat.mul_assoc, Nat.mul_comm n 128]
          omega
        · rw [num_big (by omega), e2]
          have h1 : (c.toNat % 128 + 128 * n) % 128 + 128 = c.toNat := by omega
          have h2 : (c.toNat % 128 + 128 * n) / 128 = n := by omega
          rw [h1, h2]; simp
theorem rdNum_inv {b rest : List UInt8} {m : Nat} (h : rdNum b = (m, rest, 0)) : m ≤ 4294967295 ∧ b = num m ++ rest := by
  obtain ⟨h1, n, h2, h3, _⟩ := rdGo_inv b 0 0 m rest (by omega) h
  simp at h2; subst h2; exact ⟨h1, h3⟩

/-- no beginning of a number is one -/
theorem rdGo_short : ∀ (k n i a j : Nat), i + k = 4 → n < 128 ^ (k + 1) → j < (num n).length → rdGo i a ((num n).take j) = (0, [], 8) := by
  intro k
  induction k with
  | zero =>
    intro n i a j _ hn hj
    have hn : n < 128 := by simpa using hn
    rw [num_small hn] at hj ⊢
    obtain rfl : j = 0 := by simpa using hj
    rfl
  | succ k ih =>
    intro n i a j hi hn hj
    by_cases h : n < 128
    · rw [num_small h] at hj ⊢
      obtain rfl : j = 0 := by simpa using hj
      rfl
    · rw [num_big h] at hj ⊢
      cases j with
      | zero => rfl
      | succ j =>
        rw [List.take_succ_cons, rdGo]
        have e : (UInt8.ofNat (n % 128 + 128)).toNat = n % 128 + 128 := by simp; omega
        rw [e, if_neg (by omega), if_neg (by omega)]
        exact ih (n / 128) (i + 1) _ j (by omega) (by rw [Nat.div_lt_iff_lt_mul (by omega)]; simpa [Nat.pow_succ] using hn) (by simpa using hj)
theorem rdNum_short (n j : Nat) (h : n ≤ 4294967295) (hj : j < (num n).length) : rdNum ((num n).take j) = (0, [], 8) :=
  rdGo_short 4 n 0 0 j rfl (by omega) hj

/-- how many bits -/
def bl (n : Nat) : Nat := if h : n = 0 then 0 else bl (n / 2) + 1
termination_by n
decreasing_by omega
theorem bl_0 : bl 0 = 0 := by rw [bl]; simp
theorem bl_s {n : Nat} (h : 0 < n) : bl n = bl (n / 2) + 1 := by rw [bl, dif_neg (by omega)]
theorem bl_128 {n : Nat} (h : 128 ≤ n) : bl n = bl (n / 128) + 7 := by
  rw [bl_s (by omega), bl_s (n := n / 2) (by omega), bl_s (n := n / 2 / 2) (by omega), bl_s (n := n / 2 / 2 / 2) (by omega), bl_s (n := n / 2 / 2 / 2 / 2) (by omega),
    bl_s (n := n / 2 / 2 / 2 / 2 / 2) (by omega), bl_s (n := n / 2 / 2 / 2 / 2 / 2 / 2) (by omega)]
  rw [show n / 2 / 2 / 2 / 2 / 2 / 2 / 2 = n / 128 by omega]
theorem bl_small : ∀ n, n < 128 → bl n ≤ 7 ∧ (0 < n → 1 ≤ bl n) := by
  intro n hn
  have key : ∀ (k n : Nat), n < 2 ^ k → bl n ≤ k := by
    intro k
    induction k with
    | zero => intro n h; obtain rfl : n = 0 := by simpa using h
              rw [bl_0]; omega
    | succ k ih =>
      intro n h
      rcases Nat.eq_zero_or_pos n with rfl | h0
      · rw [bl_0]; omega
      · rw [bl_s h0]; have := ih (n / 2) (by rw [Nat.pow_succ] at h; omega); omega
  exact ⟨key 7 n (by simpa using hn), fun h => by rw [bl_s h]; omega⟩
theorem num_bl (n : Nat) : (num n).length = max 1 ((bl n + 6) / 7) := by
  induction n using Nat.strongRecOn with
  | _ n ih =>
    by_cases h : n < 128
    · have := bl_small n h
      rw [num_small h]; simp only [List.length_cons, List.length_nil]; omega
    · have hp : 1 ≤ bl (n / 128) := by rw [bl_s (n := n / 128) (by omega)]; omega
      rw [num_big h, List.length_cons, ih (n / 128) (by omega), bl_128 (n := n) (by omega)]
      omega
theorem num_mono (n m : Nat) (h : n ≤ m) : (num n).length ≤ (num m).length := by
  induction m using Nat.strongRecOn generalizing n with
  | _ m ih =>
    by_cases hm : m < 128
    · rw [num_small hm, num_small (by omega)]; simp
    · by_cases hn : n < 128
      · rw [num_small hn, num_big hm]; simp
      · rw [num_big hn, num_big hm]
        have := ih (m / 128) (by omega) (n / 128) (Nat.div_le_div_right h)
        simpa using this
end Go.Proofs.Ytkfipkmkmhkfaaa
