/- Numbers as bytes, plain. No condition. -/
namespace Go.Proofs.Ytefhbgbhknobjaa

/-- the bytes of a number (seven bits each, the least first) -/
def num (n : Nat) : List UInt8 := if n < 128 then [UInt8.ofNat n] else UInt8.ofNat (n % 128 + 128) :: num (n / 128)
theorem num_small {n : Nat} (h : n < 128) : num n = [UInt8.ofNat n] := by rw [num, if_pos h]
theorem num_big {n : Nat} (h : ¬ n < 128) : num n = UInt8.ofNat (n % 128 + 128) :: num (n / 128) := by rw [num, if_neg h]
theorem num_len (n : Nat) : ∀ k, n < 128 ^ (k + 1) → 1 ≤ (num n).length ∧ (num n).length ≤ k + 1 := by
  intro k
  induction k generalizing n with
  | zero => intro h; rw [num_small (by simpa using h)]; simp
  | succ k ih =>
    intro h
    by_cases hn : n < 128
    · rw [num_small hn]; simp
    · rw [num_big hn]
      have := ih (n / 128) (by rw [Nat.div_lt_iff_lt_mul (by omega)]; simpa [Nat.pow_succ] using h)
      simp only [List.length_cons]; omega
end Go.Proofs.Ytefhbgbhknobjaa
