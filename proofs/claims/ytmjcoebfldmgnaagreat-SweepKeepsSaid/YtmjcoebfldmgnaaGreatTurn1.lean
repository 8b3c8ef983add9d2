/- keep.Turned: one byte is another one. Conditions: the sizes. -/
import Derived.Test.YtmjcoebfldmgnaaGreatDig
import Derived.Test.YtmjcoebfldmgnaaGreatPart
namespace Go.Proofs.YtmjcoebfldmgnaaGreat
open Go.RowKit
set_option linter.unusedVariables false
set_option linter.unusedSimpArgs false
set_option maxRecDepth 100000

/-! Turned -/
def turn1 (l : List UInt8) (k : Nat) (x : UInt8) : List UInt8 := l.set k ((l[k]?.getD 0) ^^^ x)
theorem turn1_len (l : List UInt8) (k : Nat) (x : UInt8) : (turn1 l k x).length = l.length := by simp [turn1]
theorem turn1_ne (l : List UInt8) (k : Nat) (x : UInt8) (hk : k < l.length) (hx : x ≠ 0) : turn1 l k x ≠ l := by
  intro h
  have h1 := congrArg (fun l => l[k]?) h
  simp only [turn1, List.getElem?_set_self hk, List.getElem?_eq_getElem hk, Option.getD_some, Option.some.injEq] at h1
  apply hx
  have h2 : l[k] ^^^ (l[k] ^^^ x) = l[k] ^^^ l[k] := by rw [h1]
  rw [← UInt8.xor_assoc, UInt8.xor_self, UInt8.zero_xor] at h2
  exact h2
theorem bits_xor8 (a b : UInt8) : bits .xor .u8 (a.toNat : Int) (b.toNat : Int) = ((a ^^^ b).toNat : Int) := by
  have key : ∀ a b : Fin 256, bits .xor .u8 (a.val : Int) (b.val : Int) = ((UInt8.ofNat a.val ^^^ UInt8.ofNat b.val).toNat : Int) := by decide +kernel
  have h := key ⟨a.toNat, a.toNat_lt⟩ ⟨b.toNat, b.toNat_lt⟩
  simpa using h
theorem own_exb {w : World} {base : Nat} {e : TypeId} {v : Value} {n : Nat} {xs : List Value} (h : w.ownsRow base e 1 v n xs) (h0 : 0 < n) :
    ∃ g cap cs, v = .slice (some ⟨g, 0, none⟩) n cap ∧ base ≤ g ∧ Arr w g e cs ∧ n ≤ cap ∧ cap ≤ maxLen ∧ cs.length = cap ∧ cs.take n = xs := by
  rcases h.2 with ⟨_, hz⟩ | ⟨g, cap, cur, rfl, hb, hg, hn, hm, hs, ht⟩
  · omega
  · exact ⟨g, cap, cur.toList, rfl, hb, by simpa [Arr] using hg, hn, hm, by simpa using hs, by simpa using ht⟩
end Go.Proofs.YtmjcoebfldmgnaaGreat
