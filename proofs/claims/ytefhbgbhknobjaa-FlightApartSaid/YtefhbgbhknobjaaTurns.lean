/- The walk of HexTurns. Condition: the string's size. -/
import Derived.Test.YtefhbgbhknobjaaHexB
namespace Go.Proofs.Ytefhbgbhknobjaa
open Go.RowKit
set_option linter.unusedVariables false
set_option linter.unusedSimpArgs false
set_option maxRecDepth 20000
theorem dig_val (a : UInt8) (h : ¬ val a < 0) : dig (val a).toNat = a := by
  have key : ∀ n : Fin 256, ¬ val (UInt8.ofNat n.val) < 0 → dig (val (UInt8.ofNat n.val)).toNat = UInt8.ofNat n.val := by decide +kernel
  have := key ⟨a.toNat, a.toNat_lt⟩
  rw [show UInt8.ofNat (a.toNat) = a from UInt8.ofNat_toNat] at this
  exact this h
theorem hexs_unhx : ∀ (l r : List UInt8), unhx l = some r → hexs r = l
  | [], r, h => by simp [unhx] at h; subst h; rfl
  | [_], r, h => by simp [unhx] at h
  | a :: b :: l, r, h => by
    rw [unhx] at h
    split at h
    · cases h
    · rename_i hv
      simp only [Option.map_eq_some_iff] at h
      obtain ⟨r', hr, rfl⟩ := h
      have ih := hexs_unhx l r' hr
      have ra := val_range a
      have rb := val_range b
      have ea := dig_val a (fun h => hv (.inl h))
      have eb := dig_val b (fun h => hv (.inr h))
      show dig ((UInt8.ofNat (16 * (val a).toNat + (val b).toNat)).toNat / 16) :: dig ((UInt8.ofNat (16 * (val a).toNat + (val b).toNat)).toNat % 16) :: hexs r' = _
      have e : (UInt8.ofNat (16 * (val a).toNat + (val b).toNat)).toNat = 16 * (val a).toNat + (val b).toNat := by rw [UInt8.toNat_ofNat']; omega
      rw [e, show (16 * (val a).toNat + (val b).toNat) / 16 = (val a).toNat by omega, show (16 * (val a).toNat + (val b).toNat) % 16 = (val b).toNat by omega, ea, eb, ih]

theorem hBytes_at {s : ByteArray} {r : List UInt8} {er : Nat} (E : Int) (hE : er = E) (h : hexB s.data.toList = (r, er)) (w : World) (hs : s.size ≤ 140737488351232) :
    Calls Try.prog 32 #[.string s] w fun e w' => ∃ A c, e = .returned (.tuple #[.slice A r.length c, .int .i64 E]) ∧ OwnB 5 w.heap.size w' A c r ∧ Below w.heap.size w w' := by
  subst hE
  have := hBytes_ok s w hs
  rw [h] at this
  exact this
end Go.Proofs.Ytefhbgbhknobjaa
