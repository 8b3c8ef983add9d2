/- Plain laws of hexadecimal digits; hex.Check at a known answer. No condition. -/
import Derived.Test.YtefhbgbhknobjaaPad
namespace Go.Proofs.Ytefhbgbhknobjaa
open Go.RowKit
set_option linter.unusedVariables false
set_option linter.unusedSimpArgs false
theorem val_digs : ∀ n, n < 16 → val (dig n) = n := by
  have key : ∀ n : Fin 16, val (dig n.val) = (n.val : Int) := by decide +kernel
  exact fun n h => key ⟨n, h⟩
theorem unhx_hexes : ∀ l : List UInt8, unhx (hexs l) = some l
  | [] => rfl
  | x :: l => by
    have hx := x.toNat_lt
    have h1 := val_digs (x.toNat / 16) (by omega)
    have h2 := val_digs (x.toNat % 16) (by omega)
    show unhx (dig (x.toNat / 16) :: dig (x.toNat % 16) :: hexs l) = _
    rw [unhx, if_neg (by omega), unhx_hexes l, h1, h2]
    simp only [Option.map_some, Option.some.injEq, List.cons.injEq, and_true, Int.toNat_natCast]
    rw [Nat.div_add_mod]; exact UInt8.ofNat_toNat
theorem hexB_hexes (l : List UInt8) (h : l.length ≤ 2000) : hexB (hexs l) = (l, 0) := by
  have := hexs_len l
  rw [hexB, if_neg (by omega), if_neg (by omega), unhx_hexes]
theorem hexC_hexs (l : List UInt8) : hexC (hexs l) = if l.length = 32 then 0 else 1 := by
  have := hexs_len l
  unfold hexC
  by_cases h : l.length = 32
  · rw [if_neg (by omega), hexB_hexes l (by omega), if_pos h]
  · rw [if_pos (by omega), if_neg h]
theorem hexC_sha (l : List UInt8) : hexC (shaS l) = 0 := by
  have := shaWs_len l
  rw [shaS, hexC_hexs, if_pos (by rw [wbs_len, this])]
theorem hCheck_at {s : ByteArray} {r : Nat} (E : Int) (hE : r = E) (h : hexC s.data.toList = r) (w : World) (hs : s.size ≤ 140737488351232) :
    Calls Try.prog 16 #[.string s] w fun e w' => e = .returned (.int .i64 E) ∧ Below w.heap.size w w' := by
  subst hE
  have := hCheck_ok s w hs
  rw [h] at this
  exact this
end Go.Proofs.Ytefhbgbhknobjaa
