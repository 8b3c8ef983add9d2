/- A slice of strings that came in, as cells that read. No condition. -/
import Derived.Test.YtdpedkgdobfemaaLift
import Derived.Test.YtdpedkgdobfemaaStr
import Derived.Deep.Strs
namespace Go.Proofs.Ytdpedkgdobfemaa
open Go.ChangeShapes Go.WideShapes Go.ChangeAt Go.RowKit
open Go.WideMaps Go.WideElems
open Go.ChangeMaps (open_string shut_string)
set_option linter.unusedVariables false
set_option linter.unusedSimpArgs false
set_option maxRecDepth 100000

section
variable {H : Type} {enc : TypeId × Value → H} {w : World} {ts : List TypeId} {ds : List (DataW H)} {ps : List MemPlace} {r : Reach} {b0 : Nat}
theorem open_strv {v : Value} {d : DataW H} {j : Nat} (hval : Value.okWide Try.prog w r b0 42 v) (hd : DataW.Trod enc Try.prog w 0 (fun _ => true) true 42 v d ps) :
    ∃ A n c, ∃ L : List (List UInt8), v = .slice A n c ∧ L.length = n ∧ n ≤ c ∧ c ≤ maxLen ∧ n ≤ Rows.uptoBulk d ∧ Rd w 1 A n (strs L) := by
  have ht := Try.underlying42
  have he := Try.underlying9
  have hC : Try.prog.cellsOf 9 = 1 := by kernel_rfl
  obtain ⟨a0, len, cap, rfl⟩ := okWide_slice ht hval
  obtain ⟨fuel, hf⟩ := hd
  rcases Deep.open_strs ht he hC hf with ⟨hcs, hx⟩ | ⟨a, len', cap', m, Sx, hcs, _, hl, hm, hmm, hx, hi⟩
  · have : Value.slice a0 len cap = .slice none 0 0 := by simpa [Value.cells] using hcs
    injection this with e1 e2 e3
    subst e1 e2 e3
    exact ⟨none, 0, 0, [], rfl, rfl, Nat.le_refl _, by simp [maxLen], Nat.zero_le _, Rd.nil_⟩
  · have : Value.slice a0 len cap = .slice (some a) len' cap' := by simpa [Value.cells] using hcs
    injection this with e1 e2 e3
    subst e1 e2 e3
    simp only [if_true] at hmm
    subst hmm
    have hd : d = .slice ((List.range len).map fun i => .lit (.string (Sx i).data.toList)) ((List.range (m - len)).map fun j => .lit (.string (Sx (len + j)).data.toList)) := by
      have := congrArg Prod.fst hx; simpa using this
    subst hd
    have hL : ((List.range len).map fun i => (Sx i).data.toList).length = len := by simp
    refine ⟨some a, len, m, (List.range len).map fun i => (Sx i).data.toList, rfl, hL, hl, hm, ?_, ⟨by simp [strs], fun hn => ?_⟩⟩
    · have h1 := bulk_len (H := H) ((List.range len).map fun i => DataW.lit (.string (Sx i).data.toList))
      simp only [List.length_map, List.length_range] at h1
      simp only [Rows.uptoBulk]; omega
    · have h0 := (hi 0 (by omega)).1
      have hsp : a.spot = none := by have := spot_none h0; simpa [Addr.add] using this
      obtain ⟨b, off, spot⟩ := a
      simp only at hsp
      subst hsp
      refine ⟨b, off, rfl, World.block_lt_of_cell? w ((⟨b, off, none⟩ : Addr).add 0) h0, fun i u hu => ?_⟩
      have hil := (List.getElem?_eq_some_iff.1 hu).1
      have hil' : i < len := by simpa [strs] using hil
      rw [strs_at _ i (by omega)] at hu
      have h2 := (hi i (by omega)).1
      have hadd : (⟨b, off, none⟩ : Addr).add i = ⟨b, off + i, none⟩ := by unfold Addr.add; split <;> simp_all
      rw [hadd] at h2
      rw [h2, ← hu]
      simp
end
end Go.Proofs.Ytdpedkgdobfemaa
