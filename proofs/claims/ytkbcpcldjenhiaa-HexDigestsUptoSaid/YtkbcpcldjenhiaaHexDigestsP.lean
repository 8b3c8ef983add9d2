/- HexDigests holds of every input whose size is at most the stated bound. No condition. -/
import Derived.Test.YtkbcpcldjenhiaaLift
import Derived.Test.YtkbcpcldjenhiaaFacts
import Derived.Test.YtkbcpcldjenhiaaHexD
namespace Go.Proofs.Ytkbcpcldjenhiaa.hexDigests
open Go.ChangeShapes Go.WideShapes Go.ChangeAt Go.RowKit
open Go.WideMaps Go.WideElems
open Go.ChangeMaps (open_string shut_string)

set_option maxRecDepth 100000 in
theorem lifted (os : Os) (started : os.Started) (H : Type) (enc : TypeId × Value → H) (F0 : Stop.Interp) :
    ReturnsInHanded {} Try.checked os 13 .any ((Rows.OpenSpec.upto Rows.hexDigestsSpec).pre6 enc Try.prog Try.f13 Rows.hexDigestsUptoRow.domain false) (((Rows.OpenSpec.upto Rows.hexDigestsSpec).at F0).post enc Try.prog Try.f13 false true false false) := by
  refine returnsInHanded_of_cond_sized (C := Try.checked) (s := Rows.OpenSpec.upto Rows.hexDigestsSpec) (k := Rows.uptoSmall) rfl own started (by kernel_rfl) Try.func13
    (OpenSpec.witness (enc := enc) (C := Try.checked) (s := Rows.OpenSpec.upto Rows.hexDigestsSpec) (k := Rows.uptoSmall) rfl false ⟨#[], #[.slice none 0 0], []⟩ 8 (by kernel_rfl) (by kernel_rfl) (by kernel_rfl)
      (x := ([.nil], [], [])) (by kernel_rfl) rfl (by kernel_rfl)) ?_
  intro W base args ds gs before hval0 hW _ hsmall hsz _
  have hval : ∀ (j : Nat) t v, Try.f13.params[j]? = some t → args[j]? = some v → Value.okWide Try.prog W .any base t v := hval0
  have hW' := hW
  obtain ⟨p, q, hA0, hV, hpq, hfz, hnd⟩ := hW
  have hA : DataW.TrodAll enc Try.prog W 0 (fun _ => true) true Try.f13.params.toList args.toList ds p := hA0
  rw [Try.params13] at hA hval
  obtain ⟨v0, vs0, d0, ds0, p0, q0, hargs, rfl, rfl, h0, r0⟩ := trodAll_cons hA
  obtain ⟨rfl, rfl, rfl⟩ := trodAll_nil r0
  obtain rfl : args = #[v0] := by cases args; simp_all
  obtain ⟨rfl, rfl⟩ := trodVars_none hV
  have hsz1 : (DataW.weightsEach Try.prog [22] [d0]).all (· ≤ reachBytes) = true := hsz
  have hsm1 : Rows.uptoSmall H [d0] = true := by simpa using hsmall
  refine law_post (s := Rows.hexDigestsSpec) laidOut (by kernel_rfl) rfl (fun ds h => ?_) rfl Try.underlying4 hW' ?_
  · rw [Try.params13] at h
    match ds, h with
    | [e0], _ => rfl
  obtain ⟨A0, n0, c0, z0, rfl, l0, nc0, cb0, cm0, wf0, bk0, rd0⟩ := open_nums (k := .u8) (j := 0) Try.underlying22 Try.underlying5 (by kernel_rfl) (hval 0 22 v0 rfl rfl) h0 hsz1 rfl rfl
  rw [show Try.prog.bytesOf 5 = 1 by kernel_rfl] at cb0
  obtain ⟨b0, lb0, eb0⟩ := bytes_of_wf z0 wf0
  rw [eb0] at rd0
  exact HexDigests_walk _ _ _ _ W (lb0.trans l0) nc0 (by omega) rd0 (Nat.le_trans bk0 (bulk_bound hsm1 (by simp)))

/-- the statement -/
theorem proved : Rows.HexDigestsUptoSaid :=
  OpenClaim.holds_of_cond 13 Try.f13 rfl rfl rfl rfl rfl rfl rfl ⟨rfl, rfl, rfl, rfl, rfl⟩ rfl rfl rfl rfl rfl (by kernel_rfl) Try.func13 (by show joinedFacts Try.prog _ _ _ _ = true; unfold joinedFacts; rw [mayE, lft, mk]; kernel_rfl)
    (of_decide_eq_true (by kernel_rfl)) (by unfold Func.isWrapper; first | (rw [if_pos (by decide +kernel)]; kernel_rfl) | (rw [if_neg (by decide +kernel)]; exact ⟨rfl, rfl⟩))
    (fun os started H enc _ F0 => lifted os started H enc F0)
#print axioms proved
end Go.Proofs.Ytkbcpcldjenhiaa.hexDigests
