/- WireTextBack holds of every input. No condition. -/
import Derived.Test.YtkbcpcldjenhiaaLift
import Derived.Test.YtkbcpcldjenhiaaFacts
import Derived.Test.YtkbcpcldjenhiaaWireB
namespace Go.Proofs.Ytkbcpcldjenhiaa.wireTextBack
open Go.ChangeShapes Go.WideShapes Go.ChangeAt Go.RowKit
open Go.WideMaps Go.WideElems
open Go.ChangeMaps (open_string shut_string)

set_option maxRecDepth 100000 in
theorem lifted (os : Os) (started : os.Started) (H : Type) (enc : TypeId × Value → H) :
    ReturnsInHanded {} Try.checked os 5 .any (Rows.wireTextBackSpec.pre6 enc Try.prog Try.f5 Rows.wireTextBackRow.domain false) (Rows.wireTextBackSpec.post enc Try.prog Try.f5 false true false false) := by
  refine returnsInHanded_of_change_shaped (C := Try.checked) own started (by kernel_rfl) Try.func5
    (ChangeSpec.witness6 (enc := enc) (C := Try.checked) false ⟨#[], #[.string ByteArray.empty, .slice none 0 0, .int .i64 0], []⟩ 8 (by kernel_rfl) (by kernel_rfl) (by kernel_rfl) (by kernel_rfl)) ?_
  intro W base args ds gs before hval0 hW _ hsz hsh _
  have hval : ∀ (j : Nat) t v, Try.f5.params[j]? = some t → args[j]? = some v → Value.okWide Try.prog W .any base t v := hval0
  have hW' := hW
  obtain ⟨p, q, hA0, hV, hpq, hfz, hnd⟩ := hW
  have hA : DataW.TrodAll enc Try.prog W 0 (fun _ => true) true Try.f5.params.toList args.toList ds p := hA0
  rw [Try.params5] at hA hval
  obtain ⟨v0, vs0, d0, ds0, p0, q0, hargs, rfl, rfl, h0, r0⟩ := trodAll_cons hA
  obtain ⟨v1, vs1, d1, ds1, p1, q1, rfl, rfl, rfl, h1, r1⟩ := trodAll_cons r0
  obtain ⟨v2, vs2, d2, ds2, p2, q2, rfl, rfl, rfl, h2, r2⟩ := trodAll_cons r1
  obtain ⟨rfl, rfl, rfl⟩ := trodAll_nil r2
  obtain rfl : args = #[v0, v1, v2] := by cases args; simp_all
  obtain ⟨rfl, rfl⟩ := trodVars_none hV
  have hsz1 : (DataW.weightsEach Try.prog [9, 22, 3] [d0, d1, d2]).all (· ≤ reachBytes) = true := hsz
  refine law_post (s := Rows.wireTextBackSpec) laidOut (by kernel_rfl) rfl (fun ds h => ?_) rfl Try.underlying4 hW' ?_
  · rw [Try.params5] at h
    match ds, h with
    | [e0, e1, e2], _ => rfl
  obtain ⟨s0, rfl, rfl, rfl, z0⟩ := open_string Try.underlying9 (hval 0 9 v0 rfl rfl) h0
  have y0 := sized_string hsz1 (j := 0) rfl rfl
  obtain ⟨A1, n1, c1, z1, rfl, l1, nc1, cb1, cm1, wf1, bk1, rd1⟩ := open_nums (k := .u8) (j := 1) Try.underlying22 Try.underlying5 (by kernel_rfl) (hval 1 22 v1 rfl rfl) h1 hsz1 rfl rfl
  rw [show Try.prog.bytesOf 5 = 1 by kernel_rfl] at cb1
  obtain ⟨b1, lb1, eb1⟩ := bytes_of_wf z1 wf1
  rw [eb1] at rd1
  obtain ⟨a2, rfl, rfl, rfl, w2⟩ := open_int Try.underlying3 (hval 2 3 v2 rfl rfl) h2
  exact WireTextBack_walk _ _ _ _ _ _ W (by simpa [reachBytes] using y0) (lb1.trans l1) nc1 (by omega) rd1 (wf_i64 w2).1 (wf_i64 w2).2

/-- the statement -/
theorem proved : Rows.WireTextBackSaid :=
  OpenClaim.holds_of_wide 5 Try.f5 rfl rfl rfl rfl rfl rfl rfl ⟨rfl, rfl, rfl, rfl, rfl⟩ rfl rfl rfl rfl rfl (by kernel_rfl) Try.func5 (by show joinedFacts Try.prog _ _ _ _ = true; unfold joinedFacts; rw [mayE, lft, mk]; kernel_rfl)
    (of_decide_eq_true (by kernel_rfl)) (by unfold Func.isWrapper; first | (rw [if_pos (by decide +kernel)]; kernel_rfl) | (rw [if_neg (by decide +kernel)]; exact ⟨rfl, rfl⟩))
    (fun os started H enc _ => lifted os started H enc)
#print axioms proved
end Go.Proofs.Ytkbcpcldjenhiaa.wireTextBack
