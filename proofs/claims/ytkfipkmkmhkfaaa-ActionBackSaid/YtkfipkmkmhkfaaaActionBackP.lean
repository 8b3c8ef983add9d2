/- ActionBack holds of every input. No condition. -/
import Derived.Test.YtkfipkmkmhkfaaaLift
import Derived.Test.YtkfipkmkmhkfaaaFacts
import Derived.Test.YtkfipkmkmhkfaaaRawV
import Derived.Test.YtkfipkmkmhkfaaaABack
namespace Go.Proofs.Ytkfipkmkmhkfaaa.actionBack
open Go.ChangeShapes Go.WideShapes Go.ChangeAt Go.RowKit
open Go.WideMaps Go.WideElems
open Go.ChangeMaps (open_string shut_string)

set_option maxRecDepth 100000 in
theorem lifted (os : Os) (started : os.Started) (H : Type) (enc : TypeId × Value → H) :
    ReturnsInHanded {} Try.checked os 6 .any (Rows.actionBackSpec.pre6 enc Try.prog Try.f6 Rows.actionBackRow.domain false) (Rows.actionBackSpec.post enc Try.prog Try.f6 false true false false) := by
  refine returnsInHanded_of_change_shaped (C := Try.checked) own started (by kernel_rfl) Try.func6
    (ChangeSpec.witness6 (enc := enc) (C := Try.checked) false ⟨#[], #[.agg #[.int .i64 0, .int .i64 0, .int .i64 0, .string ByteArray.empty], .slice none 0 0], []⟩ 8 (by kernel_rfl) (by kernel_rfl) (by kernel_rfl) (by kernel_rfl)) ?_
  intro W base args ds gs before hval0 hW _ hsz hsh _
  have hval : ∀ (j : Nat) t v, Try.f6.params[j]? = some t → args[j]? = some v → Value.okWide Try.prog W .any base t v := hval0
  have hW' := hW
  obtain ⟨p, q, hA0, hV, hpq, hfz, hnd⟩ := hW
  have hA : DataW.TrodAll enc Try.prog W 0 (fun _ => true) true Try.f6.params.toList args.toList ds p := hA0
  rw [Try.params6] at hA hval
  obtain ⟨v0, vs0, d0, ds0, p0, q0, hargs, rfl, rfl, h0, r0⟩ := trodAll_cons hA
  obtain ⟨v1, vs1, d1, ds1, p1, q1, rfl, rfl, rfl, h1, r1⟩ := trodAll_cons r0
  obtain ⟨rfl, rfl, rfl⟩ := trodAll_nil r1
  obtain rfl : args = #[v0, v1] := by cases args; simp_all
  obtain ⟨rfl, rfl⟩ := trodVars_none hV
  have hsz1 : (DataW.weightsEach Try.prog [33, 34] [d0, d1]).all (· ≤ reachBytes) = true := hsz
  refine law_post (s := Rows.actionBackSpec) laidOut (by kernel_rfl) rfl (fun ds h => ?_) rfl Try.underlying4 hW' ?_
  · rw [Try.params6] at h
    match ds, h with
    | [e0, e1], _ => rfl
  obtain ⟨z0, rfl, ok0⟩ := open_raw (j := 0) (hval 0 33 v0 rfl rfl) h0 hsz1 rfl rfl
  obtain ⟨A1, n1, c1, l1, rfl, ll1, nc1, cb1, cm1, ok1, bk1, rd1⟩ := open_raws (j := 1) (hval 1 34 v1 rfl rfl) h1 hsz1 rfl rfl
  rw [show Try.prog.bytesOf 33 = 40 by kernel_rfl] at cb1
  exact ActionBack_walk _ _ _ _ _ W ok0 ll1 nc1 cm1 ok1 rd1

/-- the statement -/
theorem proved : Rows.ActionBackSaid :=
  OpenClaim.holds_of_wide 6 Try.f6 rfl rfl rfl rfl rfl rfl rfl ⟨rfl, rfl, rfl, rfl, rfl⟩ rfl rfl rfl rfl rfl (by kernel_rfl) Try.func6 (by show joinedFacts Try.prog _ _ _ _ = true; unfold joinedFacts; rw [mayE, lft, mk]; kernel_rfl)
    (of_decide_eq_true (by kernel_rfl)) (by unfold Func.isWrapper; first | (rw [if_pos (by decide +kernel)]; kernel_rfl) | (rw [if_neg (by decide +kernel)]; exact ⟨rfl, rfl⟩))
    (fun os started H enc _ => lifted os started H enc)
#print axioms proved
end Go.Proofs.Ytkfipkmkmhkfaaa.actionBack
