/- ActionApart holds of every input. No condition. -/
import Derived.Test.YtkfipkmkmhkfaaaLift
import Derived.Test.YtkfipkmkmhkfaaaFacts
import Derived.Test.YtkfipkmkmhkfaaaRawV
import Derived.Test.YtkfipkmkmhkfaaaAApt
namespace Go.Proofs.Ytkfipkmkmhkfaaa.actionApart
open Go.ChangeShapes Go.WideShapes Go.ChangeAt Go.RowKit
open Go.WideMaps Go.WideElems
open Go.ChangeMaps (open_string shut_string)

set_option maxRecDepth 100000 in
theorem lifted (os : Os) (started : os.Started) (H : Type) (enc : TypeId × Value → H) :
    ReturnsInHanded {} Try.checked os 5 .any (Rows.actionApartSpec.pre6 enc Try.prog Try.f5 Rows.actionApartRow.domain false) (Rows.actionApartSpec.post enc Try.prog Try.f5 false true false false) := by
  refine returnsInHanded_of_change_shaped (C := Try.checked) own started (by kernel_rfl) Try.func5
    (ChangeSpec.witness6 (enc := enc) (C := Try.checked) false ⟨#[], #[.agg #[.int .i64 0, .int .i64 0, .int .i64 0, .string ByteArray.empty], .agg #[.int .i64 0, .int .i64 0, .int .i64 0, .string ByteArray.empty], .slice none 0 0, .slice none 0 0], []⟩ 8 (by kernel_rfl) (by kernel_rfl) (by kernel_rfl) (by kernel_rfl)) ?_
  intro W base args ds gs before hval0 hW _ hsz hsh _
  have hval : ∀ (j : Nat) t v, Try.f5.params[j]? = some t → args[j]? = some v → Value.okWide Try.prog W .any base t v := hval0
  have hW' := hW
  obtain ⟨p, q, hA0, hV, hpq, hfz, hnd⟩ := hW
  have hA : DataW.TrodAll enc Try.prog W 0 (fun _ => true) true Try.f5.params.toList args.toList ds p := hA0
  rw [Try.params5] at hA hval
  obtain ⟨v0, vs0, d0, ds0, p0, q0, hargs, rfl, rfl, h0, r0⟩ := trodAll_cons hA
  obtain ⟨v1, vs1, d1, ds1, p1, q1, rfl, rfl, rfl, h1, r1⟩ := trodAll_cons r0
  obtain ⟨v2, vs2, d2, ds2, p2, q2, rfl, rfl, rfl, h2, r2⟩ := trodAll_cons r1
  obtain ⟨v3, vs3, d3, ds3, p3, q3, rfl, rfl, rfl, h3, r3⟩ := trodAll_cons r2
  obtain ⟨rfl, rfl, rfl⟩ := trodAll_nil r3
  obtain rfl : args = #[v0, v1, v2, v3] := by cases args; simp_all
  obtain ⟨rfl, rfl⟩ := trodVars_none hV
  have hsz1 : (DataW.weightsEach Try.prog [33, 33, 34, 34] [d0, d1, d2, d3]).all (· ≤ reachBytes) = true := hsz
  refine law_post (s := Rows.actionApartSpec) laidOut (by kernel_rfl) rfl (fun ds h => ?_) rfl Try.underlying4 hW' ?_
  · rw [Try.params5] at h
    match ds, h with
    | [e0, e1, e2, e3], _ => rfl
  obtain ⟨z0, rfl, ok0⟩ := open_raw (j := 0) (hval 0 33 v0 rfl rfl) h0 hsz1 rfl rfl
  obtain ⟨z1, rfl, ok1⟩ := open_raw (j := 1) (hval 1 33 v1 rfl rfl) h1 hsz1 rfl rfl
  obtain ⟨A2, n2, c2, l2, rfl, ll2, nc2, cb2, cm2, ok2, bk2, rd2⟩ := open_raws (j := 2) (hval 2 34 v2 rfl rfl) h2 hsz1 rfl rfl
  rw [show Try.prog.bytesOf 33 = 40 by kernel_rfl] at cb2
  obtain ⟨A3, n3, c3, l3, rfl, ll3, nc3, cb3, cm3, ok3, bk3, rd3⟩ := open_raws (j := 3) (hval 3 34 v3 rfl rfl) h3 hsz1 rfl rfl
  rw [show Try.prog.bytesOf 33 = 40 by kernel_rfl] at cb3
  exact ActionApart_walk _ _ _ _ _ _ _ _ _ _ W ok0 ok1 ll2 nc2 cm2 ok2 rd2 ll3 nc3 cm3 ok3 rd3

/-- the statement -/
theorem proved : Rows.ActionApartSaid :=
  OpenClaim.holds_of_wide 5 Try.f5 rfl rfl rfl rfl rfl rfl rfl ⟨rfl, rfl, rfl, rfl, rfl⟩ rfl rfl rfl rfl rfl (by kernel_rfl) Try.func5 (by show joinedFacts Try.prog _ _ _ _ = true; unfold joinedFacts; rw [mayE, lft, mk]; kernel_rfl)
    (of_decide_eq_true (by kernel_rfl)) (by unfold Func.isWrapper; first | (rw [if_pos (by decide +kernel)]; kernel_rfl) | (rw [if_neg (by decide +kernel)]; exact ⟨rfl, rfl⟩))
    (fun os started H enc _ => lifted os started H enc)
#print axioms proved
end Go.Proofs.Ytkfipkmkmhkfaaa.actionApart
