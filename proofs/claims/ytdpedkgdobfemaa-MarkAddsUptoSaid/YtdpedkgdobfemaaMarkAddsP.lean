/- Digests that are added are there once, in order, in whatever order they come. No condition. -/
import Derived.Test.YtdpedkgdobfemaaLift
import Derived.Test.YtdpedkgdobfemaaFacts
import Derived.Test.YtdpedkgdobfemaaLiS
import Derived.Test.YtdpedkgdobfemaaAdd
namespace Go.Proofs.Ytdpedkgdobfemaa.markAdds
open Go.ChangeShapes Go.WideShapes Go.ChangeAt Go.RowKit
open Go.WideMaps Go.WideElems
open Go.ChangeMaps (open_string shut_string)

set_option maxRecDepth 100000 in
theorem lifted (os : Os) (started : os.Started) (H : Type) (enc : TypeId × Value → H) (F0 : Stop.Interp) :
    ReturnsInHanded {} Try.checked os 6 .any ((Rows.OpenSpec.upto Rows.markAddsSpec).pre6 enc Try.prog Try.f6 Rows.markAddsUptoRow.domain false) (((Rows.OpenSpec.upto Rows.markAddsSpec).at F0).post enc Try.prog Try.f6 false true false false) := by
  refine returnsInHanded_of_cond_sized (C := Try.checked) (s := Rows.OpenSpec.upto Rows.markAddsSpec) (k := Rows.uptoSmall) rfl own started (by kernel_rfl) Try.func6
    (OpenSpec.witness (enc := enc) (C := Try.checked) (s := Rows.OpenSpec.upto Rows.markAddsSpec) (k := Rows.uptoSmall) rfl false ⟨#[], #[.slice none 0 0, .slice none 0 0], []⟩ 8 (by kernel_rfl) (by kernel_rfl) (by kernel_rfl)
      (x := ([.nil, .nil], [], [])) (by kernel_rfl) rfl (by kernel_rfl)) ?_
  intro W base args ds gs before hval0 hW _ hsmall hsz _
  have hval : ∀ (j : Nat) t v, Try.f6.params[j]? = some t → args[j]? = some v → Value.okWide Try.prog W .any base t v := hval0
  have hW' := hW
  obtain ⟨p, q, hA0, hV, hpq, hfz, hnd⟩ := hW
  have hA : DataW.TrodAll enc Try.prog W 0 (fun _ => true) true Try.f6.params.toList args.toList ds p := hA0
  rw [Try.params6] at hA hval
  obtain ⟨v0, vs0, d0, ds0, p0, q0, hargs, rfl, rfl, h0, r0⟩ := trodAll_cons hA
  obtain ⟨v1, vs1, d1, ds1, p1, q1, rfl, rfl, rfl, h1, r1⟩ := trodAll_cons r0
  obtain ⟨rfl, rfl, rfl⟩ := trodAll_nil r1
  obtain rfl : args = #[v0, v1] := by cases args; simp_all
  obtain ⟨rfl, rfl⟩ := trodVars_none hV
  have hsz1 : (DataW.weightsEach Try.prog [42, 42] [d0, d1]).all (· ≤ reachBytes) = true := hsz
  have hsm1 : Rows.uptoSmall H [d0, d1] = true := by simpa using hsmall
  refine law_post (s := Rows.markAddsSpec) laidOut (by kernel_rfl) rfl (fun ds h => ?_) rfl Try.underlying4 hW' ?_
  · rw [Try.params6] at h
    match ds, h with
    | [e0, e1], _ => rfl
  obtain ⟨A0, n0, c0, l0, rfl, ll0, nc0, cm0, bk0, rd0⟩ := open_strv (j := 0) (hval 0 42 v0 rfl rfl) h0
  obtain ⟨A1, n1, c1, l1, rfl, ll1, nc1, cm1, bk1, rd1⟩ := open_strv (j := 1) (hval 1 42 v1 rfl rfl) h1
  exact MarkAdds_walk _ _ _ _ _ _ _ _ W ll0 nc0 rd0 ll1 nc1 rd1 (Nat.le_trans bk0 (bulk_bound hsm1 (by simp))) (Nat.le_trans bk1 (bulk_bound hsm1 (by simp)))

/-- the statement -/
theorem proved : Rows.MarkAddsUptoSaid :=
  OpenClaim.holds_of_cond 6 Try.f6 rfl rfl rfl rfl rfl rfl rfl ⟨rfl, rfl, rfl, rfl, rfl⟩ rfl rfl rfl rfl rfl (by kernel_rfl) Try.func6 (by show joinedFacts Try.prog _ _ _ _ = true; unfold joinedFacts; rw [mayE, lft, mk]; kernel_rfl)
    (of_decide_eq_true (by kernel_rfl)) (by unfold Func.isWrapper; first | (rw [if_pos (by decide +kernel)]; kernel_rfl) | (rw [if_neg (by decide +kernel)]; exact ⟨rfl, rfl⟩))
    (fun os started H enc _ F0 => lifted os started H enc F0)
#print axioms proved
end Go.Proofs.Ytdpedkgdobfemaa.markAdds
