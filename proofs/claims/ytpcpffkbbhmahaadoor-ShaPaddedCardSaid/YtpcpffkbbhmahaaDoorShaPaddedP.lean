/- ShaPadded holds of every input: the tied card. No condition. -/
import Derived.Test.YtpcpffkbbhmahaaDoorLift
import Derived.Test.YtpcpffkbbhmahaaDoorFacts
import Derived.Test.YtpcpffkbbhmahaaDoorShp
import Derived.Test.YtpcpffkbbhmahaaDoorTie
import Derived.Test.YtpcpffkbbhmahaaDoorCards
import Derived.LaidMore
import Derived.Lay
import Derived.SevenTiedAt
import Derived.Stop.Joined
namespace Go.Proofs.YtpcpffkbbhmahaaDoor.shaPadded
open Go.ChangeShapes Go.WideShapes Go.ChangeAt Go.RowKit
open Go.WideMaps Go.WideElems
open Go.ChangeMaps (open_string shut_string)

set_option maxRecDepth 100000 in
theorem lifted (os : Os) (started : os.Started) (H : Type) (enc : TypeId × Value → H) :
    ReturnsInHanded {} Tryd.checked os 3 .any (fun w args => (Rows.shaPaddedSpec.pre enc Tryd.prog Tryd.f3 Rows.shaPaddedRow.domain false w args ∧ laidMetH Tryd.prog Rows.shaPaddedRow.laid w) ∧ sizedMet enc Tryd.prog Tryd.f3 (OpenSpec.ofChange Rows.shaPaddedSpec) false w args)
      (Rows.shaPaddedSpec.post enc Tryd.prog Tryd.f3 false true false false) := by
  refine returnsInHanded_of_change_and (C := Tryd.checked) (X := fun w _ => laidMetH Tryd.prog Rows.shaPaddedRow.laid w) (fun _ _ _ hh h => h.of_heap hh) own started (by kernel_rfl) Tryd.func3
    (ChangeSpec.witness_shaped (enc := enc) (C := Tryd.checked) (os := os) (X := fun w _ => laidMetH Tryd.prog Rows.shaPaddedRow.laid w) false (World.laidAll Tryd.prog os Rows.shaPaddedRow.laid) #[.slice none 0 0] 8 (World.laidAll_os _ _ _)
      (World.shaped_of_ZipB (by kernel_rfl) (by kernel_rfl)) (by kernel_rfl) (by kernel_rfl) (by kernel_rfl)
      (by rw [MakeChecks.laidMetH_plain _ _ _ (by kernel_rfl)]; exact laidMet_laidAll _ (by kernel_rfl) (by kernel_rfl))) ?_
  intro W base args ds gs before hval0 hW _ hsz _ _
  have hval : ∀ (j : Nat) t v, Tryd.f3.params[j]? = some t → args[j]? = some v → Value.okWide Tryd.prog W .any base t v := hval0
  have hW' := hW
  obtain ⟨p, q, hA0, hV, hpq, hfz, hnd⟩ := hW
  have hA : DataW.TrodAll enc Tryd.prog W 0 (fun _ => true) true Tryd.f3.params.toList args.toList ds p := hA0
  rw [Tryd.params3] at hA hval
  obtain ⟨v0, vs0, d0, ds0, p0, q0, hargs, rfl, rfl, h0, r0⟩ := trodAll_cons hA
  obtain ⟨rfl, rfl, rfl⟩ := trodAll_nil r0
  obtain rfl : args = #[v0] := by cases args; simp_all
  obtain ⟨rfl, rfl⟩ := trodVars_none hV
  have hsz1 : (DataW.weightsEach Tryd.prog [22] [d0]).all (· ≤ reachBytes) = true := hsz
  refine law_post (s := Rows.shaPaddedSpec) laidOut (by kernel_rfl) rfl (fun ds h => ?_) rfl Tryd.underlying4 hW' ?_
  · rw [Tryd.params3] at h
    match ds, h with
    | [e0], _ => rfl
  obtain ⟨A0, n0, c0, z0, rfl, l0, nc0, cb0, cm0, wf0, bk0, rd0⟩ := open_nums (k := .u8) (j := 0) Tryd.underlying22 Tryd.underlying5 (by kernel_rfl) (hval 0 22 v0 rfl rfl) h0 hsz1 rfl rfl
  rw [show Tryd.prog.bytesOf 5 = 1 by kernel_rfl] at cb0
  obtain ⟨b0, lb0, eb0⟩ := bytes_of_wf z0 wf0
  rw [eb0] at rd0
  exact ShaPadded_walk _ _ _ _ W (lb0.trans l0) nc0 (by omega) rd0

/-- the row's statement -/
theorem row_holds : Rows.ShaPaddedSaid :=
  OpenClaim.holds_of_wide 3 Tryd.f3 rfl rfl rfl rfl rfl rfl rfl ⟨rfl, rfl, rfl, rfl, rfl⟩ rfl rfl rfl rfl rfl (by kernel_rfl) Tryd.func3 (by show joinedFacts Tryd.prog _ _ _ _ = true; unfold joinedFacts; rw [mayE, lft, mk]; kernel_rfl)
    (of_decide_eq_true (by kernel_rfl)) (by unfold Func.isWrapper; first | (rw [if_pos (by decide +kernel)]; kernel_rfl) | (rw [if_neg (by decide +kernel)]; exact ⟨rfl, rfl⟩))
    (fun os started H enc _ => lifted os started H enc)

/-- the card -/
theorem proved : Rows.ShaPaddedCardSaid :=
  Claim7.holds_tied_plain_at .later [] [.data, .pinned] true (true, "a52b0c76cc4f848da312155c7d9526cccf01861416fd2b6540297979cc6e1f2f") false row_holds (fun _ h => by cases h) (by kernel_rfl) (fun _ h => by cases h) shaPadded_row_tie rfl ⟨rfl, rfl⟩ (by kernel_rfl) rfl
    (fun f fn hf hfn => by
      obtain rfl : f = 3 := Option.some.inj ((show Tryd.prog.funcNamed "appleloft/appleloftkeep.ShaPadded" = some 3 by kernel_rfl).symm.trans hf) |>.symm
      obtain rfl : fn = Tryd.f3 := (Option.some.inj (Tryd.func3.symm.trans hfn)).symm
      exact ⟨by kernel_rfl, fun j t ht => by
        rw [Tryd.params3] at ht
        have hm : t ∈ [22] := by simpa using Array.mem_of_getElem? ht
        have hall : ([22].all fun u => !Tryd.prog.wantsStandIn u) = true := by kernel_rfl
        exact (show Tryd.prog.wantsStandIn t = false by simpa using List.all_eq_true.1 hall t hm)⟩)
    (by kernel_rfl)
#print axioms proved
end Go.Proofs.YtpcpffkbbhmahaaDoor.shaPadded
