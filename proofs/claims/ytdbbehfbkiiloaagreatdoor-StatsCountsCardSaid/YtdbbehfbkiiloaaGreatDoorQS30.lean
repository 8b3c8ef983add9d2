/- The law holds of every input. No condition. -/
import Derived.Test.YtdbbehfbkiiloaaGreatDoorQS02
import Derived.Test.YtdbbehfbkiiloaaGreatDoorQS29
import Derived.Test.YtdbbehfbkiiloaaGreatDoorTie
import Derived.Test.YtdbbehfbkiiloaaGreatDoorCards
import Derived.LaidMore
import Derived.Lay
import Derived.SevenTiedAt
import Derived.Lib.LaidTab
import Derived.Stop.LaidErr
import Derived.Stop.Joined
set_option linter.unusedVariables false
set_option linter.unusedSimpArgs false
namespace Go.Proofs.YtdbbehfbkiiloaaGreatDoor.statsCounts
open Go.ChangeShapes Go.WideShapes Go.ChangeAt Go.RowKit
open Go.WideMaps Go.WideElems
open Go.ChangeMaps (open_string shut_string)
set_option maxRecDepth 100000 in
theorem tab_of (W:World) (h:laidMetH Tryz.prog Rows.statsCountsRow.laid W):kR W:=by
 rw [MakeChecks.laidMetH_plain _ _ _ (by kernel_rfl)]at h;exact Lib.tabIs_of_head (k:= .u64) (zs:=Lib.pow10Tab) (g:=1) (t:=182) (e:=80) (n:=20) (by kernel_rfl) (by kernel_rfl) (by kernel_rfl) (by kernel_rfl) (by kernel_rfl) (by kernel_rfl) (rest:= []) h.tail.tail
set_option maxRecDepth 100000 in
theorem lifted (os:Os) (started:os.Started) (H:Type) (enc:TypeId×Value→H) :
  ReturnsInHanded {} Tryz.checked os 3 .any (fun w args=>(Rows.statsCountsSpec.pre enc Tryz.prog Tryz.f3 Rows.statsCountsRow.domain false w args∧laidMetH Tryz.prog Rows.statsCountsRow.laid w)∧sizedMet enc Tryz.prog Tryz.f3 (OpenSpec.ofChange Rows.statsCountsSpec) false w args)
   (Rows.statsCountsSpec.post enc Tryz.prog Tryz.f3 false true false false):=by
 refine returnsInHanded_of_change_and (C:=Tryz.checked) (X:=fun w _=>laidMetH Tryz.prog Rows.statsCountsRow.laid w) (fun _ _ _ hh h=>h.of_heap hh) own started (by kernel_rfl) Tryz.func3
  (ChangeSpec.witness_shaped (enc:=enc) (C:=Tryz.checked) (os:=os) (X:=fun w _=>laidMetH Tryz.prog Rows.statsCountsRow.laid w) false (World.laidAll Tryz.prog os Rows.statsCountsRow.laid) #[.slice none 0 0] 8 (World.laidAll_os _ _ _)
   (World.shaped_of_ZipB (by kernel_rfl) (by kernel_rfl)) (by kernel_rfl) (by kernel_rfl) (by kernel_rfl)
   (by rw [MakeChecks.laidMetH_plain _ _ _ (by kernel_rfl)];exact laidMet_laidAll _ (by kernel_rfl) (by kernel_rfl))) ?_
 intro W base args ds gs before hval0 hW _ hsz hL _;have hval:∀(j:Nat) t v,Tryz.f3.params[j]?=some t→args[j]?=some v→Value.okWide Tryz.prog W .any base t v:=hval0;have hW':=hW;obtain⟨p,q,hA0,hV,hpq,hfz,hnd⟩:=hW;have hA:DataW.TrodAll enc Tryz.prog W 0 (fun _=>true) true Tryz.f3.params.toList args.toList ds p:=hA0;rw [Tryz.params3]at hA hval;obtain⟨v0,vs0,d0,ds0,p0,q0,hargs,rfl,rfl,h0,r0⟩:=trodAll_cons hA;obtain⟨rfl,rfl,rfl⟩:=trodAll_nil r0;obtain rfl:args=#[v0]:=by cases args;simp_all
 obtain⟨rfl,rfl⟩:=trodVars_none hV;have hsz1:(DataW.weightsEach Tryz.prog [22] [d0]).all (· ≤ reachBytes)=true:=hsz;refine Q1 (s:=Rows.statsCountsSpec) Ki (by kernel_rfl) rfl (fun ds h=> ?_) rfl Tryz.underlying4 hW' ?_
 ·rw [Tryz.params3]at h
  match ds,h with
  | [e0],_=>rfl
 obtain⟨A0,n0,c0,l0,rfl,ll0,nc0,cb0,cm0,ok0,bk0,rd0⟩:=Z3 (j:=0) (hval 0 22 v0 rfl rfl) h0 hsz1 rfl rfl;rw [show Tryz.prog.bytesOf 54=40 by kernel_rfl]at cb0;exact kh _ _ _ _ W ll0 nc0 cm0 ok0 rd0 (tab_of W hL)
theorem row_holds:Rows.StatsCountsSaid :=
 OpenClaim.holds_of_wide 3 Tryz.f3 rfl rfl rfl rfl rfl rfl rfl ⟨rfl,rfl,rfl,rfl,rfl⟩ rfl rfl rfl rfl rfl (by kernel_rfl) Tryz.func3 (by show joinedFacts Tryz.prog _ _ _ _=true;unfold joinedFacts;rw [Yt,lft,mk];kernel_rfl)
  (of_decide_eq_true (by kernel_rfl)) (by unfold Func.isWrapper;first | (rw [if_pos (by decide +kernel)];kernel_rfl) | (rw [if_neg (by decide +kernel)];exact⟨rfl,rfl⟩))
  (fun os started H enc _=>lifted os started H enc)
theorem proved:Rows.StatsCountsCardSaid :=
 Claim7.holds_tied_plain_at .later [] [.data,.data,.data] true (true, "b7181d9099f7a965910af1bfce3199824934f4973042cbae0e8fff79ddbe9bb2") false row_holds (fun _ h=>by cases h) (by kernel_rfl) (fun _ h=>by cases h) statsCounts_row_tie rfl ⟨rfl,rfl⟩ (by kernel_rfl) rfl
  (fun f fn hf hfn=>by
   obtain rfl:f=3:=Option.some.inj ((show Tryz.prog.funcNamed "appleloft/appleloftkeep.StatsCounts" = some 3 by kernel_rfl).symm.trans hf) |>.symm
   obtain rfl:fn=Tryz.f3:=(Option.some.inj (Tryz.func3.symm.trans hfn)).symm
   exact⟨by kernel_rfl,fun j t ht=>by
    rw [Tryz.params3]at ht
    have hm:t∈ [22]:=by simpa using Array.mem_of_getElem? ht
    have hall:([22].all fun u=> !Tryz.prog.wantsStandIn u)=true:=by kernel_rfl
    exact(show Tryz.prog.wantsStandIn t=false by simpa using List.all_eq_true.1 hall t hm)⟩)
  (by kernel_rfl)
#print axioms proved
end Go.Proofs.YtdbbehfbkiiloaaGreatDoor.statsCounts
