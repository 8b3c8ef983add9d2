/- TopBytes holds of every input: orders that are encoded and decoded again have the same effect. No condition. -/
import Derived.Test.YtcjmjaefcjcomaaGreatQB26
set_option linter.unusedVariables false
set_option linter.unusedSimpArgs false
open Go.Proofs.Tryz renaming prog->zZZ
namespace Go.Proofs.YtcjmjaefcjcomaaGreat.topBytes
open Go.ChangeShapes Go.WideShapes Go.ChangeAt Go.RowKit
open Go.WideMaps Go.WideElems
open Go.ChangeMaps (open_string shut_string)
set_option maxRecDepth 100000 in
theorem lifted (os:Os) (started:os.Started) (H:Type) (enc:TypeId×Value->H) :
  ReturnsInHanded {} Tryz.checked os 3 .any (Rows.topBytesSpec.pre6 enc zZZ Tryz.f3 Rows.topBytesRow.domain false) (Rows.topBytesSpec.post enc zZZ Tryz.f3 false true false false):=by
 refine returnsInHanded_of_change_shaped (C:=Tryz.checked) own started ww Tryz.func3
  (ChangeSpec.witness6 (enc:=enc) (C:=Tryz.checked) false ⟨#[],#[.slice none 0 0], []⟩ 8 ww ww ww ww) ?_
 intro W base args ds gs before hval0 hW _ hsz hsh _;have hval:∀(j:Nat) t v,Tryz.f3.params[j]?=some t->args[j]?=some v->Value.okWide zZZ W .any base t v:=hval0;have hW':=hW;obtain⟨p,q,hA0,hV,hpq,hfz,hnd⟩:=hW;have hA:DataW.TrodAll enc zZZ W 0 (fun _=>true) true Tryz.f3.params.toList args.toList ds p:=hA0;rw [Tryz.params3]at hA hval;obtain⟨v0,vs0,d0,ds0,p0,q0,hargs,rfl,rfl,h0,r0⟩:=trodAll_cons hA;obtain⟨rfl,rfl,rfl⟩:=trodAll_nil r0;obtain rfl:args=#[v0]:=by cases args;simp_all
 obtain⟨rfl,rfl⟩:=trodVars_none hV;have hsz1:(DataW.weightsEach zZZ [22] [d0]).all (· <= reachBytes)=true:=hsz;refine J0 (s:=Rows.topBytesSpec) z1m ww rfl (fun ds h=> ?_) rfl Tryz.underlying4 hW' ?_
 ·rw [Tryz.params3]at h
  match ds,h with
  | [e0],_=>rfl
 obtain⟨A0,n0,c0,l0,rfl,ll0,nc0,cb0,cm0,ok0,bk0,rd0⟩:=Vc (j:=0) (hval 0 22 v0 rfl rfl) h0 hsz1 rfl rfl;rw [show zZZ.bytesOf 51=40 by kernel_rfl]at cb0;exact jD _ _ _ _ W ll0 nc0 cm0 ok0 rd0
theorem proved:Rows.TopBytesSaid :=
 OpenClaim.holds_of_wide 3 Tryz.f3 rfl rfl rfl rfl rfl rfl rfl ⟨rfl,rfl,rfl,rfl,rfl⟩ rfl rfl rfl rfl rfl ww Tryz.func3 (by show joinedFacts zZZ _ _ _ _=true;unfold joinedFacts;rw [z5u,lft,mk];kernel_rfl)
  (of_decide_eq_true ww) (by unfold Func.isWrapper;first | (rw [if_pos (by decide +kernel)];kernel_rfl) | (rw [if_neg (by decide +kernel)];exact⟨rfl,rfl⟩))
  (fun os started H enc _=>lifted os started H enc)
#print axioms proved
end Go.Proofs.YtcjmjaefcjcomaaGreat.topBytes
