/- The law holds of every input. No condition. -/
import Derived.Test.YtfmnggcfhalfnaaGreatQW02
import Derived.Test.YtfmnggcfhalfnaaGreatQW25
set_option linter.unusedVariables false
set_option linter.unusedSimpArgs false
namespace Go.Proofs.YtfmnggcfhalfnaaGreat.storeOwn
open Go.ChangeShapes Go.WideShapes Go.ChangeAt Go.RowKit
open Go.WideMaps Go.WideElems
open Go.ChangeMaps (open_string shut_string)
set_option maxRecDepth 100000 in
theorem lifted (os:Os) (started:os.Started) (H:Type) (enc:TypeId×Value→H) :
  ReturnsInHanded {} Tryz.checked os 3 .any (Rows.storeOwnSpec.pre6 enc Tryz.prog Tryz.f3 Rows.storeOwnRow.domain false) (Rows.storeOwnSpec.post enc Tryz.prog Tryz.f3 false true false false):=by
 refine returnsInHanded_of_change_shaped (C:=Tryz.checked) own started (by kernel_rfl) Tryz.func3
  (ChangeSpec.witness6 (enc:=enc) (C:=Tryz.checked) false ⟨#[],#[.slice none 0 0,.agg #[.int .i64 0,.int .i64 0,.int .i64 0,.string ByteArray.empty]], []⟩ 8 (by kernel_rfl) (by kernel_rfl) (by kernel_rfl) (by kernel_rfl)) ?_
 intro W base args ds gs before hval0 hW _ hsz hsh _;have hval:∀(j:Nat) t v,Tryz.f3.params[j]?=some t→args[j]?=some v→Value.okWide Tryz.prog W .any base t v:=hval0;have hW':=hW;obtain⟨p,q,hA0,hV,hpq,hfz,hnd⟩:=hW;have hA:DataW.TrodAll enc Tryz.prog W 0 (fun _=>true) true Tryz.f3.params.toList args.toList ds p:=hA0;rw [Tryz.params3]at hA hval;obtain⟨v0,vs0,d0,ds0,p0,q0,hargs,rfl,rfl,h0,r0⟩:=trodAll_cons hA;obtain⟨v1,vs1,d1,ds1,p1,q1,rfl,rfl,rfl,h1,r1⟩:=trodAll_cons r0;obtain⟨rfl,rfl,rfl⟩:=trodAll_nil r1;obtain rfl:args=#[v0,v1]:=by cases args;simp_all
 obtain⟨rfl,rfl⟩:=trodVars_none hV;have hsz1:(DataW.weightsEach Tryz.prog [22,24] [d0,d1]).all (· ≤ reachBytes)=true:=hsz;refine jw (s:=Rows.storeOwnSpec) Zm (by kernel_rfl) rfl (fun ds h=> ?_) rfl Tryz.underlying4 hW' ?_
 ·rw [Tryz.params3]at h
  match ds,h with
  | [e0,e1],_=>rfl
 obtain⟨A0,n0,c0,l0,rfl,ll0,nc0,cb0,cm0,ok0,bk0,rd0⟩:=uH (j:=0) (hval 0 22 v0 rfl rfl) h0 hsz1 rfl rfl;rw [show Tryz.prog.bytesOf 24=40 by kernel_rfl]at cb0;obtain⟨z1,rfl,ok1⟩:=jA (j:=1) (hval 1 24 v1 rfl rfl) h1 hsz1 rfl rfl;exact yk _ _ _ _ _ W ll0 nc0 cm0 ok0 rd0 ok1
theorem proved:Rows.StoreOwnSaid :=
 OpenClaim.holds_of_wide 3 Tryz.f3 rfl rfl rfl rfl rfl rfl rfl ⟨rfl,rfl,rfl,rfl,rfl⟩ rfl rfl rfl rfl rfl (by kernel_rfl) Tryz.func3 (by show joinedFacts Tryz.prog _ _ _ _=true;unfold joinedFacts;rw [Qj,lft,mk];kernel_rfl)
  (of_decide_eq_true (by kernel_rfl)) (by unfold Func.isWrapper;first | (rw [if_pos (by decide +kernel)];kernel_rfl) | (rw [if_neg (by decide +kernel)];exact⟨rfl,rfl⟩))
  (fun os started H enc _=>lifted os started H enc)
#print axioms proved
end Go.Proofs.YtfmnggcfhalfnaaGreat.storeOwn
