/- Lemmas, as stated. -/
import Derived.Shelf.SlIter.Nil
import Derived.Shelf.SortM.Plain
import Derived.Shelf.SortM.SortNone
import Derived.Ground.GgzProg
import Derived.Ground.SlgmProg
import Derived.Test.YtaboknhfiijipaaGreatProg
import Derived.Maps.OwnSet
import Derived.Carry
import Derived.Test.YtaboknhfiijipaaGreatQC15
import Derived.Test.YtaboknhfiijipaaGreatQC08
set_option linter.unusedVariables false
set_option linter.unusedSimpArgs false
set_option maxRecDepth 100000
set_option maxHeartbeats 8000000
open Go.Proofs.Tryz
open Option renaming some->aH
open Go.Proofs.Tryz renaming prog->zZZ
open Go.Value renaming slice->aB,int->aC
open Go.IntKind renaming i64->aD
open Go.Obj renaming cells->aF
namespace Go.Proofs
open Go.Shelf
def Tryz.keys77_ren:Go.Shelf.Ren:=⟨fun | 7=>77 | 10=>131 | n=>n,fun | 23=>136 | 26=>9 | 3=>4 | 28=>139 | 0=>0 | 27=>138 | 33=>146 | 4=>4 | n=>n,fun | n=>n⟩
theorem Tryz.keys77:Go.Proofs.SlLaysZ.n7 Tryz.prog Tryz.keys77_ren:= {
 mixed:=by kernel_rfl
 f7:=⟨Tryz.f77.name,by decide,Tryz.func77.trans (congrArg aH (by kernel_rfl))⟩
 f10:=⟨Tryz.f131.name,by decide,Tryz.func131.trans (congrArg aH (by kernel_rfl))⟩
 t0:=Tryz.underlying0
 a0:=Tryz.isAgg0
 z0:=Tryz.sizeOf0
 v0:=Tryz.zeroValue0
 t4:=Tryz.underlying4
 a4:=Tryz.isAgg4
 z4:=Tryz.sizeOf4
 v4:=Tryz.zeroValue4
 t23:=Tryz.underlying136
 a23:=Tryz.isAgg136
 z23:=Tryz.sizeOf136
 v23:=Tryz.zeroValue136
 t26:=Tryz.underlying9
 a26:=Tryz.isAgg9
 z26:=Tryz.sizeOf9
 v26:=Tryz.zeroValue9
 t27:=Tryz.underlying138
 a27:=Tryz.isAgg138
 z27:=Tryz.sizeOf138
 v27:=Tryz.zeroValue138
 t28:=Tryz.underlying139
 a28:=Tryz.isAgg139
 z28:=Tryz.sizeOf139
 v28:=Tryz.zeroValue139
 t33:=Tryz.underlying146
 a33:=Tryz.isAgg146
 z33:=Tryz.sizeOf146
 v33:=Tryz.zeroValue146 }
def Tryz.sorted76_ren:Go.Shelf.Ren:=⟨fun | 6=>76 | 8=>129 | 9=>130 | 11=>160 | 13=>162 | 12=>161 | 23=>190 | 24=>191 | 14=>181 | 15=>182 | 16=>183 | 17=>184 | 18=>185 | 19=>186 | 20=>187 | 21=>188 | 22=>189 | 25=>203 | 26=>204 | 27=>205 | 28=>206 | 29=>207 | 30=>208 | 31=>217 | n=>n,fun | 26=>9 | 28=>139 | 24=>35 | 0=>0 | 3=>3 | 37=>184 | 48=>123 | 50=>122 | 4=>4 | 40=>258 | 39=>257 | 45=>263 | 5=>5 | 9=>9 | 51=>279 | 55=>283 | 57=>289 | 58=>290 | 33=>146 | n=>n,fun | n=>n⟩
theorem Tryz.sorted76:Go.Proofs.SlLaysZ.n6 Tryz.prog Tryz.sorted76_ren:= {
 mixed:=by kernel_rfl
 f6:=⟨Tryz.f76.name,by decide,Tryz.func76.trans (congrArg aH (by kernel_rfl))⟩
 f8:=⟨Tryz.f129.name,by decide,Tryz.func129.trans (congrArg aH (by kernel_rfl))⟩
 f11:=⟨Tryz.f160.name,by decide,Tryz.func160.trans (congrArg aH (by kernel_rfl))⟩
 t0:=Tryz.underlying0
 a0:=Tryz.isAgg0
 z0:=Tryz.sizeOf0
 v0:=Tryz.zeroValue0
 t24:=Tryz.underlying35
 a24:=Tryz.isAgg35
 z24:=Tryz.sizeOf35
 v24:=Tryz.zeroValue35
 t26:=Tryz.underlying9
 a26:=Tryz.isAgg9
 z26:=Tryz.sizeOf9
 v26:=Tryz.zeroValue9
 t28:=Tryz.underlying139
 a28:=Tryz.isAgg139
 z28:=Tryz.sizeOf139
 v28:=Tryz.zeroValue139
 i26:=by kernel_rfl }
def Tryz.sort130_ren:Go.Shelf.Ren:=⟨fun | 6=>130 | 8=>162 | 9=>161 | 19=>190 | 20=>191 | 21=>181 | 22=>182 | 23=>183 | 24=>184 | 25=>185 | 26=>186 | 27=>187 | 28=>188 | 29=>189 | 36=>203 | 31=>204 | 32=>205 | 37=>206 | 38=>207 | 39=>208 | 41=>217 | n=>n,fun | 27=>35 | 29=>9 | 3=>3 | 32=>184 | 26=>35 | 0=>0 | 44=>123 | 46=>122 | 4=>4 | 36=>258 | 35=>257 | 41=>263 | 5=>5 | 9=>9 | 53=>279 | 57=>283 | 63=>289 | 64=>290 | n=>n,fun | n=>n⟩
theorem Tryz.sort130:Go.Proofs.SlLaysM.n6 Tryz.prog Tryz.sort130_ren:= {
 mixed:=by kernel_rfl
 f6:=⟨Tryz.f130.name,by decide,Tryz.func130.trans (congrArg aH (by kernel_rfl))⟩
 f8:=Tryz.func162.trans (congrArg aH (by kernel_rfl))
 f9:=⟨Tryz.f161.name,by decide,Tryz.func161.trans (congrArg aH (by kernel_rfl))⟩
 f19:=Tryz.func190.trans (congrArg aH (by kernel_rfl))
 f20:=Tryz.func191.trans (congrArg aH (by kernel_rfl))
 f21:=⟨Tryz.f181.name,by decide,Tryz.func181.trans (congrArg aH (by kernel_rfl))⟩
 f22:=⟨Tryz.f182.name,by decide,Tryz.func182.trans (congrArg aH (by kernel_rfl))⟩
 f23:=⟨Tryz.f183.name,by decide,Tryz.func183.trans (congrArg aH (by kernel_rfl))⟩
 f24:=⟨Tryz.f184.name,by decide,Tryz.func184.trans (congrArg aH (by kernel_rfl))⟩
 f25:=⟨Tryz.f185.name,by decide,Tryz.func185.trans (congrArg aH (by kernel_rfl))⟩
 f26:=⟨Tryz.f186.name,by decide,Tryz.func186.trans (congrArg aH (by kernel_rfl))⟩
 f27:=⟨Tryz.f187.name,by decide,Tryz.func187.trans (congrArg aH (by kernel_rfl))⟩
 f28:=⟨Tryz.f188.name,by decide,Tryz.func188.trans (congrArg aH (by kernel_rfl))⟩
 f29:=⟨Tryz.f189.name,by decide,Tryz.func189.trans (congrArg aH (by kernel_rfl))⟩
 f31:=Tryz.func204.trans (congrArg aH (by kernel_rfl))
 f32:=Tryz.func205.trans (congrArg aH (by kernel_rfl))
 f36:=⟨Tryz.f203.name,by decide,Tryz.func203.trans (congrArg aH (by kernel_rfl))⟩
 f37:=⟨Tryz.f206.name,by decide,Tryz.func206.trans (congrArg aH (by kernel_rfl))⟩
 f38:=⟨Tryz.f207.name,by decide,Tryz.func207.trans (congrArg aH (by kernel_rfl))⟩
 f39:=⟨Tryz.f208.name,by decide,Tryz.func208.trans (congrArg aH (by kernel_rfl))⟩
 f41:=⟨Tryz.f217.name,by decide,Tryz.func217.trans (congrArg aH (by kernel_rfl))⟩
 t0:=Tryz.underlying0
 a0:=Tryz.isAgg0
 z0:=Tryz.sizeOf0
 v0:=Tryz.zeroValue0
 t3:=Tryz.underlying3
 a3:=Tryz.isAgg3
 z3:=Tryz.sizeOf3
 v3:=Tryz.zeroValue3
 t4:=Tryz.underlying4
 a4:=Tryz.isAgg4
 z4:=Tryz.sizeOf4
 v4:=Tryz.zeroValue4
 t5:=Tryz.underlying5
 a5:=Tryz.isAgg5
 z5:=Tryz.sizeOf5
 v5:=Tryz.zeroValue5
 t9:=Tryz.underlying9
 a9:=Tryz.isAgg9
 z9:=Tryz.sizeOf9
 v9:=Tryz.zeroValue9
 t26:=Tryz.underlying35
 a26:=Tryz.isAgg35
 z26:=Tryz.sizeOf35
 v26:=Tryz.zeroValue35
 t27:=Tryz.underlying35
 a27:=Tryz.isAgg35
 z27:=Tryz.sizeOf35
 v27:=Tryz.zeroValue35
 t29:=Tryz.underlying9
 a29:=Tryz.isAgg9
 z29:=Tryz.sizeOf9
 v29:=Tryz.zeroValue9
 t32:=Tryz.underlying184
 a32:=Tryz.isAgg184
 z32:=Tryz.sizeOf184
 v32:=Tryz.zeroValue184
 t35:=Tryz.underlying257
 a35:=Tryz.isAgg257
 z35:=Tryz.sizeOf257
 v35:=Tryz.zeroValue257
 t36:=Tryz.underlying258
 a36:=Tryz.isAgg258
 z36:=Tryz.sizeOf258
 v36:=Tryz.zeroValue258
 t41:=Tryz.underlying263
 a41:=Tryz.isAgg263
 z41:=Tryz.sizeOf263
 v41:=Tryz.zeroValue263
 t44:=Tryz.underlying123
 a44:=Tryz.isAgg123
 z44:=Tryz.sizeOf123
 v44:=Tryz.zeroValue123
 t46:=Tryz.underlying122
 a46:=Tryz.isAgg122
 z46:=Tryz.sizeOf122
 v46:=Tryz.zeroValue122
 t53:=Tryz.underlying279
 a53:=Tryz.isAgg279
 z53:=Tryz.sizeOf279
 v53:=Tryz.zeroValue279
 t57:=Tryz.underlying283
 a57:=Tryz.isAgg283
 z57:=Tryz.sizeOf283
 v57:=Tryz.zeroValue283
 t63:=Tryz.underlying289
 a63:=Tryz.isAgg289
 z63:=Tryz.sizeOf289
 v63:=Tryz.zeroValue289
 t64:=Tryz.underlying290
 a64:=Tryz.isAgg290
 z64:=Tryz.sizeOf290
 v64:=Tryz.zeroValue290 }
end Go.Proofs
namespace Go.Proofs.YtaboknhfiijipaaGreat
open Go.RowKit
variable {bl:List BlobP} {M M' ds g:List aj} {b more:Nat} {s t:StoP} {w w':World} {d:aj}
def kids (bl:List BlobP) (x:aj):List aj :=
 match bl.findIdx? (fun b=>b.dig==x) with
 | some i=>match bl[i]? with
  | some b=>(kA b.data).1.map (·.dig)
  | none=> []
 | none=> []
def InB (bl:List BlobP) (x:aj):Prop:=∃b∈bl,b.dig=x
theorem Za {x:aj}:InB bl x↔(bl.findIdx? (fun b=>b.dig==x)).isSome=true:=by
 rw [List.findIdx?_isSome,List.any_eq_true];constructor
 ·rintro⟨b,hb,rfl⟩;exact⟨b,hb,ac⟩
 ·rintro⟨b,hb,h⟩;exact⟨b,hb,by simpa using h⟩
inductive Rch (bl:List BlobP) (ds:List aj):List UInt8->Prop where
 | root {x}:x∈ds->InB bl x->Rch bl ds x
 | step {x y}:Rch bl ds x->y∈kids bl x->InB bl y->Rch bl ds y
theorem Rch.inB {x:aj} (h:Rch bl ds x):InB bl x:=by
 cases h<;>assumption
theorem Rch.mono {es:List aj} {x:aj} (h:Rch bl ds x) (hd:∀y∈ds,InB bl y->Rch bl es y):Rch bl es x:=by
 induction h with
 | root h1 h2=>exact hd _ h1 h2
 | step _ h2 h3 ih=>exact .step ih h2 h3
def unmet (bl:List BlobP) (M:List aj):Nat:=(bl.filter fun b=> !M.contains b.dig).length
theorem uD {α:Type} {p q:α->Bool}:∀(l:List α),(∀x∈l,p x=true->q x=true)->(l.filter p).length<=(l.filter q).length
 | [],_=>Nat.le_refl _
 | x::l,h=>by
  have ih:=uD l (fun y hy=>h y (by simp [hy]))
  by_cases hp:p x=true
  ·rw [List.filter_cons_of_pos hp,List.filter_cons_of_pos (h x ac hp)];simpa using ih
  ·rw [List.filter_cons_of_neg hp]
   by_cases hq:q x=true
   ·rw [List.filter_cons_of_pos hq];simp only [List.length_cons];omega
   ·rw [List.filter_cons_of_neg hq];exact ih
theorem xB {α:Type} {p q:α->Bool}:∀(l:List α),(∀x∈l,p x=true->q x=true)->(∃x∈l,p x=false/\q x=true)->(l.filter p).length<(l.filter q).length
 | [],_,h=>by obtain⟨x,hx,_⟩:=h;cases hx
 | x::l,h,h2=>by
  have hl:=fun y hy=>h y (List.mem_cons_of_mem x hy)
  by_cases hp:p x=true
  ·rw [List.filter_cons_of_pos hp,List.filter_cons_of_pos (h x ac hp)]
   obtain⟨y,hy,h3,h4⟩:=h2
   rcases List.mem_cons.1 hy with rfl | hy
   ·rw [hp]at h3;cases h3
   ·have:=xB l hl ⟨y,hy,h3,h4⟩;simpa using this
  ·rw [List.filter_cons_of_neg hp]
   by_cases hq:q x=true
   ·rw [List.filter_cons_of_pos hq];have:=uD l hl;simp only [List.length_cons];omega
   ·rw [List.filter_cons_of_neg hq]
    obtain⟨y,hy,h3,h4⟩:=h2
    rcases List.mem_cons.1 hy with rfl | hy
    ·exact absurd h4 hq
    ·exact xB l hl ⟨y,hy,h3,h4⟩
theorem jI (h:∀x∈M,x∈M'):unmet bl M'<=unmet bl M:=by
 refine uD _ fun b _ hb=> ?_;simp only [Bool.not_eq_true',List.contains_eq_mem,decide_eq_false_iff_not]at hb ⊢
 exact fun h2=>hb (h _ h2)
theorem KR (hi:InB bl d) (hd:d∉M):unmet bl (M++ [d])<unmet bl M:=by
 obtain⟨b,hb,rfl⟩:=hi;refine xB _ (fun x _ hx=> ?_) ⟨b,hb,ac,by simp [hd]⟩;simp only [Bool.not_eq_true',List.contains_eq_mem,decide_eq_false_iff_not,List.mem_append,not_or]at hx ⊢
 exact hx.1
theorem U0 (bl:List BlobP):unmet bl []<=bl.length:=List.length_filter_le _ _
structure SeekR (bl:List BlobP) (M ds M':List aj):Prop where
 sub:∀x∈M,x∈M'
 hit:∀d∈ds,InB bl d->d∈M'
 come:∀x∈M',x∈M\/Rch bl ds x
 clo:∀x∈M',x∉M->∀y∈kids bl x,InB bl y->y∈M'
 len:M'.length+unmet bl M'<=M.length+unmet bl M
theorem SeekR.nil (bl:List BlobP) (M:List aj):SeekR bl M [] M:=⟨fun _ h=>h,fun _ h=>absurd h ac,fun _ h=> .inl h,fun _ h h2=>absurd h h2,Nat.le_refl _⟩
theorem SeekR.none_ (h:¬InB bl d):SeekR bl M [d] M :=
 ⟨fun _ h=>h,fun x h1 h2=>absurd h2 (by rw [List.mem_singleton.1 h1];exact h),fun _ h=> .inl h,fun _ h h2=>absurd h h2,Nat.le_refl _⟩
theorem SeekR.met (h:d∈M):SeekR bl M [d] M :=
 ⟨fun _ h=>h,fun x h1 _=>by rw [List.mem_singleton.1 h1];exact h,fun _ h=> .inl h,fun _ h h2=>absurd h h2,Nat.le_refl _⟩
theorem SeekR.snoc {M1 M2:List aj} (h1:SeekR bl M ds M1) (h2:SeekR bl M1 [d] M2):SeekR bl M (ds++ [d]) M2:=by
 refine⟨fun x h=>h2.sub x (h1.sub x h),fun x h hi=> ?_,fun x h=> ?_,fun x h hn y hy hi=> ?_,Nat.le_trans h2.len h1.len⟩
 ·rcases List.mem_append.1 h with h | h
  ·exact h2.sub x (h1.hit x h hi)
  ·exact h2.hit x h hi
 ·rcases h2.come x h with h3 | h3
  ·rcases h1.come x h3 with h4 | h4
   ·exact .inl h4
   ·exact .inr (h4.mono fun y hy hi=> .root (by simp [hy]) hi)
  ·exact .inr (h3.mono fun y hy hi=> .root (by simp [List.mem_singleton.1 hy]) hi)
 ·by_cases h3:x∈M1
  ·exact h2.sub y (h1.clo x h3 hn y hy hi)
  ·exact h2.clo x h h3 y hy hi
theorem SeekR.into (hi:InB bl d) (hd:d∉M) (h:SeekR bl (M++ [d]) (kids bl d) M'):SeekR bl M [d] M':=by
 have hroot:Rch bl [d] d:= .root ac hi;have hdm:d∈M':=h.sub d ac;have hl:=KR hi hd;refine⟨fun x hx=>h.sub x (by simp [hx]),fun x hx _=>by rw [List.mem_singleton.1 hx];exact hdm,fun x hx=> ?_,fun x hx hn y hy hiy=> ?_,by have:=h.len;rw [List.length_append]at this;simp only [List.length_cons,List.length_nil]at this;omega⟩
 ·rcases h.come x hx with h1 | h1
  ·rcases List.mem_append.1 h1 with h1 | h1
   ·exact .inl h1
   ·exact .inr (by rw [List.mem_singleton.1 h1];exact hroot)
  ·exact .inr (h1.mono fun y hy hiy=> .step hroot hy hiy)
 ·by_cases hxd:x=d
  ·subst hxd;exact h.hit y hy hiy
  ·exact h.clo x hx (by simp [hn,hxd]) y hy hiy
theorem SeekR.all (h:SeekR bl [] ds M') (x:aj):x∈M'↔Rch bl ds x:=by
 constructor
 ·intro hx;rcases h.come x hx with h1 | h1
  ·cases h1
  ·exact h1
 ·intro hx
  induction hx with
  | root h1 h2=>exact h.hit _ h1 h2
  | step h1 h2 h3 ih=>exact h.clo _ ih ac _ h2 h3
open Go.Maps
def tt:DataW Unit:= .lit (.bool true)
def yy (w:World) (b:Nat) (M:List aj):Prop:=w.ownsMap zZZ 9 (plainElem zZZ 4) b M.length (setOf tt (M.map Lit.string))
theorem z5m:Keyed zZZ 9:=string_keyed underlying9
theorem V5 (d:aj) (hd:d.length<=maxLen):keyOf zZZ 9 (.string ⟨d.toArray⟩)=aH (.string d):=by
 simp [keyOf,underlying9,mapKey,ByteArray.size,hd]
theorem uc (M:List aj):∀x∈M.map Lit.string,WideAt.IsKeyLit x:=by
 intro x hx;obtain⟨s,_,rfl⟩:=List.mem_map.1 hx;trivial
theorem KM (a b:aj):(Lit.string a).sameKey (.string b)=decide (a=b):=by
 by_cases h:a=b
 ·subst h;simp [Lit.sameKey]
 ·simp [Lit.sameKey,h]
theorem z1r (M:List aj) (d:aj):has (setOf tt (M.map Lit.string)) (.string d)=decide (d∈M):=by
 rw [has_setOf _ _ _ (uc M),List.any_map];by_cases h:d∈M
 ·rw [decide_eq_true h,List.any_eq_true];exact⟨d,h,by simp [KM]⟩
 ·rw [decide_eq_false h,List.any_eq_false];intro x hx;simp only [Function.comp_def,KM,decide_eq_true_eq];rintro rfl;exact h hx
theorem ZC (d:aj) (z:DataW Unit):∀(n:Nat) (M:List aj),M.length=n->(setOf tt (M.map Lit.string)).atKey (.string d) z=if d∈M then tt else z
 | 0,M,h=>by
  obtain rfl:=List.eq_nil_of_length_eq_zero h
  rfl
 | n+1,M,h=>by
  obtain⟨M0,x,rfl⟩:∃M0 x,M=M0++ [x]:=⟨M.dropLast,M.getLast (by intro e;simp [e]at h),(List.dropLast_concat_getLast _).symm⟩
  have h0:M0.length=n:=by simpa using h
  rw [List.map_append,List.map_cons,List.map_nil,setOf_snoc]
  by_cases hx:d=x
  ·subst hx
   rw [atKey_put_same (tidy_setOf _ _ (uc M0)).isMap (show WideAt.IsKeyLit (.string d) from trivial),if_pos ac]
  ·rw [atKey_put_other (by intro e;injection e with e;exact hx e),ZC d z n M0 h0]
   by_cases hm:d∈M0
   ·rw [if_pos hm,if_pos (by simp [hm])]
   ·rw [if_neg hm,if_neg (by simp [hm,hx])]
theorem JY (x:Bool):plainElem (H:=Unit) zZZ 4 (.bool x)=aH (.lit (.bool x), []):=plainElem_bool underlying4 x
theorem jq {v:Value} {y:Bool} {ps:List MemPlace} (h:plainElem (H:=Unit) zZZ 4 v=aH (.lit (.bool y),ps)):v= .bool y:=by
 unfold plainElem at h;cases v<;>simp [underlying4]at h
 all_goals first | (obtain⟨rfl,_⟩:=h;rfl) | simp_all
theorem yy.look (h:yy w b M) (d:aj) (hd:d.length<=maxLen) :
  (Instr.lookup 136 (.map (aH b)) (.string ⟨d.toArray⟩) false).run zZZ w= .ok (.bool (decide (d∈M))) w:=by
 obtain⟨v,ps,hrun,hv⟩:=World.ownsMap.lookup h z5m underlying136 (z:= .bool false) ae (JY false) (V5 d hd);rw [ZC d _ _ M rfl]at hv;rw [hrun];by_cases hm:d∈M
 ·rw [if_pos hm]at hv;rw [decide_eq_true hm,jq hv]
 ·rw [if_neg hm]at hv;rw [decide_eq_false hm,jq hv]
theorem yy.put (h:yy w b M) (d:aj) (hd:d.length<=maxLen) (hn:M.length<maxLen) :
  ∃w',(Instr.mapUpdate 136 (.map (aH b)) (.string ⟨d.toArray⟩) (.bool true)).run zZZ w= .ok () w'/\yy w' b (M++ [d])/\w.grownBy w' (aH b):=by
 obtain⟨w',hrun,h1,h2⟩:=World.ownsMap.update h z5m underlying136 hn (V5 d hd) (JY true);refine⟨w',hrun,?_,h2⟩;unfold yy;rw [List.map_append,List.map_cons,List.map_nil,setOf_snoc,List.length_append];exact h1
theorem yy.made (w:World):yy (w.alloc (.map #[] 0)) w.heap.size []:=World.ownsMap_made w _ _ _
theorem yy.lt (h:yy w b M):b<w.heap.size:=World.ownsMap.lt h
theorem yy.kept {row:Option Nat} (h:yy w b M) (hg:w.grownBy w' row) (hne:aH b≠row):yy w' b M:=World.ownsMap.kept h hg hne
theorem yy.below (h:yy w b M) (hb:Below w.heap.size w w'):yy w' b M:=h.kept ⟨hb.os,hb.tape,hb.output,hb.size,fun k hk _=>hb.block k hk⟩ (row:=none) ac
theorem V6 {ss:List aj} (hs:yy w b M) (h:ss.Perm (strKeys (setOf tt (M.map Lit.string)))):StrL (ss.mergeSort leB) (fun x=>x∈M):=by
 obtain⟨es,he,hp⟩:=tidy_setOf tt (M.map Lit.string) (uc M);obtain⟨es',he',hk'⟩:=World.ownsMap.keysOf hs;have e1:es=es':=by rw [he]at he';injection he'
 subst e1;have hk:∀p∈es,∃x,p.1= .string x:=fun p hp'=>by
  obtain⟨v,hv⟩:=hk' p hp';obtain⟨x,_,e,_⟩:=Maps.keyOf_str underlying9 hv;exact⟨x,e⟩
 have h1:=perm_strKeys hp hk (Q1 M) (fun x=>by rw [vv,<-he,z1r];simp);rw [he]at h;have h2:=h.trans h1.symm;have h3:=(List.mergeSort_perm ss leB).trans h2;have tr:∀a b c:aj,leB a b=true->leB b c=true->leB a c=true:=fun a b c h1 h2=>by simp only [leB,decide_eq_true_eq] at *;exact List.le_trans h1 h2
 have to:∀a b:aj,(leB a b||leB b a)=true:=fun a b=>by simp only [leB,Bool.or_eq_true,decide_eq_true_eq];exact List.le_total a b
 exact⟨h3.nodup_iff.2 (Q1 M),List.pairwise_mergeSort tr to ss,fun x=>by rw [h3.mem_iff,vv]⟩
open Go.Sort Go.Shelf
theorem z2g (m:Nat):AnyZ.SortsIn zZZ Tryz.sorted76_ren Fence.wide m :=
 ⟨fun blk off cap ss W hH hblk hsz=>callsIn_wide.2 (AnyM.slices_Sort_string Tryz.sort130 blk off cap ss W hH hblk hsz),
  fun p cap W=>callsIn_wide.2 (AnyM.slices_Sort_string_none Tryz.sort130 p cap W)⟩
theorem Xh (b:Nat) (W:World):Calls zZZ 77 #[.map (aH b)] W fun e w'=>e= .returned (.func (.func 131) #[] #[.pointer (aH ⟨W.heap.size,0,none⟩)])/\w'=W.alloc (aF #[.map (aH b)] 136) :=
 callsIn_wide.1 (AnyZ.keys_in Tryz.keys77 Fence.wide 5 trivial rfl (aH b) W)
theorem Zx (b:Nat) (M:List aj) (w:World) (hs:yy w b M) (hmax:M.length<=1000000) :
  Calls zZZ 76 #[.func (.func 131) #[] #[.pointer (aH ⟨w.heap.size,0,none⟩)]] (w.alloc (aF #[.map (aH b)] 136)) fun e w'=>∃v L,e= .returned v/\StrL L (fun x=>x∈M)/\L.length<=M.length /\
   w'.ownsRow (w.alloc (aF #[.map (aH b)] 136)).heap.size 9 1 v L.length (strs L)/\Below (w.alloc (aF #[.map (aH b)] 136)).heap.size (w.alloc (aF #[.map (aH b)] 136)) w':=by
 have hown:=hs;unfold yy at hown;have hbl:=World.ownsMap.lt hown;have hsz:=World.ownsMap.size_le hown;have hseq:SeqGives Fence.wide 2 zZZ 131 #[.pointer (aH ⟨w.heap.size,0,none⟩)] encStr (fun ss=>ss.Perm (strKeys (setOf tt (M.map Lit.string)))) (Maps.size (setOf tt (M.map Lit.string))) (w.alloc (aF #[.map (aH b)] 136)) :=
  AnyZ.keys_gives (ρ:=Tryz.keys77_ren) { Tryz.keys77 with } Fence.wide _ trivial rfl ww w.heap.size b M.length _ _ ac ac (by
   obtain⟨es,aL,hb,Ft,hs,hD⟩:=hown;exact⟨es,aL,(Below.heap_alloc _ _ b hbl).trans hb,Ft,hs,hD⟩)
 have h:=AnyZ.sorted_in Tryz.sorted76 Fence.wide 5 trivial trivial trivial trivial rfl ww (z2g _) (enters_of func130 aa rfl) 131 #[.pointer (aH ⟨w.heap.size,0,none⟩)] trivial (enters_of func131 aa rfl) _ _ (by unfold maxLen;omega) ww _ hseq;refine(callsIn_wide.1 h).mono ?_;rintro e w' ⟨v,ss,rfl,hp,hrow,_,hb⟩;have hL:=V6 hs hp;have hlen:(ss.mergeSort leB).length=ss.length:=List.length_mergeSort ss;refine⟨v,ss.mergeSort leB,rfl,hL,?_,?_,hb⟩
 ·rw [hlen,hp.length_eq];obtain⟨es,he,_⟩:=tidy_setOf tt (M.map Lit.string) (uc M);rw [he]at hsz ⊢
  show(es.map _).length<=_;rw [List.length_map];exact hsz
 ·rw [hlen];exact hrow
theorem V7 {i:Nat} (h:bl.findIdx? (fun b=>b.dig==d)=aH i) (hi:i<bl.length):kids bl d=(kA bl[i].data).1.map (·.dig):=by
 unfold kids;rw [h];dsimp only;rw [List.getElem?_eq_getElem hi]
theorem vX (x:List PartP):dcs x=strs (x.map (·.dig)):=by simp [dcs,strs]
theorem z10 (gs b c:Nat) (A:ak) (bl:List BlobP) (w0:World) (hg:w0.heap.size<=gs) (hbs:w0.heap.size<=b) (hne:gs≠b) (hl:bl.length<=1000) (hcap:bl.length<=c) (hcm:c<=maxLen) (hdig:∀x∈bl,x.dig.length<=1000) (hrd:Rw BlobS w0 A bl) :
  ∀(m:Nat) (M:List aj) (d:aj) (w:World),unmet bl M<m->M.length+unmet bl M<=bl.length->Below w0.heap.size w0 w->Arr w gs 160 [aB A bl.length c,.map (aH b)]->yy w b M ->
   Calls zZZ 95 #[.pointer (aH ⟨gs,0,none⟩),.string ⟨d.toArray⟩] w fun e w'=>e= .returned (.tuple #[])/\∃M',SeekR bl M [d] M'/\yy w' b M'/\w.grownBy w' (aH b):=by
 intro m
 induction m with
 | zero=>intro M d w h;exact absurd h ww
 | succ m ih =>
  intro M d w hun hlen hb0 hbox hset;have HF:=kv A c bl d w ww (hrd.below hb0);have a0:=hbox.c0;have HB0:=sqH hb0;have hs0:=hb0.size;cases hf:bl.findIdx? (fun x=>x.dig==d) with
  | none =>
   rw [hf]at HF;obtain⟨HFF,HR,HST,HIH⟩:=sqJ4 HF (SeekR.none_ (bl:=bl) (M:=M) (d:=d) (by rw [Za,hf];simp)) hset ih;clear HF hf hset ih;go_enter func95,ntmps95;go_wp2_with fail;refine wZ HFF.o fun w2 hb2=>?_;dsimp only;unfold xD;dsimp only;go_wp2_with fail
   ((try simp only [Exit.inBlock,Exit.then]);first | (refine bodyPost_ret (results_none rfl _ _ _) rfl ?_) | (refine bodyPost_end (results_none rfl _ _ _) rfl ?_))
   exact⟨rfl,M,HR.o,HST.o.below hb2,q7 hb2 _⟩
  | some i =>
   rw [hf]at HF;have HFF:=sqH HF;have hi:i<bl.length:=(List.findIdx?_eq_some_iff_getElem.1 hf).1;have hdi:bl[i].dig=d:=by simpa using (List.findIdx?_eq_some_iff_getElem.1 hf).2.1
   have hin:InB bl d:=⟨bl[i],List.getElem_mem hi,hdi⟩
   have hdl:d.length<=maxLen:=by have:=hdig _ (List.getElem_mem hi);rw [hdi]at this;unfold maxLen;omega
   obtain⟨HKD,HDL,HIN⟩:=sqJ3 (V7 hf hi) hdl hin;have hi0:=wg i
   have hi1:(i:Int)<(bl.length:Int):=ww;have HIH:=sqH ih;have HI:=sqH hi;clear HF hf hdi hin hdl ih;by_cases hm:d∈M
   ·have HR:=sqH (SeekR.met (bl:=bl) hm);have hlk:=fun (w2:World) (h:yy w2 b M)=>h.look d HDL.o;rw [decide_eq_true hm]at hlk;have HLK:=sqH hlk;have HST:=sqH hset;clear hm hlk hset;go_enter func95,ntmps95;go_wp2_with fail;refine wZ HFF.o fun w2 hb2=>?_;dsimp only;unfold xD;dsimp only;have hset2:=HST.o.below hb2;have hrun:=HLK.o w2 hset2;have a1:=(hbox.below hb2).c1;go_wp2_with fail
    ((try simp only [Exit.inBlock,Exit.then]);first | (refine bodyPost_ret (results_none rfl _ _ _) rfl ?_) | (refine bodyPost_end (results_none rfl _ _ _) rfl ?_))
    exact⟨rfl,M,HR.o,hset2,q7 hb2 _⟩
   ·have HMU:=sqH (KR HIN.o hm);have hlk:=fun (w2:World) (h:yy w2 b M)=>h.look d HDL.o;rw [decide_eq_false hm]at hlk;obtain⟨HLK,HST,HNM⟩:=sqJ3 hlk hset hm;have hMn:M.length<maxLen:=by unfold maxLen;omega
    clear hm hlk hset;go_enter func95,ntmps95;go_wp2_with fail;refine wZ HFF.o fun w2 hb2=>?_;dsimp only;unfold xD;dsimp only;have hset2:=HST.o.below hb2;have hrun:=HLK.o w2 hset2;have hbox2:=hbox.below hb2;have a1:=hbox2.c1;obtain⟨w3,hput,hset3,hg3⟩:=hset2.put d HDL.o hMn;have hbox3:=hbox2.grown hg3 (fun e=>hne (by injection e with e;exact e.symm));have a2:=hbox3.c0;have hb03:=(hb0.trans (hb2.mono hs0)).grown hg3 (by have:=hb2.size;omega) (fun k hk=>by cases hk;exact hbs);obtain⟨bq,oq,B,cq,hA,hbq,d0,d1,d2,d3,hs⟩:=(hrd.below hb03).blob_at i hi;have HPT:=sqH (uo ⟨bl[i].dig.toArray⟩ B bl[i].data.length cq bl[i].data (bl[i].aR:Int) bl[i].mark w3 rfl hs.cap hs.max hs.rd);have hx8:=yL bl[i].data;have hG03:=(q7 hb2 (row:=aH b)).trans hg3;subst hA;have HHS:=sqH hrd;clear hs hset2 hg3 hbox hbox2 a0 hrd;obtain⟨ks,hks⟩:∃ks,kids bl d=ks:=⟨_,rfl⟩
    obtain⟨xs,hxs⟩:∃xs,(kA bl[i].data).1=xs:=⟨_,rfl⟩
    have hkx:xs.map (·.dig)=ks:=by rw [<-hks,<-hxs];exact HKD.o.symm
    have hkl:xs.length=ks.length:=by rw [<-hkx,List.length_map]
    rw [hxs,vX,hkx,hkl]at HPT;rw [hxs,hkl]at hx8;have HKS:=sqH hks;clear hks hkx hkl hxs HKD;go_wp2_with fail;refine HPT.o.mono ?_;rintro e_ w4 ⟨v4,rfl,ho4,hb4⟩;dsimp only;have hset4:=hset3.below hb4;have hbox4:=hbox3.below hb4;have hb04:=wo hb03 hb4;have hG04:=hG03.trans (q7 hb4 (row:=aH b));obtain⟨A4,c4,rfl,hc4,hr4⟩:=Rd.of_own' ho4;have hA4:∀bb off,A4=aH ⟨bb,off,none⟩->0<ks.length->bb≠b:=fun bb off e h0=>by
     have h5:=(ho4.lt bb (by rw [e];rfl)).1;have:=hset3.lt;omega
    have hks8:(ks.length:Int)<=9223372036854775807:=ww;clear ho4 hset3 hbox3 hb03 hb4 hG03 d0 d1 d2 d3 a1 a2 hrun hput;go_wp2_with fail;go_loopg [41] ks.length (fun gn i wr=>∃(j:Nat) (M':List aj),gn=ks.length - j/\i= aC aD j/\j<=ks.length/\SeekR bl (M++ [d]) (ks.take j) M'/\yy wr b M'/\w4.grownBy wr (aH b))
    case atStart=>exact⟨0,M++ [d],rfl,rfl,ww,by rw [List.take_zero];exact SeekR.nil _ _,hset4,World.grownBy.refl _ _⟩
    case round =>
     obtain⟨j,M',hgj,rfl,hj,hR,hsetr,hgr⟩:=hrel;have HGJ:=sqH hgj;have HRR:=sqH hR;clear hgj hR;by_cases hlt:j<ks.length
     rotate_left
     ·obtain rfl:j=ks.length:=by omega
      have hlb:decide (ks.length<ks.length)=false:=ac;have hfin:=HRR.o;rw [List.take_length]at hfin;rw [<-HKS.o]at hfin;have HFN:=sqH (SeekR.into HIN.o HNM.o hfin);clear hfin;go_wp2_with fail
      ((try simp only [Exit.inBlock,Exit.then]);first | (refine bodyPost_ret (results_none rfl _ _ _) rfl ?_) | (refine bodyPost_end (results_none rfl _ _ _) rfl ?_))
      exact⟨rfl,M',HFN.o,hsetr,hG04.trans hgr⟩
     have hlb:decide (j<ks.length)=true:=decide_eq_true hlt;have hj0:=wg j
     have hj1:(j:Int)<(ks.length:Int):=ww;obtain⟨bb,off,hAb,_,hcell⟩:=(hr4.far hgr hA4).2 ww;subst hAb;have e0:=hcell j _ (kJ ks j hlt);have hboxr:=hbox4.grown hgr (fun e=>hne (by injection e with e;exact e.symm));have hb0r:=hb04.grown hgr hb04.size (fun k hk=>by cases hk;exact hbs);have hun1:=jI (bl:=bl) HRR.o.sub;have hln1:=HRR.o.len;rw [List.length_append]at hln1;simp only [List.length_cons,List.length_nil]at hln1;have hmu:=HMU.o;have HCL:=sqH (HIH.o M' ks[j] wr ww ww hb0r hboxr hsetr);have HTK:=sqH (show ks.take (j+1)=ks.take j++ [ks[j]] from List.take_succ_eq_append_getElem hlt);generalize ks[j]=kd at *
     clear hcell hun1 hln1 hmu hb0r hboxr;go_wp2_with fail;refine HCL.o.mono ?_;rintro e_ w6 ⟨rfl,M2,hR2,hset6,hg6⟩;dsimp only;have HR2:=sqH hR2;clear hR2 e0;go_wp2_with fail;go_roundg (ks.length - (j+1))
     case measure=>exact we HGJ
     case rel=>exact⟨j+1,M2,rfl,by go_num,ww,by rw [HTK.o];exact HRR.o.snoc HR2.o,hset6,hgr.trans hg6⟩
theorem Qq (A D:ak) (c dc:Nat) (bl:List BlobP) (ds:List aj) (w:World) (hl:bl.length<=1000) (hcap:bl.length<=c) (hcm:c<=maxLen) (hdig:∀x∈bl,x.dig.length<=1000) (hrd:Rw BlobS w A bl) (hdn:ds.length<=1000000) (hrd2:Rd w 1 D ds.length (strs ds)) :
  Calls zZZ 41 #[aB A bl.length c,aB D ds.length dc] w fun e w'=>∃v L,e= .returned v/\StrL L (Rch bl ds)/\L.length<=bl.length/\w'.ownsRow w.heap.size 9 1 v L.length (strs L)/\Below w.heap.size w w':=by
 obtain⟨b,hb⟩:=wY w.heap.size
 obtain⟨gs,hgs⟩:=wY (w.heap.size+1)
 have hm0:=yy.made w;have hm1:yy ((w.alloc (.map #[] 0)).alloc (aF #[aB A bl.length c,.map (aH w.heap.size)] 160)) w.heap.size []:=World.ownsMap.alloc hm0 _;have hx1:Arr ((w.alloc (.map #[] 0)).alloc (aF #[aB A bl.length c,.map (aH w.heap.size)] 160)) (w.alloc (.map #[] 0)).heap.size 160 [aB A bl.length c,.map (aH w.heap.size)]:=Arr.new _ _ _;rw [World.size_alloc,<-hgs,<-hb]at hx1;rw [<-hb]at hm1;have hb1:=(wu w (.map #[] 0))
 have hb2:=hb1.alloc hb1.size (aF #[aB A bl.length c,.map (aH b)] 160);have HSK:=sqH (z10 gs b c A bl w ww ww ww hl hcap hcm hdig hrd);have HB:=sqH hb;have hHb:w.heap.size<=b:=ww;have hgb:gs≠b:=ww;have hd63:(ds.length:Int)<=9223372036854775807:=ww;obtain⟨w1,hw1⟩:=wY ((w.alloc (.map #[] 0)).alloc (aF #[aB A bl.length c,.map (aH b)] 160))
 rw [<-hw1]at hm1 hx1 hb2;have HW1:=sqH hw1;have HGS:=sqH hgs;clear hm0 hb1 hrd hw1 hgs hb;have hmm:= @run_makeMap zZZ;go_enter func41,ntmps41;go_wp2_with fail;rw [<-HB.o,<-HW1.o];rw [show b+1=gs from by rw [HB.o,HGS.o]];clear HW1 HGS hmm;go_loopg [14] ds.length (fun gn i wr=>∃(j:Nat) (M':List aj),gn=ds.length - j/\i= aC aD j/\j<=ds.length/\SeekR bl [] (ds.take j) M'/\yy wr b M'/\w1.grownBy wr (aH b))
 case atStart=>exact⟨0, [],rfl,rfl,ww,by rw [List.take_zero];exact SeekR.nil _ _,hm1,World.grownBy.refl _ _⟩
 case round =>
  obtain⟨j,M',hgj,rfl,hj,hR,hsetr,hgr⟩:=hrel;have HGJ:=sqH hgj;have HRR:=sqH hR;have hboxr:=hx1.grown hgr (fun e=>hgb (by injection e with e;exact e.symm));have hb0r:=hb2.grown hgr hb2.size (fun k hk=>by cases hk;exact hHb);have hln1:=HRR.o.len;have hun0:=U0 bl;have hun1:=jI (bl:=bl) (M:= []) (M':=M') (fun x h=>nomatch h);simp only [List.length_nil,Nat.zero_add]at hln1;clear hgj hR;by_cases hlt:j<ds.length
  rotate_left
  ·obtain rfl:j=ds.length:=by omega
   have hlb:decide (ds.length<ds.length)=false:=ac;have hfin:=HRR.o;rw [List.take_length]at hfin;have HFN:=sqH hfin;have a1:=hboxr.c1;have hMl:M'.length<=bl.length:=ww;clear hfin hln1 hun0 hun1;go_wp2_with fail;refine(Xh b wr).mono ?_;rintro e_ wk ⟨rfl,rfl⟩;dsimp only;have hbk:=wu wr (aF #[.map (aH b)] 136);have HSO:=sqH (Zx b M' wr hsetr ww);go_wp2_with fail;refine HSO.o.mono ?_;rintro e_ wz ⟨vz,L,rfl,hL,hLl,hoz,hbz⟩;dsimp only;have hbkz:=wo hbk hbz;have hoz':=zb hoz hbk.size;go_wp2_with fail;go_ret;refine⟨vz,L,rfl,⟨hL.nd,hL.le,fun x=>by rw [hL.mem,HFN.o.all]⟩,ww,zb hoz' hb0r.size,wo hb0r hbkz⟩
  have hlb:decide (j<ds.length)=true:=decide_eq_true hlt;have hj0:=wg j
  have hj1:(j:Int)<(ds.length:Int):=ww;obtain⟨bb,off,hAb,_,hcell⟩:=(hrd2.below hb0r).2 ww;subst hAb;have e0:=hcell j _ (kJ ds j hlt);have HCL:=sqH (HSK.o (bl.length+1) M' ds[j] wr ww ww hb0r hboxr hsetr);have HTK:=sqH (show ds.take (j+1)=ds.take j++ [ds[j]] from List.take_succ_eq_append_getElem hlt);generalize ds[j]=kd at *
  clear hcell hun1 hln1 hun0 hb0r hboxr;go_wp2_with fail;refine HCL.o.mono ?_;rintro e_ w6 ⟨rfl,M2,hR2,hset6,hg6⟩;dsimp only;have HR2:=sqH hR2;clear hR2 e0;go_wp2_with fail;go_roundg (ds.length - (j+1))
  case measure=>exact we HGJ
  case rel=>exact⟨j+1,M2,rfl,by go_num,ww,by rw [HTK.o];exact HRR.o.snoc HR2.o,hset6,hgr.trans hg6⟩
def vR (es:List EntP):List aj:=es.flatMap (fun x=>x.aQ.map (·.dig))
def xQ (bl:List BlobP):List aj:=(bl.filter (fun b=>decide (0<b.aR))).map (·.dig)
def rts (s:StoP):List aj:=vR s.aK++xQ s.aJ
theorem VF (es:List EntP) (k:Nat) (h:k<es.length):vR (es.take (k+1))=vR (es.take k)++es[k].aQ.map (·.dig):=by
 unfold vR;rw [List.take_succ_eq_append_getElem h,List.flatMap_append];simp
theorem VE (bl:List BlobP) (k:Nat) (h:k<bl.length):xQ (bl.take (k+1))=xQ (bl.take k)++(if 0<bl[k].aR then [bl[k].dig] else []):=by
 unfold xQ;rw [List.take_succ_eq_append_getElem h,List.filter_append,List.map_append]
 congr 1
 by_cases hp:0<bl[k].aR
 ·rw [if_pos hp,List.filter_cons_of_pos (by simpa using hp)];rfl
 ·rw [if_neg hp,List.filter_cons_of_neg (by simpa using hp)];rfl
theorem xR (es:List EntP) (h:∀x∈es,x.aQ.length<=8):(vR es).length<=8*es.length:=by
 induction es with
 | nil=>simp [vR]
 | cons x es ih =>
  have h1:=h x ac;have h2:=ih (fun y hy=>h y (by simp [hy]));unfold vR at h2 ⊢
  rw [List.flatMap_cons,List.length_append,List.length_map,List.length_cons];omega
theorem uh (bl:List BlobP):(xQ bl).length<=bl.length:=by
 unfold xQ;rw [List.length_map];exact List.length_filter_le _ _
structure RtsOk (s:StoP):Prop where
 e:s.aK.length<=24
 p:∀x∈s.aK,x.aQ.length<=8
 d:∀x∈s.aK,∀q∈x.aQ,q.dig.length<=1000
 b:s.aJ.length<=24
 g:∀x∈s.aJ,x.dig.length<=1000
theorem RtsOk.len (h:RtsOk s):(rts s).length<=216:=by
 have h1:=xR s.aK h.p;have h2:=uh s.aJ;have:=h.e;have:=h.b;unfold rts;rw [List.length_append];omega
theorem GoodS.rts (h:GoodS s):RtsOk s :=
 ⟨by have:=h.e.len;omega,fun x hx=>(zj (h.e.one x hx).2.1).1,fun x hx q hq=>by have:=qy ((zj (h.e.one x hx).2.1).2 q hq).2.1;omega,h.b.len,fun x hx=>by rw [(h.b.one x hx).1];have:=qy (zr x.data);omega⟩
theorem xp (A B:ak) (c d:Nat) (s:StoP) (R C:Int) (w:World) (hs:RtsOk s) (hrd:RdSt w A c B d s) :
  Calls zZZ 35 #[.agg #[aB A s.aJ.length c,aB B s.aK.length d,aC aD R,aC aD C]] w fun e w'=>∃v L,e= .returned v/\StrL L (fun x=>x∈rts s)/\L.length<=216/\w'.ownsRow w.heap.size 9 1 v L.length (strs L)/\Below w.heap.size w w':=by
 have hrl:=hs.len;have hel:=hs.e;have hbl:=hs.b;have HS:=sqH hs;have hx0:Arr (w.alloc (aF #[aB A s.aJ.length c,aB B s.aK.length d,aC aD R,aC aD C] 34)) w.heap.size 34 [aB A s.aJ.length c,aB B s.aK.length d,aC aD R,aC aD C]:=Arr.new w 34 _;have hb0:=wu w (aF #[aB A s.aJ.length c,aB B s.aK.length d,aC aD R,aC aD C] 34);have hx1:=hx0.alloc (.map #[] 0);have hm1:=yy.made (w.alloc (aF #[aB A s.aJ.length c,aB B s.aK.length d,aC aD R,aC aD C] 34));have hb1:=hb0.alloc hb0.size (.map #[] 0);rw [World.size_alloc]at hm1;obtain⟨b,hb⟩:=wY (w.heap.size+1)
 obtain⟨gS,hgS⟩:=wY w.heap.size
 rw [<-hgS]at hx1;rw [<-hb]at hm1;have hgb:gS≠b:=ww;have hwb:w.heap.size<=b:=ww;have HB:=sqH hb;have HG:=sqH hgS;obtain⟨w1,hw1⟩:=wY ((w.alloc (aF #[aB A s.aJ.length c,aB B s.aK.length d,aC aD R,aC aD C] 34)).alloc (.map #[] 0))
 have HW:=sqH hw1;rw [<-hw1]at hx1 hm1 hb1;have hmm:= @run_makeMap zZZ;have f1:=hx1.c1;have he63:(s.aK.length:Int)<=9223372036854775807:=ww;have hb63:(s.aJ.length:Int)<=9223372036854775807:=ww;have f1':=f1;rw [hw1,hgS]at f1';clear hw1 hgS hb hx0 hb0 hs;go_enter func35,ntmps35;go_wp2_with fail;rw [<-HW.o]
 first | rw [<-HB.o] | skip
 first | rw [<-HG.o] | skip
 clear f1' hmm f1;go_loopg [14] s.aK.length (fun gn i wr=>∃k:Nat,gn=s.aK.length - k/\i= aC aD k/\k<=s.aK.length/\yy wr b (vR (s.aK.take k))/\w1.grownBy wr (aH b))
 case atStart=>exact⟨0,rfl,rfl,ww,hm1,World.grownBy.refl _ _⟩
 case round =>
  obtain⟨k,hgk,rfl,hk,hset,hgr⟩:=hrel;have HGK:=sqH hgk;clear hgk;by_cases hlt:k<s.aK.length
  rotate_left
  ·obtain rfl:k=s.aK.length:=by omega
   have hlb:decide (s.aK.length<s.aK.length)=false:=ac;have f0:=(hx1.grown hgr (fun e=>hgb (by injection e with e;exact e.symm))).c0;rw [List.take_length]at hset;have HSET:=sqH hset;clear hset;go_wp2_with fail;clear f0;generalize hwq:wr=wq at *
   clear hwq;go_loopg [33] s.aJ.length (fun gn i wr=>∃k:Nat,gn=s.aJ.length - k/\i= aC aD k/\k<=s.aJ.length/\yy wr b (vR s.aK++xQ (s.aJ.take k))/\w1.grownBy wr (aH b))
   case atStart=>exact⟨0,rfl,rfl,ww,by rw [List.take_zero];simpa [xQ] using HSET.o,hgr⟩
   case round =>
    obtain⟨k,hgk,rfl,hk,hset,hgr⟩:=hrel;have HGK:=sqH hgk;have hb0r:=hb1.grown hgr hb1.size (fun k hk=>by cases hk;exact hwb);clear hgk;by_cases hlt:k<s.aJ.length
    rotate_left
    ·obtain rfl:k=s.aJ.length:=by omega
     have hlb:decide (s.aJ.length<s.aJ.length)=false:=ac;rw [List.take_length]at hset;have hset':yy wr b (rts s):=hset;clear hset;go_wp2_with fail;refine(Xh b wr).mono ?_;rintro e_ wk ⟨rfl,rfl⟩;dsimp only;have hbk:=wu wr (aF #[.map (aH b)] 136);have HSO:=sqH (Zx b (rts s) wr hset' ww);go_wp2_with fail;refine HSO.o.mono ?_;rintro e_ wz ⟨vz,L,rfl,hL,hLl,hoz,hbz⟩;dsimp only;have hbkz:=wo hbk hbz;have hoz':=zb hoz hbk.size;go_wp2_with fail;go_ret;refine⟨vz,L,rfl,hL,ww,zb hoz' hb0r.size,wo hb0r hbkz⟩
    have hlb:decide (k<s.aJ.length)=true:=decide_eq_true hlt;have hk0:=wg k
    have hk1:(k:Int)<(s.aJ.length:Int):=ww;obtain⟨bq,oq,Bq,cq,hA,hbq,d0,d1,d2,d3,hsl⟩:=(hrd.b.below hb0r).blob_at k hlt;subst hA;have HSU:=sqH (VE s.aJ k hlt);have hxl:s.aJ[k].dig.length<=maxLen:=by have:=HS.o.g _ (List.getElem_mem hlt);unfold maxLen;omega
    have HKL:=sqH hlt;have hLn:=xR s.aK HS.o.p;have hLm:=uh (s.aJ.take k);rw [List.length_take]at hLm;have hMl:(vR s.aK++xQ (s.aJ.take k)).length<maxLen:=by rw [List.length_append];unfold maxLen;omega
    generalize s.aJ[k]=q at *
    have hbox:Arr (wr.alloc (aF #[.string ⟨q.dig.toArray⟩,aB Bq q.data.length cq,aC aD q.aR,.bool q.mark] 76)) wr.heap.size 76 [.string ⟨q.dig.toArray⟩,aB Bq q.data.length cq,aC aD q.aR,.bool q.mark]:=Arr.new wr 76 _;have hgA:=hgr.trans (World.grownBy_alloc wr (aF #[.string ⟨q.dig.toArray⟩,aB Bq q.data.length cq,aC aD q.aR,.bool q.mark] 76) (aH b));have hsetA:=World.ownsMap.alloc hset (aF #[.string ⟨q.dig.toArray⟩,aB Bq q.data.length cq,aC aD q.aR,.bool q.mark] 76);have p2:=hbox.c2;have p0:=hbox.c0;clear hsl hset hLn hLm;by_cases hp:0<q.aR
    ·have hpb:decide ((0:Int)<(q.aR:Int))=true:=decide_eq_true ww;have hpb':decide (0<q.aR)=true:=decide_eq_true hp;obtain⟨w3,hput,hset3,hg3⟩:=yy.put hsetA q.dig hxl hMl;have hsu:=HSU.o;rw [if_pos hp]at hsu;have HSV:=sqH hsu;have HST3:=sqH hset3;clear hsetA hset3 hp hsu HSU;go_wp2_with fail;go_roundg (s.aJ.length - (k+1))
     case measure=>have:=HGK.o;have:=HKL.o;omega
     case rel=>exact⟨k+1,rfl,by go_num,by have:=HKL.o;omega,by rw [HSV.o,<-List.append_assoc];exact HST3.o,hgA.trans hg3⟩
    ·have hpb:decide ((0:Int)<(q.aR:Int))=false:=decide_eq_false ww;have hpb':decide (0<q.aR)=false:=decide_eq_false hp;have hsu:=HSU.o;rw [if_neg hp,List.append_nil]at hsu;have HSV:=sqH hsu;have HST3:=sqH hsetA;clear hsetA hp hsu HSU;go_wp2_with fail;go_roundg (s.aJ.length - (k+1))
     case measure=>have:=HGK.o;have:=HKL.o;omega
     case rel=>exact⟨k+1,rfl,by go_num,by have:=HKL.o;omega,by rw [HSV.o];exact HST3.o,hgA⟩
  have hlb:decide (k<s.aK.length)=true:=decide_eq_true hlt;have hk0:=wg k
  have hk1:(k:Int)<(s.aK.length:Int):=ww;have hb0r:=hb1.grown hgr hb1.size (fun k hk=>by cases hk;exact hwb);obtain⟨bq,oq,Bq,cq,hA,hbq,c0,c1,c2,c3,hsl⟩:=hrd.e.ent_at k hlt;subst hA;have d0:=((UL hb0r).1 bq _ hbq).trans c0;have d1:=((UL hb0r).1 bq _ hbq).trans c1;have d2:=((UL hb0r).1 bq _ hbq).trans c2;have d3:=((UL hb0r).1 bq _ hbq).trans c3;clear c0 c1 c2 c3;have HSU:=sqH (VF s.aK k hlt);have hp8:=HS.o.p _ (List.getElem_mem hlt);have HPD:=sqH (HS.o.d _ (List.getElem_mem hlt));have hLn:=xR (s.aK.take k) (fun x hx=>HS.o.p x (List.mem_of_mem_take hx));rw [List.length_take]at hLn;have hLn2:(vR (s.aK.take k)).length<=192:=ww;have HKL:=sqH hlt;generalize s.aK[k]=q at *
  have hbox:Arr (wr.alloc (aF #[.string ⟨q.key.toArray⟩,aB Bq q.aQ.length cq,aC aD q.aR,aC aD q.aP] 100)) wr.heap.size 100 [.string ⟨q.key.toArray⟩,aB Bq q.aQ.length cq,aC aD q.aR,aC aD q.aP]:=Arr.new wr 100 _;have hgA:=hgr.trans (World.grownBy_alloc wr (aF #[.string ⟨q.key.toArray⟩,aB Bq q.aQ.length cq,aC aD q.aR,aC aD q.aP] 100) (aH b));have hsetA:yy _ b _:=World.ownsMap.alloc hset (aF #[.string ⟨q.key.toArray⟩,aB Bq q.aQ.length cq,aC aD q.aR,aC aD q.aP] 100);have p1:=hbox.c1;have hq63:(q.aQ.length:Int)<=9223372036854775807:=ww;clear hset hLn;go_wp2_with fail;clear d0 d1 d2 d3 p1;generalize (wr.alloc (aF #[.string ⟨q.key.toArray⟩,aB Bq q.aQ.length cq,aC aD q.aR,aC aD q.aP] 100))=wA at *
  clear hbox;go_loopg [21] q.aQ.length (fun gn i wr=>∃j:Nat,gn=q.aQ.length - j/\i= aC aD j/\j<=q.aQ.length/\yy wr b (vR (s.aK.take k)++(q.aQ.take j).map (·.dig))/\w1.grownBy wr (aH b))
  case atStart=>exact⟨0,rfl,rfl,ww,by rw [List.take_zero];simpa using hsetA,hgA⟩
  case round =>
   obtain⟨j,hgj,rfl,hj,hset,hgi⟩:=hrel;have HGJ:=sqH hgj;have hb0i:=hb1.grown hgi hb1.size (fun k hk=>by cases hk;exact hwb);clear hgj hsetA hgA;by_cases hlt2:j<q.aQ.length
   rotate_left
   ·obtain rfl:j=q.aQ.length:=by omega
    have hlb2:decide (q.aQ.length<q.aQ.length)=false:=ac;rw [List.take_length,<-HSU.o]at hset;have HST:=sqH hset;clear hset;go_wp2_with fail;go_roundg (s.aK.length - (k+1))
    case measure=>have:=HGK.o;have:=HKL.o;omega
    case rel=>exact⟨k+1,rfl,by go_num,by have:=HKL.o;omega,HST.o,hgi⟩
   have hlb2:decide (j<q.aQ.length)=true:=decide_eq_true hlt2;have hj0:=wg j
   have hj1:(j:Int)<(q.aQ.length:Int):=ww;obtain⟨bb,off,hAb,_,hcell⟩:=(hsl.below hb0i).rd.2 ww;subst hAb;have hat:=fun i (hi:i<3)=>yF q.aQ j i hlt2 hi;have c0:=hcell (j*3+0) _ (hat 0 ww);have c1:=hcell (j*3+1) _ (hat 1 ww);have c2:=hcell (j*3+2) _ (hat 2 ww);have hpd:q.aQ[j].dig.length<=maxLen:=by have:=HPD.o _ (List.getElem_mem hlt2);unfold maxLen;omega
   have HTK:=sqH (show(q.aQ.take (j+1)).map (·.dig)=(q.aQ.take j).map (·.dig)++ [q.aQ[j].dig] from by rw [List.take_succ_eq_append_getElem hlt2,List.map_append];rfl);have HJL:=sqH hlt2;generalize q.aQ[j]=pt at *
   obtain⟨pn,pd,psz⟩:=pt;dsimp only [yw,List.getElem?_cons_zero,List.getElem?_cons_succ]at c0 c1 c2 hpd HTK;rw [Nat.add_zero]at c0;rw [show off+(j*3+1)=off+j*3+1 by omega]at c1;rw [show off+(j*3+2)=off+j*3+2 by omega]at c2;have hMl:(vR (s.aK.take k)++(q.aQ.take j).map (·.dig)).length<maxLen:=by rw [List.length_append,List.length_map,List.length_take];unfold maxLen;omega
   have hbx:Arr (wr.alloc (aF #[.string ⟨pn.toArray⟩,.string ⟨pd.toArray⟩,aC aD psz] 85)) wr.heap.size 85 [.string ⟨pn.toArray⟩,.string ⟨pd.toArray⟩,aC aD psz]:=Arr.new wr 85 _;have hgB:=hgi.trans (World.grownBy_alloc wr (aF #[.string ⟨pn.toArray⟩,.string ⟨pd.toArray⟩,aC aD psz] 85) (aH b));have hsetB:yy _ b _:=World.ownsMap.alloc hset (aF #[.string ⟨pn.toArray⟩,.string ⟨pd.toArray⟩,aC aD psz] 85);have p1:=hbx.c1;obtain⟨w3,hput,hset3,hg3⟩:=yy.put hsetB pd hpd hMl;have HST3:=sqH hset3;clear hat hcell hset hset3 hsetB;go_wp2_with fail;go_roundg (q.aQ.length - (j+1))
   case measure=>have:=HGJ.o;have:=HJL.o;omega
   case rel=>exact⟨j+1,rfl,by go_num,by have:=HJL.o;omega,by rw [HTK.o,<-List.append_assoc];exact HST3.o,hgB.trans hg3⟩
theorem xl (A B:ak) (c d:Nat) (s:StoP) (R C:Int) (w:World) (hs:RtsOk s) (hrd:RdSt w A c B d s) :
  Calls zZZ 19 #[.agg #[aB A s.aJ.length c,aB B s.aK.length d,aC aD R,aC aD C]] w fun e w'=>∃v L,e= .returned v/\StrL L (Rch s.aJ (rts s))/\L.length<=s.aJ.length/\w'.ownsRow w.heap.size 9 1 v L.length (strs L)/\Below w.heap.size w w':=by
 have HOK:=sqH hs;have hx0:Arr (w.alloc (aF #[aB A s.aJ.length c,aB B s.aK.length d,aC aD R,aC aD C] 34)) w.heap.size 34 [aB A s.aJ.length c,aB B s.aK.length d,aC aD R,aC aD C]:=Arr.new w 34 _;have hb0:=wu w (aF #[aB A s.aJ.length c,aB B s.aK.length d,aC aD R,aC aD C] 34);have hrd1:=hrd.below hb0;clear hs hrd;go_enter func19,ntmps19;go_wp2_with fail;generalize (w.alloc (aF #[aB A s.aJ.length c,aB B s.aK.length d,aC aD R,aC aD C] 34))=w1 at *
 obtain⟨gS,hgS⟩:=wY w.heap.size
 rw [<-hgS]at hx0 ⊢
 have HSB:=sqH (show ∀w',Below w1.heap.size w1 w'->(wI w' gS (aB A s.aJ.length c) (aB B s.aK.length d) (aC aD R) (aC aD C)) from
  fun w' hb=>sqC4 (hx0.below hb))
 obtain⟨HRD,HB1,HgS⟩:=sqJ3 hrd1 hb0 hgS;clear hgS hx0 hrd1 hb0;refine wp_region_held_drew (S:=(fun w'=>wI w' gS (aB A s.aJ.length c) (aB B s.aK.length d) (aC aD R) (aC aD C))) aa ?_ (fun hHeld=> ?_)
 ·exact HSB.o _ (Below.refl _ w1).drew
 have hB:=(Below.refl w1.heap.size w1).drew;generalize w1.drew=wn0 at *
 refine wQ 0 ?_;refine wQ 1 ?_;refine wQ 2 ?_;refine wU 3 fun K hK=>?_;go_simp;refine(xp A B c d s R C wn0 HOK.o (HRD.o.below hB)).mono ?_;rintro e5 w5 ⟨v5,L1,rfl,hL1,hl1,ho5,hb5⟩;obtain⟨A3,c3,rfl,_,_⟩:=Rd.of_own' ho5;have HL1:=sqH hL1;clear hL1;dsimp only;refine qF hK (HSB.o _ (hB.trans (Below.mono (show Below wn0.heap.size wn0 _ from by(first | exact hb5 | exact hb6 | exact Below.refl _ _)) hB.size))) (Below wn0.heap.size wn0) (fun W=>W.ownsRow w1.heap.size 9 1 (aB A3 L1.length c3) L1.length (strs L1)) (by first | exact hb5 | exact hb6 | exact Below.refl _ _) (zb ho5 hB.size) fun wn1 hHeld hst hnew=> ?_;have hB:=wo hB hst;have h3:=hnew;clear hst;clear hK K
 try simp only [sqP]
 refine wU 4 fun K hK=>?_;go_simp;refine(Qq A A3 c c3 s.aJ L1 wn1 (by have:=HOK.o.b;omega) HRD.o.bc HRD.o.bm HOK.o.g (HRD.o.b.below hB) ww (Rd.of_own h3)).mono ?_;rintro e6 w6 ⟨v6,L2,rfl,hL2,hl2,ho6,hb6⟩;have HL2:=sqH hL2;clear hL2;dsimp only;refine qF hK (HSB.o _ (hB.trans (Below.mono (show Below wn1.heap.size wn1 _ from by(first | exact hb5 | exact hb6 | exact Below.refl _ _)) hB.size))) (Below wn1.heap.size wn1) (fun W=>W.ownsRow w1.heap.size 9 1 v6 L2.length (strs L2)) (by first | exact hb5 | exact hb6 | exact Below.refl _ _) (zb ho6 hB.size) fun wn2 hHeld hst hnew=> ?_;have hB:=wo hB hst;have h4:=hnew;clear hst;clear hK K
 refine wQ 5 ?_;refine wpAnyH_done aa ?_ _
 try dsimp only [Exit.then]
 clear hHeld;have hBz:=wo HB1.o hB;clear hB h3;have e9:=HgS.o;subst e9
 refine wL ?_;intros;go_ret;refine⟨v6,L2,rfl,⟨HL2.o.nd,HL2.o.le,fun x=> ?_⟩,hl2,zb h4 HB1.o.size,hBz⟩;rw [HL2.o.mem];exact⟨fun h=>h.mono fun y hy hi=> .root ((HL1.o.mem y).1 hy) hi,fun h=>h.mono fun y hy hi=> .root ((HL1.o.mem y).2 hy) hi⟩
theorem xH (hr:RisesBy (·.dig) bl) {b:BlobP} (hb:b∈bl):kids bl b.dig=(kA b.data).1.map (·.dig):=by
 cases hf:bl.findIdx? (fun x=>x.dig==b.dig) with
 | none =>
  have:=Za.1 ⟨b,hb,rfl⟩;rw [hf]at this;cases this
 | some i =>
  have hi:i<bl.length:=(List.findIdx?_eq_some_iff_getElem.1 hf).1;have hd:bl[i].dig=b.dig:=by simpa using (List.findIdx?_eq_some_iff_getElem.1 hf).2.1
  have e:=hr.inj (List.getElem_mem hi) hb hd;have:=V7 hf hi;rw [e]at this;exact this
def z1u (bl:List BlobP) (L:List aj):List BlobP:=bl.filter (fun b=>decide (b.dig∈L))
noncomputable def cln (s:StoP):StoP:= { s with aJ:=s.aJ.filter (fun b=> @decide (Rch s.aJ (rts s) b.dig) (Classical.propDecidable _)) }
theorem Z3 {b:BlobP}:b∈(cln s).aJ↔b∈s.aJ/\Rch s.aJ (rts s) b.dig:=by
 unfold cln;rw [List.mem_filter];exact and_congr_right fun _=> @decide_eq_true_iff _ (Classical.propDecidable _)
theorem UQ {L:List aj} (hL:StrL L (Rch s.aJ (rts s))):z1u s.aJ L=(cln s).aJ:=by
 unfold cln z1u;refine List.filter_congr fun b hb=> ?_;have:=hL.mem b.dig;by_cases h:b.dig∈L
 ·rw [decide_eq_true h];exact(@decide_eq_true _ (Classical.propDecidable _) (this.1 h)).symm
 ·rw [decide_eq_false h];exact(@decide_eq_false _ (Classical.propDecidable _) (fun h2=>h (this.2 h2))).symm
section
variable {bl bl':List BlobP} {ds ds':List aj}
theorem InB.sub {x:aj} (hs:∀b∈bl',b∈bl) (h:InB bl' x):InB bl x:=by
 obtain⟨b,hb,e⟩:=h;exact⟨b,hs b hb,e⟩
theorem ud (hr:RisesBy (·.dig) bl) (hr':RisesBy (·.dig) bl') (hs:∀b∈bl',b∈bl) {x:aj} (hx:InB bl' x):kids bl' x=kids bl x:=by
 obtain⟨b,hb,rfl⟩:=hx;rw [xH hr' hb,xH hr (hs b hb)]
theorem Rch.sub (hr:RisesBy (·.dig) bl) (hr':RisesBy (·.dig) bl') (hs:∀b∈bl',b∈bl) (hd:∀x∈ds',x∈ds) {x:aj} (h:Rch bl' ds' x):Rch bl ds x:=by
 induction h with
 | root h1 h2=>exact .root (hd _ h1) (h2.sub hs)
 | step h1 h2 h3 ih=>exact .step ih (by rw [<-ud hr hr' hs h1.inB];exact h2) (h3.sub hs)
theorem Rch.keepb (hr:RisesBy (·.dig) bl) (hr':RisesBy (·.dig) bl') (hs:∀b∈bl',b∈bl) (hd:∀x∈ds,x∈ds') (hk:∀x,Rch bl ds x->InB bl' x) {x:aj} (h:Rch bl ds x):Rch bl' ds' x:=by
 induction h with
 | root h1 h2=>exact .root (hd _ h1) (hk _ (.root h1 h2))
 | step h1 h2 h3 ih=>exact .step ih (by rw [ud hr hr' hs (hk _ h1)];exact h2) (hk _ (.step h1 h2 h3))
end
theorem Rch.dmono {ds':List aj} {x:aj} (hd:∀x∈ds,x∈ds') (h:Rch bl ds x):Rch bl ds' x:=h.mono fun y hy hb=> .root (hd y hy) hb
theorem xw (h:RisesBy (·.dig) s.aJ):RisesBy (·.dig) (cln s).aJ:=List.Pairwise.filter _ h
theorem QG:∀b∈(cln s).aJ,b∈s.aJ:=fun b hb=>(Z3.1 hb).1
theorem kw (s:StoP):(cln s).aK=s.aK:=rfl
theorem kN (s:StoP):(cln s).aM=s.aM:=rfl
theorem xu (s:StoP):(cln s).aL=s.aL:=rfl
theorem VG {b:BlobP} (hb:b∈s.aJ) (hp:0<b.aR):b.dig∈rts s :=
 List.mem_append_right _ (List.mem_map.2 ⟨b,List.mem_filter.2 ⟨hb,decide_eq_true hp⟩,rfl⟩)
theorem KH {x:EntP} {p:PartP} (hx:x∈s.aK) (hp:p∈x.aQ):p.dig∈rts s :=
 List.mem_append_left _ (List.mem_flatMap.2 ⟨x,hx,List.mem_map.2 ⟨p,hp,rfl⟩⟩)
theorem jJ (p:BlobP->Bool):∀l:List BlobP,usd (l.filter p)<=usd l
 | []=>Nat.le_refl _
 | b::l=>by
  have ih:=jJ p l
  cases h:p b with
  | true=>rw [List.filter_cons_of_pos h];unfold usd at *;simp only [List.map_cons,List.sum_cons];omega
  | false=>rw [List.filter_cons_of_neg (by simp [h])];unfold usd at *;simp only [List.map_cons,List.sum_cons];omega
theorem US (s:StoP):usd (cln s).aJ<=usd s.aJ:=jJ _ _
theorem QF (s:StoP):(cln s).aJ.length<=s.aJ.length:=List.length_filter_le _ _
theorem ky (h:GoodS s):GoodS (cln s) :=
 ⟨⟨Nat.le_trans (QF s) h.b.len,fun b hb=>h.b.one b (QG b hb),xw h.b.ris⟩,h.e,h.aM,Nat.le_trans (US s) h.used,h.aL,fun x hx=>⟨(h.ent x hx).1,fun p hp=>by
  obtain⟨b,hb,e1,e2⟩:=(h.ent x hx).2 p hp
  exact⟨b,Z3.2 ⟨hb,.root (by rw [e1];exact KH hx hp) ⟨b,hb,rfl⟩⟩,e1,e2⟩⟩⟩
theorem ZK {es:List EntP} (h:GoodS s) (hs:es.Sublist s.aK):GoodS { s with aK:=es } :=
 ⟨h.b,⟨Nat.le_trans hs.length_le h.e.len,fun x hx=>h.e.one x (hs.subset hx),List.Pairwise.sublist hs h.e.ris⟩,h.aM,h.used,h.aL,fun x hx=>h.ent x (hs.subset hx)⟩
noncomputable def uX (more:Nat):Nat->StoP->List aj->Option (StoP×List aj)
 | 0,_,_=>none
 | n+1,s,g=>if usd s.aJ+more<=s.aM then aH (s,g) else
  match Q4 s.aK s.aK.length with
  | none=>none
  | some i=>match s.aK[i]? with
   | none=>none
   | some x=>uX more n (cln { s with aK:=s.aK.eraseIdx i }) (g++ [x.key])
noncomputable def yi (more:Nat) (s:StoP):Option (StoP×List aj) :=
 if usd s.aJ+more<=s.aM then aH (s, []) else uX more (s.aK.length+1) (cln s) []
theorem XP {n:Nat} {g':List aj} (h:uX more (n+1) s g=aH (t,g')) :
  (usd s.aJ+more<=s.aM/\t=s/\g'=g)\/(¬usd s.aJ+more<=s.aM/\∃i,∃hi:i<s.aK.length,Q4 s.aK s.aK.length=aH i/\uX more n (cln { s with aK:=s.aK.eraseIdx i }) (g++ [s.aK[i].key])=aH (t,g')):=by
 unfold uX at h;by_cases hf:usd s.aJ+more<=s.aM
 ·rw [if_pos hf]at h;cases h
  exact .inl ⟨hf,rfl,rfl⟩
 ·rw [if_neg hf]at h;cases ho:Q4 s.aK s.aK.length with
  | none=>rw [ho]at h;cases h
  | some i =>
   have hi:=(xe s.aK _ i ho).2;rw [ho]at h;simp only [List.getElem?_eq_getElem hi]at h;exact .inr ⟨hf,i,hi,rfl,h⟩
theorem xy {α:Type} (l:List α) (i:Nat):∀x∈l.eraseIdx i,x∈l:=fun x hx=>List.mem_of_mem_eraseIdx hx
theorem ZN {more:Nat}:∀(n:Nat) (s t:StoP) (g g':List aj),GoodS s->uX more n s g=aH (t,g')->GoodS t/\usd t.aJ+more<=t.aM/\t.aK.length+g'.length=s.aK.length+g.length/\t.aM=s.aM/\t.aL=s.aL
 | 0,s,t,g,g',hg,h=>by unfold uX at h;cases h
 | n+1,s,t,g,g',hg,h=>by
  rcases XP h with ⟨h1,rfl,rfl⟩ | ⟨h1,i,hi,ho,h2⟩
  ·exact⟨hg,h1,rfl,rfl,rfl⟩
  ·have h3:=ZN n _ t _ g' (ky (ZK hg (List.eraseIdx_sublist _ _))) h2
   refine⟨h3.1,h3.2.1,?_,h3.2.2.2⟩
   have h4:=h3.2.2.1
   rw [kw]at h4
   simp only [List.length_eraseIdx_of_lt hi,List.length_append,List.length_cons,List.length_nil]at h4
   omega
theorem jl (hg:GoodS s) (h:yi more s=aH (t,g)):GoodS t/\usd t.aJ+more<=t.aM/\t.aK.length+g.length=s.aK.length/\t.aM=s.aM/\t.aL=s.aL:=by
 unfold yi at h;by_cases hf:usd s.aJ+more<=s.aM
 ·rw [if_pos hf]at h;cases h;exact⟨hg,hf,rfl,rfl,rfl⟩
 ·rw [if_neg hf]at h;have:=ZN _ _ t [] g (ky hg) h;simpa [kw,kN,xu] using this
theorem yD {α:Type} {p:α->Bool}:∀(l:List α) (i:Nat) (hi:i<l.length),p l[i]=false->(l.eraseIdx i).filter p=l.filter p
 | x::l,0,_,h=>by
  rw [List.eraseIdx_cons_zero,List.filter_cons_of_neg]
  simp only [List.getElem_cons_zero]at h
  simp [h]
 | x::l,i+1,hi,h=>by
  have ih:=yD l i (by simpa using hi) (by simpa using h)
  rw [List.eraseIdx_cons_succ]
  cases hx:p x with
  | true=>rw [List.filter_cons_of_pos hx,List.filter_cons_of_pos hx,ih]
  | false=>rw [List.filter_cons_of_neg (by simp [hx]),List.filter_cons_of_neg (by simp [hx]),ih]
end Go.Proofs.YtaboknhfiijipaaGreat
