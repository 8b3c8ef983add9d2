/- Lemmas, as stated. -/
import Derived.Shelf.SlIter.Nil
import Derived.Shelf.SortM.Plain
import Derived.Shelf.SortM.SortNone
import Derived.Ground.GgzProg
import Derived.Ground.SlgmProg
import Derived.Test.YtaboknhfiijipaaGreatProg
import Derived.Maps.OwnSet
import Derived.Carry
import Derived.Test.YtaboknhfiijipaaGreatQT14
import Derived.Test.YtaboknhfiijipaaGreatQT15
set_option linter.unusedVariables false
set_option linter.unusedSimpArgs false
set_option maxRecDepth 100000
set_option maxHeartbeats 8000000
open Go.Proofs.Tryz
open Option renaming some->aD,none->aC
open Go.Proofs.Tryz renaming prog->zZZ
open Go.Value renaming slice->ax,int->ay,string->aA
open Go.IntKind renaming i64->az
open Go.Obj renaming cells->aB
namespace Go.Proofs
open Go.Shelf
def Tryz.keys77_ren:Go.Shelf.Ren:=⟨fun | 7=>77 | 10=>131 | n=>n,fun | 23=>136 | 26=>9 | 3=>4 | 28=>139 | 0=>0 | 27=>138 | 33=>146 | 4=>4 | n=>n,fun | n=>n⟩
theorem Tryz.keys77:Go.Proofs.SlLaysZ.n7 Tryz.prog Tryz.keys77_ren:= {
 mixed:=by kernel_rfl
 f7:=⟨Tryz.f77.name,by decide,Tryz.func77.trans (congrArg aD (by kernel_rfl))⟩
 f10:=⟨Tryz.f131.name,by decide,Tryz.func131.trans (congrArg aD (by kernel_rfl))⟩
 t0:=Tryz.underlying0
 a0:=Tryz.isAgg0
 z0:=Tryz.sizeOf0
 v0:=Tryz.zeroValue0
 t4:=Tryz.underlying4
 a4:=Tryz.isAgg4
 z4:=Tryz.sizeOf4
 v4:=Tryz.zeroValue4
 t23:=Tryz.underlying136
 a23:=Tryz.isAgg136
 z23:=Tryz.sizeOf136
 v23:=Tryz.zeroValue136
 t26:=Tryz.underlying9
 a26:=Tryz.isAgg9
 z26:=Tryz.sizeOf9
 v26:=Tryz.zeroValue9
 t27:=Tryz.underlying138
 a27:=Tryz.isAgg138
 z27:=Tryz.sizeOf138
 v27:=Tryz.zeroValue138
 t28:=Tryz.underlying139
 a28:=Tryz.isAgg139
 z28:=Tryz.sizeOf139
 v28:=Tryz.zeroValue139
 t33:=Tryz.underlying146
 a33:=Tryz.isAgg146
 z33:=Tryz.sizeOf146
 v33:=Tryz.zeroValue146 }
def Tryz.sorted76_ren:Go.Shelf.Ren:=⟨fun | 6=>76 | 8=>129 | 9=>130 | 11=>160 | 13=>162 | 12=>161 | 23=>190 | 24=>191 | 14=>181 | 15=>182 | 16=>183 | 17=>184 | 18=>185 | 19=>186 | 20=>187 | 21=>188 | 22=>189 | 25=>203 | 26=>204 | 27=>205 | 28=>206 | 29=>207 | 30=>208 | 31=>217 | n=>n,fun | 26=>9 | 28=>139 | 24=>35 | 0=>0 | 3=>3 | 37=>184 | 48=>123 | 50=>122 | 4=>4 | 40=>258 | 39=>257 | 45=>263 | 5=>5 | 9=>9 | 51=>279 | 55=>283 | 57=>289 | 58=>290 | 33=>146 | n=>n,fun | n=>n⟩
theorem Tryz.sorted76:Go.Proofs.SlLaysZ.n6 Tryz.prog Tryz.sorted76_ren:= {
 mixed:=by kernel_rfl
 f6:=⟨Tryz.f76.name,by decide,Tryz.func76.trans (congrArg aD (by kernel_rfl))⟩
 f8:=⟨Tryz.f129.name,by decide,Tryz.func129.trans (congrArg aD (by kernel_rfl))⟩
 f11:=⟨Tryz.f160.name,by decide,Tryz.func160.trans (congrArg aD (by kernel_rfl))⟩
 t0:=Tryz.underlying0
 a0:=Tryz.isAgg0
 z0:=Tryz.sizeOf0
 v0:=Tryz.zeroValue0
 t24:=Tryz.underlying35
 a24:=Tryz.isAgg35
 z24:=Tryz.sizeOf35
 v24:=Tryz.zeroValue35
 t26:=Tryz.underlying9
 a26:=Tryz.isAgg9
 z26:=Tryz.sizeOf9
 v26:=Tryz.zeroValue9
 t28:=Tryz.underlying139
 a28:=Tryz.isAgg139
 z28:=Tryz.sizeOf139
 v28:=Tryz.zeroValue139
 i26:=by kernel_rfl }
def Tryz.sort130_ren:Go.Shelf.Ren:=⟨fun | 6=>130 | 8=>162 | 9=>161 | 19=>190 | 20=>191 | 21=>181 | 22=>182 | 23=>183 | 24=>184 | 25=>185 | 26=>186 | 27=>187 | 28=>188 | 29=>189 | 36=>203 | 31=>204 | 32=>205 | 37=>206 | 38=>207 | 39=>208 | 41=>217 | n=>n,fun | 27=>35 | 29=>9 | 3=>3 | 32=>184 | 26=>35 | 0=>0 | 44=>123 | 46=>122 | 4=>4 | 36=>258 | 35=>257 | 41=>263 | 5=>5 | 9=>9 | 53=>279 | 57=>283 | 63=>289 | 64=>290 | n=>n,fun | n=>n⟩
theorem Tryz.sort130:Go.Proofs.SlLaysM.n6 Tryz.prog Tryz.sort130_ren:= {
 mixed:=by kernel_rfl
 f6:=⟨Tryz.f130.name,by decide,Tryz.func130.trans (congrArg aD (by kernel_rfl))⟩
 f8:=Tryz.func162.trans (congrArg aD (by kernel_rfl))
 f9:=⟨Tryz.f161.name,by decide,Tryz.func161.trans (congrArg aD (by kernel_rfl))⟩
 f19:=Tryz.func190.trans (congrArg aD (by kernel_rfl))
 f20:=Tryz.func191.trans (congrArg aD (by kernel_rfl))
 f21:=⟨Tryz.f181.name,by decide,Tryz.func181.trans (congrArg aD (by kernel_rfl))⟩
 f22:=⟨Tryz.f182.name,by decide,Tryz.func182.trans (congrArg aD (by kernel_rfl))⟩
 f23:=⟨Tryz.f183.name,by decide,Tryz.func183.trans (congrArg aD (by kernel_rfl))⟩
 f24:=⟨Tryz.f184.name,by decide,Tryz.func184.trans (congrArg aD (by kernel_rfl))⟩
 f25:=⟨Tryz.f185.name,by decide,Tryz.func185.trans (congrArg aD (by kernel_rfl))⟩
 f26:=⟨Tryz.f186.name,by decide,Tryz.func186.trans (congrArg aD (by kernel_rfl))⟩
 f27:=⟨Tryz.f187.name,by decide,Tryz.func187.trans (congrArg aD (by kernel_rfl))⟩
 f28:=⟨Tryz.f188.name,by decide,Tryz.func188.trans (congrArg aD (by kernel_rfl))⟩
 f29:=⟨Tryz.f189.name,by decide,Tryz.func189.trans (congrArg aD (by kernel_rfl))⟩
 f31:=Tryz.func204.trans (congrArg aD (by kernel_rfl))
 f32:=Tryz.func205.trans (congrArg aD (by kernel_rfl))
 f36:=⟨Tryz.f203.name,by decide,Tryz.func203.trans (congrArg aD (by kernel_rfl))⟩
 f37:=⟨Tryz.f206.name,by decide,Tryz.func206.trans (congrArg aD (by kernel_rfl))⟩
 f38:=⟨Tryz.f207.name,by decide,Tryz.func207.trans (congrArg aD (by kernel_rfl))⟩
 f39:=⟨Tryz.f208.name,by decide,Tryz.func208.trans (congrArg aD (by kernel_rfl))⟩
 f41:=⟨Tryz.f217.name,by decide,Tryz.func217.trans (congrArg aD (by kernel_rfl))⟩
 t0:=Tryz.underlying0
 a0:=Tryz.isAgg0
 z0:=Tryz.sizeOf0
 v0:=Tryz.zeroValue0
 t3:=Tryz.underlying3
 a3:=Tryz.isAgg3
 z3:=Tryz.sizeOf3
 v3:=Tryz.zeroValue3
 t4:=Tryz.underlying4
 a4:=Tryz.isAgg4
 z4:=Tryz.sizeOf4
 v4:=Tryz.zeroValue4
 t5:=Tryz.underlying5
 a5:=Tryz.isAgg5
 z5:=Tryz.sizeOf5
 v5:=Tryz.zeroValue5
 t9:=Tryz.underlying9
 a9:=Tryz.isAgg9
 z9:=Tryz.sizeOf9
 v9:=Tryz.zeroValue9
 t26:=Tryz.underlying35
 a26:=Tryz.isAgg35
 z26:=Tryz.sizeOf35
 v26:=Tryz.zeroValue35
 t27:=Tryz.underlying35
 a27:=Tryz.isAgg35
 z27:=Tryz.sizeOf35
 v27:=Tryz.zeroValue35
 t29:=Tryz.underlying9
 a29:=Tryz.isAgg9
 z29:=Tryz.sizeOf9
 v29:=Tryz.zeroValue9
 t32:=Tryz.underlying184
 a32:=Tryz.isAgg184
 z32:=Tryz.sizeOf184
 v32:=Tryz.zeroValue184
 t35:=Tryz.underlying257
 a35:=Tryz.isAgg257
 z35:=Tryz.sizeOf257
 v35:=Tryz.zeroValue257
 t36:=Tryz.underlying258
 a36:=Tryz.isAgg258
 z36:=Tryz.sizeOf258
 v36:=Tryz.zeroValue258
 t41:=Tryz.underlying263
 a41:=Tryz.isAgg263
 z41:=Tryz.sizeOf263
 v41:=Tryz.zeroValue263
 t44:=Tryz.underlying123
 a44:=Tryz.isAgg123
 z44:=Tryz.sizeOf123
 v44:=Tryz.zeroValue123
 t46:=Tryz.underlying122
 a46:=Tryz.isAgg122
 z46:=Tryz.sizeOf122
 v46:=Tryz.zeroValue122
 t53:=Tryz.underlying279
 a53:=Tryz.isAgg279
 z53:=Tryz.sizeOf279
 v53:=Tryz.zeroValue279
 t57:=Tryz.underlying283
 a57:=Tryz.isAgg283
 z57:=Tryz.sizeOf283
 v57:=Tryz.zeroValue283
 t63:=Tryz.underlying289
 a63:=Tryz.isAgg289
 z63:=Tryz.sizeOf289
 v63:=Tryz.zeroValue289
 t64:=Tryz.underlying290
 a64:=Tryz.isAgg290
 z64:=Tryz.sizeOf290
 v64:=Tryz.zeroValue290 }
end Go.Proofs
namespace Go.Proofs.YtaboknhfiijipaaGreat
open Go.RowKit
variable {α:Type} {bl l m:List BlobP} {L M M' ds:List ae} {b base i k more n:Nat} {g:Option Nat} {s t:StoP} {v v1 v2:Value} {V W w w':World} {d:ae} {zs:ag} {N:aj}
def kids (bl:List BlobP) (x:ae):List ae :=
 match bl.findIdx? (fun b=>b.dig==x) with
 | some i=>match bl[i]? with
  | some b=>(ko b.data).1.map (·.dig)
  | none=> []
 | none=> []
def InB (bl:List BlobP) (x:ae):Prop:=∃b∈bl,b.dig=x
theorem jA {x:ae}:InB bl x↔(bl.findIdx? (fun b=>b.dig==x)).isSome=true:=by
 rw [List.findIdx?_isSome,List.any_eq_true];constructor
 ·rintro⟨b,hb,rfl⟩;exact⟨b,hb,wu⟩
 ·rintro⟨b,hb,h⟩;exact⟨b,hb,by simpa using h⟩
inductive Rch (bl:List BlobP) (ds:List ae):List UInt8->Prop where
 | root {x}:x∈ds->InB bl x->Rch bl ds x
 | step {x y}:Rch bl ds x->y∈kids bl x->InB bl y->Rch bl ds y
theorem Rch.inB {x:ae} (h:Rch bl ds x):InB bl x:=by
 cases h<;>assumption
theorem Rch.mono {es:List ae} {x:ae} (h:Rch bl ds x) (hd:∀y∈ds,InB bl y->Rch bl es y):Rch bl es x:=by
 induction h with
 | root h1 h2=>exact hd _ h1 h2
 | step _ h2 h3 ih=>exact .step ih h2 h3
def unmet (bl:List BlobP) (M:List ae):Nat:=(bl.filter fun b=> !M.contains b.dig).length
theorem vY {α:Type} {p q:α->Bool}:∀(l:List α),(∀x∈l,p x=true->q x=true)->(l.filter p).length<=(l.filter q).length
 | [],_=>Nat.le_refl _
 | x::l,h=>by
  have ih:=vY l (fun y hy=>h y (by simp [hy]))
  by_cases hp:p x=true
  ·rw [List.filter_cons_of_pos hp,List.filter_cons_of_pos (h x wu hp)];simpa using ih
  ·rw [List.filter_cons_of_neg hp]
   by_cases hq:q x=true
   ·rw [List.filter_cons_of_pos hq];simp only [List.length_cons];omega
   ·rw [List.filter_cons_of_neg hq];exact ih
theorem vZ {α:Type} {p q:α->Bool}:∀(l:List α),(∀x∈l,p x=true->q x=true)->(∃x∈l,p x=false/\q x=true)->(l.filter p).length<(l.filter q).length
 | [],_,h=>by obtain⟨x,hx,_⟩:=h;cases hx
 | x::l,h,h2=>by
  have hl:=fun y hy=>h y (List.mem_cons_of_mem x hy)
  by_cases hp:p x=true
  ·rw [List.filter_cons_of_pos hp,List.filter_cons_of_pos (h x wu hp)]
   obtain⟨y,hy,h3,h4⟩:=h2
   rcases List.mem_cons.1 hy with rfl | hy
   ·rw [hp]at h3;cases h3
   ·have:=vZ l hl ⟨y,hy,h3,h4⟩;simpa using this
  ·rw [List.filter_cons_of_neg hp]
   by_cases hq:q x=true
   ·rw [List.filter_cons_of_pos hq];have:=vY l hl;simp only [List.length_cons];omega
   ·rw [List.filter_cons_of_neg hq]
    obtain⟨y,hy,h3,h4⟩:=h2
    rcases List.mem_cons.1 hy with rfl | hy
    ·exact absurd h4 hq
    ·exact vZ l hl ⟨y,hy,h3,h4⟩
theorem ja (h:∀x∈M,x∈M'):unmet bl M'<=unmet bl M:=by
 refine vY _ fun b _ hb=> ?_;simp only [Bool.not_eq_true',List.contains_eq_mem,decide_eq_false_iff_not]at hb ⊢
 exact fun h2=>hb (h _ h2)
theorem K4 (hi:InB bl d) (hd:d∉M):unmet bl (M++ [d])<unmet bl M:=by
 obtain⟨b,hb,rfl⟩:=hi;refine vZ _ (fun x _ hx=> ?_) ⟨b,hb,wu,by simp [hd]⟩;simp only [Bool.not_eq_true',List.contains_eq_mem,decide_eq_false_iff_not,List.mem_append,not_or]at hx ⊢
 exact hx.1
theorem V4 (bl:List BlobP):unmet bl []<=bl.length:=List.length_filter_le _ _
structure SeekR (bl:List BlobP) (M ds M':List ae):Prop where
 sub:∀x∈M,x∈M'
 hit:∀d∈ds,InB bl d->d∈M'
 come:∀x∈M',x∈M\/Rch bl ds x
 clo:∀x∈M',x∉M->∀y∈kids bl x,InB bl y->y∈M'
 len:M'.length+unmet bl M'<=M.length+unmet bl M
theorem SeekR.nil (bl:List BlobP) (M:List ae):SeekR bl M [] M:=⟨fun _ h=>h,fun _ h=>absurd h wu,fun _ h=> .inl h,fun _ h h2=>absurd h h2,Nat.le_refl _⟩
theorem SeekR.none_ (h:¬InB bl d):SeekR bl M [d] M :=
 ⟨fun _ h=>h,fun x h1 h2=>absurd h2 (by rw [List.mem_singleton.1 h1];exact h),fun _ h=> .inl h,fun _ h h2=>absurd h h2,Nat.le_refl _⟩
theorem SeekR.met (h:d∈M):SeekR bl M [d] M :=
 ⟨fun _ h=>h,fun x h1 _=>by rw [List.mem_singleton.1 h1];exact h,fun _ h=> .inl h,fun _ h h2=>absurd h h2,Nat.le_refl _⟩
theorem SeekR.snoc {M1 M2:List ae} (h1:SeekR bl M ds M1) (h2:SeekR bl M1 [d] M2):SeekR bl M (ds++ [d]) M2:=by
 refine⟨fun x h=>h2.sub x (h1.sub x h),fun x h hi=> ?_,fun x h=> ?_,fun x h hn y hy hi=> ?_,Nat.le_trans h2.len h1.len⟩
 ·rcases List.mem_append.1 h with h | h
  ·exact h2.sub x (h1.hit x h hi)
  ·exact h2.hit x h hi
 ·rcases h2.come x h with h3 | h3
  ·rcases h1.come x h3 with h4 | h4
   ·exact .inl h4
   ·exact .inr (h4.mono fun y hy hi=> .root (by simp [hy]) hi)
  ·exact .inr (h3.mono fun y hy hi=> .root (by simp [List.mem_singleton.1 hy]) hi)
 ·by_cases h3:x∈M1
  ·exact h2.sub y (h1.clo x h3 hn y hy hi)
  ·exact h2.clo x h h3 y hy hi
theorem SeekR.into (hi:InB bl d) (hd:d∉M) (h:SeekR bl (M++ [d]) (kids bl d) M'):SeekR bl M [d] M':=by
 have hroot:Rch bl [d] d:= .root wu hi;have hdm:d∈M':=h.sub d wu;have hl:=K4 hi hd;refine⟨fun x hx=>h.sub x (by simp [hx]),fun x hx _=>by rw [List.mem_singleton.1 hx];exact hdm,fun x hx=> ?_,fun x hx hn y hy hiy=> ?_,by have:=h.len;rw [List.length_append]at this;simp only [List.length_cons,List.length_nil]at this;omega⟩
 ·rcases h.come x hx with h1 | h1
  ·rcases List.mem_append.1 h1 with h1 | h1
   ·exact .inl h1
   ·exact .inr (by rw [List.mem_singleton.1 h1];exact hroot)
  ·exact .inr (h1.mono fun y hy hiy=> .step hroot hy hiy)
 ·by_cases hxd:x=d
  ·subst hxd;exact h.hit y hy hiy
  ·exact h.clo x hx (by simp [hn,hxd]) y hy hiy
theorem SeekR.all (h:SeekR bl [] ds M') (x:ae):x∈M'↔Rch bl ds x:=by
 constructor
 ·intro hx;rcases h.come x hx with h1 | h1
  ·cases h1
  ·exact h1
 ·intro hx
  induction hx with
  | root h1 h2=>exact h.hit _ h1 h2
  | step h1 h2 h3 ih=>exact h.clo _ ih wu _ h2 h3
open Go.Maps
def tt:DataW Unit:= .lit (.bool true)
def yo (w:World) (b:Nat) (M:List ae):Prop:=w.ownsMap zZZ 9 (plainElem zZZ 4) b M.length (setOf tt (M.map Lit.string))
theorem z3j:Keyed zZZ 9:=string_keyed underlying9
theorem Xh (d:ae) (hd:d.length<=maxLen):keyOf zZZ 9 (.string ⟨d.toArray⟩)=aD (.string d):=by
 simp [keyOf,underlying9,mapKey,ByteArray.size,hd]
theorem vv (M:List ae):∀x∈M.map Lit.string,WideAt.IsKeyLit x:=by
 intro x hx;obtain⟨s,_,rfl⟩:=List.mem_map.1 hx;trivial
theorem K0 (a b:ae):(Lit.string a).sameKey (.string b)=decide (a=b):=by
 by_cases h:a=b
 ·subst h;simp [Lit.sameKey]
 ·simp [Lit.sameKey,h]
theorem JV (M:List ae) (d:ae):has (setOf tt (M.map Lit.string)) (.string d)=decide (d∈M):=by
 rw [has_setOf _ _ _ (vv M),List.any_map];by_cases h:d∈M
 ·rw [decide_eq_true h,List.any_eq_true];exact⟨d,h,by simp [K0]⟩
 ·rw [decide_eq_false h,List.any_eq_false];intro x hx;simp only [Function.comp_def,K0,decide_eq_true_eq];rintro rfl;exact h hx
theorem Z2 (d:ae) (z:DataW Unit):∀(n:Nat) (M:List ae),M.length=n->(setOf tt (M.map Lit.string)).atKey (.string d) z=if d∈M then tt else z
 | 0,M,h=>by
  obtain rfl:=List.eq_nil_of_length_eq_zero h
  rfl
 | n+1,M,h=>by
  obtain⟨M0,x,rfl⟩:∃M0 x,M=M0++ [x]:=⟨M.dropLast,M.getLast (by intro e;simp [e]at h),(List.dropLast_concat_getLast _).symm⟩
  have h0:M0.length=n:=by simpa using h
  rw [List.map_append,List.map_cons,List.map_nil,setOf_snoc]
  by_cases hx:d=x
  ·subst hx
   rw [atKey_put_same (tidy_setOf _ _ (vv M0)).isMap (show WideAt.IsKeyLit (.string d) from trivial),if_pos wu]
  ·rw [atKey_put_other (by intro e;injection e with e;exact hx e),Z2 d z n M0 h0]
   by_cases hm:d∈M0
   ·rw [if_pos hm,if_pos (by simp [hm])]
   ·rw [if_neg hm,if_neg (by simp [hm,hx])]
theorem UT (x:Bool):plainElem (H:=Unit) zZZ 4 (.bool x)=aD (.lit (.bool x), []):=plainElem_bool underlying4 x
theorem uU {y:Bool} {ps:List MemPlace} (h:plainElem (H:=Unit) zZZ 4 v=aD (.lit (.bool y),ps)):v= .bool y:=by
 unfold plainElem at h;cases v<;>simp [underlying4]at h
 all_goals first | (obtain⟨rfl,_⟩:=h;rfl) | simp_all
theorem yo.look (h:yo w b M) (d:ae) (hd:d.length<=maxLen) :
  (Instr.lookup 136 (.map (aD b)) (.string ⟨d.toArray⟩) false).run zZZ w= .ok (.bool (decide (d∈M))) w:=by
 obtain⟨v,ps,hrun,hv⟩:=World.ownsMap.lookup h z3j underlying136 (z:= .bool false) ww (UT false) (Xh d hd);rw [Z2 d _ _ M rfl]at hv;rw [hrun];by_cases hm:d∈M
 ·rw [if_pos hm]at hv;rw [decide_eq_true hm,uU hv]
 ·rw [if_neg hm]at hv;rw [decide_eq_false hm,uU hv]
theorem yo.put (h:yo w b M) (d:ae) (hd:d.length<=maxLen) (hn:M.length<maxLen) :
  ∃w',(Instr.mapUpdate 136 (.map (aD b)) (.string ⟨d.toArray⟩) (.bool true)).run zZZ w= .ok () w'/\yo w' b (M++ [d])/\w.grownBy w' (aD b):=by
 obtain⟨w',hrun,h1,h2⟩:=World.ownsMap.update h z3j underlying136 hn (Xh d hd) (UT true);refine⟨w',hrun,?_,h2⟩;unfold yo;rw [List.map_append,List.map_cons,List.map_nil,setOf_snoc,List.length_append];exact h1
theorem yo.made (w:World):yo (w.alloc (.map #[] 0)) w.heap.size []:=World.ownsMap_made w _ _ _
theorem yo.lt (h:yo w b M):b<w.heap.size:=World.ownsMap.lt h
theorem yo.kept {row:Option Nat} (h:yo w b M) (hg:w.grownBy w' row) (hne:aD b≠row):yo w' b M:=World.ownsMap.kept h hg hne
theorem yo.below (h:yo w b M) (hb:Below w.heap.size w w'):yo w' b M:=h.kept ⟨hb.os,hb.tape,hb.output,hb.size,fun k hk _=>hb.block k hk⟩ (row:=none) wu
theorem Xi {ss:List ae} (hs:yo w b M) (h:ss.Perm (strKeys (setOf tt (M.map Lit.string)))):StrL (ss.mergeSort leB) (fun x=>x∈M):=by
 obtain⟨es,he,hp⟩:=tidy_setOf tt (M.map Lit.string) (vv M);obtain⟨es',he',hk'⟩:=World.ownsMap.keysOf hs;have e1:es=es':=by rw [he]at he';injection he'
 subst e1;have hk:∀p∈es,∃x,p.1= .string x:=fun p hp'=>by
  obtain⟨v,hv⟩:=hk' p hp';obtain⟨x,_,e,_⟩:=Maps.keyOf_str underlying9 hv;exact⟨x,e⟩
 have h1:=perm_strKeys hp hk (Zq M) (fun x=>by rw [xJ,<-he,JV];simp);rw [he]at h;have h2:=h.trans h1.symm;have h3:=(List.mergeSort_perm ss leB).trans h2;have tr:∀a b c:ae,leB a b=true->leB b c=true->leB a c=true:=fun a b c h1 h2=>by simp only [leB,decide_eq_true_eq] at *;exact List.le_trans h1 h2
 have to:∀a b:ae,(leB a b||leB b a)=true:=fun a b=>by simp only [leB,Bool.or_eq_true,decide_eq_true_eq];exact List.le_total a b
 exact⟨h3.nodup_iff.2 (Zq M),List.pairwise_mergeSort tr to ss,fun x=>by rw [h3.mem_iff,xJ]⟩
open Go.Sort Go.Shelf
theorem z0f (m:Nat):AnyZ.SortsIn zZZ Tryz.sorted76_ren Fence.wide m :=
 ⟨fun blk off cap ss W hH hblk hsz=>callsIn_wide.2 (AnyM.slices_Sort_string Tryz.sort130 blk off cap ss W hH hblk hsz),
  fun p cap W=>callsIn_wide.2 (AnyM.slices_Sort_string_none Tryz.sort130 p cap W)⟩
theorem Yj (b:Nat) (W:World):Calls zZZ 77 #[.map (aD b)] W fun e w'=>e= .returned (.func (.func 131) #[] #[.pointer (aD ⟨W.heap.size,0,none⟩)])/\w'=W.alloc (aB #[.map (aD b)] 136) :=
 callsIn_wide.1 (AnyZ.keys_in Tryz.keys77 Fence.wide 5 trivial rfl (aD b) W)
theorem jX (b:Nat) (M:List ae) (w:World) (hs:yo w b M) (hmax:M.length<=1000000) :
  Calls zZZ 76 #[.func (.func 131) #[] #[.pointer (aD ⟨w.heap.size,0,none⟩)]] (w.alloc (aB #[.map (aD b)] 136)) fun e w'=>∃v L,e= .returned v/\StrL L (fun x=>x∈M)/\L.length<=M.length /\
   w'.ownsRow (w.alloc (aB #[.map (aD b)] 136)).heap.size 9 1 v L.length (strs L)/\Below (w.alloc (aB #[.map (aD b)] 136)).heap.size (w.alloc (aB #[.map (aD b)] 136)) w':=by
 have hown:=hs;unfold yo at hown;have hbl:=World.ownsMap.lt hown;have hsz:=World.ownsMap.size_le hown;have hseq:SeqGives Fence.wide 2 zZZ 131 #[.pointer (aD ⟨w.heap.size,0,none⟩)] encStr (fun ss=>ss.Perm (strKeys (setOf tt (M.map Lit.string)))) (Maps.size (setOf tt (M.map Lit.string))) (w.alloc (aB #[.map (aD b)] 136)) :=
  AnyZ.keys_gives (ρ:=Tryz.keys77_ren) { Tryz.keys77 with } Fence.wide _ trivial rfl wm w.heap.size b M.length _ _ wu wu (by
   obtain⟨es,aH,hb,Ft,hs,hD⟩:=hown;exact⟨es,aH,(Below.heap_alloc _ _ b hbl).trans hb,Ft,hs,hD⟩)
 have h:=AnyZ.sorted_in Tryz.sorted76 Fence.wide 5 trivial trivial trivial trivial rfl wm (z0f _) (enters_of func130 wo rfl) 131 #[.pointer (aD ⟨w.heap.size,0,none⟩)] trivial (enters_of func131 wo rfl) _ _ (by unfold maxLen;omega) wm _ hseq;refine(callsIn_wide.1 h).mono ?_;rintro e w' ⟨v,ss,rfl,hp,hrow,_,hb⟩;have hL:=Xi hs hp;have hlen:(ss.mergeSort leB).length=ss.length:=List.length_mergeSort ss;refine⟨v,ss.mergeSort leB,rfl,hL,?_,?_,hb⟩
 ·rw [hlen,hp.length_eq];obtain⟨es,he,_⟩:=tidy_setOf tt (M.map Lit.string) (vv M);rw [he]at hsz ⊢
  show(es.map _).length<=_;rw [List.length_map];exact hsz
 ·rw [hlen];exact hrow
theorem Xj (h:bl.findIdx? (fun b=>b.dig==d)=aD i) (hi:i<bl.length):kids bl d=(ko bl[i].data).1.map (·.dig):=by
 unfold kids;rw [h];dsimp only;rw [List.getElem?_eq_getElem hi]
theorem vt (x:List PartP):dcs x=strs (x.map (·.dig)):=by simp [dcs,strs]
theorem Jw (gs b c:Nat) (A:af) (bl:List BlobP) (w0:World) (hg:w0.heap.size<=gs) (hbs:w0.heap.size<=b) (hne:gs≠b) (hl:bl.length<=1000) (hcap:bl.length<=c) (hcm:c<=maxLen) (hdig:∀x∈bl,x.dig.length<=1000) (hrd:Rw BlobS w0 A bl) :
  ∀(m:Nat) (M:List ae) (d:ae) (w:World),unmet bl M<m->M.length+unmet bl M<=bl.length->Below w0.heap.size w0 w->Arr w gs 160 [ax A bl.length c,.map (aD b)]->yo w b M ->
   Calls zZZ 95 #[.pointer (aD ⟨gs,0,none⟩),.string ⟨d.toArray⟩] w fun e w'=>e= .returned (.tuple #[])/\∃M',SeekR bl M [d] M'/\yo w' b M'/\w.grownBy w' (aD b):=by
 intro m
 induction m with
 | zero=>intro M d w h;exact absurd h wm
 | succ m ih =>
  intro M d w hun hlen hb0 hbox hset;have HF:=km A c bl d w wm (hrd.below hb0);have a0:=hbox.c0;have HB0:=sqH hb0;have hs0:=hb0.size;cases hf:bl.findIdx? (fun x=>x.dig==d) with
  | none =>
   rw [hf]at HF;obtain⟨HFF,HR,HST,HIH⟩:=sqJ4 HF (SeekR.none_ (bl:=bl) (M:=M) (d:=d) (by rw [jA,hf];simp)) hset ih;clear HF hf hset ih;go_enter func95,ntmps95;go_wp2_with fail;refine wW HFF.o fun w2 hb2=>?_;dsimp only;unfold xf;dsimp only;go_wp2_with fail
   ((try simp only [Exit.inBlock,Exit.then]);first | (refine bodyPost_ret (results_none rfl _ _ _) rfl ?_) | (refine bodyPost_end (results_none rfl _ _ _) rfl ?_))
   exact⟨rfl,M,HR.o,HST.o.below hb2,zY hb2 _⟩
  | some i =>
   rw [hf]at HF;have HFF:=sqH HF;have hi:i<bl.length:=(List.findIdx?_eq_some_iff_getElem.1 hf).1;have hdi:bl[i].dig=d:=by simpa using (List.findIdx?_eq_some_iff_getElem.1 hf).2.1
   have hin:InB bl d:=⟨bl[i],List.getElem_mem hi,hdi⟩
   have hdl:d.length<=maxLen:=by have:=hdig _ (List.getElem_mem hi);rw [hdi]at this;unfold maxLen;omega
   obtain⟨HKD,HDL,HIN⟩:=sqJ3 (Xj hf hi) hdl hin;have hi0:=wY i
   have hi1:(i:Int)<(bl.length:Int):=wm;have HIH:=sqH ih;have HI:=sqH hi;clear HF hf hdi hin hdl ih;by_cases hm:d∈M
   ·have HR:=sqH (SeekR.met (bl:=bl) hm);have hlk:=fun (w2:World) (h:yo w2 b M)=>h.look d HDL.o;rw [decide_eq_true hm]at hlk;have HLK:=sqH hlk;have HST:=sqH hset;clear hm hlk hset;go_enter func95,ntmps95;go_wp2_with fail;refine wW HFF.o fun w2 hb2=>?_;dsimp only;unfold xf;dsimp only;have hset2:=HST.o.below hb2;have hrun:=HLK.o w2 hset2;have a1:=(hbox.below hb2).c1;go_wp2_with fail
    ((try simp only [Exit.inBlock,Exit.then]);first | (refine bodyPost_ret (results_none rfl _ _ _) rfl ?_) | (refine bodyPost_end (results_none rfl _ _ _) rfl ?_))
    exact⟨rfl,M,HR.o,hset2,zY hb2 _⟩
   ·have HMU:=sqH (K4 HIN.o hm);have hlk:=fun (w2:World) (h:yo w2 b M)=>h.look d HDL.o;rw [decide_eq_false hm]at hlk;obtain⟨HLK,HST,HNM⟩:=sqJ3 hlk hset hm;have hMn:M.length<maxLen:=by unfold maxLen;omega
    clear hm hlk hset;go_enter func95,ntmps95;go_wp2_with fail;refine wW HFF.o fun w2 hb2=>?_;dsimp only;unfold xf;dsimp only;have hset2:=HST.o.below hb2;have hrun:=HLK.o w2 hset2;have hbox2:=hbox.below hb2;have a1:=hbox2.c1;obtain⟨w3,hput,hset3,hg3⟩:=hset2.put d HDL.o hMn;have hbox3:=hbox2.grown hg3 (fun e=>hne (by injection e with e;exact e.symm));have a2:=hbox3.c0;have hb03:=(hb0.trans (hb2.mono hs0)).grown hg3 (by have:=hb2.size;omega) (fun k hk=>by cases hk;exact hbs);obtain⟨bq,oq,B,cq,hA,hbq,d0,d1,d2,d3,hs⟩:=(hrd.below hb03).blob_at i hi;have HPT:=sqH (vJ ⟨bl[i].dig.toArray⟩ B bl[i].data.length cq bl[i].data (bl[i].aN:Int) bl[i].mark w3 rfl hs.cap hs.max hs.rd);have hx8:=yB bl[i].data;have hG03:=(zY hb2 (row:=aD b)).trans hg3;subst hA;have HHS:=sqH hrd;clear hs hset2 hg3 hbox hbox2 a0 hrd;obtain⟨ks,hks⟩:∃ks,kids bl d=ks:=⟨_,rfl⟩
    obtain⟨xs,hxs⟩:∃xs,(ko bl[i].data).1=xs:=⟨_,rfl⟩
    have hkx:xs.map (·.dig)=ks:=by rw [<-hks,<-hxs];exact HKD.o.symm
    have hkl:xs.length=ks.length:=by rw [<-hkx,List.length_map]
    rw [hxs,vt,hkx,hkl]at HPT;rw [hxs,hkl]at hx8;have HKS:=sqH hks;clear hks hkx hkl hxs HKD;go_wp2_with fail;refine HPT.o.mono ?_;rintro e_ w4 ⟨v4,rfl,ho4,hb4⟩;dsimp only;have hset4:=hset3.below hb4;have hbox4:=hbox3.below hb4;have hb04:=wh hb03 hb4;have hG04:=hG03.trans (zY hb4 (row:=aD b));obtain⟨A4,c4,rfl,hc4,hr4⟩:=Rd.of_own' ho4;have hA4:∀bb off,A4=aD ⟨bb,off,none⟩->0<ks.length->bb≠b:=fun bb off e h0=>by
     have h5:=(ho4.lt bb (by rw [e];rfl)).1;have:=hset3.lt;omega
    have hks8:(ks.length:Int)<=9223372036854775807:=wm;clear ho4 hset3 hbox3 hb03 hb4 hG03 d0 d1 d2 d3 a1 a2 hrun hput;go_wp2_with fail;go_loopg [41] ks.length (fun gn i wr=>∃(j:Nat) (M':List ae),gn=ks.length - j/\i= ay az j/\j<=ks.length/\SeekR bl (M++ [d]) (ks.take j) M'/\yo wr b M'/\w4.grownBy wr (aD b))
    case atStart=>exact⟨0,M++ [d],rfl,rfl,wm,by rw [List.take_zero];exact SeekR.nil _ _,hset4,World.grownBy.refl _ _⟩
    case round =>
     obtain⟨j,M',hgj,rfl,hj,hR,hsetr,hgr⟩:=hrel;have HGJ:=sqH hgj;have HRR:=sqH hR;clear hgj hR;by_cases hlt:j<ks.length
     rotate_left
     ·obtain rfl:j=ks.length:=by omega
      have hlb:decide (ks.length<ks.length)=false:=wu;have hfin:=HRR.o;rw [List.take_length]at hfin;rw [<-HKS.o]at hfin;have HFN:=sqH (SeekR.into HIN.o HNM.o hfin);clear hfin;go_wp2_with fail
      ((try simp only [Exit.inBlock,Exit.then]);first | (refine bodyPost_ret (results_none rfl _ _ _) rfl ?_) | (refine bodyPost_end (results_none rfl _ _ _) rfl ?_))
      exact⟨rfl,M',HFN.o,hsetr,hG04.trans hgr⟩
     have hlb:decide (j<ks.length)=true:=decide_eq_true hlt;have hj0:=wY j
     have hj1:(j:Int)<(ks.length:Int):=wm;obtain⟨bb,off,hAb,_,hcell⟩:=(hr4.far hgr hA4).2 wm;subst hAb;have e0:=hcell j _ (yh ks j hlt);have hboxr:=hbox4.grown hgr (fun e=>hne (by injection e with e;exact e.symm));have hb0r:=hb04.grown hgr hb04.size (fun k hk=>by cases hk;exact hbs);have hun1:=ja (bl:=bl) HRR.o.sub;have hln1:=HRR.o.len;rw [List.length_append]at hln1;simp only [List.length_cons,List.length_nil]at hln1;have hmu:=HMU.o;have HCL:=sqH (HIH.o M' ks[j] wr wm wm hb0r hboxr hsetr);have HTK:=sqH (show ks.take (j+1)=ks.take j++ [ks[j]] from List.take_succ_eq_append_getElem hlt);generalize ks[j]=kd at *
     clear hcell hun1 hln1 hmu hb0r hboxr;go_wp2_with fail;refine HCL.o.mono ?_;rintro e_ w6 ⟨rfl,M2,hR2,hset6,hg6⟩;dsimp only;have HR2:=sqH hR2;clear hR2 e0;go_wp2_with fail;go_roundg (ks.length - (j+1))
     case measure=>exact wX HGJ
     case rel=>exact⟨j+1,M2,rfl,by go_num,wm,by rw [HTK.o];exact HRR.o.snoc HR2.o,hset6,hgr.trans hg6⟩
theorem ZO (A D:af) (c dc:Nat) (bl:List BlobP) (ds:List ae) (w:World) (hl:bl.length<=1000) (hcap:bl.length<=c) (hcm:c<=maxLen) (hdig:∀x∈bl,x.dig.length<=1000) (hrd:Rw BlobS w A bl) (hdn:ds.length<=1000000) (hrd2:Rd w 1 D ds.length (strs ds)) :
  Calls zZZ 41 #[ax A bl.length c,ax D ds.length dc] w fun e w'=>∃v L,e= .returned v/\StrL L (Rch bl ds)/\L.length<=bl.length/\w'.ownsRow w.heap.size 9 1 v L.length (strs L)/\Below w.heap.size w w':=by
 obtain⟨b,hb⟩:=wV w.heap.size
 obtain⟨gs,hgs⟩:=wV (w.heap.size+1)
 have hm0:=yo.made w;have hm1:yo ((w.alloc (.map #[] 0)).alloc (aB #[ax A bl.length c,.map (aD w.heap.size)] 160)) w.heap.size []:=World.ownsMap.alloc hm0 _;have hx1:Arr ((w.alloc (.map #[] 0)).alloc (aB #[ax A bl.length c,.map (aD w.heap.size)] 160)) (w.alloc (.map #[] 0)).heap.size 160 [ax A bl.length c,.map (aD w.heap.size)]:=Arr.new _ _ _;rw [World.size_alloc,<-hgs,<-hb]at hx1;rw [<-hb]at hm1;have hb1:=(wj w (.map #[] 0))
 have hb2:=hb1.alloc hb1.size (aB #[ax A bl.length c,.map (aD b)] 160);have HSK:=sqH (Jw gs b c A bl w wm wm wm hl hcap hcm hdig hrd);have HB:=sqH hb;have hHb:w.heap.size<=b:=wm;have hgb:gs≠b:=wm;have hd63:(ds.length:Int)<=9223372036854775807:=wm;obtain⟨w1,hw1⟩:=wV ((w.alloc (.map #[] 0)).alloc (aB #[ax A bl.length c,.map (aD b)] 160))
 rw [<-hw1]at hm1 hx1 hb2;have HW1:=sqH hw1;have HGS:=sqH hgs;clear hm0 hb1 hrd hw1 hgs hb;have hmm:= @run_makeMap zZZ;go_enter func41,ntmps41;go_wp2_with fail;rw [<-HB.o,<-HW1.o];rw [show b+1=gs from by rw [HB.o,HGS.o]];clear HW1 HGS hmm;go_loopg [14] ds.length (fun gn i wr=>∃(j:Nat) (M':List ae),gn=ds.length - j/\i= ay az j/\j<=ds.length/\SeekR bl [] (ds.take j) M'/\yo wr b M'/\w1.grownBy wr (aD b))
 case atStart=>exact⟨0, [],rfl,rfl,wm,by rw [List.take_zero];exact SeekR.nil _ _,hm1,World.grownBy.refl _ _⟩
 case round =>
  obtain⟨j,M',hgj,rfl,hj,hR,hsetr,hgr⟩:=hrel;have HGJ:=sqH hgj;have HRR:=sqH hR;have hboxr:=hx1.grown hgr (fun e=>hgb (by injection e with e;exact e.symm));have hb0r:=hb2.grown hgr hb2.size (fun k hk=>by cases hk;exact hHb);have hln1:=HRR.o.len;have hun0:=V4 bl;have hun1:=ja (bl:=bl) (M:= []) (M':=M') (fun x h=>nomatch h);simp only [List.length_nil,Nat.zero_add]at hln1;clear hgj hR;by_cases hlt:j<ds.length
  rotate_left
  ·obtain rfl:j=ds.length:=by omega
   have hlb:decide (ds.length<ds.length)=false:=wu;have hfin:=HRR.o;rw [List.take_length]at hfin;have HFN:=sqH hfin;have a1:=hboxr.c1;have hMl:M'.length<=bl.length:=wm;clear hfin hln1 hun0 hun1;go_wp2_with fail;refine(Yj b wr).mono ?_;rintro e_ wk ⟨rfl,rfl⟩;dsimp only;have hbk:=wj wr (aB #[.map (aD b)] 136);have HSO:=sqH (jX b M' wr hsetr wm);go_wp2_with fail;refine HSO.o.mono ?_;rintro e_ wz ⟨vz,L,rfl,hL,hLl,hoz,hbz⟩;dsimp only;have hbkz:=wh hbk hbz;have hoz':=zb hoz hbk.size;go_wp2_with fail;go_ret;refine⟨vz,L,rfl,⟨hL.nd,hL.le,fun x=>by rw [hL.mem,HFN.o.all]⟩,wm,zb hoz' hb0r.size,wh hb0r hbkz⟩
  have hlb:decide (j<ds.length)=true:=decide_eq_true hlt;have hj0:=wY j
  have hj1:(j:Int)<(ds.length:Int):=wm;obtain⟨bb,off,hAb,_,hcell⟩:=(hrd2.below hb0r).2 wm;subst hAb;have e0:=hcell j _ (yh ds j hlt);have HCL:=sqH (HSK.o (bl.length+1) M' ds[j] wr wm wm hb0r hboxr hsetr);have HTK:=sqH (show ds.take (j+1)=ds.take j++ [ds[j]] from List.take_succ_eq_append_getElem hlt);generalize ds[j]=kd at *
  clear hcell hun1 hln1 hun0 hb0r hboxr;go_wp2_with fail;refine HCL.o.mono ?_;rintro e_ w6 ⟨rfl,M2,hR2,hset6,hg6⟩;dsimp only;have HR2:=sqH hR2;clear hR2 e0;go_wp2_with fail;go_roundg (ds.length - (j+1))
  case measure=>exact wX HGJ
  case rel=>exact⟨j+1,M2,rfl,by go_num,wm,by rw [HTK.o];exact HRR.o.snoc HR2.o,hset6,hgr.trans hg6⟩
def uj (es:List EntP):List ae:=es.flatMap (fun x=>x.aM.map (·.dig))
def ut (bl:List BlobP):List ae:=(bl.filter (fun b=>decide (0<b.aN))).map (·.dig)
def rts (s:StoP):List ae:=uj s.aG++ut s.aF
theorem XP (es:List EntP) (k:Nat) (h:k<es.length):uj (es.take (k+1))=uj (es.take k)++es[k].aM.map (·.dig):=by
 unfold uj;rw [List.take_succ_eq_append_getElem h,List.flatMap_append];simp
theorem XO (bl:List BlobP) (k:Nat) (h:k<bl.length):ut (bl.take (k+1))=ut (bl.take k)++(if 0<bl[k].aN then [bl[k].dig] else []):=by
 unfold ut;rw [List.take_succ_eq_append_getElem h,List.filter_append,List.map_append]
 congr 1
 by_cases hp:0<bl[k].aN
 ·rw [if_pos hp,List.filter_cons_of_pos (by simpa using hp)];rfl
 ·rw [if_neg hp,List.filter_cons_of_neg (by simpa using hp)];rfl
theorem vA (es:List EntP) (h:∀x∈es,x.aM.length<=8):(uj es).length<=8*es.length:=by
 induction es with
 | nil=>simp [uj]
 | cons x es ih =>
  have h1:=h x wu;have h2:=ih (fun y hy=>h y (by simp [hy]));unfold uj at h2 ⊢
  rw [List.flatMap_cons,List.length_append,List.length_map,List.length_cons];omega
theorem jG (bl:List BlobP):(ut bl).length<=bl.length:=by
 unfold ut;rw [List.length_map];exact List.length_filter_le _ _
structure RtsOk (s:StoP):Prop where
 e:s.aG.length<=24
 p:∀x∈s.aG,x.aM.length<=8
 d:∀x∈s.aG,∀q∈x.aM,q.dig.length<=1000
 b:s.aF.length<=24
 g:∀x∈s.aF,x.dig.length<=1000
theorem RtsOk.len (h:RtsOk s):(rts s).length<=216:=by
 have h1:=vA s.aG h.p;have h2:=jG s.aF;have:=h.e;have:=h.b;unfold rts;rw [List.length_append];omega
theorem GoodS.rts (h:GoodS s):RtsOk s :=
 ⟨by have:=h.e.len;omega,fun x hx=>(zk (h.e.one x hx).2.1).1,fun x hx q hq=>by have:=qJ ((zk (h.e.one x hx).2.1).2 q hq).2.1;omega,h.b.len,fun x hx=>by rw [(h.b.one x hx).1];have:=qJ (zn x.data);omega⟩
theorem xb (A B:af) (c d:Nat) (s:StoP) (R C:Int) (w:World) (hs:RtsOk s) (hrd:RdSt w A c B d s) :
  Calls zZZ 35 #[.agg #[ax A s.aF.length c,ax B s.aG.length d,ay az R,ay az C]] w fun e w'=>∃v L,e= .returned v/\StrL L (fun x=>x∈rts s)/\L.length<=216/\w'.ownsRow w.heap.size 9 1 v L.length (strs L)/\Below w.heap.size w w':=by
 have hrl:=hs.len;have hel:=hs.e;have hbl:=hs.b;have HS:=sqH hs;have hx0:Arr (w.alloc (aB #[ax A s.aF.length c,ax B s.aG.length d,ay az R,ay az C] 34)) w.heap.size 34 [ax A s.aF.length c,ax B s.aG.length d,ay az R,ay az C]:=Arr.new w 34 _;have hb0:=wj w (aB #[ax A s.aF.length c,ax B s.aG.length d,ay az R,ay az C] 34);have hx1:=hx0.alloc (.map #[] 0);have hm1:=yo.made (w.alloc (aB #[ax A s.aF.length c,ax B s.aG.length d,ay az R,ay az C] 34));have hb1:=hb0.alloc hb0.size (.map #[] 0);rw [World.size_alloc]at hm1;obtain⟨b,hb⟩:=wV (w.heap.size+1)
 obtain⟨gS,hgS⟩:=wV w.heap.size
 rw [<-hgS]at hx1;rw [<-hb]at hm1;have hgb:gS≠b:=wm;have hwb:w.heap.size<=b:=wm;have HB:=sqH hb;have HG:=sqH hgS;obtain⟨w1,hw1⟩:=wV ((w.alloc (aB #[ax A s.aF.length c,ax B s.aG.length d,ay az R,ay az C] 34)).alloc (.map #[] 0))
 have HW:=sqH hw1;rw [<-hw1]at hx1 hm1 hb1;have hmm:= @run_makeMap zZZ;have f1:=hx1.c1;have he63:(s.aG.length:Int)<=9223372036854775807:=wm;have hb63:(s.aF.length:Int)<=9223372036854775807:=wm;have f1':=f1;rw [hw1,hgS]at f1';clear hw1 hgS hb hx0 hb0 hs;go_enter func35,ntmps35;go_wp2_with fail;rw [<-HW.o]
 first | rw [<-HB.o] | skip
 first | rw [<-HG.o] | skip
 clear f1' hmm f1;go_loopg [14] s.aG.length (fun gn i wr=>∃k:Nat,gn=s.aG.length - k/\i= ay az k/\k<=s.aG.length/\yo wr b (uj (s.aG.take k))/\w1.grownBy wr (aD b))
 case atStart=>exact⟨0,rfl,rfl,wm,hm1,World.grownBy.refl _ _⟩
 case round =>
  obtain⟨k,hgk,rfl,hk,hset,hgr⟩:=hrel;have HGK:=sqH hgk;clear hgk;by_cases hlt:k<s.aG.length
  rotate_left
  ·obtain rfl:k=s.aG.length:=by omega
   have hlb:decide (s.aG.length<s.aG.length)=false:=wu;have f0:=(hx1.grown hgr (fun e=>hgb (by injection e with e;exact e.symm))).c0;rw [List.take_length]at hset;have HSET:=sqH hset;clear hset;go_wp2_with fail;clear f0;generalize hwq:wr=wq at *
   clear hwq;go_loopg [33] s.aF.length (fun gn i wr=>∃k:Nat,gn=s.aF.length - k/\i= ay az k/\k<=s.aF.length/\yo wr b (uj s.aG++ut (s.aF.take k))/\w1.grownBy wr (aD b))
   case atStart=>exact⟨0,rfl,rfl,wm,by rw [List.take_zero];simpa [ut] using HSET.o,hgr⟩
   case round =>
    obtain⟨k,hgk,rfl,hk,hset,hgr⟩:=hrel;have HGK:=sqH hgk;have hb0r:=hb1.grown hgr hb1.size (fun k hk=>by cases hk;exact hwb);clear hgk;by_cases hlt:k<s.aF.length
    rotate_left
    ·obtain rfl:k=s.aF.length:=by omega
     have hlb:decide (s.aF.length<s.aF.length)=false:=wu;rw [List.take_length]at hset;have hset':yo wr b (rts s):=hset;clear hset;go_wp2_with fail;refine(Yj b wr).mono ?_;rintro e_ wk ⟨rfl,rfl⟩;dsimp only;have hbk:=wj wr (aB #[.map (aD b)] 136);have HSO:=sqH (jX b (rts s) wr hset' wm);go_wp2_with fail;refine HSO.o.mono ?_;rintro e_ wz ⟨vz,L,rfl,hL,hLl,hoz,hbz⟩;dsimp only;have hbkz:=wh hbk hbz;have hoz':=zb hoz hbk.size;go_wp2_with fail;go_ret;refine⟨vz,L,rfl,hL,wm,zb hoz' hb0r.size,wh hb0r hbkz⟩
    have hlb:decide (k<s.aF.length)=true:=decide_eq_true hlt;have hk0:=wY k
    have hk1:(k:Int)<(s.aF.length:Int):=wm;obtain⟨bq,oq,Bq,cq,hA,hbq,d0,d1,d2,d3,hsl⟩:=(hrd.b.below hb0r).blob_at k hlt;subst hA;have HSU:=sqH (XO s.aF k hlt);have hxl:s.aF[k].dig.length<=maxLen:=by have:=HS.o.g _ (List.getElem_mem hlt);unfold maxLen;omega
    have HKL:=sqH hlt;have hLn:=vA s.aG HS.o.p;have hLm:=jG (s.aF.take k);rw [List.length_take]at hLm;have hMl:(uj s.aG++ut (s.aF.take k)).length<maxLen:=by rw [List.length_append];unfold maxLen;omega
    generalize s.aF[k]=q at *
    have hbox:Arr (wr.alloc (aB #[.string ⟨q.dig.toArray⟩,ax Bq q.data.length cq,ay az q.aN,.bool q.mark] 76)) wr.heap.size 76 [.string ⟨q.dig.toArray⟩,ax Bq q.data.length cq,ay az q.aN,.bool q.mark]:=Arr.new wr 76 _;have hgA:=hgr.trans (World.grownBy_alloc wr (aB #[.string ⟨q.dig.toArray⟩,ax Bq q.data.length cq,ay az q.aN,.bool q.mark] 76) (aD b));have hsetA:=World.ownsMap.alloc hset (aB #[.string ⟨q.dig.toArray⟩,ax Bq q.data.length cq,ay az q.aN,.bool q.mark] 76);have p2:=hbox.c2;have p0:=hbox.c0;clear hsl hset hLn hLm;by_cases hp:0<q.aN
    ·have hpb:decide ((0:Int)<(q.aN:Int))=true:=decide_eq_true wm;have hpb':decide (0<q.aN)=true:=decide_eq_true hp;obtain⟨w3,hput,hset3,hg3⟩:=yo.put hsetA q.dig hxl hMl;have hsu:=HSU.o;rw [if_pos hp]at hsu;have HSV:=sqH hsu;have HST3:=sqH hset3;clear hsetA hset3 hp hsu HSU;go_wp2_with fail;go_roundg (s.aF.length - (k+1))
     case measure=>have:=HGK.o;have:=HKL.o;omega
     case rel=>exact⟨k+1,rfl,by go_num,by have:=HKL.o;omega,by rw [HSV.o,<-List.append_assoc];exact HST3.o,hgA.trans hg3⟩
    ·have hpb:decide ((0:Int)<(q.aN:Int))=false:=decide_eq_false wm;have hpb':decide (0<q.aN)=false:=decide_eq_false hp;have hsu:=HSU.o;rw [if_neg hp,List.append_nil]at hsu;have HSV:=sqH hsu;have HST3:=sqH hsetA;clear hsetA hp hsu HSU;go_wp2_with fail;go_roundg (s.aF.length - (k+1))
     case measure=>have:=HGK.o;have:=HKL.o;omega
     case rel=>exact⟨k+1,rfl,by go_num,by have:=HKL.o;omega,by rw [HSV.o];exact HST3.o,hgA⟩
  have hlb:decide (k<s.aG.length)=true:=decide_eq_true hlt;have hk0:=wY k
  have hk1:(k:Int)<(s.aG.length:Int):=wm;have hb0r:=hb1.grown hgr hb1.size (fun k hk=>by cases hk;exact hwb);obtain⟨bq,oq,Bq,cq,hA,hbq,c0,c1,c2,c3,hsl⟩:=hrd.e.ent_at k hlt;subst hA;have d0:=((VM hb0r).1 bq _ hbq).trans c0;have d1:=((VM hb0r).1 bq _ hbq).trans c1;have d2:=((VM hb0r).1 bq _ hbq).trans c2;have d3:=((VM hb0r).1 bq _ hbq).trans c3;clear c0 c1 c2 c3;have HSU:=sqH (XP s.aG k hlt);have hp8:=HS.o.p _ (List.getElem_mem hlt);have HPD:=sqH (HS.o.d _ (List.getElem_mem hlt));have hLn:=vA (s.aG.take k) (fun x hx=>HS.o.p x (List.mem_of_mem_take hx));rw [List.length_take]at hLn;have hLn2:(uj (s.aG.take k)).length<=192:=wm;have HKL:=sqH hlt;generalize s.aG[k]=q at *
  have hbox:Arr (wr.alloc (aB #[.string ⟨q.key.toArray⟩,ax Bq q.aM.length cq,ay az q.aN,ay az q.aL] 100)) wr.heap.size 100 [.string ⟨q.key.toArray⟩,ax Bq q.aM.length cq,ay az q.aN,ay az q.aL]:=Arr.new wr 100 _;have hgA:=hgr.trans (World.grownBy_alloc wr (aB #[.string ⟨q.key.toArray⟩,ax Bq q.aM.length cq,ay az q.aN,ay az q.aL] 100) (aD b));have hsetA:yo _ b _:=World.ownsMap.alloc hset (aB #[.string ⟨q.key.toArray⟩,ax Bq q.aM.length cq,ay az q.aN,ay az q.aL] 100);have p1:=hbox.c1;have hq63:(q.aM.length:Int)<=9223372036854775807:=wm;clear hset hLn;go_wp2_with fail;clear d0 d1 d2 d3 p1;generalize (wr.alloc (aB #[.string ⟨q.key.toArray⟩,ax Bq q.aM.length cq,ay az q.aN,ay az q.aL] 100))=wA at *
  clear hbox;go_loopg [21] q.aM.length (fun gn i wr=>∃j:Nat,gn=q.aM.length - j/\i= ay az j/\j<=q.aM.length/\yo wr b (uj (s.aG.take k)++(q.aM.take j).map (·.dig))/\w1.grownBy wr (aD b))
  case atStart=>exact⟨0,rfl,rfl,wm,by rw [List.take_zero];simpa using hsetA,hgA⟩
  case round =>
   obtain⟨j,hgj,rfl,hj,hset,hgi⟩:=hrel;have HGJ:=sqH hgj;have hb0i:=hb1.grown hgi hb1.size (fun k hk=>by cases hk;exact hwb);clear hgj hsetA hgA;by_cases hlt2:j<q.aM.length
   rotate_left
   ·obtain rfl:j=q.aM.length:=by omega
    have hlb2:decide (q.aM.length<q.aM.length)=false:=wu;rw [List.take_length,<-HSU.o]at hset;have HST:=sqH hset;clear hset;go_wp2_with fail;go_roundg (s.aG.length - (k+1))
    case measure=>have:=HGK.o;have:=HKL.o;omega
    case rel=>exact⟨k+1,rfl,by go_num,by have:=HKL.o;omega,HST.o,hgi⟩
   have hlb2:decide (j<q.aM.length)=true:=decide_eq_true hlt2;have hj0:=wY j
   have hj1:(j:Int)<(q.aM.length:Int):=wm;obtain⟨bb,off,hAb,_,hcell⟩:=(hsl.below hb0i).rd.2 wm;subst hAb;have hat:=fun i (hi:i<3)=>xX q.aM j i hlt2 hi;have c0:=hcell (j*3+0) _ (hat 0 wm);have c1:=hcell (j*3+1) _ (hat 1 wm);have c2:=hcell (j*3+2) _ (hat 2 wm);have hpd:q.aM[j].dig.length<=maxLen:=by have:=HPD.o _ (List.getElem_mem hlt2);unfold maxLen;omega
   have HTK:=sqH (show(q.aM.take (j+1)).map (·.dig)=(q.aM.take j).map (·.dig)++ [q.aM[j].dig] from by rw [List.take_succ_eq_append_getElem hlt2,List.map_append];rfl);have HJL:=sqH hlt2;generalize q.aM[j]=pt at *
   obtain⟨pn,pd,psz⟩:=pt;dsimp only [yI,List.getElem?_cons_zero,List.getElem?_cons_succ]at c0 c1 c2 hpd HTK;rw [Nat.add_zero]at c0;rw [show off+(j*3+1)=off+j*3+1 by omega]at c1;rw [show off+(j*3+2)=off+j*3+2 by omega]at c2;have hMl:(uj (s.aG.take k)++(q.aM.take j).map (·.dig)).length<maxLen:=by rw [List.length_append,List.length_map,List.length_take];unfold maxLen;omega
   have hbx:Arr (wr.alloc (aB #[.string ⟨pn.toArray⟩,.string ⟨pd.toArray⟩,ay az psz] 85)) wr.heap.size 85 [.string ⟨pn.toArray⟩,.string ⟨pd.toArray⟩,ay az psz]:=Arr.new wr 85 _;have hgB:=hgi.trans (World.grownBy_alloc wr (aB #[.string ⟨pn.toArray⟩,.string ⟨pd.toArray⟩,ay az psz] 85) (aD b));have hsetB:yo _ b _:=World.ownsMap.alloc hset (aB #[.string ⟨pn.toArray⟩,.string ⟨pd.toArray⟩,ay az psz] 85);have p1:=hbx.c1;obtain⟨w3,hput,hset3,hg3⟩:=yo.put hsetB pd hpd hMl;have HST3:=sqH hset3;clear hat hcell hset hset3 hsetB;go_wp2_with fail;go_roundg (q.aM.length - (j+1))
   case measure=>have:=HGJ.o;have:=HJL.o;omega
   case rel=>exact⟨j+1,rfl,by go_num,by have:=HJL.o;omega,by rw [HTK.o,<-List.append_assoc];exact HST3.o,hgB.trans hg3⟩
theorem Ql (A B:af) (c d:Nat) (s:StoP) (R C:Int) (w:World) (hs:RtsOk s) (hrd:RdSt w A c B d s) :
  Calls zZZ 19 #[.agg #[ax A s.aF.length c,ax B s.aG.length d,ay az R,ay az C]] w fun e w'=>∃v L,e= .returned v/\StrL L (Rch s.aF (rts s))/\L.length<=s.aF.length/\w'.ownsRow w.heap.size 9 1 v L.length (strs L)/\Below w.heap.size w w':=by
 have HOK:=sqH hs;have hx0:Arr (w.alloc (aB #[ax A s.aF.length c,ax B s.aG.length d,ay az R,ay az C] 34)) w.heap.size 34 [ax A s.aF.length c,ax B s.aG.length d,ay az R,ay az C]:=Arr.new w 34 _;have hb0:=wj w (aB #[ax A s.aF.length c,ax B s.aG.length d,ay az R,ay az C] 34);have hrd1:=hrd.below hb0;clear hs hrd;go_enter func19,ntmps19;go_wp2_with fail;generalize (w.alloc (aB #[ax A s.aF.length c,ax B s.aG.length d,ay az R,ay az C] 34))=w1 at *
 obtain⟨gS,hgS⟩:=wV w.heap.size
 rw [<-hgS]at hx0 ⊢
 have HSB:=sqH (show ∀w',Below w1.heap.size w1 w'->(wD w' gS (ax A s.aF.length c) (ax B s.aG.length d) (ay az R) (ay az C)) from
  fun w' hb=>sqC4 (hx0.below hb))
 obtain⟨HRD,HB1,HgS⟩:=sqJ3 hrd1 hb0 hgS;clear hgS hx0 hrd1 hb0;refine wp_region_held_drew (S:=(fun w'=>wD w' gS (ax A s.aF.length c) (ax B s.aG.length d) (ay az R) (ay az C))) wo ?_ (fun hHeld=> ?_)
 ·exact HSB.o _ (Below.refl _ w1).drew
 have hB:=(Below.refl w1.heap.size w1).drew;generalize w1.drew=wn0 at *
 refine wM 0 ?_;refine wM 1 ?_;refine wM 2 ?_;refine wQ 3 fun K hK=>?_;go_simp;refine(xb A B c d s R C wn0 HOK.o (HRD.o.below hB)).mono ?_;rintro e5 w5 ⟨v5,L1,rfl,hL1,hl1,ho5,hb5⟩;obtain⟨A3,c3,rfl,_,_⟩:=Rd.of_own' ho5;have HL1:=sqH hL1;clear hL1;dsimp only;refine qZ hK ?_ (Below wn0.heap.size wn0) (fun W=>W.ownsRow w1.heap.size 9 1 (ax A3 L1.length c3) L1.length (strs L1)) ?_ ?_ (fun wn1 hHeld hst hnew=> ?_)
 ·(exact HSB.o _ (hB.trans (Below.mono (show Below wn0.heap.size wn0 _ from by(first | exact hb5 | exact hb6 | exact Below.refl _ _)) hB.size)))
 ·(first | exact hb5 | exact hb6 | exact Below.refl _ _)
 ·(exact zb ho5 hB.size)
 have hB:=wh hB hst;have h3:=hnew;clear hst;clear hK K
 try simp only [sqP]
 refine wQ 4 fun K hK=>?_;go_simp;refine(ZO A A3 c c3 s.aF L1 wn1 (by have:=HOK.o.b;omega) HRD.o.bc HRD.o.bm HOK.o.g (HRD.o.b.below hB) wm (Rd.of_own h3)).mono ?_;rintro e6 w6 ⟨v6,L2,rfl,hL2,hl2,ho6,hb6⟩;have HL2:=sqH hL2;clear hL2;dsimp only;refine qZ hK ?_ (Below wn1.heap.size wn1) (fun W=>W.ownsRow w1.heap.size 9 1 v6 L2.length (strs L2)) ?_ ?_ (fun wn2 hHeld hst hnew=> ?_)
 ·(exact HSB.o _ (hB.trans (Below.mono (show Below wn1.heap.size wn1 _ from by(first | exact hb5 | exact hb6 | exact Below.refl _ _)) hB.size)))
 ·(first | exact hb5 | exact hb6 | exact Below.refl _ _)
 ·(exact zb ho6 hB.size)
 have hB:=wh hB hst;have h4:=hnew;clear hst;clear hK K
 refine wM 5 ?_;refine wpAnyH_done wo ?_ _
 try dsimp only [Exit.then]
 clear hHeld;have hBz:=wh HB1.o hB;clear hB h3;have e9:=HgS.o;subst e9
 refine wH ?_;intros;go_ret;refine⟨v6,L2,rfl,⟨HL2.o.nd,HL2.o.le,fun x=> ?_⟩,hl2,zb h4 HB1.o.size,hBz⟩;rw [HL2.o.mem];exact⟨fun h=>h.mono fun y hy hi=> .root ((HL1.o.mem y).1 hy) hi,fun h=>h.mono fun y hy hi=> .root ((HL1.o.mem y).2 hy) hi⟩
theorem xl (hr:RisesBy (·.dig) bl) {b:BlobP} (hb:b∈bl):kids bl b.dig=(ko b.data).1.map (·.dig):=by
 cases hf:bl.findIdx? (fun x=>x.dig==b.dig) with
 | none =>
  have:=jA.1 ⟨b,hb,rfl⟩;rw [hf]at this;cases this
 | some i =>
  have hi:i<bl.length:=(List.findIdx?_eq_some_iff_getElem.1 hf).1;have hd:bl[i].dig=b.dig:=by simpa using (List.findIdx?_eq_some_iff_getElem.1 hf).2.1
  have e:=hr.inj (List.getElem_mem hi) hb hd;have:=Xj hf hi;rw [e]at this;exact this
def JY (bl:List BlobP) (L:List ae):List BlobP:=bl.filter (fun b=>decide (b.dig∈L))
noncomputable def cln (s:StoP):StoP:= { s with aF:=s.aF.filter (fun b=> @decide (Rch s.aF (rts s) b.dig) (Classical.propDecidable _)) }
theorem YJ {b:BlobP}:b∈(cln s).aF↔b∈s.aF/\Rch s.aF (rts s) b.dig:=by
 unfold cln;rw [List.mem_filter];exact and_congr_right fun _=> @decide_eq_true_iff _ (Classical.propDecidable _)
theorem VQ (hL:StrL L (Rch s.aF (rts s))):JY s.aF L=(cln s).aF:=by
 unfold cln JY;refine List.filter_congr fun b hb=> ?_;have:=hL.mem b.dig;by_cases h:b.dig∈L
 ·rw [decide_eq_true h];exact(@decide_eq_true _ (Classical.propDecidable _) (this.1 h)).symm
 ·rw [decide_eq_false h];exact(@decide_eq_false _ (Classical.propDecidable _) (fun h2=>h (this.2 h2))).symm
section
variable {bl bl':List BlobP} {ds ds':List ae}
theorem InB.sub {x:ae} (hs:∀b∈bl',b∈bl) (h:InB bl' x):InB bl x:=by
 obtain⟨b,hb,e⟩:=h;exact⟨b,hs b hb,e⟩
theorem vw (hr:RisesBy (·.dig) bl) (hr':RisesBy (·.dig) bl') (hs:∀b∈bl',b∈bl) {x:ae} (hx:InB bl' x):kids bl' x=kids bl x:=by
 obtain⟨b,hb,rfl⟩:=hx;rw [xl hr' hb,xl hr (hs b hb)]
theorem Rch.sub (hr:RisesBy (·.dig) bl) (hr':RisesBy (·.dig) bl') (hs:∀b∈bl',b∈bl) (hd:∀x∈ds',x∈ds) {x:ae} (h:Rch bl' ds' x):Rch bl ds x:=by
 induction h with
 | root h1 h2=>exact .root (hd _ h1) (h2.sub hs)
 | step h1 h2 h3 ih=>exact .step ih (by rw [<-vw hr hr' hs h1.inB];exact h2) (h3.sub hs)
theorem Rch.keepb (hr:RisesBy (·.dig) bl) (hr':RisesBy (·.dig) bl') (hs:∀b∈bl',b∈bl) (hd:∀x∈ds,x∈ds') (hk:∀x,Rch bl ds x->InB bl' x) {x:ae} (h:Rch bl ds x):Rch bl' ds' x:=by
 induction h with
 | root h1 h2=>exact .root (hd _ h1) (hk _ (.root h1 h2))
 | step h1 h2 h3 ih=>exact .step ih (by rw [vw hr hr' hs (hk _ h1)];exact h2) (hk _ (.step h1 h2 h3))
end
theorem Rch.dmono {ds':List ae} {x:ae} (hd:∀x∈ds,x∈ds') (h:Rch bl ds x):Rch bl ds' x:=h.mono fun y hy hb=> .root (hd y hy) hb
theorem YK (h:RisesBy (·.dig) s.aF):RisesBy (·.dig) (cln s).aF:=List.Pairwise.filter _ h
theorem JD:∀b∈(cln s).aF,b∈s.aF:=fun b hb=>(YJ.1 hb).1
theorem kY (s:StoP):(cln s).aG=s.aG:=rfl
theorem kZ (s:StoP):(cln s).aI=s.aI:=rfl
theorem vO (s:StoP):(cln s).aH=s.aH:=rfl
theorem z0a {b:BlobP} (hb:b∈s.aF) (hp:0<b.aN):b.dig∈rts s :=
 List.mem_append_right _ (List.mem_map.2 ⟨b,List.mem_filter.2 ⟨hb,decide_eq_true hp⟩,rfl⟩)
theorem QZ {x:EntP} {p:PartP} (hx:x∈s.aG) (hp:p∈x.aM):p.dig∈rts s :=
 List.mem_append_left _ (List.mem_flatMap.2 ⟨x,hx,List.mem_map.2 ⟨p,hp,rfl⟩⟩)
theorem jb (p:BlobP->Bool):∀l:List BlobP,usd (l.filter p)<=usd l
 | []=>Nat.le_refl _
 | b::l=>by
  have ih:=jb p l
  cases h:p b with
  | true=>rw [List.filter_cons_of_pos h];unfold usd at *;simp only [List.map_cons,List.sum_cons];omega
  | false=>rw [List.filter_cons_of_neg (by simp [h])];unfold usd at *;simp only [List.map_cons,List.sum_cons];omega
theorem VR (s:StoP):usd (cln s).aF<=usd s.aF:=jb _ _
theorem JC (s:StoP):(cln s).aF.length<=s.aF.length:=List.length_filter_le _ _
theorem yA (h:GoodS s):GoodS (cln s) :=
 ⟨⟨Nat.le_trans (JC s) h.b.len,fun b hb=>h.b.one b (JD b hb),YK h.b.ris⟩,h.e,h.aI,Nat.le_trans (VR s) h.used,h.aH,fun x hx=>⟨(h.ent x hx).1,fun p hp=>by
  obtain⟨b,hb,e1,e2⟩:=(h.ent x hx).2 p hp
  exact⟨b,YJ.2 ⟨hb,.root (by rw [e1];exact QZ hx hp) ⟨b,hb,rfl⟩⟩,e1,e2⟩⟩⟩
theorem Za {es:List EntP} (h:GoodS s) (hs:es.Sublist s.aG):GoodS { s with aG:=es } :=
 ⟨h.b,⟨Nat.le_trans hs.length_le h.e.len,fun x hx=>h.e.one x (hs.subset hx),List.Pairwise.sublist hs h.e.ris⟩,h.aI,h.used,h.aH,fun x hx=>h.ent x (hs.subset hx)⟩
noncomputable def uw (more:Nat):Nat->StoP->List ae->Option (StoP×List ae)
 | 0,_,_=>none
 | n+1,s,g=>if usd s.aF+more<=s.aI then aD (s,g) else
  match Zt s.aG s.aG.length with
  | none=>none
  | some i=>match s.aG[i]? with
   | none=>none
   | some x=>uw more n (cln { s with aG:=s.aG.eraseIdx i }) (g++ [x.key])
noncomputable def ya (more:Nat) (s:StoP):Option (StoP×List ae) :=
 if usd s.aF+more<=s.aI then aD (s, []) else uw more (s.aG.length+1) (cln s) []
theorem YX {g g':List ae} (h:uw more (n+1) s g=aD (t,g')) :
  (usd s.aF+more<=s.aI/\t=s/\g'=g)\/(¬usd s.aF+more<=s.aI/\∃i,∃hi:i<s.aG.length,Zt s.aG s.aG.length=aD i/\uw more n (cln { s with aG:=s.aG.eraseIdx i }) (g++ [s.aG[i].key])=aD (t,g')):=by
 unfold uw at h;by_cases hf:usd s.aF+more<=s.aI
 ·rw [if_pos hf]at h;cases h
  exact .inl ⟨hf,rfl,rfl⟩
 ·rw [if_neg hf]at h;cases ho:Zt s.aG s.aG.length with
  | none=>rw [ho]at h;cases h
  | some i =>
   have hi:=(yV s.aG _ i ho).2;rw [ho]at h;simp only [List.getElem?_eq_getElem hi]at h;exact .inr ⟨hf,i,hi,rfl,h⟩
theorem vV (l:List α) (i:Nat):∀x∈l.eraseIdx i,x∈l:=fun x hx=>List.mem_of_mem_eraseIdx hx
theorem Zd {more:Nat}:∀(n:Nat) (s t:StoP) (g g':List ae),GoodS s->uw more n s g=aD (t,g')->GoodS t/\usd t.aF+more<=t.aI/\t.aG.length+g'.length=s.aG.length+g.length/\t.aI=s.aI/\t.aH=s.aH
 | 0,s,t,g,g',hg,h=>by unfold uw at h;cases h
 | n+1,s,t,g,g',hg,h=>by
  rcases YX h with ⟨h1,rfl,rfl⟩ | ⟨h1,i,hi,ho,h2⟩
  ·exact⟨hg,h1,rfl,rfl,rfl⟩
  ·have h3:=Zd n _ t _ g' (yA (Za hg (List.eraseIdx_sublist _ _))) h2
   refine⟨h3.1,h3.2.1,?_,h3.2.2.2⟩
   have h4:=h3.2.2.1
   rw [kY]at h4
   simp only [List.length_eraseIdx_of_lt hi,List.length_append,List.length_cons,List.length_nil]at h4
   omega
theorem uR {g:List ae} (hg:GoodS s) (h:ya more s=aD (t,g)):GoodS t/\usd t.aF+more<=t.aI/\t.aG.length+g.length=s.aG.length/\t.aI=s.aI/\t.aH=s.aH:=by
 unfold ya at h;by_cases hf:usd s.aF+more<=s.aI
 ·rw [if_pos hf]at h;cases h;exact⟨hg,hf,rfl,rfl,rfl⟩
 ·rw [if_neg hf]at h;have:=Zd _ _ t [] g (yA hg) h;simpa [kY,kZ,vO] using this
theorem yv {α:Type} {p:α->Bool}:∀(l:List α) (i:Nat) (hi:i<l.length),p l[i]=false->(l.eraseIdx i).filter p=l.filter p
 | x::l,0,_,h=>by
  rw [List.eraseIdx_cons_zero,List.filter_cons_of_neg]
  simp only [List.getElem_cons_zero]at h
  simp [h]
 | x::l,i+1,hi,h=>by
  have ih:=yv l i (by simpa using hi) (by simpa using h)
  rw [List.eraseIdx_cons_succ]
  cases hx:p x with
  | true=>rw [List.filter_cons_of_pos hx,List.filter_cons_of_pos hx,ih]
  | false=>rw [List.filter_cons_of_neg (by simp [hx]),List.filter_cons_of_neg (by simp [hx]),ih]
section
variable {w:World} {base g cap:Nat} {e:TypeId} {N:aj}
theorem RwX.own4 {S:Shp α} {l:List α} (h:RwX S e w base v l N):w.ownsRow base e S.size v l.length (cls h.choose):=h.choose_spec.2.2.1
theorem RwX.arr4 {S:Shp α} {l:List α} (h:RwX S e w base (ax (aD ⟨g,0,aC⟩) l.length cap) l N) (h0:0<l.length):∃cs,Arr w g e cs/\cs.length=cap*S.size:=by
 obtain⟨g',cap',cs,e1,_,h4,_,_,h5,_⟩:=yi h.own4 h0;injection e1 with e11 _ e13;injection e11 with e11;injection e11 with e11;subst e11 e13;exact⟨cs,h4,h5⟩
theorem RwX.rwN {S:Shp α} {l:List α} (h:RwX S e w base (ax (aD ⟨g,0,aC⟩) l.length cap) l N):Rw (S.off (fun b=>b=g\/N b)) w (aD ⟨g,0,aC⟩) l:=by
 obtain⟨ps,h1,h2,h3,h4⟩:=h;exact⟨ps,h1,fun p hp=>⟨h2 p hp,fun b hb=>h4 p hp b (hb.imp (fun e=>by rw [e];rfl) id)⟩,Rd.of_own h3⟩
theorem RwX.at4B (h:RwX BlobS e w base (ax (aD ⟨g,0,aC⟩) l.length cap) l N) (j:Nat) (hj:j<l.length) :
  ∃B c,w.cell? ⟨g,j*4,aC⟩=aD (aA ⟨l[j].dig.toArray⟩)/\w.cell? ⟨g,j*4+1,aC⟩=aD (ax B l[j].data.length c)/\w.cell? ⟨g,j*4+2,aC⟩=aD (ay az (l[j].aN:Int))/\w.cell? ⟨g,j*4+3,aC⟩=aD (.bool l[j].mark) /\
   Sl w 1 B l[j].data.length c (bys l[j].data)/\∀b,(b=g\/N b)->¬leads b [aA ⟨l[j].dig.toArray⟩,ax B l[j].data.length c,ay az (l[j].aN:Int),.bool l[j].mark]:=by
 obtain⟨b,off,cs,e1,hb,⟨⟨B,c,rfl,hs⟩,hl⟩,hc⟩:=h.rwN.at_ j hj;cases e1
 simp only [Nat.zero_add]at hc;exact⟨B,c,hc 0 _ rfl,hc 1 _ rfl,hc 2 _ rfl,hc 3 _ rfl,hs,hl⟩
theorem ul {P:Program} (w:World) (t e ty:TypeId) (z:Value) (zs:ag) (n:Nat) (hn:0<n) (ht:P.underlying t=aD (.slice e)) (hv:∀w,(zeroValue e).run P w= .ok z w) (hz:(Builtin.zeroCells z.cells n).toList=zs) (h1:∀u∈zs,u.oneCell'=true) (b o c:Nat)
  (hc:∀j,j<zs.length->(w.cell? ⟨b,o+j,aC⟩).isSome=true) (hf:∀j,j<zs.length->w.frozen? ⟨b,o+j,aC⟩=false) :
  (Builtin.clear_ #[t] ty #[ax (aD ⟨b,o,aC⟩) n c]).run P w= .ok (.tuple #[]) (w.setCells b o zs):=by
 have hst:=run_storeCells_cells (P:=P) b o zs 0 w (by simpa using hc) (by simpa using hf) h1;simp only [Nat.add_zero]at hst;cases n with
 | zero=>omega
 | succ m=>simp [Builtin.clear_,run_underlying ht,hv,hz,hst]
theorem xA (z:Array Value) (n:Nat):(Builtin.zeroCells z n).toList.length=n*z.size:=by simp [Builtin.zeroCells]
theorem xB (z:Array Value) (n:Nat) (h0:0<z.size) (h:∀u∈z.toList,u.oneCell'=true):∀u∈(Builtin.zeroCells z n).toList,u.oneCell'=true:=fun u hu=>by
 simp only [Builtin.zeroCells,Array.toList_map,List.mem_map]at hu
 obtain⟨i,_,rfl⟩:=hu
 have hlt:i % z.size<z.size:=Nat.mod_lt _ h0
 rw [getElem!_pos z _ hlt]
 exact h _ (Array.mem_toList_iff.2 (Array.getElem_mem hlt))
theorem Zv {size:Nat} {xs:ag} (h:w.ownsRow base e size (ax (aD ⟨g,0,aC⟩) n cap) n xs) (hn:0<n) (hi:i<n) (hz:zs.length=(n - i)*size) :
  (w.setCells g (i*size) zs).ownsRow base e size (ax (aD ⟨g,0,aC⟩) i cap) i (xs.take (i*size))/\w.grownBy (w.setCells g (i*size) zs) (aD g)/\(∀j,j<zs.length->(w.cell? ⟨g,i*size+j,aC⟩).isSome=true)/\(∀j,j<zs.length->w.frozen? ⟨g,i*size+j,aC⟩=false):=by
 obtain⟨g',cap',cs,e1,hbg,hA,hnc,hcm,hcl,hct⟩:=yi h hn;injection e1 with e11 _ e13;injection e11 with e11;injection e11 with e11;subst e11 e13;have him:(n - i)*size+i*size=n*size:=by rw [<-Nat.add_mul,Nat.sub_add_cancel wm]
 have hns:n*size<=cap*size:=Nat.mul_le_mul_right _ hnc;have e2:cs=cs.take (i*size)++((cs.drop (i*size)).take ((n - i)*size)++cs.drop (n*size)):=by
  conv=>lhs;rw [<-List.take_append_drop (i*size) cs]
  congr 1
  conv=>lhs;rw [<-List.take_append_drop ((n - i)*size) (cs.drop (i*size))]
  rw [List.drop_drop,Nat.add_comm,him]
 have hl1:(cs.take (i*size)).length=i*size:=by rw [List.length_take];omega
 have hA2:=hA;rw [e2]at hA2;have h3:=vu _ zs _ _ w hA2 (by rw [hz,List.length_take,List.length_drop];omega);rw [hl1]at h3;refine⟨⟨?_,.inr ⟨g,cap,_,rfl,hbg,by simpa [Arr] using h3,wm,hcm,?_,?_⟩⟩,qf _ _ _,fun j hj=> ?_,fun j hj=>hA.frozen _⟩
 ·rw [List.length_take,h.1];exact Nat.min_eq_left wm
 ·simp only [List.size_toArray,List.length_append,List.length_take,List.length_drop,hcl,hz];omega
 ·simp only;rw [List.take_left' hl1,<-hct,List.take_take,Nat.min_eq_left wm]
 ·have hk:i*size+j<cs.length:=by rw [hcl];omega
  rw [hA.cell (List.getElem?_eq_getElem hk)];rfl
theorem RwX.trunc_ {S:Shp α} {l:List α} (h:RwX S e w base (ax (aD ⟨g,0,aC⟩) l.length cap) l N) (hi:i<l.length) (hz:zs.length=(l.length - i)*S.size) :
  RwX S e (w.setCells g (i*S.size) zs) base (ax (aD ⟨g,0,aC⟩) i cap) (l.take i) N/\w.grownBy (w.setCells g (i*S.size) zs) (aD g)/\(∀j,j<zs.length->(w.cell? ⟨g,i*S.size+j,aC⟩).isSome=true)/\(∀j,j<zs.length->w.frozen? ⟨g,i*S.size+j,aC⟩=false):=by
 obtain⟨ps,h1,h2,h3,h4⟩:=h;obtain⟨k1,k2,k3,k4⟩:=Zv h3 wm hi hz;have hpl:ps.length=l.length:=by rw [<-h1,List.length_map]
 have hm:∀p∈ps.take i,p∈ps:=fun p hp=>List.mem_of_mem_take hp;refine⟨⟨ps.take i,by rw [<-h1,List.map_take],qG.grown (w:=w) (g:=aD g) (fun p hp=>h2 p (hm p hp)) k2 (fun p hp b hb=>h4 p (hm p hp) b (.inl hb)),?_,fun p hp b hb=>h4 p (hm p hp) b hb⟩,k2,k3,k4⟩;rw [<-kE (s:=S.size) ps i h2.lens,List.length_take,Nat.min_eq_left wm];exact k1
theorem RwX.truncB (h:RwX BlobS e w base (ax (aD ⟨g,0,aC⟩) l.length cap) l N) (i:Nat) (hi:i<l.length) :
  ∃zs:ag,zs.length=(l.length - i)*4/\(∀ty c,(Builtin.clear_ #[31] ty #[ax (aD ⟨g,i*4,aC⟩) (l.length - i) c]).run zZZ w= .ok (.tuple #[]) (w.setCells g (i*4) zs)) /\
   RwX BlobS e (w.setCells g (i*4) zs) base (ax (aD ⟨g,0,aC⟩) i cap) (l.take i) N/\w.grownBy (w.setCells g (i*4) zs) (aD g):=by
 have hl:=xA (Value.agg #[aA ByteArray.empty,ax aC 0 0,ay az 0,.bool false]).cells (l.length - i);obtain⟨k1,k2,k3,k4⟩:=h.trunc_ hi (zs:=(Builtin.zeroCells (Value.agg #[aA ByteArray.empty,ax aC 0 0,ay az 0,.bool false]).cells (l.length - i)).toList) hl;exact⟨_,hl,fun ty c=>ul w _ _ ty _ _ _ wm underlying31 z2i rfl (xB _ _ (by simp [Value.cells]) (by intro u hu;simp [Value.cells]at hu;rcases hu with rfl | rfl | rfl | rfl<;>rfl)) g _ c k3 k4,k1,k2⟩
end
def Ys (w:World) (g:Option Nat) (l:List BlobP) (f:FuncId) (x:Value) (p:BlobP->Bool):Prop :=
 (∀args W,(callFunc f args).run zZZ W= .ok (.enter f args) W)/\∀(b:BlobP) (B:af) (cb:Nat) (W:World),b∈l->w.grownBy W g->Sl W 1 B b.data.length cb (bys b.data) ->
  Calls zZZ f #[.agg #[aA ⟨b.dig.toArray⟩,ax B b.data.length cb,ay az b.aN,.bool b.mark],x] W fun e w'=>e= .returned (.bool (p b))/\Below W.heap.size W w'
theorem Vi (base:Nat) (v:Value) (l:List BlobP) (N:aj) (f:FuncId) (x:Value) (p:BlobP->Bool) (w:World) (hl:l.length<=100000) (hx:RwX BlobS 76 w base v l N) (HC:Ys w v.ownBlock l f x p) :
  Calls zZZ 96 #[v,.func (.func f) #[] #[x]] w fun e w'=>∃v',e= .returned v'/\RwX BlobS 76 w' base v' (l.filter (fun b=> !p b)) N/\w.grownBy w' v.ownBlock/\v'.ownBlock=v.ownBlock:=by
 obtain⟨hce,hcc0⟩:=HC;have HCC:=sqH hcc0;clear hcc0;have hlen0:=hx.rwo.rows;obtain⟨A,cap,rfl,hlc,hcm,hrw⟩:=hlen0;have HI:=sqH (ZS A cap l f x p w wm hrw ⟨hce,fun b B cb W hb hbl hs=>HCC.o b B cb W hb ⟨hbl.os,hbl.tape,hbl.output,hbl.size,fun k hk _=>hbl.block k hk⟩ hs⟩);cases hf:l.findIdx? p with
 | none =>
  rw [hf]at HI;have hall:l.filter (fun b=> !p b)=l:=List.filter_eq_self.2 fun b hb=>by
   have:=List.findIdx?_eq_none_iff.1 hf b hb;rw [this];rfl
  have HALL:=sqH hall;have HX:=sqH hx;clear hall hf hx hrw;go_enter func96,ntmps96;go_wp2_with fail;refine wW HI.o fun w1 hb1=>?_;dsimp only;simp only [plc];go_wp2_with fail;go_ret;refine⟨_,rfl,by rw [HALL.o];exact HX.o.below hb1,⟨hb1.os,hb1.tape,hb1.output,hb1.size,fun k hk _=>hb1.block k hk⟩,rfl⟩
 | some i0 =>
  rw [hf]at HI;simp only [plc]at HI;obtain⟨hi0,hpi,hno⟩:=List.findIdx?_eq_some_iff_getElem.1 hf;have hkeep0:(l.take (i0+1)).filter (fun b=> !p b)=l.take i0:=by
   rw [List.take_succ_eq_append_getElem hi0,List.filter_append,List.filter_cons_of_neg (by rw [hpi];simp)];rw [List.filter_nil,List.append_nil];refine List.filter_eq_self.2 fun b hb=> ?_;obtain⟨k,hk,rfl⟩:=List.mem_iff_getElem.1 hb;rw [List.length_take]at hk;have:=hno k wm;rw [List.getElem_take];simpa using this
  obtain⟨g,cap',cs,e1,hbg,hA,hnc, -, -, -⟩:=yi (hx.own4) wm;injection e1 with e11 e12 e13;clear e12;subst e11 e13;have hgw:g<w.heap.size:=hA.lt;have HGW:=sqH hgw;have HK0:=sqH hkeep0;clear hkeep0 hno hf hA hrw hgw;have hw1:IntKind.i64.wrap ((i0:Int)+1)=(i0:Int)+1:=IntWalk.i64_in _ wm;have hm1:((i0:Int)== -1)=false:=by rw [beq_eq_false_iff_ne];omega
  go_enter func96,ntmps96;go_wp2_with fail;refine wW HI.o fun w1 hb1=>?_;dsimp only;have hx1:=hx.below hb1;have HG1:=sqH (show w.grownBy w1 (aD g) from⟨hb1.os,hb1.tape,hb1.output,hb1.size,fun k hk _=>hb1.block k hk⟩);clear hx hb1 HI;go_wp2_with fail;go_loopg [5,6] (l.length - (i0+1)) (fun gn u v wr=>∃(i j:Nat) (M:List BlobP),gn=l.length - j/\u= ay az i/\v= ay az j/\i<j/\j<=l.length/\M.length=l.length/\M.take i=(l.take j).filter (fun b=> !p b)/\M.drop j=l.drop j/\RwX BlobS 76 wr base (ax (aD ⟨g,0,aC⟩) l.length cap) M N/\w.grownBy wr (aD g))
  case atStart=>exact⟨i0,i0+1,l,rfl,rfl,by go_num,wm,wm,rfl,HK0.o.symm,rfl,hx1,HG1.o⟩
  case round =>
   clear hx1;obtain⟨i,j,M,hgk,rfl,rfl,hij,hj,hM,hMt,hMd,hxr,hgr⟩:=hrel;obtain⟨HGK,HML,HMT,HMD,HGR⟩:=sqJ5 hgk hM hMt hMd hgr;clear hgk hM hMt hMd hgr;by_cases hlt:j<l.length
   ·have hjj:decide (j<l.length)=true:=decide_eq_true hlt;have hMj:j<M.length:=by have:=HML.o;omega
    have eMj:M[j]=l[j]:=by
     have h1:=HMD.o;rw [List.drop_eq_getElem_cons hMj,List.drop_eq_getElem_cons hlt]at h1;injection h1
    rw [<-HML.o]at hxr;obtain⟨B,cb,d0,d1,d2,d3,hs,hld⟩:=hxr.at4B j hMj;rw [HML.o]at hxr;have hmem:l[j]∈l:=List.getElem_mem hlt;have hpt:(l.take (j+1)).filter (fun b=> !p b)=(l.take j).filter (fun b=> !p b)++(if p l[j] then [] else [l[j]]):=by
     rw [List.take_succ_eq_append_getElem hlt,List.filter_append]
     congr 1
     cases hp:p l[j] with
     | true=>rw [List.filter_cons_of_neg (by rw [hp];simp)];rfl
     | false=>rw [List.filter_cons_of_pos (by rw [hp];rfl)];rfl
    rw [eMj]at d0 d1 d2 d3 hs hld;have hMset:∀y,(M.set i y).drop (j+1)=l.drop (j+1):=fun y=>by
     rw [List.drop_set,if_pos wm];have h1:=HMD.o;rw [List.drop_eq_getElem_cons hMj,List.drop_eq_getElem_cons hlt]at h1;injection h1
    have hMs0:M.drop (j+1)=l.drop (j+1):=by
     have h1:=HMD.o;rw [List.drop_eq_getElem_cons hMj,List.drop_eq_getElem_cons hlt]at h1;injection h1
    have hMtk:∀y,(M.set i y).take (i+1)=M.take i++ [y]:=fun y=>by
     have hi:i<(M.set i y).length:=by rw [List.length_set];omega
     rw [List.take_succ_eq_append_getElem hi,List.getElem_set_self,List.take_set]
     congr 1
     rw [List.set_eq_of_length_le (by rw [List.length_take];omega)]
    obtain⟨HPT,HMS,HMS0,HMK,HMEM⟩:=sqJ5 hpt hMset hMs0 hMtk hmem;have hwj:IntKind.i64.wrap ((j:Int)+1)=(j:Int)+1:=IntWalk.i64_in _ wm;have hwi:IntKind.i64.wrap ((i:Int)+1)=(i:Int)+1:=IntWalk.i64_in _ wm;have HLD:=sqH hld;clear hpt hMset hMs0 hMtk hmem hld eMj;have hj0:=wY j
    have hj1:(j:Int)<(l.length:Int):=wm;have hi0':=wY i
    have hi1':(i:Int)<(l.length:Int):=wm;have hiM:i<M.length:=wm;have hgr2:(w.grownBy wr (aD g)):=HGR.o;have hgwr:g<wr.heap.size:=Nat.lt_of_lt_of_le HGW.o hgr2.size;generalize l[j]=bl at *
    have hbox:Arr (wr.alloc (aB #[aA ⟨bl.dig.toArray⟩,ax B bl.data.length cb,ay az bl.aN,.bool bl.mark] 76)) wr.heap.size 76 [aA ⟨bl.dig.toArray⟩,ax B bl.data.length cb,ay az bl.aN,.bool bl.mark]:=Arr.new wr 76 _;have hbA:=wj wr (aB #[aA ⟨bl.dig.toArray⟩,ax B bl.data.length cb,ay az bl.aN,.bool bl.mark] 76);have hsA:=hs.below hbA;have hxA:=hxr.below hbA;have hgA:w.grownBy (wr.alloc (aB #[aA ⟨bl.dig.toArray⟩,ax B bl.data.length cb,ay az bl.aN,.bool bl.mark] 76)) (aD g):=hgr2.trans ⟨hbA.os,hbA.tape,hbA.output,hbA.size,fun k hk _=>hbA.block k hk⟩;have hcl:=HCC.o bl B cb _ HMEM.o hgA hsA;obtain⟨k0,k1,k2,k3⟩:=sqC4 hbox;generalize hsd:(⟨bl.dig.toArray⟩:ByteArray)=sd at *
    have HSD:=sqH hsd;clear hsd hs hgr2 hxr;cases hp:p bl with
    | true =>
     rw [hp]at hcl;have HCL:=sqH hcl;have HPV:=sqH hp;clear hcl hp hsA hbox;go_wp2_with fail;clear d0 d1 d2 d3;generalize (wr.alloc (aB #[aA sd,ax B bl.data.length cb,ay az bl.aN,.bool bl.mark] 76))=wA at *
     refine wW HCL.o fun wB hbB=>?_;dsimp only;have hxB:=hxA.below hbB;have hgB:=hgA.trans (show wA.grownBy wB (aD g) from⟨hbB.os,hbB.tape,hbB.output,hbB.size,fun k hk _=>hbB.block k hk⟩);clear hxA hgA hbB k0 k1 k2 k3 hbA;go_wp2_with fail;go_roundg (l.length - (j+1))
     case measure=>exact wX HGK
     case rel=>exact⟨i,j+1,M,rfl,rfl,by go_num,wm,wm,HML.o,by rw [HPT.o,HPV.o,if_pos rfl,List.append_nil];exact HMT.o,HMS0.o,hxB,hgB⟩
    | false =>
     rw [hp]at hcl;obtain⟨HCL,HPV,HSA⟩:=sqJ3 hcl hp hsA;clear hcl hp hsA;go_wp2_with fail;clear d0 d1 d2 d3;generalize hgq:wr.heap.size=gq at *
     generalize (wr.alloc (aB #[aA sd,ax B bl.data.length cb,ay az bl.aN,.bool bl.mark] 76))=wA at *
     refine wW HCL.o fun wB hbB=>?_;dsimp only;have hxB:=hxA.below hbB;have hgB:=hgA.trans (show wA.grownBy wB (aD g) from⟨hbB.os,hbB.tape,hbB.output,hbB.size,fun k hk _=>hbB.block k hk⟩);have hboxB:=hbox.below hbB;have hsB:=HSA.o.below hbB;clear k0 k1 k2 k3;obtain⟨k0,k1,k2,k3⟩:=sqC4 hboxB;rw [<-HML.o]at hxB;obtain⟨cs,hAg,hcl4⟩:=hxB.arr4 wm;have hcl4:cs.length=cap*4:=hcl4;have q0:=hAg.cell (k:=i*4) (List.getElem?_eq_getElem wm);have q1:=hAg.cell (k:=i*4+1) (List.getElem?_eq_getElem wm);have q2:=hAg.cell (k:=i*4+2) (List.getElem?_eq_getElem wm);have q3:=hAg.cell (k:=i*4+3) (List.getElem?_eq_getElem wm);have p0:=hAg.frozen (i*4);have p1:=hAg.frozen (i*4+1);have p2:=hAg.frozen (i*4+2);have p3:=hAg.frozen (i*4+3);obtain⟨hx8,hg8⟩:=hxB.put4 (x:=bl) (u0:= aA sd) (u1:= ax B bl.data.length cb) (u2:= ay az bl.aN) (u3:= .bool bl.mark) rfl hiM ⟨B,cb,by rw [<-HSD.o];rfl,hsB⟩ HLD.o;have hg9:=hgB.trans hg8;rw [HML.o]at hx8;rw [put4]at hx8 hg9;clear hbox hboxB hxA hxB hgA hgB hbA hbB hAg hg8 HSA hsB;go_wp2_with fail;clear q0 q1 q2 q3 p0 p1 p2 p3 k0 k1 k2 k3;generalize ((((wB.setCell ⟨g,i*4,aC⟩ (aA sd)).setCell ⟨g,i*4+1,aC⟩ (ax B bl.data.length cb)).setCell ⟨g,i*4+2,aC⟩ (ay az bl.aN)).setCell ⟨g,i*4+3,aC⟩ (.bool bl.mark))=w8 at *
     go_roundg (l.length - (j+1))
     case measure=>exact wX HGK
     case rel=>exact⟨i+1,j+1,M.set i bl,rfl,by go_num,by go_num,wm,wm,by rw [List.length_set];exact HML.o,by rw [HPT.o,HPV.o,HMK.o,HMT.o];rfl,HMS.o _,hx8,hg9⟩
   ·obtain rfl:j=l.length:=by omega
    have hjj:decide (l.length<l.length)=false:=wu;have hMl:M.take i=l.filter (fun b=> !p b):=by rw [HMT.o,List.take_length]
    have hle:(l.filter (fun b=> !p b)).length=i:=by rw [<-hMl,List.length_take];have:=HML.o;omega
    rw [<-HML.o]at hxr;obtain⟨zs,hzz,hclr,hx9,hg9⟩:=hxr.truncB i (wX HML);rw [HML.o]at hclr;have hi0':=wY i
    have hi1':(i:Int)<=(l.length:Int):=wm;have hi2':(i:Int)<=(cap:Int):=wm;have hce:¬cap=i:=wm;obtain⟨HX9,HG9,HLE,HML2⟩:=sqJ4 hx9 (HGR.o.trans hg9) hle hMl;clear hx9 hg9 hxr hle hMl;go_wp2_with fail;go_ret;refine⟨_,rfl,?_,HG9.o,rfl⟩;have h1:=HX9.o;rw [HML2.o]at h1;exact h1
theorem zt {H:Nat} {u:Value} (h:w.grownBy W g) (hH:w.heap.size<=H):w.grownBy (W.setCell ⟨H,k,aC⟩ u) g :=
 ⟨h.os,h.tape,h.output,by simpa [World.setCell] using h.size,fun j hj hne=>(Below.heap_setCell W _ u j (fun e=>by have:j=H:=e;omega)).trans (h.block j hj hne)⟩
theorem kv (h:Below w.heap.size w W):w.grownBy W g:=⟨h.os,h.tape,h.output,h.size,fun k hk _=>h.block k hk⟩
theorem zP (h:Below w.heap.size w W) (k:W.grownBy V g):w.grownBy V g:=(kv h).trans ⟨k.os,k.tape,k.output,k.size,k.block⟩
theorem zO (h:w.grownBy W g) (k:Below W.heap.size W V):w.grownBy V g:=h.trans (kv k)
theorem OwSt.mono {N':aj} (h:OwSt w base v1 v2 s N) (hN:∀b,N' b->N b):OwSt w base v1 v2 s N':=h.wider fun b hb=> .inl (hN b hb)
theorem OwSt.turnB {v1':Value} (h:OwSt w base v1 v2 s N) (hb:RwX BlobS 76 w' base v1' l (fun g=>N g\/v2.ownBlock=aD g)) (hg:w.grownBy w' v1.ownBlock) (ho:v1'.ownBlock=v1.ownBlock) :
  OwSt w' base v1' v2 { s with aF:=l } N :=
 ⟨hb,by rw [ho];exact h.e.other hg (fun b e1 e2=>h.ne b e1 e2) (fun b e=> .inr e),by rw [ho];exact h.ne⟩
theorem Ka (w:World) (g:Option Nat) (gc:Nat) (AL:af) (cL:Nat) (L:List ae) (l:List BlobP) (hgc:gc<w.heap.size) (hne:g≠aD gc) (hcell:w.cell? ⟨gc,0,aC⟩=aD (ax AL L.length cL)) (hL:L.length<=1000000) (hrd:Rd w 1 AL L.length (strs L)) (hna:∀a,AL=aD a->g≠aD a.block) :
  Ys w g l 97 (.pointer (aD ⟨gc,0,aC⟩)) (fun b=> !decide (b.dig∈L)):=by
 refine⟨fun _ _=>wo,fun b B cb W hb hgr hs=> ?_⟩;have hc:W.cell? ⟨gc,0,aC⟩=aD (ax AL L.length cL):=hgr.cell hcell (fun e=>hne e.symm);have hgW:gc<W.heap.size:=Nat.lt_of_lt_of_le hgc hgr.size;have hr:Rd W 1 AL L.length (strs L):=hrd.keepb hgr.size (fun k hk ⟨a,e1,e2⟩=>hgr.block k hk (fun e=>hna a e1 (by rw [e2];exact e.symm)));have hb1:=wj W (aB #[aA ⟨b.dig.toArray⟩,ax B b.data.length cb,ay az b.aN,.bool b.mark] 76);have hbox:Arr (W.alloc (aB #[aA ⟨b.dig.toArray⟩,ax B b.data.length cb,ay az b.aN,.bool b.mark] 76)) W.heap.size 76 [aA ⟨b.dig.toArray⟩,ax B b.data.length cb,ay az b.aN,.bool b.mark]:=Arr.new W 76 _;have hk1:(W.alloc (aB #[aA ⟨b.dig.toArray⟩,ax B b.data.length cb,ay az b.aN,.bool b.mark] 76)).cell? ⟨gc,0,aC⟩=aD (ax AL L.length cL):=(World.cell?_alloc_lt W _ ⟨gc,0,aC⟩ hgW).trans hc;have p0:=hbox.c0;have HCT:=sqH (Yd AL cL L b.dig _ wm (hr.below hb1));dsimp only;generalize hdv:decide (b.dig∈L)=dv at *
 clear hr hc hrd hcell hbox;go_enter func97,ntmps97;go_wp2_with fail;refine HCT.o.mono ?_;rintro e_ wx ⟨rfl,rfl⟩;dsimp only;go_wp2_with fail;go_ret;exact⟨rfl,hb1⟩
theorem QA (base:Nat) (v1 v2:Value) (s:StoP) (w:World) (N:aj) (hg:GoodS s) (ho:OwSt w base v1 v2 s N) :
  Calls zZZ 42 #[stV v1 v2 s] w fun e w'=>∃v1',e= .returned (stV v1' v2 (cln s))/\OwSt w' base v1' v2 (cln s) N/\w.grownBy w' v1.ownBlock/\v1'.ownBlock=v1.ownBlock:=by
 have hbl:=hg.b.len;have h41:∀b,v1.ownBlock=aD b->b<w.heap.size:=fun b e=>(ho.b.rwo.blk e).2;have h42:∀b,v2.ownBlock=aD b->b<w.heap.size:=fun b e=>(ho.e.rwo.blk e).2;obtain⟨A,c,B,d,e1,e2,hrd⟩:=ho.rows;have hr0:=hrd;subst e1 e2;obtain⟨w0,hw0,hS,hR,hb0⟩:=qE w 34 [ax A s.aF.length c,ax B s.aG.length d,ay az s.aI,ay az s.aH] [ax aC 0 0,ax aC 0 0,ay az 0,ay az 0];have HALL:=sqH (Ql A B c d s (s.aI:Int) (s.aH:Int) w0 hg.rts (hrd.below hb0));have ho0:=(ho.wider (N':=fun b=>N b\/b=w.heap.size\/b=w.heap.size+1) (fun b hb=>hb.imp id (fun e=>wm))).below hb0;obtain⟨x0,x1,x2,x3⟩:=sqC4 hS;obtain⟨H,hH⟩:=wV w.heap.size
 rw [<-hH]at hS hR ho0 h41 h42;rw [hw0]at x0 x1 x2 x3;have HGR0:=sqH (show w.grownBy w0 (ax A s.aF.length c).ownBlock from kv hb0);have HHW:=sqH hH;clear hr0 hrd hb0 ho;go_enter func42,ntmps42;go_wp2_with fail;rw [<-hw0];clear hw0 x0 x1 x2 x3;rw [<-hH];clear hH;refine HALL.o.mono ?_;rintro e_ w2 ⟨v3,L,rfl,hL,hLl,ho3,hb2⟩;dsimp only;obtain⟨AL,cL,rfl,hcL,hrL⟩:=Rd.of_own' ho3;have hna:∀a,AL=aD a->w0.heap.size<=a.block:=fun a e=>by
  subst e;rcases ho3.2 with ⟨e,_⟩ | ⟨g,cap,cur,e,hb,_⟩
  ·cases e
  ·cases e;exact hb
 have HL:=sqH hL;have HRL:=sqH hrL;have hLn:L.length<=24:=wm;have hS2:=hS.below hb2;have hR2:=hR.below hb2;have ho2:=ho0.below hb2;have HGR2:=sqH (zO HGR0.o hb2);have hH2:H<w2.heap.size:=hS2.lt;have h02:w0.heap.size<=w2.heap.size:=hb2.size;have hsz0:H+1<w0.heap.size:=hR.lt;have hb3:=wj w2 (aB #[ax AL L.length cL] 35);have hA3:Arr (w2.alloc (aB #[ax AL L.length cL] 35)) w2.heap.size 35 [ax AL L.length cL]:=Arr.new w2 35 _;have hS3:=hS2.below hb3;have hR3:=hR2.below hb3;have ho3':=ho2.below hb3;have HT:=sqH (Ka (w2.alloc (aB #[ax AL L.length cL] 35)) (ax A s.aF.length c).ownBlock w2.heap.size AL cL L s.aF hA3.lt (fun e=>by have:=h41 _ e;omega) (hA3.c0) wm (HRL.o.below hb3) (fun a e1 e2=>by have:=hna a e1;have:=h41 _ e2;omega));have HDF:=sqH (Vi base (ax A s.aF.length c) s.aF _ _ _ _ _ wm ho3'.b HT.o);have HGR3:=sqH (zO HGR2.o hb3);obtain⟨q0,q1,q2,q3⟩:=sqC4 hS2;obtain⟨p0,p1,p2,p3⟩:=sqC4 hS3;clear hS hR ho0 hb2 ho2 ho3 hL hrL hA3 hb3 hR2 hna;go_wp2_with fail;clear q0 q1 q2 q3 p0 p1 p2 p3 hS2;generalize (w2.alloc (aB #[ax AL L.length cL] 35))=w3 at *
 refine HDF.o.mono ?_;rintro e_ w4 ⟨v1',rfl,hx4,hg4,hob⟩;dsimp only;have hbk:s.aF.filter (fun b=> !(!decide (b.dig∈L)))=(cln s).aF:=by
  rw [<-VQ HL.o];unfold JY;refine List.filter_congr fun b hb=> ?_;rw [Bool.not_not]
 rw [hbk]at hx4;obtain⟨A',c',e1, -, -, -⟩:=hx4.rwo.rows;subst e1;have ho4:=ho3'.turnB hx4 hg4 hob;have hS3l:=hS3.lt;have hR3l:=hR3.lt;have hneH:∀k,(ax A s.aF.length c).ownBlock=aD k->k<H:=h41;have hS4:=hS3.grown hg4 (fun e=>by have:=h41 H e;omega);have hR4:=hR3.grown hg4 (fun e=>by have:=h41 (H+1) e;omega);have HGR4:=sqH (HGR3.o.trans hg4);have f0:=hS4.frozen 0;have y0:=hS4.c0;have hS5:=hS4.set (k:=0) wu (ax A' (cln s).aF.length c');have hR5:=hR4.other (g':=H) (k:=0) wm (ax A' (cln s).aF.length c');have hv1b:(ax A' (cln s).aF.length c').ownBlock≠aD H:=fun e=>by rw [hob]at e;have:=h41 H e;omega
 have hv1c:(ax A' (cln s).aF.length c').ownBlock≠aD (H+1):=fun e=>by rw [hob]at e;have:=h41 (H+1) e;omega
 have hv2b:(ax B s.aG.length d).ownBlock≠aD H:=fun e=>by have:=h42 H e;omega
 have hv2c:(ax B s.aG.length d).ownBlock≠aD (H+1):=fun e=>by have:=h42 (H+1) e;omega
 have ho5:=ho4.setX (g:=H) (k:=0) (.inr (.inl rfl)) hv1b hv2b (ax A' (cln s).aF.length c');have HGR5:=sqH (zt (H:=H) (k:=0) (u:=(ax A' (cln s).aF.length c')) HGR4.o (by rw [HHW.o];exact Nat.le_refl _));obtain⟨z0,z1,z2,z3⟩:=sqC4 hS5;obtain⟨r0,r1,r2,r3⟩:=sqF4 hR5;obtain⟨x0,x1,x2,x3⟩:=sqC4 hR5;have hfin:=hR5.all4 (ax A' (cln s).aF.length c') (ax B s.aG.length d) (ay az s.aI) (ay az s.aH);have ho6:=(((ho5.setX (g:=H+1) (k:=0) (.inr (.inr (by rw [HHW.o]))) hv1c hv2c (ax A' (cln s).aF.length c')).setX (g:=H+1) (k:=1) (.inr (.inr (by rw [HHW.o]))) hv1c hv2c (ax B s.aG.length d)).setX (g:=H+1) (k:=2) (.inr (.inr (by rw [HHW.o]))) hv1c hv2c (ay az s.aI)).setX (g:=H+1) (k:=3) (.inr (.inr (by rw [HHW.o]))) hv1c hv2c (ay az s.aH);obtain⟨HGR6,HOB,HO6⟩:=sqJ3 (zt (H:=H+1) (k:=3) (u:=(ay az s.aH)) (zt (H:=H+1) (k:=2) (u:=(ay az s.aI)) (zt (H:=H+1) (k:=1) (u:=(ax B s.aG.length d)) (zt (H:=H+1) (k:=0) (u:=(ax A' (cln s).aF.length c')) HGR5.o (by rw [HHW.o];omega)) (by rw [HHW.o];omega)) (by rw [HHW.o];omega)) (by rw [HHW.o];omega)) hob ho6;clear ho3' hx4 ho4 hg4 hS3 hR3 hS4 hR4 hS5 hR5 ho5 ho6 hob hbk hv1b hv1c hv2b hv2c hneH h41 h42;go_wp2_with fail;refine bodyPost_ret (results_cell_row rfl _ _ (H+1) _ _ _ _ ww hfin underlying34 rfl wo) rfl ?_;exact⟨(ax A' (cln s).aF.length c'),rfl,HO6.o.mono (fun b hb=> .inl hb),HGR6.o,HOB.o⟩
def uni (L:List ae):List ae:=srt (fun x=>x) (nub L)
theorem yy (L:List ae):Rises (uni L):=um (f:=fun x=>x) (by rw [List.map_id'];exact Zq L)
theorem Qg (L:List ae):StrL (uni L) (fun x=>x∈L):=by
 refine⟨(yy L).nodup,(yy L).imp fun {a b} h=> ?_,fun x=> ?_⟩
 ·rw [UQ];cases hb:Op.bytesLess b a with
  | false=>rfl
  | true=>have:=qg h hb;rw [yu]at this;cases this
 ·show x∈srt _ _↔_;rw [(q6 _ _).mem_iff,xJ]
theorem yd {x:ae}:x∈uni L↔x∈L:=(Qg L).mem x
theorem StrL.uni {p:List UInt8->Prop} (h:StrL M p) (hp:∀x,p x↔x∈L):M=uni L :=
 StrL.uniq h ⟨(Qg L).nd,(Qg L).le,fun x=>(yd).trans (hp x).symm⟩
theorem Qf (L:List ae):(uni L).length<=L.length:=by
 have:∀l:List ae,(nub l).length<=l.length:=fun l=>by
  induction l with
  | nil=>exact Nat.le_refl _
  | cons x l ih =>
   rw [nub];split
   ·exact Nat.le_trans ih wu
   ·simpa using ih
 show(srt _ _).length<=_;rw [(q6 _ _).length_eq];exact this L
theorem XL (h:Rises L):L.Pairwise (fun x y=>leB x y=true):=h.imp fun {a b} h=>by
 rw [UQ]
 cases hb:Op.bytesLess b a with
 | false=>rfl
 | true=>have:=qg h hb;rw [yu]at this;cases this
structure ColP where
 aK:Nat
 aJ:List ae
 at_:ae
def Uw (bl:List BlobP):List BlobP:=bl.map fun b=> { b with mark:=false }
def YE (s:StoP):StoP:= { s with aF:=Uw s.aF }
def VN (s:StoP):ColP:=⟨1,uni (rts s), []⟩
def mkd (bl:List BlobP):List ae:=(bl.filter (·.mark)).map (·.dig)
theorem qB {x:ae}:x∈mkd bl↔∃b∈bl,b.mark=true/\b.dig=x:=by
 unfold mkd;rw [List.mem_map];constructor
 ·rintro⟨b,hb,e⟩;obtain⟨h1,h2⟩:=List.mem_filter.1 hb;exact⟨b,h1,h2,e⟩
 ·rintro⟨b,hb,h,e⟩;exact⟨b,List.mem_filter.2 ⟨hb,h⟩,e⟩
def zS (s:StoP) (c:ColP):StoP×ColP :=
 match c.aJ with
 | []=>(s,⟨2, [], []⟩)
 | d::rest=>match s.aF.findIdx? (fun b=>b.dig==d) with
  | none=>(s,⟨1,rest, []⟩)
  | some i=>match s.aF[i]? with
   | none=>(s,⟨1,rest, []⟩)
   | some b=>if b.mark then (s,⟨1,rest, []⟩) else ({ s with aF:=s.aF.set i { b with mark:=true } },⟨1,uni (rest++(ko b.data).1.map (·.dig)), []⟩)
def qY (s:StoP) (c:ColP):StoP×ColP×ae :=
 match s.aF.findIdx? (fun b=>Op.bytesLess c.at_ b.dig) with
 | none=>(s,⟨0, [], []⟩, [])
 | some i=>match s.aF[i]? with
  | none=>(s,⟨0, [], []⟩, [])
  | some b=>if b.mark then (s,⟨2, [],b.dig⟩, []) else ({ s with aF:=s.aF.eraseIdx i },⟨2, [],b.dig⟩,b.dig)
def qD (s:StoP) (c:ColP):StoP×ColP×ae:=if c.aK=1 then ((zS s c).1,(zS s c).2, []) else qY s c
def NoM (b:BlobP):ae×ae×Nat:=(b.dig,b.data,b.aN)
def EqM (l m:List BlobP):Prop:=l.map NoM=m.map NoM
theorem EqM.symm (h:EqM l m):EqM m l:=Eq.symm h
theorem EqM.trans {k:List BlobP} (h:EqM l m) (h':EqM m k):EqM l k:=Eq.trans h h'
theorem EqM.rfl_ (l:List BlobP):EqM l l:=rfl
theorem EqM.len (h:EqM l m):l.length=m.length:=by
 have:=congrArg List.length h;simpa using this
theorem EqM.at_ (h:EqM l m) (i:Nat) (h1:i<l.length) (h2:i<m.length):m[i].dig=l[i].dig/\m[i].data=l[i].data/\m[i].aN=l[i].aN:=by
 have h3:=congrArg (fun x=>x[i]?) h;simp only [List.getElem?_map,List.getElem?_eq_getElem h1,List.getElem?_eq_getElem h2,Option.map_some,Option.some.injEq,NoM,Prod.mk.injEq]at h3;exact⟨h3.1.symm,h3.2.1.symm,h3.2.2.symm⟩
theorem EqM.mem (h:EqM l m) {b:BlobP} (hb:b∈l):∃b'∈m,b'.dig=b.dig/\b'.data=b.data/\b'.aN=b.aN:=by
 obtain⟨i,hi,rfl⟩:=List.mem_iff_getElem.1 hb;have h2:i<m.length:=by rw [<-h.len];exact hi
 exact⟨m[i],List.getElem_mem h2,h.at_ i hi h2⟩
theorem EqM.cons {a b:BlobP} (h:EqM (a::l) (b::m)):(b.dig=a.dig/\b.data=a.data/\b.aN=a.aN)/\EqM l m:=by
 unfold EqM at h;simp only [List.map_cons,List.cons.injEq]at h;obtain⟨h1,h2⟩:=h;unfold NoM at h1;simp only [Prod.mk.injEq]at h1;exact⟨⟨h1.1.symm,h1.2.1.symm,h1.2.2.symm⟩,h2⟩
theorem YT {x:ae}:∀ {l m:List BlobP},EqM l m->m.findIdx? (fun b=>b.dig==x)=l.findIdx? (fun b=>b.dig==x)
 | [], [],_=>rfl
 | [],b::m,h=>by cases h
 | a::l, [],h=>by cases h
 | a::l,b::m,h=>by
  obtain⟨h1,h2⟩:=h.cons
  rw [List.findIdx?_cons,List.findIdx?_cons,h1.1,YT h2]
theorem QE (h:EqM l m) (x:ae):kids m x=kids l x:=by
 unfold kids;rw [YT h];cases hf:l.findIdx? (fun b=>b.dig==x) with
 | none=>rfl
 | some i =>
  have hi:i<l.length:=(List.findIdx?_eq_some_iff_getElem.1 hf).1;have hi2:i<m.length:=by rw [<-h.len];exact hi
  simp only [List.getElem?_eq_getElem hi,List.getElem?_eq_getElem hi2];rw [(h.at_ i hi hi2).2.1]
theorem vU (h:EqM l m) {x:ae}:InB m x↔InB l x:=by
 constructor
 ·rintro⟨b,hb,e⟩;obtain⟨b',hb',e1,_⟩:=h.symm.mem hb;exact⟨b',hb',e1.trans e⟩
 ·rintro⟨b,hb,e⟩;obtain⟨b',hb',e1,_⟩:=h.mem hb;exact⟨b',hb',e1.trans e⟩
theorem QF (h:EqM l m) {x:ae} (hx:Rch l ds x):Rch m ds x:=by
 induction hx with
 | root h1 h2=>exact .root h1 ((vU h).2 h2)
 | step h1 h2 h3 ih=>exact .step ih (by rw [QE h];exact h2) ((vU h).2 h3)
theorem YU (h:EqM l m):Rch m ds=Rch l ds:=funext fun x=>propext ⟨QF h.symm,QF h⟩
theorem QG:∀ {l m:List BlobP},EqM l m->ut m=ut l
 | [], [],_=>rfl
 | [],b::m,h=>by cases h
 | a::l, [],h=>by cases h
 | a::l,b::m,h=>by
  obtain⟨h1,h2⟩:=h.cons
  have ih:=QG h2
  unfold ut at ih ⊢
  rw [List.filter_cons,List.filter_cons,h1.2.2]
  split
  ·rw [List.map_cons,List.map_cons,h1.1,ih]
  ·exact ih
theorem jv (h:EqM s.aF m):rts { s with aF:=m }=rts s:=by
 show uj s.aG++ut m=_;rw [QG h];rfl
theorem JP (h:EqM l m) (hr:RisesBy (·.dig) l):RisesBy (·.dig) m:=by
 have e:m.map (·.dig)=l.map (·.dig):=by
  have h3:=congrArg (List.map Prod.fst) h;simp only [List.map_map]at h3;exact h3.symm
 have:=List.pairwise_map.1 (e▸hr.map:Rises (m.map (·.dig)));exact this
theorem JQ (h:EqM l m):usd m=usd l:=by
 have h3:=congrArg (List.map fun x:ae×ae×Nat=>x.2.1.length) h;simp only [List.map_map]at h3;unfold usd;exact(congrArg List.sum h3).symm
theorem ju (h:EqM s.aF m) (hg:GoodS s):GoodS { s with aF:=m } :=
 ⟨⟨by rw [<-h.len];exact hg.b.len,fun b hb=>by
   obtain⟨b',hb',e1,e2,e3⟩:=h.symm.mem hb
   have h1:=hg.b.one b' hb'
   unfold GoodB1 at h1 ⊢
   rw [<-e1,<-e2,<-e3];exact h1,JP h hg.b.ris⟩,hg.e,hg.aI,by show usd m<=_;rw [JQ h];exact hg.used,hg.aH,fun x hx=>⟨(hg.ent x hx).1,fun p hp=>by
   obtain⟨b,hb,e1,e2⟩:=(hg.ent x hx).2 p hp
   obtain⟨b',hb',e3,e4,_⟩:=h.mem hb
   exact⟨b',hb',e3.trans e1,by rw [e4];exact e2⟩⟩⟩
theorem QH (l:List BlobP):EqM l (Uw l):=by
 unfold EqM Uw;rw [List.map_map];rfl
theorem YV (hi:i<l.length) (k:Bool):EqM l (l.set i { l[i] with mark:=k }):=by
 unfold EqM;rw [List.map_set];have:NoM { l[i] with mark:=k }=(l.map NoM)[i]'(by simpa using hi):=by rw [List.getElem_map];rfl
 rw [this,List.set_getElem_self]
theorem JH (b:ae) (h:(ko b).2≠0):(ko b).1= []:=by
 unfold ko at h ⊢
 split
 ·rfl
 rename_i h1;rw [if_neg h1]at h;split
 ·rfl
 rename_i h2;rw [if_neg h2]at h;split
 ·rfl
 rename_i h3;rw [if_neg h3]at h;split
 ·rfl
 rename_i h4;rw [if_neg h4]at h;split
 ·rfl
 rename_i h5;rw [if_neg h5]at h;split
 ·rfl
 rename_i h6;rw [if_neg h6]at h;split
 ·rfl
 rename_i h7;rw [if_neg h7]at h;exact absurd rfl h
theorem JG (b:ae):(ko b).1= []\/(enc (ko b).1=b/\chk (ko b).1=0):=by
 by_cases h:(ko b).2=0
 ·right;have e:ko b=((ko b).1,0):=by rw [<-h]
  exact VT e
 ·exact .inl (JH b h)
theorem JI (b:ae):∀p∈(ko b).1,hexC p.dig=0:=fun p hp=>by
 rcases JG b with h | h
 ·rw [h]at hp;cases hp
 ·exact((zk h.2).2 p hp).2.1
theorem U4 {x y:ae} (h:y∈kids bl x):hexC y=0:=by
 unfold kids at h;cases hf:bl.findIdx? (fun b=>b.dig==x) with
 | none=>rw [hf]at h;cases h
 | some i =>
  rw [hf]at h;cases hb:bl[i]? with
  | none=>simp only [hb]at h;cases h
  | some b =>
   simp only [hb]at h;obtain⟨p,hp,rfl⟩:=List.mem_map.1 h;exact JI b.data p hp
theorem z09 (hg:GoodS s) {x:ae} (h:x∈rts s):hexC x=0:=by
 rcases List.mem_append.1 h with h | h
 ·obtain⟨y,hy,h2⟩:=List.mem_flatMap.1 h;obtain⟨p,hp,rfl⟩:=List.mem_map.1 h2;exact((zk (hg.e.one y hy).2.1).2 p hp).2.1
 ·obtain⟨b,hb,rfl⟩:=List.mem_map.1 h;rw [(hg.b.one b (List.mem_filter.1 hb).1).1];exact zn _
structure GoodC (s:StoP) (c:ColP):Prop where
 ph:c.aK<=2
 gh:∀d∈c.aJ,hexC d=0
 ris:Rises c.aJ
 ah:c.at_= []\/hexC c.at_=0
 g0:c.aK≠1->c.aJ= []
 a0:c.aK≠2->c.at_= []
 mr:c.aK=1->∀x∈rts s,InB s.aF x->x∈mkd s.aF\/x∈c.aJ
 mb:c.aK=1->∀b∈s.aF,b.mark=true->∀x∈kids s.aF b.dig,InB s.aF x->x∈mkd s.aF\/x∈c.aJ
 sw:c.aK=2->∀x,Rch s.aF (rts s) x->x∈mkd s.aF
theorem Qx (hg:GoodS s):GoodS (YE s):=ju (QH s.aF) hg
theorem JA (s:StoP):rts (YE s)=rts s:=jv (QH s.aF)
theorem YF (hg:GoodS s):GoodC (YE s) (VN s):=by
 refine⟨by show 1<=2;omega,fun d hd=>z09 hg (yd.1 hd),yy _,.inl rfl,fun h=>absurd rfl h,fun _=>rfl,fun _ x hx _=> .inr ?_,fun _ b hb hm=> ?_,fun h=>absurd h (by show ¬(1=2);omega)⟩
 ·rw [JA]at hx;exact yd.2 hx
 ·exfalso;obtain⟨a,_,rfl⟩:=List.mem_map.1 hb;cases hm
theorem Ku (hr:RisesBy (·.dig) s.aF) (h1:∀x∈rts s,InB s.aF x->x∈mkd s.aF) (h2:∀b∈s.aF,b.mark=true->∀x∈kids s.aF b.dig,InB s.aF x->x∈mkd s.aF):∀x,Rch s.aF (rts s) x->x∈mkd s.aF:=fun x hx=>by
 induction hx with
 | root h3 h4=>exact h1 _ h3 h4
 | step h3 h4 h5 ih =>
  obtain⟨b,hb,hm,rfl⟩:=qB.1 ih
  exact h2 b hb hm _ h4 h5
theorem z01 (hi:i<l.length) (x:ae):x∈mkd (l.set i { l[i] with mark:=true })↔x∈mkd l\/x=l[i].dig:=by
 rw [qB,qB];constructor
 ·rintro⟨b,hb,hm,rfl⟩;rcases List.mem_or_eq_of_mem_set hb with h | h
  ·exact .inl ⟨b,h,hm,rfl⟩
  ·subst h;exact .inr rfl
 ·rintro(⟨b,hb,hm,rfl⟩ | rfl)
  ·obtain⟨j,hj,rfl⟩:=List.mem_iff_getElem.1 hb;by_cases hij:i=j
   ·subst hij;exact⟨_,List.mem_iff_getElem.2 ⟨i,by simpa using hi,rfl⟩,wu,wu⟩
   ·exact⟨l[j],List.mem_iff_getElem.2 ⟨j,by simpa using hj,by rw [List.getElem_set_ne hij]⟩,hm,rfl⟩
  ·exact⟨_,List.mem_iff_getElem.2 ⟨i,by simpa using hi,rfl⟩,wu,wu⟩
theorem kq (s:StoP) (c:ColP):(c.aJ= []/\zS s c=(s,⟨2, [], []⟩)) \/
  (∃d rest,c.aJ=d::rest/\¬InB s.aF d/\zS s c=(s,⟨1,rest, []⟩)) \/
  (∃d rest i,∃hi:i<s.aF.length,c.aJ=d::rest/\s.aF.findIdx? (fun b=>b.dig==d)=aD i/\s.aF[i].dig=d/\s.aF[i].mark=true/\zS s c=(s,⟨1,rest, []⟩)) \/
  (∃d rest i,∃hi:i<s.aF.length,c.aJ=d::rest/\s.aF.findIdx? (fun b=>b.dig==d)=aD i/\s.aF[i].dig=d/\s.aF[i].mark=false/\zS s c=({ s with aF:=s.aF.set i { s.aF[i] with mark:=true } },⟨1,uni (rest++kids s.aF d), []⟩)):=by
 unfold zS;cases hc:c.aJ with
 | nil=>exact .inl ⟨rfl,rfl⟩
 | cons d rest =>
  right;generalize hf:s.aF.findIdx? (fun b=>b.dig==d)=r;cases r with
  | none =>
   left;refine⟨d,rest,rfl,fun h=> ?_,by simp only [hf]⟩;rw [jA,hf]at h;cases h
  | some i =>
   right;obtain⟨hi,hd,_⟩:=List.findIdx?_eq_some_iff_getElem.1 hf;have hd':s.aF[i].dig=d:=by simpa using hd
   have hk:kids s.aF d=(ko s.aF[i].data).1.map (·.dig):=by
    unfold kids;simp only [hf,List.getElem?_eq_getElem hi]
   cases hm:s.aF[i].mark with
   | true =>
    left;refine⟨d,rest,i,hi,rfl,hf,hd',hm,?_⟩;simp only [hf,List.getElem?_eq_getElem hi,hm,if_true]
   | false =>
    right;refine⟨d,rest,i,hi,rfl,hf,hd',hm,?_⟩;rw [hk];simp only [hf,List.getElem?_eq_getElem hi,hm,Bool.false_eq_true,if_false]
theorem kP (s:StoP) (c:ColP):EqM s.aF (zS s c).1.aF/\(zS s c).1= { s with aF:=(zS s c).1.aF }:=by
 rcases kq s c with ⟨_,h⟩ | ⟨_,_,_,_,h⟩ | ⟨_,_,_,_,_,_,_,_,h⟩ | ⟨_,_,_,hi,_,_,_,_,h⟩
 ·rw [h];exact⟨rfl,rfl⟩
 ·rw [h];exact⟨rfl,rfl⟩
 ·rw [h];exact⟨rfl,rfl⟩
 ·rw [h];exact⟨YV hi true,rfl⟩
theorem KE (c:ColP) (hg:GoodS s):GoodS (zS s c).1:=by
 rw [(kP s c).2];exact ju (kP s c).1 hg
theorem Xn (s:StoP) (c:ColP):rts (zS s c).1=rts s:=by
 rw [(kP s c).2];exact jv (kP s c).1
theorem Xm (s:StoP) (c:ColP):Rch (zS s c).1.aF (rts (zS s c).1)=Rch s.aF (rts s):=by
 rw [Xn];exact YU (kP s c).1
theorem Q5 {c:ColP} (hg:GoodS s) (hp:c.aK=1) (h:GoodC s c):GoodC (zS s c).1 (zS s c).2:=by
 rcases kq s c with ⟨hc,e⟩ | ⟨d,rest,hc,hn,e⟩ | ⟨d,rest,i,hi,hc,_,hd,hm,e⟩ | ⟨d,rest,i,hi,hc,hf,hd,hm,e⟩
 ·rw [e];refine⟨Nat.le_refl _,(fun d hd=>by cases hd),List.Pairwise.nil,.inl rfl,fun _=>rfl,fun h=>absurd rfl h,fun h=>(by cases h),fun h=>(by cases h),fun _=> ?_⟩;refine Ku hg.b.ris (fun x hx hb=> ?_) (fun b hb hm x hx hi=> ?_)
  ·rcases h.mr hp x hx hb with h1 | h1
   ·exact h1
   ·rw [hc]at h1;cases h1
  ·rcases h.mb hp b hb hm x hx hi with h1 | h1
   ·exact h1
   ·rw [hc]at h1;cases h1
 ·rw [e];have hr:=h.ris;have hgh:=h.gh;rw [hc]at hr hgh;have drop:∀x,InB s.aF x->(x∈mkd s.aF\/x∈c.aJ)->x∈mkd s.aF\/x∈rest:=fun x hx hh=>hh.imp id fun h2=>by
   rw [hc]at h2;rcases List.mem_cons.1 h2 with rfl | h2
   ·exact absurd hx hn
   ·exact h2
  exact⟨by show 1<=2;omega,fun x hx=>hgh x (List.mem_cons_of_mem _ hx),(List.pairwise_cons.1 hr).2,.inl rfl,fun h=>absurd rfl h,fun _=>rfl,fun _ x hx hi=>drop x hi (h.mr hp x hx hi),fun _ b hb hm x hx hi=>drop x hi (h.mb hp b hb hm x hx hi),fun h=>by cases h⟩
 ·rw [e];have hr:=h.ris;have hgh:=h.gh;rw [hc]at hr hgh;have drop:∀x,InB s.aF x->(x∈mkd s.aF\/x∈c.aJ)->x∈mkd s.aF\/x∈rest:=fun x hx hh=>by
   rcases hh with h2 | h2
   ·exact .inl h2
   ·rw [hc]at h2;rcases List.mem_cons.1 h2 with rfl | h2
    ·exact .inl (qB.2 ⟨_,List.getElem_mem hi,hm,hd⟩)
    ·exact .inr h2
  exact⟨by show 1<=2;omega,fun x hx=>hgh x (List.mem_cons_of_mem _ hx),(List.pairwise_cons.1 hr).2,.inl rfl,fun h=>absurd rfl h,fun _=>rfl,fun _ x hx hi=>drop x hi (h.mr hp x hx hi),fun _ b hb hm x hx hi=>drop x hi (h.mb hp b hb hm x hx hi),fun h=>by cases h⟩
 ·have e1:(zS s c).1= { s with aF:=s.aF.set i { s.aF[i] with mark:=true } }:=by rw [e]
  have e2:(zS s c).2=⟨1,uni (rest++kids s.aF d), []⟩:=by rw [e]
  have hE:EqM s.aF (s.aF.set i { s.aF[i] with mark:=true }):=YV hi true;rw [e1,e2];have hgh:=h.gh;rw [hc]at hgh;have keep:∀x,(x∈mkd s.aF\/x∈c.aJ)->x∈mkd (s.aF.set i { s.aF[i] with mark:=true })\/x∈uni (rest++kids s.aF d):=fun x hh=>by
   rw [z01 hi,yd,List.mem_append];rcases hh with h2 | h2
   ·exact .inl (.inl h2)
   ·rw [hc]at h2;rcases List.mem_cons.1 h2 with rfl | h2
    ·exact .inl (.inr hd.symm)
    ·exact .inr (.inl h2)
  refine⟨by show 1<=2;omega,fun x hx=> ?_,yy _,.inl rfl,fun h=>absurd rfl h,fun _=>rfl,fun _ x hx hb=> ?_,fun _ b hb hmb x hx hbx=> ?_,fun h=>by cases h⟩
  ·rcases List.mem_append.1 (yd.1 hx) with h2 | h2
   ·exact hgh x (List.mem_cons_of_mem _ h2)
   ·exact U4 h2
  ·rw [jv hE]at hx;exact keep x (h.mr hp x hx ((vU hE).1 hb))
  ·have hk:kids (s.aF.set i { s.aF[i] with mark:=true }) b.dig=kids s.aF b.dig:=QE hE _;have hbx':=(vU hE).1 hbx;have hx':x∈kids s.aF b.dig:=by rw [<-hk];exact hx
   rcases List.mem_or_eq_of_mem_set hb with h2 | h2
   ·exact keep x (h.mb hp b h2 hmb x hx' hbx')
   ·subst h2;right;rw [yd,List.mem_append];have hx2:x∈kids s.aF s.aF[i].dig:=hx';rw [hd]at hx2;exact .inr hx2
theorem z0m (h:l.Sublist m):usd l<=usd m:=by
 induction h with
 | slnil=>exact Nat.le_refl _
 | cons a _ ih=>unfold usd at *;simp only [List.map_cons,List.sum_cons];omega
 | cons_cons a _ ih=>unfold usd at *;simp only [List.map_cons,List.sum_cons];omega
theorem yT (hr:RisesBy (·.dig) l) (i:Nat):RisesBy (·.dig) (l.eraseIdx i):=List.Pairwise.sublist (List.eraseIdx_sublist _ _) hr
theorem Zc (hr:RisesBy (·.dig) l) (hi:i<l.length) {b:BlobP} (hb:b∈l):b=l[i]\/b∈l.eraseIdx i:=by
 obtain⟨j,hj,rfl⟩:=List.mem_iff_getElem.1 hb;by_cases h:j=i
 ·subst h;exact .inl rfl
 ·right;rw [List.mem_eraseIdx_iff_getElem];exact⟨j,hj,h,rfl⟩
theorem yF (s:StoP) (c:ColP):(s.aF.findIdx? (fun b=>Op.bytesLess c.at_ b.dig)=aC/\qY s c=(s,⟨0, [], []⟩, [])) \/
  (∃i,∃hi:i<s.aF.length,s.aF.findIdx? (fun b=>Op.bytesLess c.at_ b.dig)=aD i/\s.aF[i].mark=true/\qY s c=(s,⟨2, [],s.aF[i].dig⟩, [])) \/
  (∃i,∃hi:i<s.aF.length,s.aF.findIdx? (fun b=>Op.bytesLess c.at_ b.dig)=aD i/\s.aF[i].mark=false/\qY s c=({ s with aF:=s.aF.eraseIdx i },⟨2, [],s.aF[i].dig⟩,s.aF[i].dig)):=by
 unfold qY;cases hf:s.aF.findIdx? (fun b=>Op.bytesLess c.at_ b.dig) with
 | none=>exact .inl ⟨rfl,by simp only [hf]⟩
 | some i =>
  right;obtain⟨hi,hd,_⟩:=List.findIdx?_eq_some_iff_getElem.1 hf;cases hm:s.aF[i].mark with
  | true=>exact .inl ⟨i,hi,rfl,hm,by simp only [hf,List.getElem?_eq_getElem hi,hm,if_true]⟩
  | false=>exact .inr ⟨i,hi,rfl,hm,by simp only [hf,List.getElem?_eq_getElem hi,hm,Bool.false_eq_true,if_false]⟩
section
variable {s:StoP} {i:Nat}
theorem QN (hg:GoodS s) (hi:i<s.aF.length) (hm:s.aF[i].mark=false) (hsw:∀x,Rch s.aF (rts s) x->x∈mkd s.aF):¬Rch s.aF (rts s) s.aF[i].dig:=fun h=>by
 obtain⟨b,hb,hmb,e⟩:=qB.1 (hsw _ h)
 have:=hg.b.ris.inj hb (List.getElem_mem hi) e
 subst this
 rw [hm]at hmb;cases hmb
theorem Zn (hg:GoodS s) (hi:i<s.aF.length) (hn:¬Rch s.aF (rts s) s.aF[i].dig):s.aF[i].aN=0:=by
 rcases Nat.eq_zero_or_pos s.aF[i].aN with h | h
 ·exact h
 ·exact absurd (.root (z0a (List.getElem_mem hi) h) ⟨_,List.getElem_mem hi,rfl⟩) hn
theorem Xl (hi:i<s.aF.length) (hp:s.aF[i].aN=0):ut (s.aF.eraseIdx i)=ut s.aF:=by
 unfold ut;rw [yv s.aF i hi (by simp [hp])]
theorem Uc (hi:i<s.aF.length) (hp:s.aF[i].aN=0):rts { s with aF:=s.aF.eraseIdx i }=rts s:=by
 show uj s.aG++ut (s.aF.eraseIdx i)=_;rw [Xl hi hp];rfl
theorem Ua (hg:GoodS s) (hi:i<s.aF.length) {x:ae} (hx:InB s.aF x) (hne:x≠s.aF[i].dig):InB (s.aF.eraseIdx i) x:=by
 obtain⟨b,hb,rfl⟩:=hx;rcases Zc hg.b.ris hi hb with h | h
 ·subst h;exact absurd rfl hne
 ·exact⟨b,h,rfl⟩
theorem QO (hg:GoodS s) (hi:i<s.aF.length) (hn:¬Rch s.aF (rts s) s.aF[i].dig):Rch (s.aF.eraseIdx i) (rts { s with aF:=s.aF.eraseIdx i })=Rch s.aF (rts s):=by
 rw [Uc hi (Zn hg hi hn)];refine funext fun x=>propext ⟨fun h=>h.sub hg.b.ris (yT hg.b.ris i) (vV _ _) (fun _ h=>h),fun h=>h.keepb hg.b.ris (yT hg.b.ris i) (vV _ _) (fun _ h=>h) (fun y hy=>Ua hg hi hy.inB (fun e=>hn (e▸hy)))⟩
theorem Zm (hg:GoodS s) (hi:i<s.aF.length) (hn:¬Rch s.aF (rts s) s.aF[i].dig):GoodS { s with aF:=s.aF.eraseIdx i }:=by
 refine⟨⟨Nat.le_trans (List.eraseIdx_sublist _ _).length_le hg.b.len,fun b hb=>hg.b.one b (vV _ _ b hb),yT hg.b.ris i⟩,hg.e,hg.aI,Nat.le_trans ?_ hg.used,hg.aH,fun x hx=>⟨(hg.ent x hx).1,fun p hp=> ?_⟩⟩
 ·show usd (s.aF.eraseIdx i)<=usd s.aF;exact z0m (List.eraseIdx_sublist s.aF i)
 ·obtain⟨b,hb,e1,e2⟩:=(hg.ent x hx).2 p hp;rcases Zc hg.b.ris hi hb with h | h
  ·subst h;exact absurd (.root (by rw [e1];exact QZ hx hp) ⟨_,hb,rfl⟩) hn
  ·exact⟨b,h,e1,e2⟩
theorem Ub (hi:i<s.aF.length) (hm:s.aF[i].mark=false):mkd (s.aF.eraseIdx i)=mkd s.aF:=by
 unfold mkd;rw [yv s.aF i hi hm]
end
theorem KM {c:ColP} (hg:GoodS s) (hp:c.aK=2) (h:GoodC s c):GoodS (qY s c).1/\GoodC (qY s c).1 (qY s c).2.1/\Rch (qY s c).1.aF (rts (qY s c).1)=Rch s.aF (rts s)/\(qY s c).1.aG=s.aG/\(qY s c).1.aI=s.aI/\(qY s c).1.aH=s.aH:=by
 rcases yF s c with ⟨_,e⟩ | ⟨i,hi,_,hm,e⟩ | ⟨i,hi,_,hm,e⟩
 ·rw [e];exact⟨hg,⟨by show 0<=2;omega,(fun d hd=>by cases hd),List.Pairwise.nil,.inl rfl,fun _=>rfl,fun _=>rfl,fun h=>(by cases h),fun h=>(by cases h),fun h=>by cases h⟩,rfl,rfl,rfl,rfl⟩
 ·rw [e];exact⟨hg,⟨Nat.le_refl _,(fun d hd=>by cases hd),List.Pairwise.nil,.inr (by show hexC s.aF[i].dig=0;rw [(hg.b.one _ (List.getElem_mem hi)).1];exact zn _),fun _=>rfl,fun h=>absurd rfl h,fun h=>(by cases h),fun h=>(by cases h),fun _=>h.sw hp⟩,rfl,rfl,rfl,rfl⟩
 ·have hn:=QN hg hi hm (h.sw hp);rw [e];refine⟨Zm hg hi hn,⟨Nat.le_refl _,(fun d hd=>by cases hd),List.Pairwise.nil,.inr (by show hexC s.aF[i].dig=0;rw [(hg.b.one _ (List.getElem_mem hi)).1];exact zn _),fun _=>rfl,fun h=>absurd rfl h,fun h=>(by cases h),fun h=>(by cases h),fun _ x hx=> ?_⟩,QO hg hi hn,rfl,rfl,rfl⟩;show x∈mkd (s.aF.eraseIdx i);rw [Ub hi hm];exact h.sw hp x (by rw [<-QO hg hi hn];exact hx)
def unm (bl:List BlobP):Nat:=(bl.filter (fun b=> !b.mark)).length
theorem z2a (bl:List BlobP):unm bl<=bl.length:=List.length_filter_le _ _
theorem xe {p:BlobP->Bool}:∀ {l:List BlobP} {i:Nat} {y:BlobP} (hi:i<l.length),p l[i]=true->p y=false->((l.set i y).filter p).length+1=(l.filter p).length
 | x::l,0,y,_,h1,h2=>by
  rw [List.set_cons_zero,List.filter_cons_of_neg (by simp [h2]),List.filter_cons_of_pos (by simpa using h1)];rfl
 | x::l,i+1,y,hi,h1,h2=>by
  have ih:=xe (l:=l) (i:=i) (y:=y) (by simpa using hi) (by simpa using h1) h2
  rw [List.set_cons_succ]
  by_cases hx:p x=true
  ·rw [List.filter_cons_of_pos hx,List.filter_cons_of_pos hx,List.length_cons,List.length_cons,ih]
  ·rw [List.filter_cons_of_neg hx,List.filter_cons_of_neg hx,ih]
def Yk (k:Nat) (bl:List BlobP):Prop:=∀b∈bl,(ko b.data).1.length<=k
theorem U5 (bl:List BlobP):Yk 8 bl:=fun b _=>yB b.data
theorem U7 (h:Yk k bl) (x:ae):(kids bl x).length<=k:=by
 unfold kids;cases hf:bl.findIdx? (fun b=>b.dig==x) with
 | none=>exact Nat.zero_le _
 | some i =>
  have hi:i<bl.length:=(List.findIdx?_eq_some_iff_getElem.1 hf).1;simp only [List.getElem?_eq_getElem hi,List.length_map];exact h _ (List.getElem_mem hi)
theorem KF {c:ColP} (hk:Yk k s.aF) (h:(zS s c).2.aK=1):k*unm (zS s c).1.aF+(zS s c).2.aJ.length+1<=k*unm s.aF+c.aJ.length:=by
 rcases kq s c with ⟨_,e⟩ | ⟨d,rest,hc,_,e⟩ | ⟨d,rest,i,hi,hc,_,_,_,e⟩ | ⟨d,rest,i,hi,hc,_,hd,hm,e⟩
 ·rw [e]at h;cases h
 ·rw [e,hc];simp only [List.length_cons];omega
 ·rw [e,hc];simp only [List.length_cons];omega
 ·rw [e,hc];have h1:=xe (p:=fun b=> !b.mark) (y:= { s.aF[i] with mark:=true }) hi (by simp [hm]) wu;have h2:=Qf (rest++kids s.aF d);have h3:=U7 hk d;rw [List.length_append]at h2;show k*unm (s.aF.set i _)+(uni (rest++kids s.aF d)).length+1<=k*unm s.aF+(d::rest).length;have h4:unm s.aF=unm (s.aF.set i { s.aF[i] with mark:=true })+1:=by unfold unm;exact h1.symm
  rw [h4,Nat.mul_add,Nat.mul_one,List.length_cons];omega
theorem Ud (s:StoP) (c:ColP):(zS s c).2.aK=1\/(zS s c).2=⟨2, [], []⟩:=by
 rcases kq s c with ⟨_,e⟩ | ⟨_,_,_,_,e⟩ | ⟨_,_,_,_,_,_,_,_,e⟩ | ⟨_,_,_,_,_,_,_,_,e⟩
 ·rw [e];exact .inr rfl
 ·rw [e];exact .inl rfl
 ·rw [e];exact .inl rfl
 ·rw [e];exact .inl rfl
def ahead (a:ae) (bl:List BlobP):Nat:=(bl.filter (fun b=>Op.bytesLess a b.dig)).length
theorem ZD {c:ColP} (hg:GoodS s) (hc:GoodC s c) (hp:c.aK=1\/c.aK=2):GoodS (qD s c).1/\GoodC (qD s c).1 (qD s c).2.1/\Rch (qD s c).1.aF (rts (qD s c).1)=Rch s.aF (rts s)/\(qD s c).1.aG=s.aG/\(qD s c).1.aI=s.aI/\(qD s c).1.aH=s.aH:=by
 unfold qD;rcases hp with hp | hp
 ·rw [if_pos hp];have e:=(kP s c).2;refine⟨KE c hg,Q5 hg hp hc,Xm s c,?_,?_,?_⟩<;>(show _=_;rw [e])
 ·rw [if_neg wm];exact KM hg hp hc
end Go.Proofs.YtaboknhfiijipaaGreat
