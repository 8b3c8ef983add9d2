/- Lemmas, as stated. -/
import Derived.Shelf.SlIter.Nil
import Derived.Shelf.SortM.Plain
import Derived.Shelf.SortM.SortNone
import Derived.Ground.GgzProg
import Derived.Ground.SlgmProg
import Derived.Test.YtaboknhfiijipaaGreatProg
import Derived.Maps.OwnSet
import Derived.Carry
import Derived.Test.YtaboknhfiijipaaGreatQO14
import Derived.Test.YtaboknhfiijipaaGreatQO15
set_option linter.unusedVariables false
set_option linter.unusedSimpArgs false
set_option maxRecDepth 100000
set_option maxHeartbeats 8000000
open Go.Proofs.Tryz
open Option renaming some->aG,none->aF
open Go.Proofs.Tryz renaming prog->zZZ
open Go.Value renaming slice->aA,int->aB,string->aD
open Go.IntKind renaming i64->aC
open Go.Obj renaming cells->aE
namespace Go.Proofs
open Go.Shelf
def Tryz.keys77_ren:Go.Shelf.Ren:=⟨fun | 7=>77 | 10=>131 | n=>n,fun | 23=>136 | 26=>9 | 3=>4 | 28=>139 | 0=>0 | 27=>138 | 33=>146 | 4=>4 | n=>n,fun | n=>n⟩
theorem Tryz.keys77:Go.Proofs.SlLaysZ.n7 Tryz.prog Tryz.keys77_ren:= {
 mixed:=by kernel_rfl
 f7:=⟨Tryz.f77.name,by decide,Tryz.func77.trans (congrArg aG (by kernel_rfl))⟩
 f10:=⟨Tryz.f131.name,by decide,Tryz.func131.trans (congrArg aG (by kernel_rfl))⟩
 t0:=Tryz.underlying0
 a0:=Tryz.isAgg0
 z0:=Tryz.sizeOf0
 v0:=Tryz.zeroValue0
 t4:=Tryz.underlying4
 a4:=Tryz.isAgg4
 z4:=Tryz.sizeOf4
 v4:=Tryz.zeroValue4
 t23:=Tryz.underlying136
 a23:=Tryz.isAgg136
 z23:=Tryz.sizeOf136
 v23:=Tryz.zeroValue136
 t26:=Tryz.underlying9
 a26:=Tryz.isAgg9
 z26:=Tryz.sizeOf9
 v26:=Tryz.zeroValue9
 t27:=Tryz.underlying138
 a27:=Tryz.isAgg138
 z27:=Tryz.sizeOf138
 v27:=Tryz.zeroValue138
 t28:=Tryz.underlying139
 a28:=Tryz.isAgg139
 z28:=Tryz.sizeOf139
 v28:=Tryz.zeroValue139
 t33:=Tryz.underlying146
 a33:=Tryz.isAgg146
 z33:=Tryz.sizeOf146
 v33:=Tryz.zeroValue146 }
def Tryz.sorted76_ren:Go.Shelf.Ren:=⟨fun | 6=>76 | 8=>129 | 9=>130 | 11=>160 | 13=>162 | 12=>161 | 23=>190 | 24=>191 | 14=>181 | 15=>182 | 16=>183 | 17=>184 | 18=>185 | 19=>186 | 20=>187 | 21=>188 | 22=>189 | 25=>203 | 26=>204 | 27=>205 | 28=>206 | 29=>207 | 30=>208 | 31=>217 | n=>n,fun | 26=>9 | 28=>139 | 24=>35 | 0=>0 | 3=>3 | 37=>184 | 48=>123 | 50=>122 | 4=>4 | 40=>258 | 39=>257 | 45=>263 | 5=>5 | 9=>9 | 51=>279 | 55=>283 | 57=>289 | 58=>290 | 33=>146 | n=>n,fun | n=>n⟩
theorem Tryz.sorted76:Go.Proofs.SlLaysZ.n6 Tryz.prog Tryz.sorted76_ren:= {
 mixed:=by kernel_rfl
 f6:=⟨Tryz.f76.name,by decide,Tryz.func76.trans (congrArg aG (by kernel_rfl))⟩
 f8:=⟨Tryz.f129.name,by decide,Tryz.func129.trans (congrArg aG (by kernel_rfl))⟩
 f11:=⟨Tryz.f160.name,by decide,Tryz.func160.trans (congrArg aG (by kernel_rfl))⟩
 t0:=Tryz.underlying0
 a0:=Tryz.isAgg0
 z0:=Tryz.sizeOf0
 v0:=Tryz.zeroValue0
 t24:=Tryz.underlying35
 a24:=Tryz.isAgg35
 z24:=Tryz.sizeOf35
 v24:=Tryz.zeroValue35
 t26:=Tryz.underlying9
 a26:=Tryz.isAgg9
 z26:=Tryz.sizeOf9
 v26:=Tryz.zeroValue9
 t28:=Tryz.underlying139
 a28:=Tryz.isAgg139
 z28:=Tryz.sizeOf139
 v28:=Tryz.zeroValue139
 i26:=by kernel_rfl }
def Tryz.sort130_ren:Go.Shelf.Ren:=⟨fun | 6=>130 | 8=>162 | 9=>161 | 19=>190 | 20=>191 | 21=>181 | 22=>182 | 23=>183 | 24=>184 | 25=>185 | 26=>186 | 27=>187 | 28=>188 | 29=>189 | 36=>203 | 31=>204 | 32=>205 | 37=>206 | 38=>207 | 39=>208 | 41=>217 | n=>n,fun | 27=>35 | 29=>9 | 3=>3 | 32=>184 | 26=>35 | 0=>0 | 44=>123 | 46=>122 | 4=>4 | 36=>258 | 35=>257 | 41=>263 | 5=>5 | 9=>9 | 53=>279 | 57=>283 | 63=>289 | 64=>290 | n=>n,fun | n=>n⟩
theorem Tryz.sort130:Go.Proofs.SlLaysM.n6 Tryz.prog Tryz.sort130_ren:= {
 mixed:=by kernel_rfl
 f6:=⟨Tryz.f130.name,by decide,Tryz.func130.trans (congrArg aG (by kernel_rfl))⟩
 f8:=Tryz.func162.trans (congrArg aG (by kernel_rfl))
 f9:=⟨Tryz.f161.name,by decide,Tryz.func161.trans (congrArg aG (by kernel_rfl))⟩
 f19:=Tryz.func190.trans (congrArg aG (by kernel_rfl))
 f20:=Tryz.func191.trans (congrArg aG (by kernel_rfl))
 f21:=⟨Tryz.f181.name,by decide,Tryz.func181.trans (congrArg aG (by kernel_rfl))⟩
 f22:=⟨Tryz.f182.name,by decide,Tryz.func182.trans (congrArg aG (by kernel_rfl))⟩
 f23:=⟨Tryz.f183.name,by decide,Tryz.func183.trans (congrArg aG (by kernel_rfl))⟩
 f24:=⟨Tryz.f184.name,by decide,Tryz.func184.trans (congrArg aG (by kernel_rfl))⟩
 f25:=⟨Tryz.f185.name,by decide,Tryz.func185.trans (congrArg aG (by kernel_rfl))⟩
 f26:=⟨Tryz.f186.name,by decide,Tryz.func186.trans (congrArg aG (by kernel_rfl))⟩
 f27:=⟨Tryz.f187.name,by decide,Tryz.func187.trans (congrArg aG (by kernel_rfl))⟩
 f28:=⟨Tryz.f188.name,by decide,Tryz.func188.trans (congrArg aG (by kernel_rfl))⟩
 f29:=⟨Tryz.f189.name,by decide,Tryz.func189.trans (congrArg aG (by kernel_rfl))⟩
 f31:=Tryz.func204.trans (congrArg aG (by kernel_rfl))
 f32:=Tryz.func205.trans (congrArg aG (by kernel_rfl))
 f36:=⟨Tryz.f203.name,by decide,Tryz.func203.trans (congrArg aG (by kernel_rfl))⟩
 f37:=⟨Tryz.f206.name,by decide,Tryz.func206.trans (congrArg aG (by kernel_rfl))⟩
 f38:=⟨Tryz.f207.name,by decide,Tryz.func207.trans (congrArg aG (by kernel_rfl))⟩
 f39:=⟨Tryz.f208.name,by decide,Tryz.func208.trans (congrArg aG (by kernel_rfl))⟩
 f41:=⟨Tryz.f217.name,by decide,Tryz.func217.trans (congrArg aG (by kernel_rfl))⟩
 t0:=Tryz.underlying0
 a0:=Tryz.isAgg0
 z0:=Tryz.sizeOf0
 v0:=Tryz.zeroValue0
 t3:=Tryz.underlying3
 a3:=Tryz.isAgg3
 z3:=Tryz.sizeOf3
 v3:=Tryz.zeroValue3
 t4:=Tryz.underlying4
 a4:=Tryz.isAgg4
 z4:=Tryz.sizeOf4
 v4:=Tryz.zeroValue4
 t5:=Tryz.underlying5
 a5:=Tryz.isAgg5
 z5:=Tryz.sizeOf5
 v5:=Tryz.zeroValue5
 t9:=Tryz.underlying9
 a9:=Tryz.isAgg9
 z9:=Tryz.sizeOf9
 v9:=Tryz.zeroValue9
 t26:=Tryz.underlying35
 a26:=Tryz.isAgg35
 z26:=Tryz.sizeOf35
 v26:=Tryz.zeroValue35
 t27:=Tryz.underlying35
 a27:=Tryz.isAgg35
 z27:=Tryz.sizeOf35
 v27:=Tryz.zeroValue35
 t29:=Tryz.underlying9
 a29:=Tryz.isAgg9
 z29:=Tryz.sizeOf9
 v29:=Tryz.zeroValue9
 t32:=Tryz.underlying184
 a32:=Tryz.isAgg184
 z32:=Tryz.sizeOf184
 v32:=Tryz.zeroValue184
 t35:=Tryz.underlying257
 a35:=Tryz.isAgg257
 z35:=Tryz.sizeOf257
 v35:=Tryz.zeroValue257
 t36:=Tryz.underlying258
 a36:=Tryz.isAgg258
 z36:=Tryz.sizeOf258
 v36:=Tryz.zeroValue258
 t41:=Tryz.underlying263
 a41:=Tryz.isAgg263
 z41:=Tryz.sizeOf263
 v41:=Tryz.zeroValue263
 t44:=Tryz.underlying123
 a44:=Tryz.isAgg123
 z44:=Tryz.sizeOf123
 v44:=Tryz.zeroValue123
 t46:=Tryz.underlying122
 a46:=Tryz.isAgg122
 z46:=Tryz.sizeOf122
 v46:=Tryz.zeroValue122
 t53:=Tryz.underlying279
 a53:=Tryz.isAgg279
 z53:=Tryz.sizeOf279
 v53:=Tryz.zeroValue279
 t57:=Tryz.underlying283
 a57:=Tryz.isAgg283
 z57:=Tryz.sizeOf283
 v57:=Tryz.zeroValue283
 t63:=Tryz.underlying289
 a63:=Tryz.isAgg289
 z63:=Tryz.sizeOf289
 v63:=Tryz.zeroValue289
 t64:=Tryz.underlying290
 a64:=Tryz.isAgg290
 z64:=Tryz.sizeOf290
 v64:=Tryz.zeroValue290 }
end Go.Proofs
namespace Go.Proofs.YtaboknhfiijipaaGreat
open Go.RowKit
variable {α:Type} {bl l m:List BlobP} {L M M' ds:List ai} {b base i k more n:Nat} {g:Option Nat} {s t:StoP} {v v1 v2:Value} {V W w w':World} {d:ai} {zs:ak} {N:am}
def kids (bl:List BlobP) (x:ai):List ai :=
 match bl.findIdx? (fun b=>b.dig==x) with
 | some i=>match bl[i]? with
  | some b=>(kr b.data).1.map (·.dig)
  | none=> []
 | none=> []
def InB (bl:List BlobP) (x:ai):Prop:=∃b∈bl,b.dig=x
theorem jG {x:ai}:InB bl x↔(bl.findIdx? (fun b=>b.dig==x)).isSome=true:=by
 rw [List.findIdx?_isSome,List.any_eq_true];constructor
 ·rintro⟨b,hb,rfl⟩;exact⟨b,hb,ab⟩
 ·rintro⟨b,hb,h⟩;exact⟨b,hb,by simpa using h⟩
inductive Rch (bl:List BlobP) (ds:List ai):List UInt8->Prop where
 | root {x}:x∈ds->InB bl x->Rch bl ds x
 | step {x y}:Rch bl ds x->y∈kids bl x->InB bl y->Rch bl ds y
theorem Rch.inB {x:ai} (h:Rch bl ds x):InB bl x:=by
 cases h<;>assumption
theorem Rch.mono {es:List ai} {x:ai} (h:Rch bl ds x) (hd:∀y∈ds,InB bl y->Rch bl es y):Rch bl es x:=by
 induction h with
 | root h1 h2=>exact hd _ h1 h2
 | step _ h2 h3 ih=>exact .step ih h2 h3
def unmet (bl:List BlobP) (M:List ai):Nat:=(bl.filter fun b=> !M.contains b.dig).length
theorem uf {α:Type} {p q:α->Bool}:∀(l:List α),(∀x∈l,p x=true->q x=true)->(l.filter p).length<=(l.filter q).length
 | [],_=>Nat.le_refl _
 | x::l,h=>by
  have ih:=uf l (fun y hy=>h y (by simp [hy]))
  by_cases hp:p x=true
  ·rw [List.filter_cons_of_pos hp,List.filter_cons_of_pos (h x ab hp)];simpa using ih
  ·rw [List.filter_cons_of_neg hp]
   by_cases hq:q x=true
   ·rw [List.filter_cons_of_pos hq];simp only [List.length_cons];omega
   ·rw [List.filter_cons_of_neg hq];exact ih
theorem ug {α:Type} {p q:α->Bool}:∀(l:List α),(∀x∈l,p x=true->q x=true)->(∃x∈l,p x=false/\q x=true)->(l.filter p).length<(l.filter q).length
 | [],_,h=>by obtain⟨x,hx,_⟩:=h;cases hx
 | x::l,h,h2=>by
  have hl:=fun y hy=>h y (List.mem_cons_of_mem x hy)
  by_cases hp:p x=true
  ·rw [List.filter_cons_of_pos hp,List.filter_cons_of_pos (h x ab hp)]
   obtain⟨y,hy,h3,h4⟩:=h2
   rcases List.mem_cons.1 hy with rfl | hy
   ·rw [hp]at h3;cases h3
   ·have:=ug l hl ⟨y,hy,h3,h4⟩;simpa using this
  ·rw [List.filter_cons_of_neg hp]
   by_cases hq:q x=true
   ·rw [List.filter_cons_of_pos hq];have:=uf l hl;simp only [List.length_cons];omega
   ·rw [List.filter_cons_of_neg hq]
    obtain⟨y,hy,h3,h4⟩:=h2
    rcases List.mem_cons.1 hy with rfl | hy
    ·exact absurd h4 hq
    ·exact ug l hl ⟨y,hy,h3,h4⟩
theorem jg (h:∀x∈M,x∈M'):unmet bl M'<=unmet bl M:=by
 refine uf _ fun b _ hb=> ?_;simp only [Bool.not_eq_true',List.contains_eq_mem,decide_eq_false_iff_not]at hb ⊢
 exact fun h2=>hb (h _ h2)
theorem K3 (hi:InB bl d) (hd:d∉M):unmet bl (M++ [d])<unmet bl M:=by
 obtain⟨b,hb,rfl⟩:=hi;refine ug _ (fun x _ hx=> ?_) ⟨b,hb,ab,by simp [hd]⟩;simp only [Bool.not_eq_true',List.contains_eq_mem,decide_eq_false_iff_not,List.mem_append,not_or]at hx ⊢
 exact hx.1
theorem V7 (bl:List BlobP):unmet bl []<=bl.length:=List.length_filter_le _ _
structure SeekR (bl:List BlobP) (M ds M':List ai):Prop where
 sub:∀x∈M,x∈M'
 hit:∀d∈ds,InB bl d->d∈M'
 come:∀x∈M',x∈M\/Rch bl ds x
 clo:∀x∈M',x∉M->∀y∈kids bl x,InB bl y->y∈M'
 len:M'.length+unmet bl M'<=M.length+unmet bl M
theorem SeekR.nil (bl:List BlobP) (M:List ai):SeekR bl M [] M:=⟨fun _ h=>h,fun _ h=>absurd h ab,fun _ h=> .inl h,fun _ h h2=>absurd h h2,Nat.le_refl _⟩
theorem SeekR.none_ (h:¬InB bl d):SeekR bl M [d] M :=
 ⟨fun _ h=>h,fun x h1 h2=>absurd h2 (by rw [List.mem_singleton.1 h1];exact h),fun _ h=> .inl h,fun _ h h2=>absurd h h2,Nat.le_refl _⟩
theorem SeekR.met (h:d∈M):SeekR bl M [d] M :=
 ⟨fun _ h=>h,fun x h1 _=>by rw [List.mem_singleton.1 h1];exact h,fun _ h=> .inl h,fun _ h h2=>absurd h h2,Nat.le_refl _⟩
theorem SeekR.snoc {M1 M2:List ai} (h1:SeekR bl M ds M1) (h2:SeekR bl M1 [d] M2):SeekR bl M (ds++ [d]) M2:=by
 refine⟨fun x h=>h2.sub x (h1.sub x h),fun x h hi=> ?_,fun x h=> ?_,fun x h hn y hy hi=> ?_,Nat.le_trans h2.len h1.len⟩
 ·rcases List.mem_append.1 h with h | h
  ·exact h2.sub x (h1.hit x h hi)
  ·exact h2.hit x h hi
 ·rcases h2.come x h with h3 | h3
  ·rcases h1.come x h3 with h4 | h4
   ·exact .inl h4
   ·exact .inr (h4.mono fun y hy hi=> .root (by simp [hy]) hi)
  ·exact .inr (h3.mono fun y hy hi=> .root (by simp [List.mem_singleton.1 hy]) hi)
 ·by_cases h3:x∈M1
  ·exact h2.sub y (h1.clo x h3 hn y hy hi)
  ·exact h2.clo x h h3 y hy hi
theorem SeekR.into (hi:InB bl d) (hd:d∉M) (h:SeekR bl (M++ [d]) (kids bl d) M'):SeekR bl M [d] M':=by
 have hroot:Rch bl [d] d:= .root ab hi;have hdm:d∈M':=h.sub d ab;have hl:=K3 hi hd;refine⟨fun x hx=>h.sub x (by simp [hx]),fun x hx _=>by rw [List.mem_singleton.1 hx];exact hdm,fun x hx=> ?_,fun x hx hn y hy hiy=> ?_,by have:=h.len;rw [List.length_append]at this;simp only [List.length_cons,List.length_nil]at this;omega⟩
 ·rcases h.come x hx with h1 | h1
  ·rcases List.mem_append.1 h1 with h1 | h1
   ·exact .inl h1
   ·exact .inr (by rw [List.mem_singleton.1 h1];exact hroot)
  ·exact .inr (h1.mono fun y hy hiy=> .step hroot hy hiy)
 ·by_cases hxd:x=d
  ·subst hxd;exact h.hit y hy hiy
  ·exact h.clo x hx (by simp [hn,hxd]) y hy hiy
theorem SeekR.all (h:SeekR bl [] ds M') (x:ai):x∈M'↔Rch bl ds x:=by
 constructor
 ·intro hx;rcases h.come x hx with h1 | h1
  ·cases h1
  ·exact h1
 ·intro hx
  induction hx with
  | root h1 h2=>exact h.hit _ h1 h2
  | step h1 h2 h3 ih=>exact h.clo _ ih ab _ h2 h3
open Go.Maps
def tt:DataW Unit:= .lit (.bool true)
def yp (w:World) (b:Nat) (M:List ai):Prop:=w.ownsMap zZZ 9 (plainElem zZZ 4) b M.length (setOf tt (M.map Lit.string))
theorem z45:Keyed zZZ 9:=string_keyed underlying9
theorem Xk (d:ai) (hd:d.length<=maxLen):keyOf zZZ 9 (.string ⟨d.toArray⟩)=aG (.string d):=by
 simp [keyOf,underlying9,mapKey,ByteArray.size,hd]
theorem vB (M:List ai):∀x∈M.map Lit.string,WideAt.IsKeyLit x:=by
 intro x hx;obtain⟨s,_,rfl⟩:=List.mem_map.1 hx;trivial
theorem QZ (a b:ai):(Lit.string a).sameKey (.string b)=decide (a=b):=by
 by_cases h:a=b
 ·subst h;simp [Lit.sameKey]
 ·simp [Lit.sameKey,h]
theorem z09 (M:List ai) (d:ai):has (setOf tt (M.map Lit.string)) (.string d)=decide (d∈M):=by
 rw [has_setOf _ _ _ (vB M),List.any_map];by_cases h:d∈M
 ·rw [decide_eq_true h,List.any_eq_true];exact⟨d,h,by simp [QZ]⟩
 ·rw [decide_eq_false h,List.any_eq_false];intro x hx;simp only [Function.comp_def,QZ,decide_eq_true_eq];rintro rfl;exact h hx
theorem Z3 (d:ai) (z:DataW Unit):∀(n:Nat) (M:List ai),M.length=n->(setOf tt (M.map Lit.string)).atKey (.string d) z=if d∈M then tt else z
 | 0,M,h=>by
  obtain rfl:=List.eq_nil_of_length_eq_zero h
  rfl
 | n+1,M,h=>by
  obtain⟨M0,x,rfl⟩:∃M0 x,M=M0++ [x]:=⟨M.dropLast,M.getLast (by intro e;simp [e]at h),(List.dropLast_concat_getLast _).symm⟩
  have h0:M0.length=n:=by simpa using h
  rw [List.map_append,List.map_cons,List.map_nil,setOf_snoc]
  by_cases hx:d=x
  ·subst hx
   rw [atKey_put_same (tidy_setOf _ _ (vB M0)).isMap (show WideAt.IsKeyLit (.string d) from trivial),if_pos ab]
  ·rw [atKey_put_other (by intro e;injection e with e;exact hx e),Z3 d z n M0 h0]
   by_cases hm:d∈M0
   ·rw [if_pos hm,if_pos (by simp [hm])]
   ·rw [if_neg hm,if_neg (by simp [hm,hx])]
theorem J9 (x:Bool):plainElem (H:=Unit) zZZ 4 (.bool x)=aG (.lit (.bool x), []):=plainElem_bool underlying4 x
theorem uZ {y:Bool} {ps:List MemPlace} (h:plainElem (H:=Unit) zZZ 4 v=aG (.lit (.bool y),ps)):v= .bool y:=by
 unfold plainElem at h;cases v<;>simp [underlying4]at h
 all_goals first | (obtain⟨rfl,_⟩:=h;rfl) | simp_all
theorem yp.look (h:yp w b M) (d:ai) (hd:d.length<=maxLen) :
  (Instr.lookup 136 (.map (aG b)) (.string ⟨d.toArray⟩) false).run zZZ w= .ok (.bool (decide (d∈M))) w:=by
 obtain⟨v,ps,hrun,hv⟩:=World.ownsMap.lookup h z45 underlying136 (z:= .bool false) ac (J9 false) (Xk d hd);rw [Z3 d _ _ M rfl]at hv;rw [hrun];by_cases hm:d∈M
 ·rw [if_pos hm]at hv;rw [decide_eq_true hm,uZ hv]
 ·rw [if_neg hm]at hv;rw [decide_eq_false hm,uZ hv]
theorem yp.put (h:yp w b M) (d:ai) (hd:d.length<=maxLen) (hn:M.length<maxLen) :
  ∃w',(Instr.mapUpdate 136 (.map (aG b)) (.string ⟨d.toArray⟩) (.bool true)).run zZZ w= .ok () w'/\yp w' b (M++ [d])/\w.grownBy w' (aG b):=by
 obtain⟨w',hrun,h1,h2⟩:=World.ownsMap.update h z45 underlying136 hn (Xk d hd) (J9 true);refine⟨w',hrun,?_,h2⟩;unfold yp;rw [List.map_append,List.map_cons,List.map_nil,setOf_snoc,List.length_append];exact h1
theorem yp.made (w:World):yp (w.alloc (.map #[] 0)) w.heap.size []:=World.ownsMap_made w _ _ _
theorem yp.lt (h:yp w b M):b<w.heap.size:=World.ownsMap.lt h
theorem yp.kept {row:Option Nat} (h:yp w b M) (hg:w.grownBy w' row) (hne:aG b≠row):yp w' b M:=World.ownsMap.kept h hg hne
theorem yp.below (h:yp w b M) (hb:Below w.heap.size w w'):yp w' b M:=h.kept ⟨hb.os,hb.tape,hb.output,hb.size,fun k hk _=>hb.block k hk⟩ (row:=none) ab
theorem Xl {ss:List ai} (hs:yp w b M) (h:ss.Perm (strKeys (setOf tt (M.map Lit.string)))):StrL (ss.mergeSort leB) (fun x=>x∈M):=by
 obtain⟨es,he,hp⟩:=tidy_setOf tt (M.map Lit.string) (vB M);obtain⟨es',he',hk'⟩:=World.ownsMap.keysOf hs;have e1:es=es':=by rw [he]at he';injection he'
 subst e1;have hk:∀p∈es,∃x,p.1= .string x:=fun p hp'=>by
  obtain⟨v,hv⟩:=hk' p hp';obtain⟨x,_,e,_⟩:=Maps.keyOf_str underlying9 hv;exact⟨x,e⟩
 have h1:=perm_strKeys hp hk (Zs M) (fun x=>by rw [xP,<-he,z09];simp);rw [he]at h;have h2:=h.trans h1.symm;have h3:=(List.mergeSort_perm ss leB).trans h2;have tr:∀a b c:ai,leB a b=true->leB b c=true->leB a c=true:=fun a b c h1 h2=>by simp only [leB,decide_eq_true_eq] at *;exact List.le_trans h1 h2
 have to:∀a b:ai,(leB a b||leB b a)=true:=fun a b=>by simp only [leB,Bool.or_eq_true,decide_eq_true_eq];exact List.le_total a b
 exact⟨h3.nodup_iff.2 (Zs M),List.pairwise_mergeSort tr to ss,fun x=>by rw [h3.mem_iff,xP]⟩
open Go.Sort Go.Shelf
theorem z0w (m:Nat):AnyZ.SortsIn zZZ Tryz.sorted76_ren Fence.wide m :=
 ⟨fun blk off cap ss W hH hblk hsz=>callsIn_wide.2 (AnyM.slices_Sort_string Tryz.sort130 blk off cap ss W hH hblk hsz),
  fun p cap W=>callsIn_wide.2 (AnyM.slices_Sort_string_none Tryz.sort130 p cap W)⟩
theorem Yl (b:Nat) (W:World):Calls zZZ 77 #[.map (aG b)] W fun e w'=>e= .returned (.func (.func 131) #[] #[.pointer (aG ⟨W.heap.size,0,none⟩)])/\w'=W.alloc (aE #[.map (aG b)] 136) :=
 callsIn_wide.1 (AnyZ.keys_in Tryz.keys77 Fence.wide 5 trivial rfl (aG b) W)
theorem jZ (b:Nat) (M:List ai) (w:World) (hs:yp w b M) (hmax:M.length<=1000000) :
  Calls zZZ 76 #[.func (.func 131) #[] #[.pointer (aG ⟨w.heap.size,0,none⟩)]] (w.alloc (aE #[.map (aG b)] 136)) fun e w'=>∃v L,e= .returned v/\StrL L (fun x=>x∈M)/\L.length<=M.length /\
   w'.ownsRow (w.alloc (aE #[.map (aG b)] 136)).heap.size 9 1 v L.length (strs L)/\Below (w.alloc (aE #[.map (aG b)] 136)).heap.size (w.alloc (aE #[.map (aG b)] 136)) w':=by
 have hown:=hs;unfold yp at hown;have hbl:=World.ownsMap.lt hown;have hsz:=World.ownsMap.size_le hown;have hseq:SeqGives Fence.wide 2 zZZ 131 #[.pointer (aG ⟨w.heap.size,0,none⟩)] encStr (fun ss=>ss.Perm (strKeys (setOf tt (M.map Lit.string)))) (Maps.size (setOf tt (M.map Lit.string))) (w.alloc (aE #[.map (aG b)] 136)) :=
  AnyZ.keys_gives (ρ:=Tryz.keys77_ren) { Tryz.keys77 with } Fence.wide _ trivial rfl wu w.heap.size b M.length _ _ ab ab (by
   obtain⟨es,aK,hb,Ft,hs,hD⟩:=hown;exact⟨es,aK,(Below.heap_alloc _ _ b hbl).trans hb,Ft,hs,hD⟩)
 have h:=AnyZ.sorted_in Tryz.sorted76 Fence.wide 5 trivial trivial trivial trivial rfl wu (z0w _) (enters_of func130 ww rfl) 131 #[.pointer (aG ⟨w.heap.size,0,none⟩)] trivial (enters_of func131 ww rfl) _ _ (by unfold maxLen;omega) wu _ hseq;refine(callsIn_wide.1 h).mono ?_;rintro e w' ⟨v,ss,rfl,hp,hrow,_,hb⟩;have hL:=Xl hs hp;have hlen:(ss.mergeSort leB).length=ss.length:=List.length_mergeSort ss;refine⟨v,ss.mergeSort leB,rfl,hL,?_,?_,hb⟩
 ·rw [hlen,hp.length_eq];obtain⟨es,he,_⟩:=tidy_setOf tt (M.map Lit.string) (vB M);rw [he]at hsz ⊢
  show(es.map _).length<=_;rw [List.length_map];exact hsz
 ·rw [hlen];exact hrow
theorem Xm (h:bl.findIdx? (fun b=>b.dig==d)=aG i) (hi:i<bl.length):kids bl d=(kr bl[i].data).1.map (·.dig):=by
 unfold kids;rw [h];dsimp only;rw [List.getElem?_eq_getElem hi]
theorem vy (x:List PartP):dcs x=strs (x.map (·.dig)):=by simp [dcs,strs]
theorem JJ (gs b c:Nat) (A:aj) (bl:List BlobP) (w0:World) (hg:w0.heap.size<=gs) (hbs:w0.heap.size<=b) (hne:gs≠b) (hl:bl.length<=1000) (hcap:bl.length<=c) (hcm:c<=maxLen) (hdig:∀x∈bl,x.dig.length<=1000) (hrd:Rw BlobS w0 A bl) :
  ∀(m:Nat) (M:List ai) (d:ai) (w:World),unmet bl M<m->M.length+unmet bl M<=bl.length->Below w0.heap.size w0 w->Arr w gs 160 [aA A bl.length c,.map (aG b)]->yp w b M ->
   Calls zZZ 95 #[.pointer (aG ⟨gs,0,none⟩),.string ⟨d.toArray⟩] w fun e w'=>e= .returned (.tuple #[])/\∃M',SeekR bl M [d] M'/\yp w' b M'/\w.grownBy w' (aG b):=by
 intro m
 induction m with
 | zero=>intro M d w h;exact absurd h wu
 | succ m ih =>
  intro M d w hun hlen hb0 hbox hset;have HF:=ko A c bl d w wu (hrd.below hb0);have a0:=hbox.c0;have HB0:=sqH hb0;have hs0:=hb0.size;cases hf:bl.findIdx? (fun x=>x.dig==d) with
  | none =>
   rw [hf]at HF;obtain⟨HFF,HR,HST,HIH⟩:=sqJ4 HF (SeekR.none_ (bl:=bl) (M:=M) (d:=d) (by rw [jG,hf];simp)) hset ih;clear HF hf hset ih;go_enter func95,ntmps95;go_wp2_with fail;refine wZ HFF.o fun w2 hb2=>?_;dsimp only;unfold xl;dsimp only;go_wp2_with fail
   ((try simp only [Exit.inBlock,Exit.then]);first | (refine bodyPost_ret (results_none rfl _ _ _) rfl ?_) | (refine bodyPost_end (results_none rfl _ _ _) rfl ?_))
   exact⟨rfl,M,HR.o,HST.o.below hb2,zR hb2 _⟩
  | some i =>
   rw [hf]at HF;have HFF:=sqH HF;have hi:i<bl.length:=(List.findIdx?_eq_some_iff_getElem.1 hf).1;have hdi:bl[i].dig=d:=by simpa using (List.findIdx?_eq_some_iff_getElem.1 hf).2.1
   have hin:InB bl d:=⟨bl[i],List.getElem_mem hi,hdi⟩
   have hdl:d.length<=maxLen:=by have:=hdig _ (List.getElem_mem hi);rw [hdi]at this;unfold maxLen;omega
   obtain⟨HKD,HDL,HIN⟩:=sqJ3 (Xm hf hi) hdl hin;have hi0:=we i
   have hi1:(i:Int)<(bl.length:Int):=wu;have HIH:=sqH ih;have HI:=sqH hi;clear HF hf hdi hin hdl ih;by_cases hm:d∈M
   ·have HR:=sqH (SeekR.met (bl:=bl) hm);have hlk:=fun (w2:World) (h:yp w2 b M)=>h.look d HDL.o;rw [decide_eq_true hm]at hlk;have HLK:=sqH hlk;have HST:=sqH hset;clear hm hlk hset;go_enter func95,ntmps95;go_wp2_with fail;refine wZ HFF.o fun w2 hb2=>?_;dsimp only;unfold xl;dsimp only;have hset2:=HST.o.below hb2;have hrun:=HLK.o w2 hset2;have a1:=(hbox.below hb2).c1;go_wp2_with fail
    ((try simp only [Exit.inBlock,Exit.then]);first | (refine bodyPost_ret (results_none rfl _ _ _) rfl ?_) | (refine bodyPost_end (results_none rfl _ _ _) rfl ?_))
    exact⟨rfl,M,HR.o,hset2,zR hb2 _⟩
   ·have HMU:=sqH (K3 HIN.o hm);have hlk:=fun (w2:World) (h:yp w2 b M)=>h.look d HDL.o;rw [decide_eq_false hm]at hlk;obtain⟨HLK,HST,HNM⟩:=sqJ3 hlk hset hm;have hMn:M.length<maxLen:=by unfold maxLen;omega
    clear hm hlk hset;go_enter func95,ntmps95;go_wp2_with fail;refine wZ HFF.o fun w2 hb2=>?_;dsimp only;unfold xl;dsimp only;have hset2:=HST.o.below hb2;have hrun:=HLK.o w2 hset2;have hbox2:=hbox.below hb2;have a1:=hbox2.c1;obtain⟨w3,hput,hset3,hg3⟩:=hset2.put d HDL.o hMn;have hbox3:=hbox2.grown hg3 (fun e=>hne (by injection e with e;exact e.symm));have a2:=hbox3.c0;have hb03:=(hb0.trans (hb2.mono hs0)).grown hg3 (by have:=hb2.size;omega) (fun k hk=>by cases hk;exact hbs);obtain⟨bq,oq,B,cq,hA,hbq,d0,d1,d2,d3,hs⟩:=(hrd.below hb03).blob_at i hi;have HPT:=sqH (vO ⟨bl[i].dig.toArray⟩ B bl[i].data.length cq bl[i].data (bl[i].aQ:Int) bl[i].mark w3 rfl hs.cap hs.max hs.rd);have hx8:=yG bl[i].data;have hG03:=(zR hb2 (row:=aG b)).trans hg3;subst hA;have HHS:=sqH hrd;clear hs hset2 hg3 hbox hbox2 a0 hrd;obtain⟨ks,hks⟩:∃ks,kids bl d=ks:=⟨_,rfl⟩
    obtain⟨xs,hxs⟩:∃xs,(kr bl[i].data).1=xs:=⟨_,rfl⟩
    have hkx:xs.map (·.dig)=ks:=by rw [<-hks,<-hxs];exact HKD.o.symm
    have hkl:xs.length=ks.length:=by rw [<-hkx,List.length_map]
    rw [hxs,vy,hkx,hkl]at HPT;rw [hxs,hkl]at hx8;have HKS:=sqH hks;clear hks hkx hkl hxs HKD;go_wp2_with fail;refine HPT.o.mono ?_;rintro e_ w4 ⟨v4,rfl,ho4,hb4⟩;dsimp only;have hset4:=hset3.below hb4;have hbox4:=hbox3.below hb4;have hb04:=wm hb03 hb4;have hG04:=hG03.trans (zR hb4 (row:=aG b));obtain⟨A4,c4,rfl,hc4,hr4⟩:=Rd.of_own' ho4;have hA4:∀bb off,A4=aG ⟨bb,off,none⟩->0<ks.length->bb≠b:=fun bb off e h0=>by
     have h5:=(ho4.lt bb (by rw [e];rfl)).1;have:=hset3.lt;omega
    have hks8:(ks.length:Int)<=9223372036854775807:=wu;clear ho4 hset3 hbox3 hb03 hb4 hG03 d0 d1 d2 d3 a1 a2 hrun hput;go_wp2_with fail;go_loopg [41] ks.length (fun gn i wr=>∃(j:Nat) (M':List ai),gn=ks.length - j/\i= aB aC j/\j<=ks.length/\SeekR bl (M++ [d]) (ks.take j) M'/\yp wr b M'/\w4.grownBy wr (aG b))
    case atStart=>exact⟨0,M++ [d],rfl,rfl,wu,by rw [List.take_zero];exact SeekR.nil _ _,hset4,World.grownBy.refl _ _⟩
    case round =>
     obtain⟨j,M',hgj,rfl,hj,hR,hsetr,hgr⟩:=hrel;have HGJ:=sqH hgj;have HRR:=sqH hR;clear hgj hR;by_cases hlt:j<ks.length
     rotate_left
     ·obtain rfl:j=ks.length:=by omega
      have hlb:decide (ks.length<ks.length)=false:=ab;have hfin:=HRR.o;rw [List.take_length]at hfin;rw [<-HKS.o]at hfin;have HFN:=sqH (SeekR.into HIN.o HNM.o hfin);clear hfin;go_wp2_with fail
      ((try simp only [Exit.inBlock,Exit.then]);first | (refine bodyPost_ret (results_none rfl _ _ _) rfl ?_) | (refine bodyPost_end (results_none rfl _ _ _) rfl ?_))
      exact⟨rfl,M',HFN.o,hsetr,hG04.trans hgr⟩
     have hlb:decide (j<ks.length)=true:=decide_eq_true hlt;have hj0:=we j
     have hj1:(j:Int)<(ks.length:Int):=wu;obtain⟨bb,off,hAb,_,hcell⟩:=(hr4.far hgr hA4).2 wu;subst hAb;have e0:=hcell j _ (yl ks j hlt);have hboxr:=hbox4.grown hgr (fun e=>hne (by injection e with e;exact e.symm));have hb0r:=hb04.grown hgr hb04.size (fun k hk=>by cases hk;exact hbs);have hun1:=jg (bl:=bl) HRR.o.sub;have hln1:=HRR.o.len;rw [List.length_append]at hln1;simp only [List.length_cons,List.length_nil]at hln1;have hmu:=HMU.o;have HCL:=sqH (HIH.o M' ks[j] wr wu wu hb0r hboxr hsetr);have HTK:=sqH (show ks.take (j+1)=ks.take j++ [ks[j]] from List.take_succ_eq_append_getElem hlt);generalize ks[j]=kd at *
     clear hcell hun1 hln1 hmu hb0r hboxr;go_wp2_with fail;refine HCL.o.mono ?_;rintro e_ w6 ⟨rfl,M2,hR2,hset6,hg6⟩;dsimp only;have HR2:=sqH hR2;clear hR2 e0;go_wp2_with fail;go_roundg (ks.length - (j+1))
     case measure=>exact wc HGJ
     case rel=>exact⟨j+1,M2,rfl,by go_num,wu,by rw [HTK.o];exact HRR.o.snoc HR2.o,hset6,hgr.trans hg6⟩
theorem ZP (A D:aj) (c dc:Nat) (bl:List BlobP) (ds:List ai) (w:World) (hl:bl.length<=1000) (hcap:bl.length<=c) (hcm:c<=maxLen) (hdig:∀x∈bl,x.dig.length<=1000) (hrd:Rw BlobS w A bl) (hdn:ds.length<=1000000) (hrd2:Rd w 1 D ds.length (strs ds)) :
  Calls zZZ 41 #[aA A bl.length c,aA D ds.length dc] w fun e w'=>∃v L,e= .returned v/\StrL L (Rch bl ds)/\L.length<=bl.length/\w'.ownsRow w.heap.size 9 1 v L.length (strs L)/\Below w.heap.size w w':=by
 obtain⟨b,hb⟩:=wY w.heap.size
 obtain⟨gs,hgs⟩:=wY (w.heap.size+1)
 have hm0:=yp.made w;have hm1:yp ((w.alloc (.map #[] 0)).alloc (aE #[aA A bl.length c,.map (aG w.heap.size)] 160)) w.heap.size []:=World.ownsMap.alloc hm0 _;have hx1:Arr ((w.alloc (.map #[] 0)).alloc (aE #[aA A bl.length c,.map (aG w.heap.size)] 160)) (w.alloc (.map #[] 0)).heap.size 160 [aA A bl.length c,.map (aG w.heap.size)]:=Arr.new _ _ _;rw [World.size_alloc,<-hgs,<-hb]at hx1;rw [<-hb]at hm1;have hb1:=(ws w (.map #[] 0))
 have hb2:=hb1.alloc hb1.size (aE #[aA A bl.length c,.map (aG b)] 160);have HSK:=sqH (JJ gs b c A bl w wu wu wu hl hcap hcm hdig hrd);have HB:=sqH hb;have hHb:w.heap.size<=b:=wu;have hgb:gs≠b:=wu;have hd63:(ds.length:Int)<=9223372036854775807:=wu;obtain⟨w1,hw1⟩:=wY ((w.alloc (.map #[] 0)).alloc (aE #[aA A bl.length c,.map (aG b)] 160))
 rw [<-hw1]at hm1 hx1 hb2;have HW1:=sqH hw1;have HGS:=sqH hgs;clear hm0 hb1 hrd hw1 hgs hb;have hmm:= @run_makeMap zZZ;go_enter func41,ntmps41;go_wp2_with fail;rw [<-HB.o,<-HW1.o];rw [show b+1=gs from by rw [HB.o,HGS.o]];clear HW1 HGS hmm;go_loopg [14] ds.length (fun gn i wr=>∃(j:Nat) (M':List ai),gn=ds.length - j/\i= aB aC j/\j<=ds.length/\SeekR bl [] (ds.take j) M'/\yp wr b M'/\w1.grownBy wr (aG b))
 case atStart=>exact⟨0, [],rfl,rfl,wu,by rw [List.take_zero];exact SeekR.nil _ _,hm1,World.grownBy.refl _ _⟩
 case round =>
  obtain⟨j,M',hgj,rfl,hj,hR,hsetr,hgr⟩:=hrel;have HGJ:=sqH hgj;have HRR:=sqH hR;have hboxr:=hx1.grown hgr (fun e=>hgb (by injection e with e;exact e.symm));have hb0r:=hb2.grown hgr hb2.size (fun k hk=>by cases hk;exact hHb);have hln1:=HRR.o.len;have hun0:=V7 bl;have hun1:=jg (bl:=bl) (M:= []) (M':=M') (fun x h=>nomatch h);simp only [List.length_nil,Nat.zero_add]at hln1;clear hgj hR;by_cases hlt:j<ds.length
  rotate_left
  ·obtain rfl:j=ds.length:=by omega
   have hlb:decide (ds.length<ds.length)=false:=ab;have hfin:=HRR.o;rw [List.take_length]at hfin;have HFN:=sqH hfin;have a1:=hboxr.c1;have hMl:M'.length<=bl.length:=wu;clear hfin hln1 hun0 hun1;go_wp2_with fail;refine(Yl b wr).mono ?_;rintro e_ wk ⟨rfl,rfl⟩;dsimp only;have hbk:=ws wr (aE #[.map (aG b)] 136);have HSO:=sqH (jZ b M' wr hsetr wu);go_wp2_with fail;refine HSO.o.mono ?_;rintro e_ wz ⟨vz,L,rfl,hL,hLl,hoz,hbz⟩;dsimp only;have hbkz:=wm hbk hbz;have hoz':=zb hoz hbk.size;go_wp2_with fail;go_ret;refine⟨vz,L,rfl,⟨hL.nd,hL.le,fun x=>by rw [hL.mem,HFN.o.all]⟩,wu,zb hoz' hb0r.size,wm hb0r hbkz⟩
  have hlb:decide (j<ds.length)=true:=decide_eq_true hlt;have hj0:=we j
  have hj1:(j:Int)<(ds.length:Int):=wu;obtain⟨bb,off,hAb,_,hcell⟩:=(hrd2.below hb0r).2 wu;subst hAb;have e0:=hcell j _ (yl ds j hlt);have HCL:=sqH (HSK.o (bl.length+1) M' ds[j] wr wu wu hb0r hboxr hsetr);have HTK:=sqH (show ds.take (j+1)=ds.take j++ [ds[j]] from List.take_succ_eq_append_getElem hlt);generalize ds[j]=kd at *
  clear hcell hun1 hln1 hun0 hb0r hboxr;go_wp2_with fail;refine HCL.o.mono ?_;rintro e_ w6 ⟨rfl,M2,hR2,hset6,hg6⟩;dsimp only;have HR2:=sqH hR2;clear hR2 e0;go_wp2_with fail;go_roundg (ds.length - (j+1))
  case measure=>exact wc HGJ
  case rel=>exact⟨j+1,M2,rfl,by go_num,wu,by rw [HTK.o];exact HRR.o.snoc HR2.o,hset6,hgr.trans hg6⟩
def ur (es:List EntP):List ai:=es.flatMap (fun x=>x.aP.map (·.dig))
def uB (bl:List BlobP):List ai:=(bl.filter (fun b=>decide (0<b.aQ))).map (·.dig)
def rts (s:StoP):List ai:=ur s.aJ++uB s.aI
theorem XT (es:List EntP) (k:Nat) (h:k<es.length):ur (es.take (k+1))=ur (es.take k)++es[k].aP.map (·.dig):=by
 unfold ur;rw [List.take_succ_eq_append_getElem h,List.flatMap_append];simp
theorem XS (bl:List BlobP) (k:Nat) (h:k<bl.length):uB (bl.take (k+1))=uB (bl.take k)++(if 0<bl[k].aQ then [bl[k].dig] else []):=by
 unfold uB;rw [List.take_succ_eq_append_getElem h,List.filter_append,List.map_append]
 congr 1
 by_cases hp:0<bl[k].aQ
 ·rw [if_pos hp,List.filter_cons_of_pos (by simpa using hp)];rfl
 ·rw [if_neg hp,List.filter_cons_of_neg (by simpa using hp)];rfl
theorem vF (es:List EntP) (h:∀x∈es,x.aP.length<=8):(ur es).length<=8*es.length:=by
 induction es with
 | nil=>simp [ur]
 | cons x es ih =>
  have h1:=h x ab;have h2:=ih (fun y hy=>h y (by simp [hy]));unfold ur at h2 ⊢
  rw [List.flatMap_cons,List.length_append,List.length_map,List.length_cons];omega
theorem jL (bl:List BlobP):(uB bl).length<=bl.length:=by
 unfold uB;rw [List.length_map];exact List.length_filter_le _ _
structure RtsOk (s:StoP):Prop where
 e:s.aJ.length<=24
 p:∀x∈s.aJ,x.aP.length<=8
 d:∀x∈s.aJ,∀q∈x.aP,q.dig.length<=1000
 b:s.aI.length<=24
 g:∀x∈s.aI,x.dig.length<=1000
theorem RtsOk.len (h:RtsOk s):(rts s).length<=216:=by
 have h1:=vF s.aJ h.p;have h2:=jL s.aI;have:=h.e;have:=h.b;unfold rts;rw [List.length_append];omega
theorem GoodS.rts (h:GoodS s):RtsOk s :=
 ⟨by have:=h.e.len;omega,fun x hx=>(zk (h.e.one x hx).2.1).1,fun x hx q hq=>by have:=qN ((zk (h.e.one x hx).2.1).2 q hq).2.1;omega,h.b.len,fun x hx=>by rw [(h.b.one x hx).1];have:=qN (zy x.data);omega⟩
theorem xh (A B:aj) (c d:Nat) (s:StoP) (R C:Int) (w:World) (hs:RtsOk s) (hrd:RdSt w A c B d s) :
  Calls zZZ 35 #[.agg #[aA A s.aI.length c,aA B s.aJ.length d,aB aC R,aB aC C]] w fun e w'=>∃v L,e= .returned v/\StrL L (fun x=>x∈rts s)/\L.length<=216/\w'.ownsRow w.heap.size 9 1 v L.length (strs L)/\Below w.heap.size w w':=by
 have hrl:=hs.len;have hel:=hs.e;have hbl:=hs.b;have HS:=sqH hs;have hx0:Arr (w.alloc (aE #[aA A s.aI.length c,aA B s.aJ.length d,aB aC R,aB aC C] 34)) w.heap.size 34 [aA A s.aI.length c,aA B s.aJ.length d,aB aC R,aB aC C]:=Arr.new w 34 _;have hb0:=ws w (aE #[aA A s.aI.length c,aA B s.aJ.length d,aB aC R,aB aC C] 34);have hx1:=hx0.alloc (.map #[] 0);have hm1:=yp.made (w.alloc (aE #[aA A s.aI.length c,aA B s.aJ.length d,aB aC R,aB aC C] 34));have hb1:=hb0.alloc hb0.size (.map #[] 0);rw [World.size_alloc]at hm1;obtain⟨b,hb⟩:=wY (w.heap.size+1)
 obtain⟨gS,hgS⟩:=wY w.heap.size
 rw [<-hgS]at hx1;rw [<-hb]at hm1;have hgb:gS≠b:=wu;have hwb:w.heap.size<=b:=wu;have HB:=sqH hb;have HG:=sqH hgS;obtain⟨w1,hw1⟩:=wY ((w.alloc (aE #[aA A s.aI.length c,aA B s.aJ.length d,aB aC R,aB aC C] 34)).alloc (.map #[] 0))
 have HW:=sqH hw1;rw [<-hw1]at hx1 hm1 hb1;have hmm:= @run_makeMap zZZ;have f1:=hx1.c1;have he63:(s.aJ.length:Int)<=9223372036854775807:=wu;have hb63:(s.aI.length:Int)<=9223372036854775807:=wu;have f1':=f1;rw [hw1,hgS]at f1';clear hw1 hgS hb hx0 hb0 hs;go_enter func35,ntmps35;go_wp2_with fail;rw [<-HW.o]
 first | rw [<-HB.o] | skip
 first | rw [<-HG.o] | skip
 clear f1' hmm f1;go_loopg [14] s.aJ.length (fun gn i wr=>∃k:Nat,gn=s.aJ.length - k/\i= aB aC k/\k<=s.aJ.length/\yp wr b (ur (s.aJ.take k))/\w1.grownBy wr (aG b))
 case atStart=>exact⟨0,rfl,rfl,wu,hm1,World.grownBy.refl _ _⟩
 case round =>
  obtain⟨k,hgk,rfl,hk,hset,hgr⟩:=hrel;have HGK:=sqH hgk;clear hgk;by_cases hlt:k<s.aJ.length
  rotate_left
  ·obtain rfl:k=s.aJ.length:=by omega
   have hlb:decide (s.aJ.length<s.aJ.length)=false:=ab;have f0:=(hx1.grown hgr (fun e=>hgb (by injection e with e;exact e.symm))).c0;rw [List.take_length]at hset;have HSET:=sqH hset;clear hset;go_wp2_with fail;clear f0;generalize hwq:wr=wq at *
   clear hwq;go_loopg [33] s.aI.length (fun gn i wr=>∃k:Nat,gn=s.aI.length - k/\i= aB aC k/\k<=s.aI.length/\yp wr b (ur s.aJ++uB (s.aI.take k))/\w1.grownBy wr (aG b))
   case atStart=>exact⟨0,rfl,rfl,wu,by rw [List.take_zero];simpa [uB] using HSET.o,hgr⟩
   case round =>
    obtain⟨k,hgk,rfl,hk,hset,hgr⟩:=hrel;have HGK:=sqH hgk;have hb0r:=hb1.grown hgr hb1.size (fun k hk=>by cases hk;exact hwb);clear hgk;by_cases hlt:k<s.aI.length
    rotate_left
    ·obtain rfl:k=s.aI.length:=by omega
     have hlb:decide (s.aI.length<s.aI.length)=false:=ab;rw [List.take_length]at hset;have hset':yp wr b (rts s):=hset;clear hset;go_wp2_with fail;refine(Yl b wr).mono ?_;rintro e_ wk ⟨rfl,rfl⟩;dsimp only;have hbk:=ws wr (aE #[.map (aG b)] 136);have HSO:=sqH (jZ b (rts s) wr hset' wu);go_wp2_with fail;refine HSO.o.mono ?_;rintro e_ wz ⟨vz,L,rfl,hL,hLl,hoz,hbz⟩;dsimp only;have hbkz:=wm hbk hbz;have hoz':=zb hoz hbk.size;go_wp2_with fail;go_ret;refine⟨vz,L,rfl,hL,wu,zb hoz' hb0r.size,wm hb0r hbkz⟩
    have hlb:decide (k<s.aI.length)=true:=decide_eq_true hlt;have hk0:=we k
    have hk1:(k:Int)<(s.aI.length:Int):=wu;obtain⟨bq,oq,Bq,cq,hA,hbq,d0,d1,d2,d3,hsl⟩:=(hrd.b.below hb0r).blob_at k hlt;subst hA;have HSU:=sqH (XS s.aI k hlt);have hxl:s.aI[k].dig.length<=maxLen:=by have:=HS.o.g _ (List.getElem_mem hlt);unfold maxLen;omega
    have HKL:=sqH hlt;have hLn:=vF s.aJ HS.o.p;have hLm:=jL (s.aI.take k);rw [List.length_take]at hLm;have hMl:(ur s.aJ++uB (s.aI.take k)).length<maxLen:=by rw [List.length_append];unfold maxLen;omega
    generalize s.aI[k]=q at *
    have hbox:Arr (wr.alloc (aE #[.string ⟨q.dig.toArray⟩,aA Bq q.data.length cq,aB aC q.aQ,.bool q.mark] 76)) wr.heap.size 76 [.string ⟨q.dig.toArray⟩,aA Bq q.data.length cq,aB aC q.aQ,.bool q.mark]:=Arr.new wr 76 _;have hgA:=hgr.trans (World.grownBy_alloc wr (aE #[.string ⟨q.dig.toArray⟩,aA Bq q.data.length cq,aB aC q.aQ,.bool q.mark] 76) (aG b));have hsetA:=World.ownsMap.alloc hset (aE #[.string ⟨q.dig.toArray⟩,aA Bq q.data.length cq,aB aC q.aQ,.bool q.mark] 76);have p2:=hbox.c2;have p0:=hbox.c0;clear hsl hset hLn hLm;by_cases hp:0<q.aQ
    ·have hpb:decide ((0:Int)<(q.aQ:Int))=true:=decide_eq_true wu;have hpb':decide (0<q.aQ)=true:=decide_eq_true hp;obtain⟨w3,hput,hset3,hg3⟩:=yp.put hsetA q.dig hxl hMl;have hsu:=HSU.o;rw [if_pos hp]at hsu;have HSV:=sqH hsu;have HST3:=sqH hset3;clear hsetA hset3 hp hsu HSU;go_wp2_with fail;go_roundg (s.aI.length - (k+1))
     case measure=>have:=HGK.o;have:=HKL.o;omega
     case rel=>exact⟨k+1,rfl,by go_num,by have:=HKL.o;omega,by rw [HSV.o,<-List.append_assoc];exact HST3.o,hgA.trans hg3⟩
    ·have hpb:decide ((0:Int)<(q.aQ:Int))=false:=decide_eq_false wu;have hpb':decide (0<q.aQ)=false:=decide_eq_false hp;have hsu:=HSU.o;rw [if_neg hp,List.append_nil]at hsu;have HSV:=sqH hsu;have HST3:=sqH hsetA;clear hsetA hp hsu HSU;go_wp2_with fail;go_roundg (s.aI.length - (k+1))
     case measure=>have:=HGK.o;have:=HKL.o;omega
     case rel=>exact⟨k+1,rfl,by go_num,by have:=HKL.o;omega,by rw [HSV.o];exact HST3.o,hgA⟩
  have hlb:decide (k<s.aJ.length)=true:=decide_eq_true hlt;have hk0:=we k
  have hk1:(k:Int)<(s.aJ.length:Int):=wu;have hb0r:=hb1.grown hgr hb1.size (fun k hk=>by cases hk;exact hwb);obtain⟨bq,oq,Bq,cq,hA,hbq,c0,c1,c2,c3,hsl⟩:=hrd.e.ent_at k hlt;subst hA;have d0:=((VR hb0r).1 bq _ hbq).trans c0;have d1:=((VR hb0r).1 bq _ hbq).trans c1;have d2:=((VR hb0r).1 bq _ hbq).trans c2;have d3:=((VR hb0r).1 bq _ hbq).trans c3;clear c0 c1 c2 c3;have HSU:=sqH (XT s.aJ k hlt);have hp8:=HS.o.p _ (List.getElem_mem hlt);have HPD:=sqH (HS.o.d _ (List.getElem_mem hlt));have hLn:=vF (s.aJ.take k) (fun x hx=>HS.o.p x (List.mem_of_mem_take hx));rw [List.length_take]at hLn;have hLn2:(ur (s.aJ.take k)).length<=192:=wu;have HKL:=sqH hlt;generalize s.aJ[k]=q at *
  have hbox:Arr (wr.alloc (aE #[.string ⟨q.key.toArray⟩,aA Bq q.aP.length cq,aB aC q.aQ,aB aC q.aO] 100)) wr.heap.size 100 [.string ⟨q.key.toArray⟩,aA Bq q.aP.length cq,aB aC q.aQ,aB aC q.aO]:=Arr.new wr 100 _;have hgA:=hgr.trans (World.grownBy_alloc wr (aE #[.string ⟨q.key.toArray⟩,aA Bq q.aP.length cq,aB aC q.aQ,aB aC q.aO] 100) (aG b));have hsetA:yp _ b _:=World.ownsMap.alloc hset (aE #[.string ⟨q.key.toArray⟩,aA Bq q.aP.length cq,aB aC q.aQ,aB aC q.aO] 100);have p1:=hbox.c1;have hq63:(q.aP.length:Int)<=9223372036854775807:=wu;clear hset hLn;go_wp2_with fail;clear d0 d1 d2 d3 p1;generalize (wr.alloc (aE #[.string ⟨q.key.toArray⟩,aA Bq q.aP.length cq,aB aC q.aQ,aB aC q.aO] 100))=wA at *
  clear hbox;go_loopg [21] q.aP.length (fun gn i wr=>∃j:Nat,gn=q.aP.length - j/\i= aB aC j/\j<=q.aP.length/\yp wr b (ur (s.aJ.take k)++(q.aP.take j).map (·.dig))/\w1.grownBy wr (aG b))
  case atStart=>exact⟨0,rfl,rfl,wu,by rw [List.take_zero];simpa using hsetA,hgA⟩
  case round =>
   obtain⟨j,hgj,rfl,hj,hset,hgi⟩:=hrel;have HGJ:=sqH hgj;have hb0i:=hb1.grown hgi hb1.size (fun k hk=>by cases hk;exact hwb);clear hgj hsetA hgA;by_cases hlt2:j<q.aP.length
   rotate_left
   ·obtain rfl:j=q.aP.length:=by omega
    have hlb2:decide (q.aP.length<q.aP.length)=false:=ab;rw [List.take_length,<-HSU.o]at hset;have HST:=sqH hset;clear hset;go_wp2_with fail;go_roundg (s.aJ.length - (k+1))
    case measure=>have:=HGK.o;have:=HKL.o;omega
    case rel=>exact⟨k+1,rfl,by go_num,by have:=HKL.o;omega,HST.o,hgi⟩
   have hlb2:decide (j<q.aP.length)=true:=decide_eq_true hlt2;have hj0:=we j
   have hj1:(j:Int)<(q.aP.length:Int):=wu;obtain⟨bb,off,hAb,_,hcell⟩:=(hsl.below hb0i).rd.2 wu;subst hAb;have hat:=fun i (hi:i<3)=>vf q.aP j i hlt2 hi;have c0:=hcell (j*3+0) _ (hat 0 wu);have c1:=hcell (j*3+1) _ (hat 1 wu);have c2:=hcell (j*3+2) _ (hat 2 wu);have hpd:q.aP[j].dig.length<=maxLen:=by have:=HPD.o _ (List.getElem_mem hlt2);unfold maxLen;omega
   have HTK:=sqH (show(q.aP.take (j+1)).map (·.dig)=(q.aP.take j).map (·.dig)++ [q.aP[j].dig] from by rw [List.take_succ_eq_append_getElem hlt2,List.map_append];rfl);have HJL:=sqH hlt2;generalize q.aP[j]=pt at *
   obtain⟨pn,pd,psz⟩:=pt;dsimp only [yL,List.getElem?_cons_zero,List.getElem?_cons_succ]at c0 c1 c2 hpd HTK;rw [Nat.add_zero]at c0;rw [show off+(j*3+1)=off+j*3+1 by omega]at c1;rw [show off+(j*3+2)=off+j*3+2 by omega]at c2;have hMl:(ur (s.aJ.take k)++(q.aP.take j).map (·.dig)).length<maxLen:=by rw [List.length_append,List.length_map,List.length_take];unfold maxLen;omega
   have hbx:Arr (wr.alloc (aE #[.string ⟨pn.toArray⟩,.string ⟨pd.toArray⟩,aB aC psz] 85)) wr.heap.size 85 [.string ⟨pn.toArray⟩,.string ⟨pd.toArray⟩,aB aC psz]:=Arr.new wr 85 _;have hgB:=hgi.trans (World.grownBy_alloc wr (aE #[.string ⟨pn.toArray⟩,.string ⟨pd.toArray⟩,aB aC psz] 85) (aG b));have hsetB:yp _ b _:=World.ownsMap.alloc hset (aE #[.string ⟨pn.toArray⟩,.string ⟨pd.toArray⟩,aB aC psz] 85);have p1:=hbx.c1;obtain⟨w3,hput,hset3,hg3⟩:=yp.put hsetB pd hpd hMl;have HST3:=sqH hset3;clear hat hcell hset hset3 hsetB;go_wp2_with fail;go_roundg (q.aP.length - (j+1))
   case measure=>have:=HGJ.o;have:=HJL.o;omega
   case rel=>exact⟨j+1,rfl,by go_num,by have:=HJL.o;omega,by rw [HTK.o,<-List.append_assoc];exact HST3.o,hgB.trans hg3⟩
theorem Qm (A B:aj) (c d:Nat) (s:StoP) (R C:Int) (w:World) (hs:RtsOk s) (hrd:RdSt w A c B d s) :
  Calls zZZ 19 #[.agg #[aA A s.aI.length c,aA B s.aJ.length d,aB aC R,aB aC C]] w fun e w'=>∃v L,e= .returned v/\StrL L (Rch s.aI (rts s))/\L.length<=s.aI.length/\w'.ownsRow w.heap.size 9 1 v L.length (strs L)/\Below w.heap.size w w':=by
 have HOK:=sqH hs;have hx0:Arr (w.alloc (aE #[aA A s.aI.length c,aA B s.aJ.length d,aB aC R,aB aC C] 34)) w.heap.size 34 [aA A s.aI.length c,aA B s.aJ.length d,aB aC R,aB aC C]:=Arr.new w 34 _;have hb0:=ws w (aE #[aA A s.aI.length c,aA B s.aJ.length d,aB aC R,aB aC C] 34);have hrd1:=hrd.below hb0;clear hs hrd;go_enter func19,ntmps19;go_wp2_with fail;generalize (w.alloc (aE #[aA A s.aI.length c,aA B s.aJ.length d,aB aC R,aB aC C] 34))=w1 at *
 obtain⟨gS,hgS⟩:=wY w.heap.size
 rw [<-hgS]at hx0 ⊢
 have HSB:=sqH (show ∀w',Below w1.heap.size w1 w'->(wI w' gS (aA A s.aI.length c) (aA B s.aJ.length d) (aB aC R) (aB aC C)) from
  fun w' hb=>sqC4 (hx0.below hb))
 obtain⟨HRD,HB1,HgS⟩:=sqJ3 hrd1 hb0 hgS;clear hgS hx0 hrd1 hb0;refine wp_region_held_drew (S:=(fun w'=>wI w' gS (aA A s.aI.length c) (aA B s.aJ.length d) (aB aC R) (aB aC C))) ww ?_ (fun hHeld=> ?_)
 ·exact HSB.o _ (Below.refl _ w1).drew
 have hB:=(Below.refl w1.heap.size w1).drew;generalize w1.drew=wn0 at *
 refine wQ 0 ?_;refine wQ 1 ?_;refine wQ 2 ?_;refine wU 3 fun K hK=>?_;go_simp;refine(xh A B c d s R C wn0 HOK.o (HRD.o.below hB)).mono ?_;rintro e5 w5 ⟨v5,L1,rfl,hL1,hl1,ho5,hb5⟩;obtain⟨A3,c3,rfl,_,_⟩:=Rd.of_own' ho5;have HL1:=sqH hL1;clear hL1;dsimp only;refine k5 hK (HSB.o _ (hB.trans (Below.mono (show Below wn0.heap.size wn0 _ from by(first | exact hb5 | exact hb6 | exact Below.refl _ _)) hB.size))) (Below wn0.heap.size wn0) (fun W=>W.ownsRow w1.heap.size 9 1 (aA A3 L1.length c3) L1.length (strs L1)) (by first | exact hb5 | exact hb6 | exact Below.refl _ _) (zb ho5 hB.size) fun wn1 hHeld hst hnew=> ?_;have hB:=wm hB hst;have h3:=hnew;clear hst;clear hK K
 try simp only [sqP]
 refine wU 4 fun K hK=>?_;go_simp;refine(ZP A A3 c c3 s.aI L1 wn1 (by have:=HOK.o.b;omega) HRD.o.bc HRD.o.bm HOK.o.g (HRD.o.b.below hB) wu (Rd.of_own h3)).mono ?_;rintro e6 w6 ⟨v6,L2,rfl,hL2,hl2,ho6,hb6⟩;have HL2:=sqH hL2;clear hL2;dsimp only;refine k5 hK (HSB.o _ (hB.trans (Below.mono (show Below wn1.heap.size wn1 _ from by(first | exact hb5 | exact hb6 | exact Below.refl _ _)) hB.size))) (Below wn1.heap.size wn1) (fun W=>W.ownsRow w1.heap.size 9 1 v6 L2.length (strs L2)) (by first | exact hb5 | exact hb6 | exact Below.refl _ _) (zb ho6 hB.size) fun wn2 hHeld hst hnew=> ?_;have hB:=wm hB hst;have h4:=hnew;clear hst;clear hK K
 refine wQ 5 ?_;refine wpAnyH_done ww ?_ _
 try dsimp only [Exit.then]
 clear hHeld;have hBz:=wm HB1.o hB;clear hB h3;have e9:=HgS.o;subst e9
 refine wL ?_;intros;go_ret;refine⟨v6,L2,rfl,⟨HL2.o.nd,HL2.o.le,fun x=> ?_⟩,hl2,zb h4 HB1.o.size,hBz⟩;rw [HL2.o.mem];exact⟨fun h=>h.mono fun y hy hi=> .root ((HL1.o.mem y).1 hy) hi,fun h=>h.mono fun y hy hi=> .root ((HL1.o.mem y).2 hy) hi⟩
theorem xt (hr:RisesBy (·.dig) bl) {b:BlobP} (hb:b∈bl):kids bl b.dig=(kr b.data).1.map (·.dig):=by
 cases hf:bl.findIdx? (fun x=>x.dig==b.dig) with
 | none =>
  have:=jG.1 ⟨b,hb,rfl⟩;rw [hf]at this;cases this
 | some i =>
  have hi:i<bl.length:=(List.findIdx?_eq_some_iff_getElem.1 hf).1;have hd:bl[i].dig=b.dig:=by simpa using (List.findIdx?_eq_some_iff_getElem.1 hf).2.1
  have e:=hr.inj (List.getElem_mem hi) hb hd;have:=Xm hf hi;rw [e]at this;exact this
def z0d (bl:List BlobP) (L:List ai):List BlobP:=bl.filter (fun b=>decide (b.dig∈L))
noncomputable def cln (s:StoP):StoP:= { s with aI:=s.aI.filter (fun b=> @decide (Rch s.aI (rts s) b.dig) (Classical.propDecidable _)) }
theorem YL {b:BlobP}:b∈(cln s).aI↔b∈s.aI/\Rch s.aI (rts s) b.dig:=by
 unfold cln;rw [List.mem_filter];exact and_congr_right fun _=> @decide_eq_true_iff _ (Classical.propDecidable _)
theorem VV (hL:StrL L (Rch s.aI (rts s))):z0d s.aI L=(cln s).aI:=by
 unfold cln z0d;refine List.filter_congr fun b hb=> ?_;have:=hL.mem b.dig;by_cases h:b.dig∈L
 ·rw [decide_eq_true h];exact(@decide_eq_true _ (Classical.propDecidable _) (this.1 h)).symm
 ·rw [decide_eq_false h];exact(@decide_eq_false _ (Classical.propDecidable _) (fun h2=>h (this.2 h2))).symm
section
variable {bl bl':List BlobP} {ds ds':List ai}
theorem InB.sub {x:ai} (hs:∀b∈bl',b∈bl) (h:InB bl' x):InB bl x:=by
 obtain⟨b,hb,e⟩:=h;exact⟨b,hs b hb,e⟩
theorem vC (hr:RisesBy (·.dig) bl) (hr':RisesBy (·.dig) bl') (hs:∀b∈bl',b∈bl) {x:ai} (hx:InB bl' x):kids bl' x=kids bl x:=by
 obtain⟨b,hb,rfl⟩:=hx;rw [xt hr' hb,xt hr (hs b hb)]
theorem Rch.sub (hr:RisesBy (·.dig) bl) (hr':RisesBy (·.dig) bl') (hs:∀b∈bl',b∈bl) (hd:∀x∈ds',x∈ds) {x:ai} (h:Rch bl' ds' x):Rch bl ds x:=by
 induction h with
 | root h1 h2=>exact .root (hd _ h1) (h2.sub hs)
 | step h1 h2 h3 ih=>exact .step ih (by rw [<-vC hr hr' hs h1.inB];exact h2) (h3.sub hs)
theorem Rch.keepb (hr:RisesBy (·.dig) bl) (hr':RisesBy (·.dig) bl') (hs:∀b∈bl',b∈bl) (hd:∀x∈ds,x∈ds') (hk:∀x,Rch bl ds x->InB bl' x) {x:ai} (h:Rch bl ds x):Rch bl' ds' x:=by
 induction h with
 | root h1 h2=>exact .root (hd _ h1) (hk _ (.root h1 h2))
 | step h1 h2 h3 ih=>exact .step ih (by rw [vC hr hr' hs (hk _ h1)];exact h2) (hk _ (.step h1 h2 h3))
end
theorem Rch.dmono {ds':List ai} {x:ai} (hd:∀x∈ds,x∈ds') (h:Rch bl ds x):Rch bl ds' x:=h.mono fun y hy hb=> .root (hd y hy) hb
theorem YM (h:RisesBy (·.dig) s.aI):RisesBy (·.dig) (cln s).aI:=List.Pairwise.filter _ h
theorem JR:∀b∈(cln s).aI,b∈s.aI:=fun b hb=>(YL.1 hb).1
theorem ya (s:StoP):(cln s).aJ=s.aJ:=rfl
theorem yb (s:StoP):(cln s).aL=s.aL:=rfl
theorem vT (s:StoP):(cln s).aK=s.aK:=rfl
theorem z0q {b:BlobP} (hb:b∈s.aI) (hp:0<b.aQ):b.dig∈rts s :=
 List.mem_append_right _ (List.mem_map.2 ⟨b,List.mem_filter.2 ⟨hb,decide_eq_true hp⟩,rfl⟩)
theorem QY {x:EntP} {p:PartP} (hx:x∈s.aJ) (hp:p∈x.aP):p.dig∈rts s :=
 List.mem_append_left _ (List.mem_flatMap.2 ⟨x,hx,List.mem_map.2 ⟨p,hp,rfl⟩⟩)
theorem jh (p:BlobP->Bool):∀l:List BlobP,usd (l.filter p)<=usd l
 | []=>Nat.le_refl _
 | b::l=>by
  have ih:=jh p l
  cases h:p b with
  | true=>rw [List.filter_cons_of_pos h];unfold usd at *;simp only [List.map_cons,List.sum_cons];omega
  | false=>rw [List.filter_cons_of_neg (by simp [h])];unfold usd at *;simp only [List.map_cons,List.sum_cons];omega
theorem VW (s:StoP):usd (cln s).aI<=usd s.aI:=jh _ _
theorem JQ (s:StoP):(cln s).aI.length<=s.aI.length:=List.length_filter_le _ _
theorem yF (h:GoodS s):GoodS (cln s) :=
 ⟨⟨Nat.le_trans (JQ s) h.b.len,fun b hb=>h.b.one b (JR b hb),YM h.b.ris⟩,h.e,h.aL,Nat.le_trans (VW s) h.used,h.aK,fun x hx=>⟨(h.ent x hx).1,fun p hp=>by
  obtain⟨b,hb,e1,e2⟩:=(h.ent x hx).2 p hp
  exact⟨b,YL.2 ⟨hb,.root (by rw [e1];exact QY hx hp) ⟨b,hb,rfl⟩⟩,e1,e2⟩⟩⟩
theorem Zb {es:List EntP} (h:GoodS s) (hs:es.Sublist s.aJ):GoodS { s with aJ:=es } :=
 ⟨h.b,⟨Nat.le_trans hs.length_le h.e.len,fun x hx=>h.e.one x (hs.subset hx),List.Pairwise.sublist hs h.e.ris⟩,h.aL,h.used,h.aK,fun x hx=>h.ent x (hs.subset hx)⟩
noncomputable def uD (more:Nat):Nat->StoP->List ai->Option (StoP×List ai)
 | 0,_,_=>none
 | n+1,s,g=>if usd s.aI+more<=s.aL then aG (s,g) else
  match Zv s.aJ s.aJ.length with
  | none=>none
  | some i=>match s.aJ[i]? with
   | none=>none
   | some x=>uD more n (cln { s with aJ:=s.aJ.eraseIdx i }) (g++ [x.key])
noncomputable def yd (more:Nat) (s:StoP):Option (StoP×List ai) :=
 if usd s.aI+more<=s.aL then aG (s, []) else uD more (s.aJ.length+1) (cln s) []
theorem YZ {g g':List ai} (h:uD more (n+1) s g=aG (t,g')) :
  (usd s.aI+more<=s.aL/\t=s/\g'=g)\/(¬usd s.aI+more<=s.aL/\∃i,∃hi:i<s.aJ.length,Zv s.aJ s.aJ.length=aG i/\uD more n (cln { s with aJ:=s.aJ.eraseIdx i }) (g++ [s.aJ[i].key])=aG (t,g')):=by
 unfold uD at h;by_cases hf:usd s.aI+more<=s.aL
 ·rw [if_pos hf]at h;cases h
  exact .inl ⟨hf,rfl,rfl⟩
 ·rw [if_neg hf]at h;cases ho:Zv s.aJ s.aJ.length with
  | none=>rw [ho]at h;cases h
  | some i =>
   have hi:=(yZ s.aJ _ i ho).2;rw [ho]at h;simp only [List.getElem?_eq_getElem hi]at h;exact .inr ⟨hf,i,hi,rfl,h⟩
theorem uc (l:List α) (i:Nat):∀x∈l.eraseIdx i,x∈l:=fun x hx=>List.mem_of_mem_eraseIdx hx
theorem Zf {more:Nat}:∀(n:Nat) (s t:StoP) (g g':List ai),GoodS s->uD more n s g=aG (t,g')->GoodS t/\usd t.aI+more<=t.aL/\t.aJ.length+g'.length=s.aJ.length+g.length/\t.aL=s.aL/\t.aK=s.aK
 | 0,s,t,g,g',hg,h=>by unfold uD at h;cases h
 | n+1,s,t,g,g',hg,h=>by
  rcases YZ h with ⟨h1,rfl,rfl⟩ | ⟨h1,i,hi,ho,h2⟩
  ·exact⟨hg,h1,rfl,rfl,rfl⟩
  ·have h3:=Zf n _ t _ g' (yF (Zb hg (List.eraseIdx_sublist _ _))) h2
   refine⟨h3.1,h3.2.1,?_,h3.2.2.2⟩
   have h4:=h3.2.2.1
   rw [ya]at h4
   simp only [List.length_eraseIdx_of_lt hi,List.length_append,List.length_cons,List.length_nil]at h4
   omega
theorem uW {g:List ai} (hg:GoodS s) (h:yd more s=aG (t,g)):GoodS t/\usd t.aI+more<=t.aL/\t.aJ.length+g.length=s.aJ.length/\t.aL=s.aL/\t.aK=s.aK:=by
 unfold yd at h;by_cases hf:usd s.aI+more<=s.aL
 ·rw [if_pos hf]at h;cases h;exact⟨hg,hf,rfl,rfl,rfl⟩
 ·rw [if_neg hf]at h;have:=Zf _ _ t [] g (yF hg) h;simpa [ya,yb,vT] using this
theorem yw {α:Type} {p:α->Bool}:∀(l:List α) (i:Nat) (hi:i<l.length),p l[i]=false->(l.eraseIdx i).filter p=l.filter p
 | x::l,0,_,h=>by
  rw [List.eraseIdx_cons_zero,List.filter_cons_of_neg]
  simp only [List.getElem_cons_zero]at h
  simp [h]
 | x::l,i+1,hi,h=>by
  have ih:=yw l i (by simpa using hi) (by simpa using h)
  rw [List.eraseIdx_cons_succ]
  cases hx:p x with
  | true=>rw [List.filter_cons_of_pos hx,List.filter_cons_of_pos hx,ih]
  | false=>rw [List.filter_cons_of_neg (by simp [hx]),List.filter_cons_of_neg (by simp [hx]),ih]
section
variable {w:World} {base g cap:Nat} {e:TypeId} {N:am}
theorem RwX.own4 {S:Shp α} {l:List α} (h:RwX S e w base v l N):w.ownsRow base e S.size v l.length (cls h.choose):=h.choose_spec.2.2.1
theorem RwX.arr4 {S:Shp α} {l:List α} (h:RwX S e w base (aA (aG ⟨g,0,aF⟩) l.length cap) l N) (h0:0<l.length):∃cs,Arr w g e cs/\cs.length=cap*S.size:=by
 obtain⟨g',cap',cs,e1,_,h4,_,_,h5,_⟩:=ym h.own4 h0;injection e1 with e11 _ e13;injection e11 with e11;injection e11 with e11;subst e11 e13;exact⟨cs,h4,h5⟩
theorem RwX.rwN {S:Shp α} {l:List α} (h:RwX S e w base (aA (aG ⟨g,0,aF⟩) l.length cap) l N):Rw (S.off (fun b=>b=g\/N b)) w (aG ⟨g,0,aF⟩) l:=by
 obtain⟨ps,h1,h2,h3,h4⟩:=h;exact⟨ps,h1,fun p hp=>⟨h2 p hp,fun b hb=>h4 p hp b (hb.imp (fun e=>by rw [e];rfl) id)⟩,Rd.of_own h3⟩
theorem RwX.at4B (h:RwX BlobS e w base (aA (aG ⟨g,0,aF⟩) l.length cap) l N) (j:Nat) (hj:j<l.length) :
  ∃B c,w.cell? ⟨g,j*4,aF⟩=aG (aD ⟨l[j].dig.toArray⟩)/\w.cell? ⟨g,j*4+1,aF⟩=aG (aA B l[j].data.length c)/\w.cell? ⟨g,j*4+2,aF⟩=aG (aB aC (l[j].aQ:Int))/\w.cell? ⟨g,j*4+3,aF⟩=aG (.bool l[j].mark) /\
   Sl w 1 B l[j].data.length c (bys l[j].data)/\∀b,(b=g\/N b)->¬leads b [aD ⟨l[j].dig.toArray⟩,aA B l[j].data.length c,aB aC (l[j].aQ:Int),.bool l[j].mark]:=by
 obtain⟨b,off,cs,e1,hb,⟨⟨B,c,rfl,hs⟩,hl⟩,hc⟩:=h.rwN.at_ j hj;cases e1
 simp only [Nat.zero_add]at hc;exact⟨B,c,hc 0 _ rfl,hc 1 _ rfl,hc 2 _ rfl,hc 3 _ rfl,hs,hl⟩
theorem ut {P:Program} (w:World) (t e ty:TypeId) (z:Value) (zs:ak) (n:Nat) (hn:0<n) (ht:P.underlying t=aG (.slice e)) (hv:∀w,(zeroValue e).run P w= .ok z w) (hz:(Builtin.zeroCells z.cells n).toList=zs) (h1:∀u∈zs,u.oneCell'=true) (b o c:Nat)
  (hc:∀j,j<zs.length->(w.cell? ⟨b,o+j,aF⟩).isSome=true) (hf:∀j,j<zs.length->w.frozen? ⟨b,o+j,aF⟩=false) :
  (Builtin.clear_ #[t] ty #[aA (aG ⟨b,o,aF⟩) n c]).run P w= .ok (.tuple #[]) (w.setCells b o zs):=by
 have hst:=run_storeCells_cells (P:=P) b o zs 0 w (by simpa using hc) (by simpa using hf) h1;simp only [Nat.add_zero]at hst;cases n with
 | zero=>omega
 | succ m=>simp [Builtin.clear_,run_underlying ht,hv,hz,hst]
theorem xH (z:Array Value) (n:Nat):(Builtin.zeroCells z n).toList.length=n*z.size:=by simp [Builtin.zeroCells]
theorem xI (z:Array Value) (n:Nat) (h0:0<z.size) (h:∀u∈z.toList,u.oneCell'=true):∀u∈(Builtin.zeroCells z n).toList,u.oneCell'=true:=fun u hu=>by
 simp only [Builtin.zeroCells,Array.toList_map,List.mem_map]at hu
 obtain⟨i,_,rfl⟩:=hu
 have hlt:i % z.size<z.size:=Nat.mod_lt _ h0
 rw [getElem!_pos z _ hlt]
 exact h _ (Array.mem_toList_iff.2 (Array.getElem_mem hlt))
theorem Zx {size:Nat} {xs:ak} (h:w.ownsRow base e size (aA (aG ⟨g,0,aF⟩) n cap) n xs) (hn:0<n) (hi:i<n) (hz:zs.length=(n - i)*size) :
  (w.setCells g (i*size) zs).ownsRow base e size (aA (aG ⟨g,0,aF⟩) i cap) i (xs.take (i*size))/\w.grownBy (w.setCells g (i*size) zs) (aG g)/\(∀j,j<zs.length->(w.cell? ⟨g,i*size+j,aF⟩).isSome=true)/\(∀j,j<zs.length->w.frozen? ⟨g,i*size+j,aF⟩=false):=by
 obtain⟨g',cap',cs,e1,hbg,hA,hnc,hcm,hcl,hct⟩:=ym h hn;injection e1 with e11 _ e13;injection e11 with e11;injection e11 with e11;subst e11 e13;have him:(n - i)*size+i*size=n*size:=by rw [<-Nat.add_mul,Nat.sub_add_cancel wu]
 have hns:n*size<=cap*size:=Nat.mul_le_mul_right _ hnc;have e2:cs=cs.take (i*size)++((cs.drop (i*size)).take ((n - i)*size)++cs.drop (n*size)):=by
  conv=>lhs;rw [<-List.take_append_drop (i*size) cs]
  congr 1
  conv=>lhs;rw [<-List.take_append_drop ((n - i)*size) (cs.drop (i*size))]
  rw [List.drop_drop,Nat.add_comm,him]
 have hl1:(cs.take (i*size)).length=i*size:=by rw [List.length_take];omega
 have hA2:=hA;rw [e2]at hA2;have h3:=vA _ zs _ _ w hA2 (by rw [hz,List.length_take,List.length_drop];omega);rw [hl1]at h3;refine⟨⟨?_,.inr ⟨g,cap,_,rfl,hbg,by simpa [Arr] using h3,wu,hcm,?_,?_⟩⟩,qj _ _ _,fun j hj=> ?_,fun j hj=>hA.frozen _⟩
 ·rw [List.length_take,h.1];exact Nat.min_eq_left wu
 ·simp only [List.size_toArray,List.length_append,List.length_take,List.length_drop,hcl,hz];omega
 ·simp only;rw [List.take_left' hl1,<-hct,List.take_take,Nat.min_eq_left wu]
 ·have hk:i*size+j<cs.length:=by rw [hcl];omega
  rw [hA.cell (List.getElem?_eq_getElem hk)];rfl
theorem RwX.trunc_ {S:Shp α} {l:List α} (h:RwX S e w base (aA (aG ⟨g,0,aF⟩) l.length cap) l N) (hi:i<l.length) (hz:zs.length=(l.length - i)*S.size) :
  RwX S e (w.setCells g (i*S.size) zs) base (aA (aG ⟨g,0,aF⟩) i cap) (l.take i) N/\w.grownBy (w.setCells g (i*S.size) zs) (aG g)/\(∀j,j<zs.length->(w.cell? ⟨g,i*S.size+j,aF⟩).isSome=true)/\(∀j,j<zs.length->w.frozen? ⟨g,i*S.size+j,aF⟩=false):=by
 obtain⟨ps,h1,h2,h3,h4⟩:=h;obtain⟨k1,k2,k3,k4⟩:=Zx h3 wu hi hz;have hpl:ps.length=l.length:=by rw [<-h1,List.length_map]
 have hm:∀p∈ps.take i,p∈ps:=fun p hp=>List.mem_of_mem_take hp;refine⟨⟨ps.take i,by rw [<-h1,List.map_take],qI.grown (w:=w) (g:=aG g) (fun p hp=>h2 p (hm p hp)) k2 (fun p hp b hb=>h4 p (hm p hp) b (.inl hb)),?_,fun p hp b hb=>h4 p (hm p hp) b hb⟩,k2,k3,k4⟩;rw [<-kF (s:=S.size) ps i h2.lens,List.length_take,Nat.min_eq_left wu];exact k1
theorem RwX.truncB (h:RwX BlobS e w base (aA (aG ⟨g,0,aF⟩) l.length cap) l N) (i:Nat) (hi:i<l.length) :
  ∃zs:ak,zs.length=(l.length - i)*4/\(∀ty c,(Builtin.clear_ #[31] ty #[aA (aG ⟨g,i*4,aF⟩) (l.length - i) c]).run zZZ w= .ok (.tuple #[]) (w.setCells g (i*4) zs)) /\
   RwX BlobS e (w.setCells g (i*4) zs) base (aA (aG ⟨g,0,aF⟩) i cap) (l.take i) N/\w.grownBy (w.setCells g (i*4) zs) (aG g):=by
 have hl:=xH (Value.agg #[aD ByteArray.empty,aA aF 0 0,aB aC 0,.bool false]).cells (l.length - i);obtain⟨k1,k2,k3,k4⟩:=h.trunc_ hi (zs:=(Builtin.zeroCells (Value.agg #[aD ByteArray.empty,aA aF 0 0,aB aC 0,.bool false]).cells (l.length - i)).toList) hl;exact⟨_,hl,fun ty c=>ut w _ _ ty _ _ _ wu underlying31 z34 rfl (xI _ _ (by simp [Value.cells]) (by intro u hu;simp [Value.cells]at hu;rcases hu with rfl | rfl | rfl | rfl<;>rfl)) g _ c k3 k4,k1,k2⟩
end
def Yv (w:World) (g:Option Nat) (l:List BlobP) (f:FuncId) (x:Value) (p:BlobP->Bool):Prop :=
 (∀args W,(callFunc f args).run zZZ W= .ok (.enter f args) W)/\∀(b:BlobP) (B:aj) (cb:Nat) (W:World),b∈l->w.grownBy W g->Sl W 1 B b.data.length cb (bys b.data) ->
  Calls zZZ f #[.agg #[aD ⟨b.dig.toArray⟩,aA B b.data.length cb,aB aC b.aQ,.bool b.mark],x] W fun e w'=>e= .returned (.bool (p b))/\Below W.heap.size W w'
theorem Vn (base:Nat) (v:Value) (l:List BlobP) (N:am) (f:FuncId) (x:Value) (p:BlobP->Bool) (w:World) (hl:l.length<=100000) (hx:RwX BlobS 76 w base v l N) (HC:Yv w v.ownBlock l f x p) :
  Calls zZZ 96 #[v,.func (.func f) #[] #[x]] w fun e w'=>∃v',e= .returned v'/\RwX BlobS 76 w' base v' (l.filter (fun b=> !p b)) N/\w.grownBy w' v.ownBlock/\v'.ownBlock=v.ownBlock:=by
 obtain⟨hce,hcc0⟩:=HC;have HCC:=sqH hcc0;clear hcc0;have hlen0:=hx.rwo.rows;obtain⟨A,cap,rfl,hlc,hcm,hrw⟩:=hlen0;have HI:=sqH (ZS A cap l f x p w wu hrw ⟨hce,fun b B cb W hb hbl hs=>HCC.o b B cb W hb ⟨hbl.os,hbl.tape,hbl.output,hbl.size,fun k hk _=>hbl.block k hk⟩ hs⟩);cases hf:l.findIdx? p with
 | none =>
  rw [hf]at HI;have hall:l.filter (fun b=> !p b)=l:=List.filter_eq_self.2 fun b hb=>by
   have:=List.findIdx?_eq_none_iff.1 hf b hb;rw [this];rfl
  have HALL:=sqH hall;have HX:=sqH hx;clear hall hf hx hrw;go_enter func96,ntmps96;go_wp2_with fail;refine wZ HI.o fun w1 hb1=>?_;dsimp only;simp only [plc];go_wp2_with fail;go_ret;refine⟨_,rfl,by rw [HALL.o];exact HX.o.below hb1,⟨hb1.os,hb1.tape,hb1.output,hb1.size,fun k hk _=>hb1.block k hk⟩,rfl⟩
 | some i0 =>
  rw [hf]at HI;simp only [plc]at HI;obtain⟨hi0,hpi,hno⟩:=List.findIdx?_eq_some_iff_getElem.1 hf;have hkeep0:(l.take (i0+1)).filter (fun b=> !p b)=l.take i0:=by
   rw [List.take_succ_eq_append_getElem hi0,List.filter_append,List.filter_cons_of_neg (by rw [hpi];simp)];rw [List.filter_nil,List.append_nil];refine List.filter_eq_self.2 fun b hb=> ?_;obtain⟨k,hk,rfl⟩:=List.mem_iff_getElem.1 hb;rw [List.length_take]at hk;have:=hno k wu;rw [List.getElem_take];simpa using this
  obtain⟨g,cap',cs,e1,hbg,hA,hnc, -, -, -⟩:=ym (hx.own4) wu;injection e1 with e11 e12 e13;clear e12;subst e11 e13;have hgw:g<w.heap.size:=hA.lt;have HGW:=sqH hgw;have HK0:=sqH hkeep0;clear hkeep0 hno hf hA hrw hgw;have hw1:IntKind.i64.wrap ((i0:Int)+1)=(i0:Int)+1:=IntWalk.i64_in _ wu;have hm1:((i0:Int)== -1)=false:=by rw [beq_eq_false_iff_ne];omega
  go_enter func96,ntmps96;go_wp2_with fail;refine wZ HI.o fun w1 hb1=>?_;dsimp only;have hx1:=hx.below hb1;have HG1:=sqH (show w.grownBy w1 (aG g) from⟨hb1.os,hb1.tape,hb1.output,hb1.size,fun k hk _=>hb1.block k hk⟩);clear hx hb1 HI;go_wp2_with fail;go_loopg [5,6] (l.length - (i0+1)) (fun gn u v wr=>∃(i j:Nat) (M:List BlobP),gn=l.length - j/\u= aB aC i/\v= aB aC j/\i<j/\j<=l.length/\M.length=l.length/\M.take i=(l.take j).filter (fun b=> !p b)/\M.drop j=l.drop j/\RwX BlobS 76 wr base (aA (aG ⟨g,0,aF⟩) l.length cap) M N/\w.grownBy wr (aG g))
  case atStart=>exact⟨i0,i0+1,l,rfl,rfl,by go_num,wu,wu,rfl,HK0.o.symm,rfl,hx1,HG1.o⟩
  case round =>
   clear hx1;obtain⟨i,j,M,hgk,rfl,rfl,hij,hj,hM,hMt,hMd,hxr,hgr⟩:=hrel;obtain⟨HGK,HML,HMT,HMD,HGR⟩:=sqJ5 hgk hM hMt hMd hgr;clear hgk hM hMt hMd hgr;by_cases hlt:j<l.length
   ·have hjj:decide (j<l.length)=true:=decide_eq_true hlt;have hMj:j<M.length:=by have:=HML.o;omega
    have eMj:M[j]=l[j]:=by
     have h1:=HMD.o;rw [List.drop_eq_getElem_cons hMj,List.drop_eq_getElem_cons hlt]at h1;injection h1
    rw [<-HML.o]at hxr;obtain⟨B,cb,d0,d1,d2,d3,hs,hld⟩:=hxr.at4B j hMj;rw [HML.o]at hxr;have hmem:l[j]∈l:=List.getElem_mem hlt;have hpt:(l.take (j+1)).filter (fun b=> !p b)=(l.take j).filter (fun b=> !p b)++(if p l[j] then [] else [l[j]]):=by
     rw [List.take_succ_eq_append_getElem hlt,List.filter_append]
     congr 1
     cases hp:p l[j] with
     | true=>rw [List.filter_cons_of_neg (by rw [hp];simp)];rfl
     | false=>rw [List.filter_cons_of_pos (by rw [hp];rfl)];rfl
    rw [eMj]at d0 d1 d2 d3 hs hld;have hMset:∀y,(M.set i y).drop (j+1)=l.drop (j+1):=fun y=>by
     rw [List.drop_set,if_pos wu];have h1:=HMD.o;rw [List.drop_eq_getElem_cons hMj,List.drop_eq_getElem_cons hlt]at h1;injection h1
    have hMs0:M.drop (j+1)=l.drop (j+1):=by
     have h1:=HMD.o;rw [List.drop_eq_getElem_cons hMj,List.drop_eq_getElem_cons hlt]at h1;injection h1
    have hMtk:∀y,(M.set i y).take (i+1)=M.take i++ [y]:=fun y=>by
     have hi:i<(M.set i y).length:=by rw [List.length_set];omega
     rw [List.take_succ_eq_append_getElem hi,List.getElem_set_self,List.take_set]
     congr 1
     rw [List.set_eq_of_length_le (by rw [List.length_take];omega)]
    obtain⟨HPT,HMS,HMS0,HMK,HMEM⟩:=sqJ5 hpt hMset hMs0 hMtk hmem;have hwj:IntKind.i64.wrap ((j:Int)+1)=(j:Int)+1:=IntWalk.i64_in _ wu;have hwi:IntKind.i64.wrap ((i:Int)+1)=(i:Int)+1:=IntWalk.i64_in _ wu;have HLD:=sqH hld;clear hpt hMset hMs0 hMtk hmem hld eMj;have hj0:=we j
    have hj1:(j:Int)<(l.length:Int):=wu;have hi0':=we i
    have hi1':(i:Int)<(l.length:Int):=wu;have hiM:i<M.length:=wu;have hgr2:(w.grownBy wr (aG g)):=HGR.o;have hgwr:g<wr.heap.size:=Nat.lt_of_lt_of_le HGW.o hgr2.size;generalize l[j]=bl at *
    have hbox:Arr (wr.alloc (aE #[aD ⟨bl.dig.toArray⟩,aA B bl.data.length cb,aB aC bl.aQ,.bool bl.mark] 76)) wr.heap.size 76 [aD ⟨bl.dig.toArray⟩,aA B bl.data.length cb,aB aC bl.aQ,.bool bl.mark]:=Arr.new wr 76 _;have hbA:=ws wr (aE #[aD ⟨bl.dig.toArray⟩,aA B bl.data.length cb,aB aC bl.aQ,.bool bl.mark] 76);have hsA:=hs.below hbA;have hxA:=hxr.below hbA;have hgA:w.grownBy (wr.alloc (aE #[aD ⟨bl.dig.toArray⟩,aA B bl.data.length cb,aB aC bl.aQ,.bool bl.mark] 76)) (aG g):=hgr2.trans ⟨hbA.os,hbA.tape,hbA.output,hbA.size,fun k hk _=>hbA.block k hk⟩;have hcl:=HCC.o bl B cb _ HMEM.o hgA hsA;obtain⟨k0,k1,k2,k3⟩:=sqC4 hbox;generalize hsd:(⟨bl.dig.toArray⟩:ByteArray)=sd at *
    have HSD:=sqH hsd;clear hsd hs hgr2 hxr;cases hp:p bl with
    | true =>
     rw [hp]at hcl;have HCL:=sqH hcl;have HPV:=sqH hp;clear hcl hp hsA hbox;go_wp2_with fail;clear d0 d1 d2 d3;generalize (wr.alloc (aE #[aD sd,aA B bl.data.length cb,aB aC bl.aQ,.bool bl.mark] 76))=wA at *
     refine wZ HCL.o fun wB hbB=>?_;dsimp only;have hxB:=hxA.below hbB;have hgB:=hgA.trans (show wA.grownBy wB (aG g) from⟨hbB.os,hbB.tape,hbB.output,hbB.size,fun k hk _=>hbB.block k hk⟩);clear hxA hgA hbB k0 k1 k2 k3 hbA;go_wp2_with fail;go_roundg (l.length - (j+1))
     case measure=>exact wc HGK
     case rel=>exact⟨i,j+1,M,rfl,rfl,by go_num,wu,wu,HML.o,by rw [HPT.o,HPV.o,if_pos rfl,List.append_nil];exact HMT.o,HMS0.o,hxB,hgB⟩
    | false =>
     rw [hp]at hcl;obtain⟨HCL,HPV,HSA⟩:=sqJ3 hcl hp hsA;clear hcl hp hsA;go_wp2_with fail;clear d0 d1 d2 d3;generalize hgq:wr.heap.size=gq at *
     generalize (wr.alloc (aE #[aD sd,aA B bl.data.length cb,aB aC bl.aQ,.bool bl.mark] 76))=wA at *
     refine wZ HCL.o fun wB hbB=>?_;dsimp only;have hxB:=hxA.below hbB;have hgB:=hgA.trans (show wA.grownBy wB (aG g) from⟨hbB.os,hbB.tape,hbB.output,hbB.size,fun k hk _=>hbB.block k hk⟩);have hboxB:=hbox.below hbB;have hsB:=HSA.o.below hbB;clear k0 k1 k2 k3;obtain⟨k0,k1,k2,k3⟩:=sqC4 hboxB;rw [<-HML.o]at hxB;obtain⟨cs,hAg,hcl4⟩:=hxB.arr4 wu;have hcl4:cs.length=cap*4:=hcl4;have q0:=hAg.cell (k:=i*4) (List.getElem?_eq_getElem wu);have q1:=hAg.cell (k:=i*4+1) (List.getElem?_eq_getElem wu);have q2:=hAg.cell (k:=i*4+2) (List.getElem?_eq_getElem wu);have q3:=hAg.cell (k:=i*4+3) (List.getElem?_eq_getElem wu);have p0:=hAg.frozen (i*4);have p1:=hAg.frozen (i*4+1);have p2:=hAg.frozen (i*4+2);have p3:=hAg.frozen (i*4+3);obtain⟨hx8,hg8⟩:=hxB.put4 (x:=bl) (u0:= aD sd) (u1:= aA B bl.data.length cb) (u2:= aB aC bl.aQ) (u3:= .bool bl.mark) rfl hiM ⟨B,cb,by rw [<-HSD.o];rfl,hsB⟩ HLD.o;have hg9:=hgB.trans hg8;rw [HML.o]at hx8;rw [put4]at hx8 hg9;clear hbox hboxB hxA hxB hgA hgB hbA hbB hAg hg8 HSA hsB;go_wp2_with fail;clear q0 q1 q2 q3 p0 p1 p2 p3 k0 k1 k2 k3;generalize ((((wB.setCell ⟨g,i*4,aF⟩ (aD sd)).setCell ⟨g,i*4+1,aF⟩ (aA B bl.data.length cb)).setCell ⟨g,i*4+2,aF⟩ (aB aC bl.aQ)).setCell ⟨g,i*4+3,aF⟩ (.bool bl.mark))=w8 at *
     go_roundg (l.length - (j+1))
     case measure=>exact wc HGK
     case rel=>exact⟨i+1,j+1,M.set i bl,rfl,by go_num,by go_num,wu,wu,by rw [List.length_set];exact HML.o,by rw [HPT.o,HPV.o,HMK.o,HMT.o];rfl,HMS.o _,hx8,hg9⟩
   ·obtain rfl:j=l.length:=by omega
    have hjj:decide (l.length<l.length)=false:=ab;have hMl:M.take i=l.filter (fun b=> !p b):=by rw [HMT.o,List.take_length]
    have hle:(l.filter (fun b=> !p b)).length=i:=by rw [<-hMl,List.length_take];have:=HML.o;omega
    rw [<-HML.o]at hxr;obtain⟨zs,hzz,hclr,hx9,hg9⟩:=hxr.truncB i (wc HML);rw [HML.o]at hclr;have hi0':=we i
    have hi1':(i:Int)<=(l.length:Int):=wu;have hi2':(i:Int)<=(cap:Int):=wu;have hce:¬cap=i:=wu;obtain⟨HX9,HG9,HLE,HML2⟩:=sqJ4 hx9 (HGR.o.trans hg9) hle hMl;clear hx9 hg9 hxr hle hMl;go_wp2_with fail;go_ret;refine⟨_,rfl,?_,HG9.o,rfl⟩;have h1:=HX9.o;rw [HML2.o]at h1;exact h1
theorem zq {H:Nat} {u:Value} (h:w.grownBy W g) (hH:w.heap.size<=H):w.grownBy (W.setCell ⟨H,k,aF⟩ u) g :=
 ⟨h.os,h.tape,h.output,by simpa [World.setCell] using h.size,fun j hj hne=>(Below.heap_setCell W _ u j (fun e=>by have:j=H:=e;omega)).trans (h.block j hj hne)⟩
theorem ky (h:Below w.heap.size w W):w.grownBy W g:=⟨h.os,h.tape,h.output,h.size,fun k hk _=>h.block k hk⟩
theorem zP (h:Below w.heap.size w W) (k:W.grownBy V g):w.grownBy V g:=(ky h).trans ⟨k.os,k.tape,k.output,k.size,k.block⟩
theorem zO (h:w.grownBy W g) (k:Below W.heap.size W V):w.grownBy V g:=h.trans (ky k)
theorem OwSt.mono {N':am} (h:OwSt w base v1 v2 s N) (hN:∀b,N' b->N b):OwSt w base v1 v2 s N':=h.wider fun b hb=> .inl (hN b hb)
theorem OwSt.turnB {v1':Value} (h:OwSt w base v1 v2 s N) (hb:RwX BlobS 76 w' base v1' l (fun g=>N g\/v2.ownBlock=aG g)) (hg:w.grownBy w' v1.ownBlock) (ho:v1'.ownBlock=v1.ownBlock) :
  OwSt w' base v1' v2 { s with aI:=l } N :=
 ⟨hb,by rw [ho];exact h.e.other hg (fun b e1 e2=>h.ne b e1 e2) (fun b e=> .inr e),by rw [ho];exact h.ne⟩
theorem K9 (w:World) (g:Option Nat) (gc:Nat) (AL:aj) (cL:Nat) (L:List ai) (l:List BlobP) (hgc:gc<w.heap.size) (hne:g≠aG gc) (hcell:w.cell? ⟨gc,0,aF⟩=aG (aA AL L.length cL)) (hL:L.length<=1000000) (hrd:Rd w 1 AL L.length (strs L)) (hna:∀a,AL=aG a->g≠aG a.block) :
  Yv w g l 97 (.pointer (aG ⟨gc,0,aF⟩)) (fun b=> !decide (b.dig∈L)):=by
 refine⟨fun _ _=>ww,fun b B cb W hb hgr hs=> ?_⟩;have hc:W.cell? ⟨gc,0,aF⟩=aG (aA AL L.length cL):=hgr.cell hcell (fun e=>hne e.symm);have hgW:gc<W.heap.size:=Nat.lt_of_lt_of_le hgc hgr.size;have hr:Rd W 1 AL L.length (strs L):=hrd.keepb hgr.size (fun k hk ⟨a,e1,e2⟩=>hgr.block k hk (fun e=>hna a e1 (by rw [e2];exact e.symm)));have hb1:=ws W (aE #[aD ⟨b.dig.toArray⟩,aA B b.data.length cb,aB aC b.aQ,.bool b.mark] 76);have hbox:Arr (W.alloc (aE #[aD ⟨b.dig.toArray⟩,aA B b.data.length cb,aB aC b.aQ,.bool b.mark] 76)) W.heap.size 76 [aD ⟨b.dig.toArray⟩,aA B b.data.length cb,aB aC b.aQ,.bool b.mark]:=Arr.new W 76 _;have hk1:(W.alloc (aE #[aD ⟨b.dig.toArray⟩,aA B b.data.length cb,aB aC b.aQ,.bool b.mark] 76)).cell? ⟨gc,0,aF⟩=aG (aA AL L.length cL):=(World.cell?_alloc_lt W _ ⟨gc,0,aF⟩ hgW).trans hc;have p0:=hbox.c0;have HCT:=sqH (Yg AL cL L b.dig _ wu (hr.below hb1));dsimp only;generalize hdv:decide (b.dig∈L)=dv at *
 clear hr hc hrd hcell hbox;go_enter func97,ntmps97;go_wp2_with fail;refine HCT.o.mono ?_;rintro e_ wx ⟨rfl,rfl⟩;dsimp only;go_wp2_with fail;go_ret;exact⟨rfl,hb1⟩
theorem QA (base:Nat) (v1 v2:Value) (s:StoP) (w:World) (N:am) (hg:GoodS s) (ho:OwSt w base v1 v2 s N) :
  Calls zZZ 42 #[stV v1 v2 s] w fun e w'=>∃v1',e= .returned (stV v1' v2 (cln s))/\OwSt w' base v1' v2 (cln s) N/\w.grownBy w' v1.ownBlock/\v1'.ownBlock=v1.ownBlock:=by
 have hbl:=hg.b.len;have h41:∀b,v1.ownBlock=aG b->b<w.heap.size:=fun b e=>(ho.b.rwo.blk e).2;have h42:∀b,v2.ownBlock=aG b->b<w.heap.size:=fun b e=>(ho.e.rwo.blk e).2;obtain⟨A,c,B,d,e1,e2,hrd⟩:=ho.rows;have hr0:=hrd;subst e1 e2;obtain⟨w0,hw0,hS,hR,hb0⟩:=qG w 34 [aA A s.aI.length c,aA B s.aJ.length d,aB aC s.aL,aB aC s.aK] [aA aF 0 0,aA aF 0 0,aB aC 0,aB aC 0];have HALL:=sqH (Qm A B c d s (s.aL:Int) (s.aK:Int) w0 hg.rts (hrd.below hb0));have ho0:=(ho.wider (N':=fun b=>N b\/b=w.heap.size\/b=w.heap.size+1) (fun b hb=>hb.imp id (fun e=>wu))).below hb0;obtain⟨x0,x1,x2,x3⟩:=sqC4 hS;obtain⟨H,hH⟩:=wY w.heap.size
 rw [<-hH]at hS hR ho0 h41 h42;rw [hw0]at x0 x1 x2 x3;have HGR0:=sqH (show w.grownBy w0 (aA A s.aI.length c).ownBlock from ky hb0);have HHW:=sqH hH;clear hr0 hrd hb0 ho;go_enter func42,ntmps42;go_wp2_with fail;rw [<-hw0];clear hw0 x0 x1 x2 x3;rw [<-hH];clear hH;refine HALL.o.mono ?_;rintro e_ w2 ⟨v3,L,rfl,hL,hLl,ho3,hb2⟩;dsimp only;obtain⟨AL,cL,rfl,hcL,hrL⟩:=Rd.of_own' ho3;have hna:∀a,AL=aG a->w0.heap.size<=a.block:=fun a e=>by
  subst e;rcases ho3.2 with ⟨e,_⟩ | ⟨g,cap,cur,e,hb,_⟩
  ·cases e
  ·cases e;exact hb
 have HL:=sqH hL;have HRL:=sqH hrL;have hLn:L.length<=24:=wu;have hS2:=hS.below hb2;have hR2:=hR.below hb2;have ho2:=ho0.below hb2;have HGR2:=sqH (zO HGR0.o hb2);have hH2:H<w2.heap.size:=hS2.lt;have h02:w0.heap.size<=w2.heap.size:=hb2.size;have hsz0:H+1<w0.heap.size:=hR.lt;have hb3:=ws w2 (aE #[aA AL L.length cL] 35);have hA3:Arr (w2.alloc (aE #[aA AL L.length cL] 35)) w2.heap.size 35 [aA AL L.length cL]:=Arr.new w2 35 _;have hS3:=hS2.below hb3;have hR3:=hR2.below hb3;have ho3':=ho2.below hb3;have HT:=sqH (K9 (w2.alloc (aE #[aA AL L.length cL] 35)) (aA A s.aI.length c).ownBlock w2.heap.size AL cL L s.aI hA3.lt (fun e=>by have:=h41 _ e;omega) (hA3.c0) wu (HRL.o.below hb3) (fun a e1 e2=>by have:=hna a e1;have:=h41 _ e2;omega));have HDF:=sqH (Vn base (aA A s.aI.length c) s.aI _ _ _ _ _ wu ho3'.b HT.o);have HGR3:=sqH (zO HGR2.o hb3);obtain⟨q0,q1,q2,q3⟩:=sqC4 hS2;obtain⟨p0,p1,p2,p3⟩:=sqC4 hS3;clear hS hR ho0 hb2 ho2 ho3 hL hrL hA3 hb3 hR2 hna;go_wp2_with fail;clear q0 q1 q2 q3 p0 p1 p2 p3 hS2;generalize (w2.alloc (aE #[aA AL L.length cL] 35))=w3 at *
 refine HDF.o.mono ?_;rintro e_ w4 ⟨v1',rfl,hx4,hg4,hob⟩;dsimp only;have hbk:s.aI.filter (fun b=> !(!decide (b.dig∈L)))=(cln s).aI:=by
  rw [<-VV HL.o];unfold z0d;refine List.filter_congr fun b hb=> ?_;rw [Bool.not_not]
 rw [hbk]at hx4;obtain⟨A',c',e1, -, -, -⟩:=hx4.rwo.rows;subst e1;have ho4:=ho3'.turnB hx4 hg4 hob;have hS3l:=hS3.lt;have hR3l:=hR3.lt;have hneH:∀k,(aA A s.aI.length c).ownBlock=aG k->k<H:=h41;have hS4:=hS3.grown hg4 (fun e=>by have:=h41 H e;omega);have hR4:=hR3.grown hg4 (fun e=>by have:=h41 (H+1) e;omega);have HGR4:=sqH (HGR3.o.trans hg4);have f0:=hS4.frozen 0;have y0:=hS4.c0;have hS5:=hS4.set (k:=0) ab (aA A' (cln s).aI.length c');have hR5:=hR4.other (g':=H) (k:=0) wu (aA A' (cln s).aI.length c');have hv1b:(aA A' (cln s).aI.length c').ownBlock≠aG H:=fun e=>by rw [hob]at e;have:=h41 H e;omega
 have hv1c:(aA A' (cln s).aI.length c').ownBlock≠aG (H+1):=fun e=>by rw [hob]at e;have:=h41 (H+1) e;omega
 have hv2b:(aA B s.aJ.length d).ownBlock≠aG H:=fun e=>by have:=h42 H e;omega
 have hv2c:(aA B s.aJ.length d).ownBlock≠aG (H+1):=fun e=>by have:=h42 (H+1) e;omega
 have ho5:=ho4.setX (g:=H) (k:=0) (.inr (.inl rfl)) hv1b hv2b (aA A' (cln s).aI.length c');have HGR5:=sqH (zq (H:=H) (k:=0) (u:=(aA A' (cln s).aI.length c')) HGR4.o (by rw [HHW.o];exact Nat.le_refl _));obtain⟨z0,z1,z2,z3⟩:=sqC4 hS5;obtain⟨r0,r1,r2,r3⟩:=sqF4 hR5;obtain⟨x0,x1,x2,x3⟩:=sqC4 hR5;have hfin:=hR5.all4 (aA A' (cln s).aI.length c') (aA B s.aJ.length d) (aB aC s.aL) (aB aC s.aK);have ho6:=(((ho5.setX (g:=H+1) (k:=0) (.inr (.inr (by rw [HHW.o]))) hv1c hv2c (aA A' (cln s).aI.length c')).setX (g:=H+1) (k:=1) (.inr (.inr (by rw [HHW.o]))) hv1c hv2c (aA B s.aJ.length d)).setX (g:=H+1) (k:=2) (.inr (.inr (by rw [HHW.o]))) hv1c hv2c (aB aC s.aL)).setX (g:=H+1) (k:=3) (.inr (.inr (by rw [HHW.o]))) hv1c hv2c (aB aC s.aK);obtain⟨HGR6,HOB,HO6⟩:=sqJ3 (zq (H:=H+1) (k:=3) (u:=(aB aC s.aK)) (zq (H:=H+1) (k:=2) (u:=(aB aC s.aL)) (zq (H:=H+1) (k:=1) (u:=(aA B s.aJ.length d)) (zq (H:=H+1) (k:=0) (u:=(aA A' (cln s).aI.length c')) HGR5.o (by rw [HHW.o];omega)) (by rw [HHW.o];omega)) (by rw [HHW.o];omega)) (by rw [HHW.o];omega)) hob ho6;clear ho3' hx4 ho4 hg4 hS3 hR3 hS4 hR4 hS5 hR5 ho5 ho6 hob hbk hv1b hv1c hv2b hv2c hneH h41 h42;go_wp2_with fail;refine bodyPost_ret (results_cell_row rfl _ _ (H+1) _ _ _ _ ac hfin underlying34 rfl ww) rfl ?_;exact⟨(aA A' (cln s).aI.length c'),rfl,HO6.o.mono (fun b hb=> .inl hb),HGR6.o,HOB.o⟩
def uni (L:List ai):List ai:=srt (fun x=>x) (nub L)
theorem yD (L:List ai):Rises (uni L):=uu (f:=fun x=>x) (by rw [List.map_id'];exact Zs L)
theorem Qi (L:List ai):StrL (uni L) (fun x=>x∈L):=by
 refine⟨(yD L).nodup,(yD L).imp fun {a b} h=> ?_,fun x=> ?_⟩
 ·rw [J6];cases hb:Op.bytesLess b a with
  | false=>rfl
  | true=>have:=ql h hb;rw [yv]at this;cases this
 ·show x∈srt _ _↔_;rw [(qc _ _).mem_iff,xP]
theorem yg {x:ai}:x∈uni L↔x∈L:=(Qi L).mem x
theorem StrL.uni {p:List UInt8->Prop} (h:StrL M p) (hp:∀x,p x↔x∈L):M=uni L :=
 StrL.uniq h ⟨(Qi L).nd,(Qi L).le,fun x=>(yg).trans (hp x).symm⟩
theorem Qh (L:List ai):(uni L).length<=L.length:=by
 have:∀l:List ai,(nub l).length<=l.length:=fun l=>by
  induction l with
  | nil=>exact Nat.le_refl _
  | cons x l ih =>
   rw [nub];split
   ·exact Nat.le_trans ih ab
   ·simpa using ih
 show(srt _ _).length<=_;rw [(qc _ _).length_eq];exact this L
theorem XP (h:Rises L):L.Pairwise (fun x y=>leB x y=true):=h.imp fun {a b} h=>by
 rw [J6]
 cases hb:Op.bytesLess b a with
 | false=>rfl
 | true=>have:=ql h hb;rw [yv]at this;cases this
structure ColP where
 aN:Nat
 aM:List ai
 at_:ai
def UH (bl:List BlobP):List BlobP:=bl.map fun b=> { b with mark:=false }
def YG (s:StoP):StoP:= { s with aI:=UH s.aI }
def VS (s:StoP):ColP:=⟨1,uni (rts s), []⟩
def mkd (bl:List BlobP):List ai:=(bl.filter (·.mark)).map (·.dig)
theorem qD {x:ai}:x∈mkd bl↔∃b∈bl,b.mark=true/\b.dig=x:=by
 unfold mkd;rw [List.mem_map];constructor
 ·rintro⟨b,hb,e⟩;obtain⟨h1,h2⟩:=List.mem_filter.1 hb;exact⟨b,h1,h2,e⟩
 ·rintro⟨b,hb,h,e⟩;exact⟨b,List.mem_filter.2 ⟨hb,h⟩,e⟩
def zS (s:StoP) (c:ColP):StoP×ColP :=
 match c.aM with
 | []=>(s,⟨2, [], []⟩)
 | d::rest=>match s.aI.findIdx? (fun b=>b.dig==d) with
  | none=>(s,⟨1,rest, []⟩)
  | some i=>match s.aI[i]? with
   | none=>(s,⟨1,rest, []⟩)
   | some b=>if b.mark then (s,⟨1,rest, []⟩) else ({ s with aI:=s.aI.set i { b with mark:=true } },⟨1,uni (rest++(kr b.data).1.map (·.dig)), []⟩)
def qZ (s:StoP) (c:ColP):StoP×ColP×ai :=
 match s.aI.findIdx? (fun b=>Op.bytesLess c.at_ b.dig) with
 | none=>(s,⟨0, [], []⟩, [])
 | some i=>match s.aI[i]? with
  | none=>(s,⟨0, [], []⟩, [])
  | some b=>if b.mark then (s,⟨2, [],b.dig⟩, []) else ({ s with aI:=s.aI.eraseIdx i },⟨2, [],b.dig⟩,b.dig)
def qF (s:StoP) (c:ColP):StoP×ColP×ai:=if c.aN=1 then ((zS s c).1,(zS s c).2, []) else qZ s c
def NoM (b:BlobP):ai×ai×Nat:=(b.dig,b.data,b.aQ)
def EqM (l m:List BlobP):Prop:=l.map NoM=m.map NoM
theorem EqM.symm (h:EqM l m):EqM m l:=Eq.symm h
theorem EqM.trans {k:List BlobP} (h:EqM l m) (h':EqM m k):EqM l k:=Eq.trans h h'
theorem EqM.rfl_ (l:List BlobP):EqM l l:=rfl
theorem EqM.len (h:EqM l m):l.length=m.length:=by
 have:=congrArg List.length h;simpa using this
theorem EqM.at_ (h:EqM l m) (i:Nat) (h1:i<l.length) (h2:i<m.length):m[i].dig=l[i].dig/\m[i].data=l[i].data/\m[i].aQ=l[i].aQ:=by
 have h3:=congrArg (fun x=>x[i]?) h;simp only [List.getElem?_map,List.getElem?_eq_getElem h1,List.getElem?_eq_getElem h2,Option.map_some,Option.some.injEq,NoM,Prod.mk.injEq]at h3;exact⟨h3.1.symm,h3.2.1.symm,h3.2.2.symm⟩
theorem EqM.mem (h:EqM l m) {b:BlobP} (hb:b∈l):∃b'∈m,b'.dig=b.dig/\b'.data=b.data/\b'.aQ=b.aQ:=by
 obtain⟨i,hi,rfl⟩:=List.mem_iff_getElem.1 hb;have h2:i<m.length:=by rw [<-h.len];exact hi
 exact⟨m[i],List.getElem_mem h2,h.at_ i hi h2⟩
theorem EqM.cons {a b:BlobP} (h:EqM (a::l) (b::m)):(b.dig=a.dig/\b.data=a.data/\b.aQ=a.aQ)/\EqM l m:=by
 unfold EqM at h;simp only [List.map_cons,List.cons.injEq]at h;obtain⟨h1,h2⟩:=h;unfold NoM at h1;simp only [Prod.mk.injEq]at h1;exact⟨⟨h1.1.symm,h1.2.1.symm,h1.2.2.symm⟩,h2⟩
theorem YV {x:ai}:∀ {l m:List BlobP},EqM l m->m.findIdx? (fun b=>b.dig==x)=l.findIdx? (fun b=>b.dig==x)
 | [], [],_=>rfl
 | [],b::m,h=>by cases h
 | a::l, [],h=>by cases h
 | a::l,b::m,h=>by
  obtain⟨h1,h2⟩:=h.cons
  rw [List.findIdx?_cons,List.findIdx?_cons,h1.1,YV h2]
theorem QE (h:EqM l m) (x:ai):kids m x=kids l x:=by
 unfold kids;rw [YV h];cases hf:l.findIdx? (fun b=>b.dig==x) with
 | none=>rfl
 | some i =>
  have hi:i<l.length:=(List.findIdx?_eq_some_iff_getElem.1 hf).1;have hi2:i<m.length:=by rw [<-h.len];exact hi
  simp only [List.getElem?_eq_getElem hi,List.getElem?_eq_getElem hi2];rw [(h.at_ i hi hi2).2.1]
theorem vZ (h:EqM l m) {x:ai}:InB m x↔InB l x:=by
 constructor
 ·rintro⟨b,hb,e⟩;obtain⟨b',hb',e1,_⟩:=h.symm.mem hb;exact⟨b',hb',e1.trans e⟩
 ·rintro⟨b,hb,e⟩;obtain⟨b',hb',e1,_⟩:=h.mem hb;exact⟨b',hb',e1.trans e⟩
theorem QF (h:EqM l m) {x:ai} (hx:Rch l ds x):Rch m ds x:=by
 induction hx with
 | root h1 h2=>exact .root h1 ((vZ h).2 h2)
 | step h1 h2 h3 ih=>exact .step ih (by rw [QE h];exact h2) ((vZ h).2 h3)
theorem YW (h:EqM l m):Rch m ds=Rch l ds:=funext fun x=>propext ⟨QF h.symm,QF h⟩
theorem QG:∀ {l m:List BlobP},EqM l m->uB m=uB l
 | [], [],_=>rfl
 | [],b::m,h=>by cases h
 | a::l, [],h=>by cases h
 | a::l,b::m,h=>by
  obtain⟨h1,h2⟩:=h.cons
  have ih:=QG h2
  unfold uB at ih ⊢
  rw [List.filter_cons,List.filter_cons,h1.2.2]
  split
  ·rw [List.map_cons,List.map_cons,h1.1,ih]
  ·exact ih
theorem jB (h:EqM s.aI m):rts { s with aI:=m }=rts s:=by
 show ur s.aJ++uB m=_;rw [QG h];rfl
theorem z02 (h:EqM l m) (hr:RisesBy (·.dig) l):RisesBy (·.dig) m:=by
 have e:m.map (·.dig)=l.map (·.dig):=by
  have h3:=congrArg (List.map Prod.fst) h;simp only [List.map_map]at h3;exact h3.symm
 have:=List.pairwise_map.1 (e▸hr.map:Rises (m.map (·.dig)));exact this
theorem z03 (h:EqM l m):usd m=usd l:=by
 have h3:=congrArg (List.map fun x:ai×ai×Nat=>x.2.1.length) h;simp only [List.map_map]at h3;unfold usd;exact(congrArg List.sum h3).symm
theorem jA (h:EqM s.aI m) (hg:GoodS s):GoodS { s with aI:=m } :=
 ⟨⟨by rw [<-h.len];exact hg.b.len,fun b hb=>by
   obtain⟨b',hb',e1,e2,e3⟩:=h.symm.mem hb
   have h1:=hg.b.one b' hb'
   unfold GoodB1 at h1 ⊢
   rw [<-e1,<-e2,<-e3];exact h1,z02 h hg.b.ris⟩,hg.e,hg.aL,by show usd m<=_;rw [z03 h];exact hg.used,hg.aK,fun x hx=>⟨(hg.ent x hx).1,fun p hp=>by
   obtain⟨b,hb,e1,e2⟩:=(hg.ent x hx).2 p hp
   obtain⟨b',hb',e3,e4,_⟩:=h.mem hb
   exact⟨b',hb',e3.trans e1,by rw [e4];exact e2⟩⟩⟩
theorem QH (l:List BlobP):EqM l (UH l):=by
 unfold EqM UH;rw [List.map_map];rfl
theorem YX (hi:i<l.length) (k:Bool):EqM l (l.set i { l[i] with mark:=k }):=by
 unfold EqM;rw [List.map_set];have:NoM { l[i] with mark:=k }=(l.map NoM)[i]'(by simpa using hi):=by rw [List.getElem_map];rfl
 rw [this,List.set_getElem_self]
theorem JV (b:ai) (h:(kr b).2≠0):(kr b).1= []:=by
 unfold kr at h ⊢
 split
 ·rfl
 rename_i h1;rw [if_neg h1]at h;split
 ·rfl
 rename_i h2;rw [if_neg h2]at h;split
 ·rfl
 rename_i h3;rw [if_neg h3]at h;split
 ·rfl
 rename_i h4;rw [if_neg h4]at h;split
 ·rfl
 rename_i h5;rw [if_neg h5]at h;split
 ·rfl
 rename_i h6;rw [if_neg h6]at h;split
 ·rfl
 rename_i h7;rw [if_neg h7]at h;exact absurd rfl h
theorem JU (b:ai):(kr b).1= []\/(enc (kr b).1=b/\chk (kr b).1=0):=by
 by_cases h:(kr b).2=0
 ·right;have e:kr b=((kr b).1,0):=by rw [<-h]
  exact VY e
 ·exact .inl (JV b h)
theorem JW (b:ai):∀p∈(kr b).1,hexC p.dig=0:=fun p hp=>by
 rcases JU b with h | h
 ·rw [h]at hp;cases hp
 ·exact((zk h.2).2 p hp).2.1
theorem Ub {x y:ai} (h:y∈kids bl x):hexC y=0:=by
 unfold kids at h;cases hf:bl.findIdx? (fun b=>b.dig==x) with
 | none=>rw [hf]at h;cases h
 | some i =>
  rw [hf]at h;cases hb:bl[i]? with
  | none=>simp only [hb]at h;cases h
  | some b =>
   simp only [hb]at h;obtain⟨p,hp,rfl⟩:=List.mem_map.1 h;exact JW b.data p hp
theorem z0p (hg:GoodS s) {x:ai} (h:x∈rts s):hexC x=0:=by
 rcases List.mem_append.1 h with h | h
 ·obtain⟨y,hy,h2⟩:=List.mem_flatMap.1 h;obtain⟨p,hp,rfl⟩:=List.mem_map.1 h2;exact((zk (hg.e.one y hy).2.1).2 p hp).2.1
 ·obtain⟨b,hb,rfl⟩:=List.mem_map.1 h;rw [(hg.b.one b (List.mem_filter.1 hb).1).1];exact zy _
structure GoodC (s:StoP) (c:ColP):Prop where
 ph:c.aN<=2
 gh:∀d∈c.aM,hexC d=0
 ris:Rises c.aM
 ah:c.at_= []\/hexC c.at_=0
 g0:c.aN≠1->c.aM= []
 a0:c.aN≠2->c.at_= []
 mr:c.aN=1->∀x∈rts s,InB s.aI x->x∈mkd s.aI\/x∈c.aM
 mb:c.aN=1->∀b∈s.aI,b.mark=true->∀x∈kids s.aI b.dig,InB s.aI x->x∈mkd s.aI\/x∈c.aM
 sw:c.aN=2->∀x,Rch s.aI (rts s) x->x∈mkd s.aI
theorem Qx (hg:GoodS s):GoodS (YG s):=jA (QH s.aI) hg
theorem JO (s:StoP):rts (YG s)=rts s:=jB (QH s.aI)
theorem YH (hg:GoodS s):GoodC (YG s) (VS s):=by
 refine⟨by show 1<=2;omega,fun d hd=>z0p hg (yg.1 hd),yD _,.inl rfl,fun h=>absurd rfl h,fun _=>rfl,fun _ x hx _=> .inr ?_,fun _ b hb hm=> ?_,fun h=>absurd h (by show ¬(1=2);omega)⟩
 ·rw [JO]at hx;exact yg.2 hx
 ·exfalso;obtain⟨a,_,rfl⟩:=List.mem_map.1 hb;cases hm
theorem Ku (hr:RisesBy (·.dig) s.aI) (h1:∀x∈rts s,InB s.aI x->x∈mkd s.aI) (h2:∀b∈s.aI,b.mark=true->∀x∈kids s.aI b.dig,InB s.aI x->x∈mkd s.aI):∀x,Rch s.aI (rts s) x->x∈mkd s.aI:=fun x hx=>by
 induction hx with
 | root h3 h4=>exact h1 _ h3 h4
 | step h3 h4 h5 ih =>
  obtain⟨b,hb,hm,rfl⟩:=qD.1 ih
  exact h2 b hb hm _ h4 h5
theorem z0g (hi:i<l.length) (x:ai):x∈mkd (l.set i { l[i] with mark:=true })↔x∈mkd l\/x=l[i].dig:=by
 rw [qD,qD];constructor
 ·rintro⟨b,hb,hm,rfl⟩;rcases List.mem_or_eq_of_mem_set hb with h | h
  ·exact .inl ⟨b,h,hm,rfl⟩
  ·subst h;exact .inr rfl
 ·rintro(⟨b,hb,hm,rfl⟩ | rfl)
  ·obtain⟨j,hj,rfl⟩:=List.mem_iff_getElem.1 hb;by_cases hij:i=j
   ·subst hij;exact⟨_,List.mem_iff_getElem.2 ⟨i,by simpa using hi,rfl⟩,ab,ab⟩
   ·exact⟨l[j],List.mem_iff_getElem.2 ⟨j,by simpa using hj,by rw [List.getElem_set_ne hij]⟩,hm,rfl⟩
  ·exact⟨_,List.mem_iff_getElem.2 ⟨i,by simpa using hi,rfl⟩,ab,ab⟩
theorem ku (s:StoP) (c:ColP):(c.aM= []/\zS s c=(s,⟨2, [], []⟩)) \/
  (∃d rest,c.aM=d::rest/\¬InB s.aI d/\zS s c=(s,⟨1,rest, []⟩)) \/
  (∃d rest i,∃hi:i<s.aI.length,c.aM=d::rest/\s.aI.findIdx? (fun b=>b.dig==d)=aG i/\s.aI[i].dig=d/\s.aI[i].mark=true/\zS s c=(s,⟨1,rest, []⟩)) \/
  (∃d rest i,∃hi:i<s.aI.length,c.aM=d::rest/\s.aI.findIdx? (fun b=>b.dig==d)=aG i/\s.aI[i].dig=d/\s.aI[i].mark=false/\zS s c=({ s with aI:=s.aI.set i { s.aI[i] with mark:=true } },⟨1,uni (rest++kids s.aI d), []⟩)):=by
 unfold zS;cases hc:c.aM with
 | nil=>exact .inl ⟨rfl,rfl⟩
 | cons d rest =>
  right;generalize hf:s.aI.findIdx? (fun b=>b.dig==d)=r;cases r with
  | none =>
   left;refine⟨d,rest,rfl,fun h=> ?_,by simp only [hf]⟩;rw [jG,hf]at h;cases h
  | some i =>
   right;obtain⟨hi,hd,_⟩:=List.findIdx?_eq_some_iff_getElem.1 hf;have hd':s.aI[i].dig=d:=by simpa using hd
   have hk:kids s.aI d=(kr s.aI[i].data).1.map (·.dig):=by
    unfold kids;simp only [hf,List.getElem?_eq_getElem hi]
   cases hm:s.aI[i].mark with
   | true =>
    left;refine⟨d,rest,i,hi,rfl,hf,hd',hm,?_⟩;simp only [hf,List.getElem?_eq_getElem hi,hm,if_true]
   | false =>
    right;refine⟨d,rest,i,hi,rfl,hf,hd',hm,?_⟩;rw [hk];simp only [hf,List.getElem?_eq_getElem hi,hm,Bool.false_eq_true,if_false]
theorem kR (s:StoP) (c:ColP):EqM s.aI (zS s c).1.aI/\(zS s c).1= { s with aI:=(zS s c).1.aI }:=by
 rcases ku s c with ⟨_,h⟩ | ⟨_,_,_,_,h⟩ | ⟨_,_,_,_,_,_,_,_,h⟩ | ⟨_,_,_,hi,_,_,_,_,h⟩
 ·rw [h];exact⟨rfl,rfl⟩
 ·rw [h];exact⟨rfl,rfl⟩
 ·rw [h];exact⟨rfl,rfl⟩
 ·rw [h];exact⟨YX hi true,rfl⟩
theorem KG (c:ColP) (hg:GoodS s):GoodS (zS s c).1:=by
 rw [(kR s c).2];exact jA (kR s c).1 hg
theorem Xq (s:StoP) (c:ColP):rts (zS s c).1=rts s:=by
 rw [(kR s c).2];exact jB (kR s c).1
theorem Xp (s:StoP) (c:ColP):Rch (zS s c).1.aI (rts (zS s c).1)=Rch s.aI (rts s):=by
 rw [Xq];exact YW (kR s c).1
theorem Q7 {c:ColP} (hg:GoodS s) (hp:c.aN=1) (h:GoodC s c):GoodC (zS s c).1 (zS s c).2:=by
 rcases ku s c with ⟨hc,e⟩ | ⟨d,rest,hc,hn,e⟩ | ⟨d,rest,i,hi,hc,_,hd,hm,e⟩ | ⟨d,rest,i,hi,hc,hf,hd,hm,e⟩
 ·rw [e];refine⟨Nat.le_refl _,(fun d hd=>by cases hd),List.Pairwise.nil,.inl rfl,fun _=>rfl,fun h=>absurd rfl h,fun h=>(by cases h),fun h=>(by cases h),fun _=> ?_⟩;refine Ku hg.b.ris (fun x hx hb=> ?_) (fun b hb hm x hx hi=> ?_)
  ·rcases h.mr hp x hx hb with h1 | h1
   ·exact h1
   ·rw [hc]at h1;cases h1
  ·rcases h.mb hp b hb hm x hx hi with h1 | h1
   ·exact h1
   ·rw [hc]at h1;cases h1
 ·rw [e];have hr:=h.ris;have hgh:=h.gh;rw [hc]at hr hgh;have drop:∀x,InB s.aI x->(x∈mkd s.aI\/x∈c.aM)->x∈mkd s.aI\/x∈rest:=fun x hx hh=>hh.imp id fun h2=>by
   rw [hc]at h2;rcases List.mem_cons.1 h2 with rfl | h2
   ·exact absurd hx hn
   ·exact h2
  exact⟨by show 1<=2;omega,fun x hx=>hgh x (List.mem_cons_of_mem _ hx),(List.pairwise_cons.1 hr).2,.inl rfl,fun h=>absurd rfl h,fun _=>rfl,fun _ x hx hi=>drop x hi (h.mr hp x hx hi),fun _ b hb hm x hx hi=>drop x hi (h.mb hp b hb hm x hx hi),fun h=>by cases h⟩
 ·rw [e];have hr:=h.ris;have hgh:=h.gh;rw [hc]at hr hgh;have drop:∀x,InB s.aI x->(x∈mkd s.aI\/x∈c.aM)->x∈mkd s.aI\/x∈rest:=fun x hx hh=>by
   rcases hh with h2 | h2
   ·exact .inl h2
   ·rw [hc]at h2;rcases List.mem_cons.1 h2 with rfl | h2
    ·exact .inl (qD.2 ⟨_,List.getElem_mem hi,hm,hd⟩)
    ·exact .inr h2
  exact⟨by show 1<=2;omega,fun x hx=>hgh x (List.mem_cons_of_mem _ hx),(List.pairwise_cons.1 hr).2,.inl rfl,fun h=>absurd rfl h,fun _=>rfl,fun _ x hx hi=>drop x hi (h.mr hp x hx hi),fun _ b hb hm x hx hi=>drop x hi (h.mb hp b hb hm x hx hi),fun h=>by cases h⟩
 ·have e1:(zS s c).1= { s with aI:=s.aI.set i { s.aI[i] with mark:=true } }:=by rw [e]
  have e2:(zS s c).2=⟨1,uni (rest++kids s.aI d), []⟩:=by rw [e]
  have hE:EqM s.aI (s.aI.set i { s.aI[i] with mark:=true }):=YX hi true;rw [e1,e2];have hgh:=h.gh;rw [hc]at hgh;have keep:∀x,(x∈mkd s.aI\/x∈c.aM)->x∈mkd (s.aI.set i { s.aI[i] with mark:=true })\/x∈uni (rest++kids s.aI d):=fun x hh=>by
   rw [z0g hi,yg,List.mem_append];rcases hh with h2 | h2
   ·exact .inl (.inl h2)
   ·rw [hc]at h2;rcases List.mem_cons.1 h2 with rfl | h2
    ·exact .inl (.inr hd.symm)
    ·exact .inr (.inl h2)
  refine⟨by show 1<=2;omega,fun x hx=> ?_,yD _,.inl rfl,fun h=>absurd rfl h,fun _=>rfl,fun _ x hx hb=> ?_,fun _ b hb hmb x hx hbx=> ?_,fun h=>by cases h⟩
  ·rcases List.mem_append.1 (yg.1 hx) with h2 | h2
   ·exact hgh x (List.mem_cons_of_mem _ h2)
   ·exact Ub h2
  ·rw [jB hE]at hx;exact keep x (h.mr hp x hx ((vZ hE).1 hb))
  ·have hk:kids (s.aI.set i { s.aI[i] with mark:=true }) b.dig=kids s.aI b.dig:=QE hE _;have hbx':=(vZ hE).1 hbx;have hx':x∈kids s.aI b.dig:=by rw [<-hk];exact hx
   rcases List.mem_or_eq_of_mem_set hb with h2 | h2
   ·exact keep x (h.mb hp b h2 hmb x hx' hbx')
   ·subst h2;right;rw [yg,List.mem_append];have hx2:x∈kids s.aI s.aI[i].dig:=hx';rw [hd]at hx2;exact .inr hx2
theorem z13 (h:l.Sublist m):usd l<=usd m:=by
 induction h with
 | slnil=>exact Nat.le_refl _
 | cons a _ ih=>unfold usd at *;simp only [List.map_cons,List.sum_cons];omega
 | cons_cons a _ ih=>unfold usd at *;simp only [List.map_cons,List.sum_cons];omega
theorem yW (hr:RisesBy (·.dig) l) (i:Nat):RisesBy (·.dig) (l.eraseIdx i):=List.Pairwise.sublist (List.eraseIdx_sublist _ _) hr
theorem Ze (hr:RisesBy (·.dig) l) (hi:i<l.length) {b:BlobP} (hb:b∈l):b=l[i]\/b∈l.eraseIdx i:=by
 obtain⟨j,hj,rfl⟩:=List.mem_iff_getElem.1 hb;by_cases h:j=i
 ·subst h;exact .inl rfl
 ·right;rw [List.mem_eraseIdx_iff_getElem];exact⟨j,hj,h,rfl⟩
theorem yK (s:StoP) (c:ColP):(s.aI.findIdx? (fun b=>Op.bytesLess c.at_ b.dig)=aF/\qZ s c=(s,⟨0, [], []⟩, [])) \/
  (∃i,∃hi:i<s.aI.length,s.aI.findIdx? (fun b=>Op.bytesLess c.at_ b.dig)=aG i/\s.aI[i].mark=true/\qZ s c=(s,⟨2, [],s.aI[i].dig⟩, [])) \/
  (∃i,∃hi:i<s.aI.length,s.aI.findIdx? (fun b=>Op.bytesLess c.at_ b.dig)=aG i/\s.aI[i].mark=false/\qZ s c=({ s with aI:=s.aI.eraseIdx i },⟨2, [],s.aI[i].dig⟩,s.aI[i].dig)):=by
 unfold qZ;cases hf:s.aI.findIdx? (fun b=>Op.bytesLess c.at_ b.dig) with
 | none=>exact .inl ⟨rfl,by simp only [hf]⟩
 | some i =>
  right;obtain⟨hi,hd,_⟩:=List.findIdx?_eq_some_iff_getElem.1 hf;cases hm:s.aI[i].mark with
  | true=>exact .inl ⟨i,hi,rfl,hm,by simp only [hf,List.getElem?_eq_getElem hi,hm,if_true]⟩
  | false=>exact .inr ⟨i,hi,rfl,hm,by simp only [hf,List.getElem?_eq_getElem hi,hm,Bool.false_eq_true,if_false]⟩
section
variable {s:StoP} {i:Nat}
theorem QM (hg:GoodS s) (hi:i<s.aI.length) (hm:s.aI[i].mark=false) (hsw:∀x,Rch s.aI (rts s) x->x∈mkd s.aI):¬Rch s.aI (rts s) s.aI[i].dig:=fun h=>by
 obtain⟨b,hb,hmb,e⟩:=qD.1 (hsw _ h)
 have:=hg.b.ris.inj hb (List.getElem_mem hi) e
 subst this
 rw [hm]at hmb;cases hmb
theorem Zp (hg:GoodS s) (hi:i<s.aI.length) (hn:¬Rch s.aI (rts s) s.aI[i].dig):s.aI[i].aQ=0:=by
 rcases Nat.eq_zero_or_pos s.aI[i].aQ with h | h
 ·exact h
 ·exact absurd (.root (z0q (List.getElem_mem hi) h) ⟨_,List.getElem_mem hi,rfl⟩) hn
theorem Xo (hi:i<s.aI.length) (hp:s.aI[i].aQ=0):uB (s.aI.eraseIdx i)=uB s.aI:=by
 unfold uB;rw [yw s.aI i hi (by simp [hp])]
theorem Uj (hi:i<s.aI.length) (hp:s.aI[i].aQ=0):rts { s with aI:=s.aI.eraseIdx i }=rts s:=by
 show ur s.aJ++uB (s.aI.eraseIdx i)=_;rw [Xo hi hp];rfl
theorem Uh (hg:GoodS s) (hi:i<s.aI.length) {x:ai} (hx:InB s.aI x) (hne:x≠s.aI[i].dig):InB (s.aI.eraseIdx i) x:=by
 obtain⟨b,hb,rfl⟩:=hx;rcases Ze hg.b.ris hi hb with h | h
 ·subst h;exact absurd rfl hne
 ·exact⟨b,h,rfl⟩
theorem QN (hg:GoodS s) (hi:i<s.aI.length) (hn:¬Rch s.aI (rts s) s.aI[i].dig):Rch (s.aI.eraseIdx i) (rts { s with aI:=s.aI.eraseIdx i })=Rch s.aI (rts s):=by
 rw [Uj hi (Zp hg hi hn)];refine funext fun x=>propext ⟨fun h=>h.sub hg.b.ris (yW hg.b.ris i) (uc _ _) (fun _ h=>h),fun h=>h.keepb hg.b.ris (yW hg.b.ris i) (uc _ _) (fun _ h=>h) (fun y hy=>Uh hg hi hy.inB (fun e=>hn (e▸hy)))⟩
theorem Zo (hg:GoodS s) (hi:i<s.aI.length) (hn:¬Rch s.aI (rts s) s.aI[i].dig):GoodS { s with aI:=s.aI.eraseIdx i }:=by
 refine⟨⟨Nat.le_trans (List.eraseIdx_sublist _ _).length_le hg.b.len,fun b hb=>hg.b.one b (uc _ _ b hb),yW hg.b.ris i⟩,hg.e,hg.aL,Nat.le_trans ?_ hg.used,hg.aK,fun x hx=>⟨(hg.ent x hx).1,fun p hp=> ?_⟩⟩
 ·show usd (s.aI.eraseIdx i)<=usd s.aI;exact z13 (List.eraseIdx_sublist s.aI i)
 ·obtain⟨b,hb,e1,e2⟩:=(hg.ent x hx).2 p hp;rcases Ze hg.b.ris hi hb with h | h
  ·subst h;exact absurd (.root (by rw [e1];exact QY hx hp) ⟨_,hb,rfl⟩) hn
  ·exact⟨b,h,e1,e2⟩
theorem Ui (hi:i<s.aI.length) (hm:s.aI[i].mark=false):mkd (s.aI.eraseIdx i)=mkd s.aI:=by
 unfold mkd;rw [yw s.aI i hi hm]
end
theorem KO {c:ColP} (hg:GoodS s) (hp:c.aN=2) (h:GoodC s c):GoodS (qZ s c).1/\GoodC (qZ s c).1 (qZ s c).2.1/\Rch (qZ s c).1.aI (rts (qZ s c).1)=Rch s.aI (rts s)/\(qZ s c).1.aJ=s.aJ/\(qZ s c).1.aL=s.aL/\(qZ s c).1.aK=s.aK:=by
 rcases yK s c with ⟨_,e⟩ | ⟨i,hi,_,hm,e⟩ | ⟨i,hi,_,hm,e⟩
 ·rw [e];exact⟨hg,⟨by show 0<=2;omega,(fun d hd=>by cases hd),List.Pairwise.nil,.inl rfl,fun _=>rfl,fun _=>rfl,fun h=>(by cases h),fun h=>(by cases h),fun h=>by cases h⟩,rfl,rfl,rfl,rfl⟩
 ·rw [e];exact⟨hg,⟨Nat.le_refl _,(fun d hd=>by cases hd),List.Pairwise.nil,.inr (by show hexC s.aI[i].dig=0;rw [(hg.b.one _ (List.getElem_mem hi)).1];exact zy _),fun _=>rfl,fun h=>absurd rfl h,fun h=>(by cases h),fun h=>(by cases h),fun _=>h.sw hp⟩,rfl,rfl,rfl,rfl⟩
 ·have hn:=QM hg hi hm (h.sw hp);rw [e];refine⟨Zo hg hi hn,⟨Nat.le_refl _,(fun d hd=>by cases hd),List.Pairwise.nil,.inr (by show hexC s.aI[i].dig=0;rw [(hg.b.one _ (List.getElem_mem hi)).1];exact zy _),fun _=>rfl,fun h=>absurd rfl h,fun h=>(by cases h),fun h=>(by cases h),fun _ x hx=> ?_⟩,QN hg hi hn,rfl,rfl,rfl⟩;show x∈mkd (s.aI.eraseIdx i);rw [Ui hi hm];exact h.sw hp x (by rw [<-QN hg hi hn];exact hx)
def unm (bl:List BlobP):Nat:=(bl.filter (fun b=> !b.mark)).length
theorem z2t (bl:List BlobP):unm bl<=bl.length:=List.length_filter_le _ _
theorem xj {p:BlobP->Bool}:∀ {l:List BlobP} {i:Nat} {y:BlobP} (hi:i<l.length),p l[i]=true->p y=false->((l.set i y).filter p).length+1=(l.filter p).length
 | x::l,0,y,_,h1,h2=>by
  rw [List.set_cons_zero,List.filter_cons_of_neg (by simp [h2]),List.filter_cons_of_pos (by simpa using h1)];rfl
 | x::l,i+1,y,hi,h1,h2=>by
  have ih:=xj (l:=l) (i:=i) (y:=y) (by simpa using hi) (by simpa using h1) h2
  rw [List.set_cons_succ]
  by_cases hx:p x=true
  ·rw [List.filter_cons_of_pos hx,List.filter_cons_of_pos hx,List.length_cons,List.length_cons,ih]
  ·rw [List.filter_cons_of_neg hx,List.filter_cons_of_neg hx,ih]
def Ym (k:Nat) (bl:List BlobP):Prop:=∀b∈bl,(kr b.data).1.length<=k
theorem Uc (bl:List BlobP):Ym 8 bl:=fun b _=>yG b.data
theorem Ud (h:Ym k bl) (x:ai):(kids bl x).length<=k:=by
 unfold kids;cases hf:bl.findIdx? (fun b=>b.dig==x) with
 | none=>exact Nat.zero_le _
 | some i =>
  have hi:i<bl.length:=(List.findIdx?_eq_some_iff_getElem.1 hf).1;simp only [List.getElem?_eq_getElem hi,List.length_map];exact h _ (List.getElem_mem hi)
theorem KH {c:ColP} (hk:Ym k s.aI) (h:(zS s c).2.aN=1):k*unm (zS s c).1.aI+(zS s c).2.aM.length+1<=k*unm s.aI+c.aM.length:=by
 rcases ku s c with ⟨_,e⟩ | ⟨d,rest,hc,_,e⟩ | ⟨d,rest,i,hi,hc,_,_,_,e⟩ | ⟨d,rest,i,hi,hc,_,hd,hm,e⟩
 ·rw [e]at h;cases h
 ·rw [e,hc];simp only [List.length_cons];omega
 ·rw [e,hc];simp only [List.length_cons];omega
 ·rw [e,hc];have h1:=xj (p:=fun b=> !b.mark) (y:= { s.aI[i] with mark:=true }) hi (by simp [hm]) ab;have h2:=Qh (rest++kids s.aI d);have h3:=Ud hk d;rw [List.length_append]at h2;show k*unm (s.aI.set i _)+(uni (rest++kids s.aI d)).length+1<=k*unm s.aI+(d::rest).length;have h4:unm s.aI=unm (s.aI.set i { s.aI[i] with mark:=true })+1:=by unfold unm;exact h1.symm
  rw [h4,Nat.mul_add,Nat.mul_one,List.length_cons];omega
theorem Uk (s:StoP) (c:ColP):(zS s c).2.aN=1\/(zS s c).2=⟨2, [], []⟩:=by
 rcases ku s c with ⟨_,e⟩ | ⟨_,_,_,_,e⟩ | ⟨_,_,_,_,_,_,_,_,e⟩ | ⟨_,_,_,_,_,_,_,_,e⟩
 ·rw [e];exact .inr rfl
 ·rw [e];exact .inl rfl
 ·rw [e];exact .inl rfl
 ·rw [e];exact .inl rfl
def ahead (a:ai) (bl:List BlobP):Nat:=(bl.filter (fun b=>Op.bytesLess a b.dig)).length
theorem ZF {c:ColP} (hg:GoodS s) (hc:GoodC s c) (hp:c.aN=1\/c.aN=2):GoodS (qF s c).1/\GoodC (qF s c).1 (qF s c).2.1/\Rch (qF s c).1.aI (rts (qF s c).1)=Rch s.aI (rts s)/\(qF s c).1.aJ=s.aJ/\(qF s c).1.aL=s.aL/\(qF s c).1.aK=s.aK:=by
 unfold qF;rcases hp with hp | hp
 ·rw [if_pos hp];have e:=(kR s c).2;refine⟨KG c hg,Q7 hg hp hc,Xp s c,?_,?_,?_⟩<;>(show _=_;rw [e])
 ·rw [if_neg wu];exact KO hg hp hc
end Go.Proofs.YtaboknhfiijipaaGreat
