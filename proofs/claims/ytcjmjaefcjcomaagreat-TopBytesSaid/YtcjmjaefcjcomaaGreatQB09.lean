/- Lemmas, as stated. -/
import Derived.Deep.RegionHeld3
import Derived.Test.YtcjmjaefcjcomaaGreatRows
import Derived.ProofKit
set_option linter.unusedVariables false
set_option linter.unusedSimpArgs false
open Option renaming some->aG
open Go.Proofs.Tryz renaming prog->zZZ
namespace Go.Proofs.YtcjmjaefcjcomaaGreat
open Go
variable {a:Act} {K:Act->World->Prop} {listed:Array Bool} {rs:List Nat} {fuel i id:Nat} {o oi:Oper} {v:Value} {w:World}
section
variable {P:Program} {ops:Array Oper} {Q:Exit->Act->World->Prop} {md:Region.Mode} {S:World->Prop} {t:Nat}
def qY (P:Program) (md:Region.Mode) (ops:Array Oper) (Q:Exit->Act->World->Prop) (S:World->Prop) (t:Nat):Nat->Array Bool->Act->World->Prop
 | 0,listed,a,w=>Region.ready md ops listed= []/\Q .normal a w
 | fuel+1,listed,a,w =>
  (Region.ready md ops listed= []->Q .normal a w) /\
  ∀i∈Region.ready md ops listed,wpOp P ops Q i (fun a' w'=>(i≠t->S w')/\qY P md ops Q S t fuel (listed.setIfInBounds i true) a' w') a w
theorem js:∀(fuel:Nat) (listed:Array Bool) (a:Act) (w:World),qY P md ops Q S t fuel listed a w->wpAny P md ops Q fuel listed a w
 | 0,_,_,_,h=>h
 | fuel+1,_,_,_,h=>⟨h.1,fun i hi=>wpOp_mono (fun a' w' h'=>js fuel _ a' w' h'.2) (h.2 i hi)⟩
def vv (md:Region.Mode) (ops:Array Oper) (t i:Nat):Bool:=match ops[t]? with | some o=>o.after.any (fun e=>Region.binds md e&&e.on==i) | none=>false
theorem Q4 (hi:ops[i]?=aG oi) (hsel:∀(j:Nat) (o:Oper) cs b,ops[j]?=aG o->o.op≠ .select cs b)
  (hit:i≠t) (hwt:vv md ops t i=true) (hQ:∀c a w,Q (.panic c) (a.put oi.dst v) w->Q (.panic c) a w) :
  ∀(fuel:Nat) (listed:Array Bool) (a:Act) (w:World),
   (∀j oj,ops[j]?=aG oj->j≠i->listed.getD j true=false->(∀e∈oj.after,Region.binds md e=true->e.on≠i)->oi.apart ops oj=true) ->
   i∈Region.ready md ops listed->YieldsIf P ops S oi v a->S w ->
   qY P md ops Q S t fuel (listed.setIfInBounds i true) (a.put oi.dst v) w->qY P md ops Q S t (fuel+1) listed a w:=by
 intro fuel
 induction fuel with
 | zero =>
  intro listed a w _ hr hy hS H;refine⟨fun h=>(by rw [h]at hr;cases hr),fun j hj=> ?_⟩;by_cases hji:j=i
  ·subst hji;exact hy.wpOp hi hS ⟨fun _=>hS,H⟩
  ·have:=ready_mono hj hji;rw [H.1]at this;cases this
 | succ fuel ih =>
  intro listed a w hfree hr hy hS H;refine⟨fun h=>(by rw [h]at hr;cases hr),fun j hj=> ?_⟩;by_cases hji:j=i
  ·subst hji;exact hy.wpOp hi hS ⟨fun _=>hS,H⟩
  ·have h1:=H.2 j (ready_mono hj hji);obtain⟨hjun,oj,hoj,hall⟩:=mem_ready.1 hj;have hnot:∀e∈oj.after,Region.binds md e=true->e.on≠i:=fun e he hb heq=>by
    have h1:=hall e he hb;have h0:=(mem_ready.1 hr).1;rw [heq]at h1;rcases Nat.lt_or_ge i listed.size with h' | h'
    ·simp [h']at h0 h1;rw [h0]at h1;cases h1
    ·simp [Array.getElem?_eq_none h']at h1
   have hjt:j≠t:=fun e=>by
    subst e;unfold vv at hwt;rw [hoj]at hwt;simp only [Array.any_eq_true']at hwt;obtain⟨x,hx,hx2⟩:=hwt;simp only [Bool.and_eq_true,beq_iff_eq]at hx2;exact hnot x hx hx2.1 hx2.2
   have h2:=wpOp_putIf hoj (hfree j oj hoj hji hjun hnot) (fun cs b=>hsel i oi cs b hi) (fun cs b=>hsel j oj cs b hoj) hQ hy h1;have hfree':∀k ok,ops[k]?=aG ok->k≠i->(listed.setIfInBounds j true).getD k true=false ->
     (∀e∈ok.after,Region.binds md e=true->e.on≠i)->oi.apart ops ok=true:=fun k ok hk hki hun hno=>by
    refine hfree k ok hk hki ?_ hno;by_cases hjk:j=k
    ·subst hjk;exact hjun
    ·rw [getD_set_ne true hjk]at hun;exact hun
   refine wpOp_mono (fun a' w' h3=>⟨h3.2.1,ih (listed.setIfInBounds j true) a' w' hfree' (ready_mono hr (Ne.symm hji)) h3.1 (h3.2.1 hjt) ?_⟩) h2;rw [Array.setIfInBounds_comm _ _ hji];exact h3.2.2
theorem QP (hi:ops[i]?=aG oi)
  (hs:Region.noSelect ops=true) (hf:Region.free md ops listed i=true) (hr:(Region.ready md ops listed).contains i=true) (hit:decide (i≠t)=true) (hwt:vv md ops t i=true)
  (hQ:∀c a w,Q (.panic c) (a.put oi.dst v) w->Q (.panic c) a w) (hy:YieldsIf P ops S oi v a) (hS:S w)
  (h:qY P md ops Q S t fuel (listed.setIfInBounds i true) (a.put oi.dst v) w):qY P md ops Q S t (fuel+1) listed a w :=
 Q4 hi (Region.noSelect_spec hs) (of_decide_eq_true hit) hwt hQ fuel listed a w (Region.free_spec hi hf) (by simpa using hr) hy hS h
theorem sqTT {P:Program} {ops:Array Oper} {Q:Exit->Act->World->Prop} {md:Region.Mode} {S:World->Prop} {t:Nat} (i:Nat) (h:qY P md ops Q S t fuel (listed.setIfInBounds i true) (a.put oi.dst v) w) (hi:ops[i]?=aG oi:=by rfl) (hs:Region.noSelect ops=true:=by kernel_rfl) (hf:Region.free md ops listed i=true:=by kernel_rfl) (hr:(Region.ready md ops listed).contains i=true:=by kernel_rfl) (hit:decide (i≠t)=true:=by kernel_rfl) (hwt:vv md ops t i=true:=by kernel_rfl) (hw:Region.wanted oi (yielded ops a.tmps)=true:=by rfl) (hS:S w:=by assumption) (hy:∀w,S w->(execOp a.eval oi).run P w= .ok (.value v) w:=by(intro w hSw;(try dsimp only at hSw);go_simp;try (with_reducible rfl))) (hQ:∀c a w,Q (.panic c) (a.put oi.dst v) w->Q (.panic c) a w:=by exact fun _ _ _ h=>h):qY P md ops Q S t (fuel+1) listed a w :=
 QP hi hs hf hr hit hwt hQ (Or.inl ⟨hw,hy⟩) hS h
theorem QO (hr:Region.ready md ops listed= []) (h:Q .normal a w) :
  ∀fuel,qY P md ops Q S t fuel listed a w
 | 0=>⟨hr,h⟩
 | _+1=>⟨fun _=>h,by rw [hr];simp⟩
def zN (P:Program) (md:Region.Mode) (ops:Array Oper) (Q:Exit->Act->World->Prop) (S:World->Prop) (t:Nat) (fuel:Nat) (listed:Array Bool) (a:Act) (w:World) (rs:List Nat):Prop :=
 ∀i∈rs,wpOp P ops Q i (fun a' w'=>(i≠t->S w')/\qY P md ops Q S t fuel (listed.setIfInBounds i true) a' w') a w
theorem zN.nil:zN P md ops Q S t fuel listed a w []:=fun _ h=>by cases h
theorem zN.cons (ho:ops[i]?=aG o)
  (h:∀K':Act->World->Prop,Shut (∀a w,S w->(S w->qY P md ops Q S t fuel (listed.setIfInBounds i true) a w)->K' a w)->if Region.wanted o (yielded ops a.tmps)=true then Oper.wp P o a w K' Q else K' (a.put o.dst undef) w)
  (hs:zN P md ops Q S t fuel listed a w rs):zN P md ops Q S t fuel listed a w (i::rs):=fun j hj=>by
 rcases List.mem_cons.1 hj with rfl | hj
 ·exact wpOp_step ho (fun K' hK=>h K' (fun a w hS hW=>hK a w ⟨fun _=>hS,hW hS⟩))
 ·exact hs j hj
theorem zN.last (ho:ops[t]?=aG o)
  (h:∀K':Act->World->Prop,Shut (∀a w,qY P md ops Q S t fuel (listed.setIfInBounds t true) a w->K' a w)->if Region.wanted o (yielded ops a.tmps)=true then Oper.wp P o a w K' Q else K' (a.put o.dst undef) w) :
  zN P md ops Q S t fuel listed a w [t]:=fun j hj=>by
 have:=List.mem_singleton.1 hj
 subst this
 exact wpOp_step ho (fun K' hK=>h K' (fun a w hW=>hK a w ⟨fun e=>absurd rfl e,hW⟩))
theorem kj (hr:Region.ready md ops listed=rs) (hne:rs≠ [])
  (h:zN P md ops Q S t fuel listed a w rs):qY P md ops Q S t (fuel+1) listed a w:=⟨fun h0=>absurd (hr▸h0) hne,hr▸h⟩
theorem wV (i:Nat) (h:∀K':Act->World->Prop,Shut (∀a w,S w->(S w->qY P md ops Q S t fuel (listed.setIfInBounds i true) a w)->K' a w)->if Region.wanted o (yielded ops a.tmps)=true then Oper.wp P o a w K' Q else K' (a.put o.dst undef) w) (hr:Region.ready md ops listed=[i]:=by kernel_rfl) (ho:ops[i]?=aG o:=by rfl):qY P md ops Q S t (fuel+1) listed a w:=kj hr (by simp) (zN.cons ho h zN.nil)
theorem yY (t:Nat) (hm:P.follows .mixedOrders=true) (hS:S w.drew)
  (h:S w.drew->qY P .any ops Q S t ops.size (Array.replicate ops.size false) a w.drew):(Code.region id ops true).wp P Q a w :=
 wp_region_any hm (js _ _ _ _ (h hS))
theorem z4j 
  (hK:Shut (∀a w,S w->(S w->qY P md ops Q S t fuel listed a w)->K a w)) {a:Act} {w:World} (hS:S w) (A B:World->Prop) (ha:A w) (hb:B w) (h:∀W,S W->A W->B W->qY P md ops Q S t fuel listed a W):K a w :=
 hK.out _ _ hS (fun h'=>h w h' ha hb)
theorem z5w 
  (hK:Shut (∀a w,qY P md ops Q S t fuel listed a w->K a w)) {a:Act} {w:World} (h:qY P md ops Q S t fuel listed a w):K a w :=
 hK.out _ _ h
end
section
variable {P:Program} {ops:Array Oper} {Q:Exit->Act->World->Prop} {md:Region.Mode} {S:World->Prop} {us:List Nat}
def noU (us:List Nat) (listed:Array Bool):Prop:=∀u∈us,listed.getD u true=false
theorem ut (h:i∉us):noU us (listed.setIfInBounds i true)↔noU us listed:=by
 constructor
 ·intro h2 u hu;have h3:=h2 u hu
  rwa [getD_set_ne true (fun e=>h (by rw [e];exact hu))]at h3
 ·intro h2 u hu;rw [getD_set_ne true (fun e=>h (by rw [e];exact hu))];exact h2 u hu
theorem z3m (h:i∈us):¬noU us (listed.setIfInBounds i true):=fun h2=>by
 have h3:=h2 i h
 rcases Nat.lt_or_ge i listed.size with h' | h'
 ·simp [h']at h3
 ·simp [h']at h3
def qZ (P:Program) (md:Region.Mode) (ops:Array Oper) (Q:Exit->Act->World->Prop) (S:World->Prop) (us:List Nat):Nat->Array Bool->Act->World->Prop
 | 0,listed,a,w=>Region.ready md ops listed= []/\Q .normal a w
 | fuel+1,listed,a,w =>
  (Region.ready md ops listed= []->Q .normal a w) /\
  ∀i∈Region.ready md ops listed,wpOp P ops Q i (fun a' w'=>(noU us (listed.setIfInBounds i true)->S w')/\qZ P md ops Q S us fuel (listed.setIfInBounds i true) a' w') a w
theorem jt:∀(fuel:Nat) (listed:Array Bool) (a:Act) (w:World),qZ P md ops Q S us fuel listed a w->wpAny P md ops Q fuel listed a w
 | 0,_,_,_,h=>h
 | fuel+1,_,_,_,h=>⟨h.1,fun i hi=>wpOp_mono (fun a' w' h'=>jt fuel _ a' w' h'.2) (h.2 i hi)⟩
theorem xX {j:Nat} (hr:i∈Region.ready md ops listed) (hj:j∈Region.ready md ops listed) (hw:vv md ops j i=true):False:=by
 obtain⟨hjun,oj,hoj,hall⟩:=mem_ready.1 hj;unfold vv at hw;rw [hoj]at hw;simp only [Array.any_eq_true']at hw;obtain⟨e,he,he2⟩:=hw;simp only [Bool.and_eq_true,beq_iff_eq]at he2;have h1:=hall e he he2.1;have h0:=(mem_ready.1 hr).1;rw [he2.2]at h1;rcases Nat.lt_or_ge i listed.size with h' | h'
 ·simp [h']at h0 h1;rw [h0]at h1;cases h1
 ·simp [Array.getElem?_eq_none h']at h1
theorem vw {S':World->Prop} (C:Bool) (hi:ops[i]?=aG oi) (hsel:∀(j:Nat) (o:Oper) cs b,ops[j]?=aG o->o.op≠ .select cs b)
  (hit:i∉us) (hwt:C=true->∀u∈us,vv md ops u i=true) (hSS:C=true->∀w,S w->S' w) (hPP:C=false->∀w,S' w) (hQ:∀c a w,Q (.panic c) (a.put oi.dst v) w->Q (.panic c) a w) :
  ∀(fuel:Nat) (listed:Array Bool) (a:Act) (w:World),
   (∀j oj,ops[j]?=aG oj->j≠i->listed.getD j true=false->(∀e∈oj.after,Region.binds md e=true->e.on≠i)->oi.apart ops oj=true) ->
   i∈Region.ready md ops listed->YieldsIf P ops S' oi v a->(noU us listed->S w)->(C=true->noU us listed) ->
   qZ P md ops Q S us fuel (listed.setIfInBounds i true) (a.put oi.dst v) w->qZ P md ops Q S us (fuel+1) listed a w:=by
 intro fuel;have hS':∀(listed:Array Bool) (w:World),(noU us listed->S w)->(C=true->noU us listed)->S' w:=fun listed w h1 h2=>by
  cases hC:C with
  | true=>exact hSS hC w (h1 (h2 hC))
  | false=>exact hPP hC w
 induction fuel with
 | zero =>
  intro listed a w _ hr hy hS hno H;refine⟨fun h=>(by rw [h]at hr;cases hr),fun j hj=> ?_⟩;by_cases hji:j=i
  ·subst hji;exact hy.wpOp hi (hS' listed w hS hno) ⟨fun h=>hS ((ut hit).1 h),H⟩
  ·have:=ready_mono hj hji;rw [H.1]at this;cases this
 | succ fuel ih =>
  intro listed a w hfree hr hy hS hno H;refine⟨fun h=>(by rw [h]at hr;cases hr),fun j hj=> ?_⟩;by_cases hji:j=i
  ·subst hji;exact hy.wpOp hi (hS' listed w hS hno) ⟨fun h=>hS ((ut hit).1 h),H⟩
  ·have h1:=H.2 j (ready_mono hj hji);obtain⟨hjun,oj,hoj,hall⟩:=mem_ready.1 hj;have hnot:∀e∈oj.after,Region.binds md e=true->e.on≠i:=fun e he hb heq=>by
    have h1:=hall e he hb;have h0:=(mem_ready.1 hr).1;rw [heq]at h1;rcases Nat.lt_or_ge i listed.size with h' | h'
    ·simp [h']at h0 h1;rw [h0]at h1;cases h1
    ·simp [Array.getElem?_eq_none h']at h1
   have h2:=wpOp_putIf hoj (hfree j oj hoj hji hjun hnot) (fun cs b=>hsel i oi cs b hi) (fun cs b=>hsel j oj cs b hoj) hQ hy h1;have hfree':∀k ok,ops[k]?=aG ok->k≠i->(listed.setIfInBounds j true).getD k true=false ->
     (∀e∈ok.after,Region.binds md e=true->e.on≠i)->oi.apart ops ok=true:=fun k ok hk hki hun hno=>by
    refine hfree k ok hk hki ?_ hno;by_cases hjk:j=k
    ·subst hjk;exact hjun
    ·rw [getD_set_ne true hjk]at hun;exact hun
   refine wpOp_mono (fun a' w' h3=>⟨fun h=>h3.2.1 (by rw [Array.setIfInBounds_comm _ _ (Ne.symm hji)];exact(ut hit).2 h),ih (listed.setIfInBounds j true) a' w' hfree' (ready_mono hr (Ne.symm hji)) h3.1 (fun h=>h3.2.1 (by rw [Array.setIfInBounds_comm _ _ (Ne.symm hji)];exact(ut hit).2 h)) (fun h=> ?_) ?_⟩) h2
   ·have hju:j∉us:=fun hju=>xX hr hj (hwt h j hju);exact(ut hju).2 (hno h)
   ·rw [Array.setIfInBounds_comm _ _ hji];exact h3.2.2
theorem tkU (i:Nat) 
  (h:qZ P md ops Q S us fuel (listed.setIfInBounds i true) (a.put oi.dst v) w) (hi:ops[i]?=aG oi:=by rfl)
  (hs:Region.noSelect ops=true:=by kernel_rfl) (hf:Region.free md ops listed i=true:=by kernel_rfl) (hr:(Region.ready md ops listed).contains i=true:=by kernel_rfl)
  (hit:us.contains i=false:=by kernel_rfl) (hwt:us.all (fun u=>vv md ops u i)=true:=by kernel_rfl) (hno:us.all (fun u=>listed.getD u true==false)=true:=by kernel_rfl)
  (hw:Region.wanted oi (yielded ops a.tmps)=true:=by rfl) (hS:S w:=by assumption)
  (hy:∀w,S w->(execOp a.eval oi).run P w= .ok (.value v) w:=by(intro w hSw;(try dsimp only at hSw);go_simp;try (with_reducible rfl)))
  (hQ:∀c a w,Q (.panic c) (a.put oi.dst v) w->Q (.panic c) a w:=by exact fun _ _ _ h=>h):qZ P md ops Q S us (fuel+1) listed a w :=
 vw (S':=S) true hi (Region.noSelect_spec hs) (by simpa using hit) (fun _=>by simpa using hwt) (fun _ _ h=>h) (fun h=>by cases h) hQ fuel listed a w (Region.free_spec hi hf) (by simpa using hr) (.inl ⟨hw,hy⟩) (fun _=>hS) (fun _ u hu=>by
  have:=List.all_eq_true.1 hno u hu
  simpa using this) h
theorem tkP (i:Nat) 
  (h:qZ P md ops Q S us fuel (listed.setIfInBounds i true) (a.put oi.dst v) w) (hi:ops[i]?=aG oi:=by rfl)
  (hs:Region.noSelect ops=true:=by kernel_rfl) (hf:Region.free md ops listed i=true:=by kernel_rfl) (hr:(Region.ready md ops listed).contains i=true:=by kernel_rfl)
  (hit:us.contains i=false:=by kernel_rfl) (hS:noU us listed->S w:=by first | (intro _;assumption) | (intro h;exact absurd h (by unfold noU;decide)))
  (hw:Region.wanted oi (yielded ops a.tmps)=true:=by rfl)
  (hy:∀w,True->(execOp a.eval oi).run P w= .ok (.value v) w:=by(intro w _;go_simp;try (with_reducible rfl)))
  (hQ:∀c a w,Q (.panic c) (a.put oi.dst v) w->Q (.panic c) a w:=by exact fun _ _ _ h=>h):qZ P md ops Q S us (fuel+1) listed a w :=
 vw (S':=fun _=>True) false hi (Region.noSelect_spec hs) (by simpa using hit) (fun h=>by cases h) (fun h=>by cases h) (fun _ _=>trivial) hQ fuel listed a w (Region.free_spec hi hf) (by simpa using hr) (.inl ⟨hw,hy⟩) hS (fun h=>by cases h) h
theorem zo (hr:Region.ready md ops listed= []) (h:Q .normal a w) :
  ∀fuel,qZ P md ops Q S us fuel listed a w
 | 0=>⟨hr,h⟩
 | _+1=>⟨fun _=>h,by rw [hr];simp⟩
def z8 (P:Program) (md:Region.Mode) (ops:Array Oper) (Q:Exit->Act->World->Prop) (S:World->Prop) (us:List Nat) (fuel:Nat) (listed:Array Bool) (a:Act) (w:World) (rs:List Nat):Prop :=
 ∀i∈rs,wpOp P ops Q i (fun a' w'=>(noU us (listed.setIfInBounds i true)->S w')/\qZ P md ops Q S us fuel (listed.setIfInBounds i true) a' w') a w
theorem z8.nil:z8 P md ops Q S us fuel listed a w []:=fun _ h=>by cases h
theorem z8.cons (ho:ops[i]?=aG o)
  (h:∀K':Act->World->Prop,Shut (∀a w,S w->(S w->qZ P md ops Q S us fuel (listed.setIfInBounds i true) a w)->K' a w)->if Region.wanted o (yielded ops a.tmps)=true then Oper.wp P o a w K' Q else K' (a.put o.dst undef) w)
  (hs:z8 P md ops Q S us fuel listed a w rs):z8 P md ops Q S us fuel listed a w (i::rs):=fun j hj=>by
 rcases List.mem_cons.1 hj with rfl | hj
 ·exact wpOp_step ho (fun K' hK=>h K' (fun a w hS hW=>hK a w ⟨fun _=>hS,hW hS⟩))
 ·exact hs j hj
theorem z8.store (ho:ops[i]?=aG o) (hiu:us.contains i=true)
  (h:∀K':Act->World->Prop,Shut (∀a w,qZ P md ops Q S us fuel (listed.setIfInBounds i true) a w->K' a w)->if Region.wanted o (yielded ops a.tmps)=true then Oper.wp P o a w K' Q else K' (a.put o.dst undef) w)
  (hs:z8 P md ops Q S us fuel listed a w rs):z8 P md ops Q S us fuel listed a w (i::rs):=fun j hj=>by
 rcases List.mem_cons.1 hj with rfl | hj
 ·exact wpOp_step ho (fun K' hK=>h K' (fun a w hW=>hK a w ⟨fun hn=>absurd hn (z3m (by simpa using hiu)),hW⟩))
 ·exact hs j hj
theorem za (hr:Region.ready md ops listed=rs) (hne:rs≠ [])
  (h:z8 P md ops Q S us fuel listed a w rs):qZ P md ops Q S us (fuel+1) listed a w:=⟨fun h0=>absurd (hr▸h0) hne,hr▸h⟩
theorem wX (i:Nat) (h:∀K':Act->World->Prop,Shut (∀a w,S w->(S w->qZ P md ops Q S us fuel (listed.setIfInBounds i true) a w)->K' a w)->if Region.wanted o (yielded ops a.tmps)=true then Oper.wp P o a w K' Q else K' (a.put o.dst undef) w) (hr:Region.ready md ops listed=[i]:=by kernel_rfl) (ho:ops[i]?=aG o:=by rfl):qZ P md ops Q S us (fuel+1) listed a w:=za hr (by simp) (z8.cons ho h z8.nil)
theorem wW (i:Nat) (h:∀K':Act->World->Prop,Shut (∀a w,qZ P md ops Q S us fuel (listed.setIfInBounds i true) a w->K' a w)->if Region.wanted o (yielded ops a.tmps)=true then Oper.wp P o a w K' Q else K' (a.put o.dst undef) w) (hr:Region.ready md ops listed=[i]:=by kernel_rfl) (ho:ops[i]?=aG o:=by rfl) (hiu:us.contains i=true:=by rfl):qZ P md ops Q S us (fuel+1) listed a w:=za hr (by simp) (z8.store ho hiu h z8.nil)
theorem ze (us:List Nat) (hm:P.follows .mixedOrders=true) (hS:S w.drew)
  (h:S w.drew->qZ P .any ops Q S us ops.size (Array.replicate ops.size false) a w.drew):(Code.region id ops true).wp P Q a w :=
 wp_region_any hm (jt _ _ _ _ (h hS))
theorem zS 
  (hK:Shut (∀a w,S w->(S w->qZ P md ops Q S us fuel listed a w)->K a w)) {a:Act} {w:World} (hS:S w) (A B:World->Prop) (ha:A w) (hb:B w) (h:∀W,S W->A W->B W->qZ P md ops Q S us fuel listed a W):K a w :=
 hK.out _ _ hS (fun h'=>h w h' ha hb)
theorem wC 
  (hK:Shut (∀a w,S w->(S w->qZ P md ops Q S us fuel listed a w)->K a w)) {a:Act} {w:World} (hS:S w) (A:World->Prop) (ha:A w) (h:∀W,S W/\A W->qZ P md ops Q S us fuel listed a W):K a w:=zS hK hS A (fun _=>True) ha trivial fun W s a _=>h W ⟨s,a⟩
theorem vA 
  (hK:Shut (∀a w,qZ P md ops Q S us fuel listed a w->K a w)) {a:Act} {w:World} (A B:World->Prop) (ha:A w) (hb:B w) (h:∀W,A W->B W->qZ P md ops Q S us fuel listed a W):K a w :=
 hK.out _ _ (h w ha hb)
theorem wD 
  (hK:Shut (∀a w,qZ P md ops Q S us fuel listed a w->K a w)) {a:Act} {w:World} (A:World->Prop) (ha:A w) (h:∀W,A W->qZ P md ops Q S us fuel listed a W):K a w:=vA hK A (fun _=>True) ha trivial fun W a _=>h W a
end
section
variable {P:Program} {ops:Array Oper} {c d e f h:Code} {b:Bool} {a:Act} {w:World} {Q:Exit->Act->World->Prop}
theorem zt (i:Nat) (z:Code.wp P (.region i ops b) Q a w):Code.wp P (.region i ops b) Q a w:=z
theorem zu (i:Nat) (z:Code.wp P (.seq (.region i ops b) c) Q a w):Code.wp P (.seq (.region i ops b) c) Q a w:=z
theorem zv (i:Nat) (z:Code.wp P (.seq (.seq (.region i ops b) c) d) Q a w):Code.wp P (.seq (.seq (.region i ops b) c) d) Q a w:=z
theorem zw (i:Nat) (z:Code.wp P (.seq (.seq (.seq (.region i ops b) c) d) e) Q a w):Code.wp P (.seq (.seq (.seq (.region i ops b) c) d) e) Q a w:=z
theorem zx (i:Nat) (z:Code.wp P (.seq (.seq (.seq (.seq (.region i ops b) c) d) e) f) Q a w):Code.wp P (.seq (.seq (.seq (.seq (.region i ops b) c) d) e) f) Q a w:=z
theorem zy (i:Nat) (z:Code.wp P (.seq (.seq (.seq (.seq (.seq (.region i ops b) c) d) e) f) h) Q a w):Code.wp P (.seq (.seq (.seq (.seq (.seq (.region i ops b) c) d) e) f) h) Q a w:=z
end
open Go.RowKit
theorem XL:(zZZ.mayEnter&& !zZZ.liftsFinal&&(zZZ.make==some .cut))=true:=by kernel_rfl
theorem z5u:zZZ.mayEnter=true:=by have:=XL;simp only [Bool.and_eq_true]at this;exact this.1.1
theorem lft:zZZ.liftsFinal=false:=by have:=XL;simp only [Bool.and_eq_true,Bool.not_eq_true']at this;exact this.1.2
theorem mk:zZZ.make=some .cut:=by have:=XL;simp only [Bool.and_eq_true,beq_iff_eq]at this;exact this.2
end Go.Proofs.YtcjmjaefcjcomaaGreat
