/- Lemmas of the proof. Conditions: as stated. -/
import Derived.Test.YtnmlbflhnnmoeaaGreatQX26
set_option linter.unusedVariables false
set_option linter.unusedSimpArgs false
namespace Go.Proofs.YtnmlbflhnnmoeaaGreat
open Go
section
variable {P:Program} {ops:Array Oper} {Q:Exit→Act→World→Prop} {md:Region.Mode} {S:World→Prop} {us:List Nat}
def noU (us:List Nat) (listed:Array Bool):Prop:=∀u∈us,listed.getD u true=false
theorem ue {i:Nat} {listed:Array Bool} (h:i∉us):noU us (listed.setIfInBounds i true)↔noU us listed:=by
 constructor
 ·intro h2 u hu;have h3:=h2 u hu
  rwa [getD_set_ne true (fun e=>h (by rw [e];exact hu))]at h3
 ·intro h2 u hu;rw [getD_set_ne true (fun e=>h (by rw [e];exact hu))];exact h2 u hu
theorem JI {i:Nat} {listed:Array Bool} (h:i∈us):¬noU us (listed.setIfInBounds i true):=fun h2=>by
 have h3:=h2 i h
 rcases Nat.lt_or_ge i listed.size with h' | h'
 ·simp [h']at h3
 ·simp [h']at h3
def qA (P:Program) (md:Region.Mode) (ops:Array Oper) (Q:Exit→Act→World→Prop) (S:World→Prop) (us:List Nat):Nat→Array Bool→Act→World→Prop
 | 0,listed,a,w=>Region.ready md ops listed= []∧Q .normal a w
 | fuel+1,listed,a,w =>
  (Region.ready md ops listed= []→Q .normal a w) ∧
  ∀i∈Region.ready md ops listed,wpOp P ops Q i (fun a' w'=>(noU us (listed.setIfInBounds i true)→S w')∧qA P md ops Q S us fuel (listed.setIfInBounds i true) a' w') a w
theorem uT:∀(fuel:Nat) (listed:Array Bool) (a:Act) (w:World),qA P md ops Q S us fuel listed a w→wpAny P md ops Q fuel listed a w
 | 0,_,_,_,h=>h
 | fuel+1,_,_,_,h=>⟨h.1,fun i hi=>wpOp_mono (fun a' w' h'=>uT fuel _ a' w' h'.2) (h.2 i hi)⟩
theorem xz {i j:Nat} {listed:Array Bool} (hr:i∈Region.ready md ops listed) (hj:j∈Region.ready md ops listed) (hw:xL md ops j i=true):False:=by
 obtain⟨hjun,oj,hoj,hall⟩:=mem_ready.1 hj;unfold xL at hw;rw [hoj]at hw;simp only [Array.any_eq_true']at hw;obtain⟨e,he,he2⟩:=hw;simp only [Bool.and_eq_true,beq_iff_eq]at he2;have h1:=hall e he he2.1;have h0:=(mem_ready.1 hr).1;rw [he2.2]at h1;rcases Nat.lt_or_ge i listed.size with h' | h'
 ·simp [h']at h0 h1;rw [h0]at h1;cases h1
 ·simp [Array.getElem?_eq_none h']at h1
theorem xM {S':World→Prop} (C:Bool) {i:Nat} {oi:Oper} {v:Value} (hi:ops[i]?=some oi) (hsel:∀(j:Nat) (o:Oper) cs b,ops[j]?=some o→o.op≠ .select cs b)
  (hit:i∉us) (hwt:C=true→∀u∈us,xL md ops u i=true) (hSS:C=true→∀w,S w→S' w) (hPP:C=false→∀w,S' w) (hQ:∀c a w,Q (.panic c) (a.put oi.dst v) w→Q (.panic c) a w) :
  ∀(fuel:Nat) (listed:Array Bool) (a:Act) (w:World),
   (∀j oj,ops[j]?=some oj→j≠i→listed.getD j true=false→(∀e∈oj.after,Region.binds md e=true→e.on≠i)→oi.apart ops oj=true) →
   i∈Region.ready md ops listed→YieldsIf P ops S' oi v a→(noU us listed→S w)→(C=true→noU us listed) →
   qA P md ops Q S us fuel (listed.setIfInBounds i true) (a.put oi.dst v) w→qA P md ops Q S us (fuel+1) listed a w:=by
 intro fuel;have hS':∀(listed:Array Bool) (w:World),(noU us listed→S w)→(C=true→noU us listed)→S' w:=fun listed w h1 h2=>by
  cases hC:C with
  | true=>exact hSS hC w (h1 (h2 hC))
  | false=>exact hPP hC w
 induction fuel with
 | zero =>
  intro listed a w _ hr hy hS hno H;refine⟨fun h=>(by rw [h]at hr;cases hr),fun j hj=> ?_⟩;by_cases hji:j=i
  ·subst hji;exact hy.wpOp hi (hS' listed w hS hno) ⟨fun h=>hS ((ue hit).1 h),H⟩
  ·have:=ready_mono hj hji;rw [H.1]at this;cases this
 | succ fuel ih =>
  intro listed a w hfree hr hy hS hno H;refine⟨fun h=>(by rw [h]at hr;cases hr),fun j hj=> ?_⟩;by_cases hji:j=i
  ·subst hji;exact hy.wpOp hi (hS' listed w hS hno) ⟨fun h=>hS ((ue hit).1 h),H⟩
  ·have h1:=H.2 j (ready_mono hj hji);obtain⟨hjun,oj,hoj,hall⟩:=mem_ready.1 hj;have hnot:∀e∈oj.after,Region.binds md e=true→e.on≠i:=fun e he hb heq=>by
    have h1:=hall e he hb;have h0:=(mem_ready.1 hr).1;rw [heq]at h1;rcases Nat.lt_or_ge i listed.size with h' | h'
    ·simp [h']at h0 h1;rw [h0]at h1;cases h1
    ·simp [Array.getElem?_eq_none h']at h1
   have h2:=wpOp_putIf hoj (hfree j oj hoj hji hjun hnot) (fun cs b=>hsel i oi cs b hi) (fun cs b=>hsel j oj cs b hoj) hQ hy h1;have hfree':∀k ok,ops[k]?=some ok→k≠i→(listed.setIfInBounds j true).getD k true=false →
     (∀e∈ok.after,Region.binds md e=true→e.on≠i)→oi.apart ops ok=true:=fun k ok hk hki hun hno=>by
    refine hfree k ok hk hki ?_ hno;by_cases hjk:j=k
    ·subst hjk;exact hjun
    ·rw [getD_set_ne true hjk]at hun;exact hun
   refine wpOp_mono (fun a' w' h3=>⟨fun h=>h3.2.1 (by rw [Array.setIfInBounds_comm _ _ (Ne.symm hji)];exact(ue hit).2 h),ih (listed.setIfInBounds j true) a' w' hfree' (ready_mono hr (Ne.symm hji)) h3.1 (fun h=>h3.2.1 (by rw [Array.setIfInBounds_comm _ _ (Ne.symm hji)];exact(ue hit).2 h)) (fun h=> ?_) ?_⟩) h2
   ·have hju:j∉us:=fun hju=>xz hr hj (hwt h j hju);exact(ue hju).2 (hno h)
   ·rw [Array.setIfInBounds_comm _ _ hji];exact h3.2.2
theorem tkU {fuel:Nat} {listed:Array Bool} {a:Act} {w:World} (i:Nat) {oi:Oper} {v:Value}
  (h:qA P md ops Q S us fuel (listed.setIfInBounds i true) (a.put oi.dst v) w) (hi:ops[i]?=some oi:=by rfl)
  (hs:Region.noSelect ops=true:=by kernel_rfl) (hf:Region.free md ops listed i=true:=by kernel_rfl) (hr:(Region.ready md ops listed).contains i=true:=by kernel_rfl)
  (hit:us.contains i=false:=by kernel_rfl) (hwt:us.all (fun u=>xL md ops u i)=true:=by kernel_rfl) (hno:us.all (fun u=>listed.getD u true==false)=true:=by kernel_rfl)
  (hw:Region.wanted oi (yielded ops a.tmps)=true:=by rfl) (hS:S w:=by assumption)
  (hy:∀w,S w→(execOp a.eval oi).run P w= .ok (.value v) w:=by(intro w hSw;(try dsimp only at hSw);go_simp;try (with_reducible rfl)))
  (hQ:∀c a w,Q (.panic c) (a.put oi.dst v) w→Q (.panic c) a w:=by exact fun _ _ _ h=>h):qA P md ops Q S us (fuel+1) listed a w :=
 xM (S':=S) true hi (Region.noSelect_spec hs) (by simpa using hit) (fun _=>by simpa using hwt) (fun _ _ h=>h) (fun h=>by cases h) hQ fuel listed a w (Region.free_spec hi hf) (by simpa using hr) (.inl ⟨hw,hy⟩) (fun _=>hS) (fun _ u hu=>by
  have:=List.all_eq_true.1 hno u hu
  simpa using this) h
theorem tkP {fuel:Nat} {listed:Array Bool} {a:Act} {w:World} (i:Nat) {oi:Oper} {v:Value}
  (h:qA P md ops Q S us fuel (listed.setIfInBounds i true) (a.put oi.dst v) w) (hi:ops[i]?=some oi:=by rfl)
  (hs:Region.noSelect ops=true:=by kernel_rfl) (hf:Region.free md ops listed i=true:=by kernel_rfl) (hr:(Region.ready md ops listed).contains i=true:=by kernel_rfl)
  (hit:us.contains i=false:=by kernel_rfl) (hS:noU us listed→S w:=by first | (intro _;assumption) | (intro h;exact absurd h (by unfold noU;decide)))
  (hw:Region.wanted oi (yielded ops a.tmps)=true:=by rfl)
  (hy:∀w,True→(execOp a.eval oi).run P w= .ok (.value v) w:=by(intro w _;go_simp;try (with_reducible rfl)))
  (hQ:∀c a w,Q (.panic c) (a.put oi.dst v) w→Q (.panic c) a w:=by exact fun _ _ _ h=>h):qA P md ops Q S us (fuel+1) listed a w :=
 xM (S':=fun _=>True) false hi (Region.noSelect_spec hs) (by simpa using hit) (fun h=>by cases h) (fun h=>by cases h) (fun _ _=>trivial) hQ fuel listed a w (Region.free_spec hi hf) (by simpa using hr) (.inl ⟨hw,hy⟩) hS (fun h=>by cases h) h
theorem zB {listed:Array Bool} {a:Act} {w:World} (hr:Region.ready md ops listed= []) (h:Q .normal a w) :
  ∀fuel,qA P md ops Q S us fuel listed a w
 | 0=>⟨hr,h⟩
 | _+1=>⟨fun _=>h,by rw [hr];simp⟩
def z6 (P:Program) (md:Region.Mode) (ops:Array Oper) (Q:Exit→Act→World→Prop) (S:World→Prop) (us:List Nat) (fuel:Nat) (listed:Array Bool) (a:Act) (w:World) (rs:List Nat):Prop :=
 ∀i∈rs,wpOp P ops Q i (fun a' w'=>(noU us (listed.setIfInBounds i true)→S w')∧qA P md ops Q S us fuel (listed.setIfInBounds i true) a' w') a w
theorem z6.nil {fuel:Nat} {listed:Array Bool} {a:Act} {w:World}:z6 P md ops Q S us fuel listed a w []:=fun _ h=>by cases h
theorem z6.cons {fuel:Nat} {listed:Array Bool} {a:Act} {w:World} {i:Nat} {o:Oper} {rs:List Nat} (ho:ops[i]?=some o)
  (h:∀K':Act→World→Prop,Shut (∀a w,S w→(S w→qA P md ops Q S us fuel (listed.setIfInBounds i true) a w)→K' a w)→if Region.wanted o (yielded ops a.tmps)=true then Oper.wp P o a w K' Q else K' (a.put o.dst undef) w)
  (hs:z6 P md ops Q S us fuel listed a w rs):z6 P md ops Q S us fuel listed a w (i::rs):=fun j hj=>by
 rcases List.mem_cons.1 hj with rfl | hj
 ·exact wpOp_step ho (fun K' hK=>h K' (fun a w hS hW=>hK a w ⟨fun _=>hS,hW hS⟩))
 ·exact hs j hj
theorem z6.store {fuel:Nat} {listed:Array Bool} {a:Act} {w:World} {i:Nat} {o:Oper} {rs:List Nat} (ho:ops[i]?=some o) (hiu:us.contains i=true)
  (h:∀K':Act→World→Prop,Shut (∀a w,qA P md ops Q S us fuel (listed.setIfInBounds i true) a w→K' a w)→if Region.wanted o (yielded ops a.tmps)=true then Oper.wp P o a w K' Q else K' (a.put o.dst undef) w)
  (hs:z6 P md ops Q S us fuel listed a w rs):z6 P md ops Q S us fuel listed a w (i::rs):=fun j hj=>by
 rcases List.mem_cons.1 hj with rfl | hj
 ·exact wpOp_step ho (fun K' hK=>h K' (fun a w hW=>hK a w ⟨fun hn=>absurd hn (JI (by simpa using hiu)),hW⟩))
 ·exact hs j hj
theorem z7 {rs:List Nat} {fuel:Nat} {listed:Array Bool} {a:Act} {w:World} (hr:Region.ready md ops listed=rs) (hne:rs≠ [])
  (h:z6 P md ops Q S us fuel listed a w rs):qA P md ops Q S us (fuel+1) listed a w:=⟨fun h0=>absurd (hr▸h0) hne,hr▸h⟩
theorem zk (us:List Nat) {id:Nat} {a:Act} {w:World} (hm:P.follows .mixedOrders=true) (hS:S w.drew)
  (h:S w.drew→qA P .any ops Q S us ops.size (Array.replicate ops.size false) a w.drew):(Code.region id ops true).wp P Q a w :=
 wp_region_any hm (uT _ _ _ _ (h hS))
theorem qI {fuel:Nat} {listed:Array Bool} {K:Act→World→Prop}
  (hK:Shut (∀a w,S w→(S w→qA P md ops Q S us fuel listed a w)→K a w)) {a:Act} {w:World} (hS:S w) (A B:World→Prop) (ha:A w) (hb:B w) (h:∀W,S W→A W→B W→qA P md ops Q S us fuel listed a W):K a w :=
 hK.out _ _ hS (fun h'=>h w h' ha hb)
theorem vY {fuel:Nat} {listed:Array Bool} {K:Act→World→Prop}
  (hK:Shut (∀a w,qA P md ops Q S us fuel listed a w→K a w)) {a:Act} {w:World} (A B:World→Prop) (ha:A w) (hb:B w) (h:∀W,A W→B W→qA P md ops Q S us fuel listed a W):K a w :=
 hK.out _ _ (h w ha hb)
end
end Go.Proofs.YtnmlbflhnnmoeaaGreat
