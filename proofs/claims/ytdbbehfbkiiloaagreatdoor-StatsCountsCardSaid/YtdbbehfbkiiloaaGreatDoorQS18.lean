/- Lemmas of the proof. Conditions: as stated. -/
import Derived.Deep.RegionHeld3
set_option linter.unusedVariables false
set_option linter.unusedSimpArgs false
namespace Go.Proofs.YtdbbehfbkiiloaaGreatDoor
open Go
section
variable {P:Program} {ops:Array Oper} {Q:Exit→Act→World→Prop} {md:Region.Mode} {S:World→Prop} {t:Nat}
def zz (P:Program) (md:Region.Mode) (ops:Array Oper) (Q:Exit→Act→World→Prop) (S:World→Prop) (t:Nat):Nat→Array Bool→Act→World→Prop
 | 0,listed,a,w=>Region.ready md ops listed= []∧Q .normal a w
 | fuel+1,listed,a,w =>
  (Region.ready md ops listed= []→Q .normal a w) ∧
  ∀i∈Region.ready md ops listed,wpOp P ops Q i (fun a' w'=>(i≠t→S w')∧zz P md ops Q S t fuel (listed.setIfInBounds i true) a' w') a w
theorem yu:∀(fuel:Nat) (listed:Array Bool) (a:Act) (w:World),zz P md ops Q S t fuel listed a w→wpAny P md ops Q fuel listed a w
 | 0,_,_,_,h=>h
 | fuel+1,_,_,_,h=>⟨h.1,fun i hi=>wpOp_mono (fun a' w' h'=>yu fuel _ a' w' h'.2) (h.2 i hi)⟩
def ul (md:Region.Mode) (ops:Array Oper) (t i:Nat):Bool:=match ops[t]? with | some o=>o.after.any (fun e=>Region.binds md e&&e.on==i) | none=>false
theorem xJ {i:Nat} {oi:Oper} {v:Value} (hi:ops[i]?=some oi) (hsel:∀(j:Nat) (o:Oper) cs b,ops[j]?=some o→o.op≠ .select cs b)
  (hit:i≠t) (hwt:ul md ops t i=true) (hQ:∀c a w,Q (.panic c) (a.put oi.dst v) w→Q (.panic c) a w) :
  ∀(fuel:Nat) (listed:Array Bool) (a:Act) (w:World),
   (∀j oj,ops[j]?=some oj→j≠i→listed.getD j true=false→(∀e∈oj.after,Region.binds md e=true→e.on≠i)→oi.apart ops oj=true) →
   i∈Region.ready md ops listed→YieldsIf P ops S oi v a→S w →
   zz P md ops Q S t fuel (listed.setIfInBounds i true) (a.put oi.dst v) w→zz P md ops Q S t (fuel+1) listed a w:=by
 intro fuel
 induction fuel with
 | zero =>
  intro listed a w _ hr hy hS H;refine⟨fun h=>(by rw [h]at hr;cases hr),fun j hj=> ?_⟩;by_cases hji:j=i
  ·subst hji;exact hy.wpOp hi hS ⟨fun _=>hS,H⟩
  ·have:=ready_mono hj hji;rw [H.1]at this;cases this
 | succ fuel ih =>
  intro listed a w hfree hr hy hS H;refine⟨fun h=>(by rw [h]at hr;cases hr),fun j hj=> ?_⟩;by_cases hji:j=i
  ·subst hji;exact hy.wpOp hi hS ⟨fun _=>hS,H⟩
  ·have h1:=H.2 j (ready_mono hj hji);obtain⟨hjun,oj,hoj,hall⟩:=mem_ready.1 hj;have hnot:∀e∈oj.after,Region.binds md e=true→e.on≠i:=fun e he hb heq=>by
    have h1:=hall e he hb;have h0:=(mem_ready.1 hr).1;rw [heq]at h1;rcases Nat.lt_or_ge i listed.size with h' | h'
    ·simp [h']at h0 h1;rw [h0]at h1;cases h1
    ·simp [Array.getElem?_eq_none h']at h1
   have hjt:j≠t:=fun e=>by
    subst e;unfold ul at hwt;rw [hoj]at hwt;simp only [Array.any_eq_true']at hwt;obtain⟨x,hx,hx2⟩:=hwt;simp only [Bool.and_eq_true,beq_iff_eq]at hx2;exact hnot x hx hx2.1 hx2.2
   have h2:=wpOp_putIf hoj (hfree j oj hoj hji hjun hnot) (fun cs b=>hsel i oi cs b hi) (fun cs b=>hsel j oj cs b hoj) hQ hy h1;have hfree':∀k ok,ops[k]?=some ok→k≠i→(listed.setIfInBounds j true).getD k true=false →
     (∀e∈ok.after,Region.binds md e=true→e.on≠i)→oi.apart ops ok=true:=fun k ok hk hki hun hno=>by
    refine hfree k ok hk hki ?_ hno;by_cases hjk:j=k
    ·subst hjk;exact hjun
    ·rw [getD_set_ne true hjk]at hun;exact hun
   refine wpOp_mono (fun a' w' h3=>⟨h3.2.1,ih (listed.setIfInBounds j true) a' w' hfree' (ready_mono hr (Ne.symm hji)) h3.1 (h3.2.1 hjt) ?_⟩) h2;rw [Array.setIfInBounds_comm _ _ hji];exact h3.2.2
theorem vq {i:Nat} {oi:Oper} {v:Value} {fuel:Nat} {listed:Array Bool} {a:Act} {w:World} (hi:ops[i]?=some oi)
  (hs:Region.noSelect ops=true) (hf:Region.free md ops listed i=true) (hr:(Region.ready md ops listed).contains i=true) (hit:decide (i≠t)=true) (hwt:ul md ops t i=true)
  (hQ:∀c a w,Q (.panic c) (a.put oi.dst v) w→Q (.panic c) a w) (hy:YieldsIf P ops S oi v a) (hS:S w)
  (h:zz P md ops Q S t fuel (listed.setIfInBounds i true) (a.put oi.dst v) w):zz P md ops Q S t (fuel+1) listed a w :=
 xJ hi (Region.noSelect_spec hs) (of_decide_eq_true hit) hwt hQ fuel listed a w (Region.free_spec hi hf) (by simpa using hr) hy hS h
theorem sqTT {P:Program} {ops:Array Oper} {Q:Exit→Act→World→Prop} {md:Region.Mode} {S:World→Prop} {t:Nat} (i:Nat) {oi:Oper} {v:Value} {fuel:Nat} {listed:Array Bool} {a:Act} {w:World} (h:zz P md ops Q S t fuel (listed.setIfInBounds i true) (a.put oi.dst v) w) (hi:ops[i]?=some oi:=by rfl) (hs:Region.noSelect ops=true:=by kernel_rfl) (hf:Region.free md ops listed i=true:=by kernel_rfl) (hr:(Region.ready md ops listed).contains i=true:=by kernel_rfl) (hit:decide (i≠t)=true:=by kernel_rfl) (hwt:ul md ops t i=true:=by kernel_rfl) (hw:Region.wanted oi (yielded ops a.tmps)=true:=by rfl) (hS:S w:=by assumption) (hy:∀w,S w→(execOp a.eval oi).run P w= .ok (.value v) w:=by(intro w hSw;(try dsimp only at hSw);go_simp;try (with_reducible rfl))) (hQ:∀c a w,Q (.panic c) (a.put oi.dst v) w→Q (.panic c) a w:=by exact fun _ _ _ h=>h):zz P md ops Q S t (fuel+1) listed a w :=
 vq hi hs hf hr hit hwt hQ (Or.inl ⟨hw,hy⟩) hS h
theorem qy {listed:Array Bool} {a:Act} {w:World} (hr:Region.ready md ops listed= []) (h:Q .normal a w) :
  ∀fuel,zz P md ops Q S t fuel listed a w
 | 0=>⟨hr,h⟩
 | _+1=>⟨fun _=>h,by rw [hr];simp⟩
def z8 (P:Program) (md:Region.Mode) (ops:Array Oper) (Q:Exit→Act→World→Prop) (S:World→Prop) (t:Nat) (fuel:Nat) (listed:Array Bool) (a:Act) (w:World) (rs:List Nat):Prop :=
 ∀i∈rs,wpOp P ops Q i (fun a' w'=>(i≠t→S w')∧zz P md ops Q S t fuel (listed.setIfInBounds i true) a' w') a w
theorem z8.nil {fuel:Nat} {listed:Array Bool} {a:Act} {w:World}:z8 P md ops Q S t fuel listed a w []:=fun _ h=>by cases h
theorem z8.cons {fuel:Nat} {listed:Array Bool} {a:Act} {w:World} {i:Nat} {o:Oper} {rs:List Nat} (ho:ops[i]?=some o)
  (h:∀K':Act→World→Prop,Shut (∀a w,S w→(S w→zz P md ops Q S t fuel (listed.setIfInBounds i true) a w)→K' a w)→if Region.wanted o (yielded ops a.tmps)=true then Oper.wp P o a w K' Q else K' (a.put o.dst undef) w)
  (hs:z8 P md ops Q S t fuel listed a w rs):z8 P md ops Q S t fuel listed a w (i::rs):=fun j hj=>by
 rcases List.mem_cons.1 hj with rfl | hj
 ·exact wpOp_step ho (fun K' hK=>h K' (fun a w hS hW=>hK a w ⟨fun _=>hS,hW hS⟩))
 ·exact hs j hj
theorem z8.last {fuel:Nat} {listed:Array Bool} {a:Act} {w:World} {o:Oper} (ho:ops[t]?=some o)
  (h:∀K':Act→World→Prop,Shut (∀a w,zz P md ops Q S t fuel (listed.setIfInBounds t true) a w→K' a w)→if Region.wanted o (yielded ops a.tmps)=true then Oper.wp P o a w K' Q else K' (a.put o.dst undef) w) :
  z8 P md ops Q S t fuel listed a w [t]:=fun j hj=>by
 have:=List.mem_singleton.1 hj
 subst this
 exact wpOp_step ho (fun K' hK=>h K' (fun a w hW=>hK a w ⟨fun e=>absurd rfl e,hW⟩))
theorem zi {rs:List Nat} {fuel:Nat} {listed:Array Bool} {a:Act} {w:World} (hr:Region.ready md ops listed=rs) (hne:rs≠ [])
  (h:z8 P md ops Q S t fuel listed a w rs):zz P md ops Q S t (fuel+1) listed a w:=⟨fun h0=>absurd (hr▸h0) hne,hr▸h⟩
theorem zr (t:Nat) {id:Nat} {a:Act} {w:World} (hm:P.follows .mixedOrders=true) (hS:S w.drew)
  (h:S w.drew→zz P .any ops Q S t ops.size (Array.replicate ops.size false) a w.drew):(Code.region id ops true).wp P Q a w :=
 wp_region_any hm (yu _ _ _ _ (h hS))
theorem Km {fuel:Nat} {listed:Array Bool} {K:Act→World→Prop}
  (hK:Shut (∀a w,S w→(S w→zz P md ops Q S t fuel listed a w)→K a w)) {a:Act} {w:World} (hS:S w) (A B:World→Prop) (ha:A w) (hb:B w) (h:∀W,S W→A W→B W→zz P md ops Q S t fuel listed a W):K a w :=
 hK.out _ _ hS (fun h'=>h w h' ha hb)
theorem Yc {fuel:Nat} {listed:Array Bool} {K:Act→World→Prop}
  (hK:Shut (∀a w,zz P md ops Q S t fuel listed a w→K a w)) {a:Act} {w:World} (h:zz P md ops Q S t fuel listed a w):K a w :=
 hK.out _ _ h
end
section
variable {P:Program} {ops:Array Oper} {Q:Exit→Act→World→Prop} {md:Region.Mode} {S:World→Prop} {us:List Nat}
def noU (us:List Nat) (listed:Array Bool):Prop:=∀u∈us,listed.getD u true=false
theorem KO {i:Nat} {listed:Array Bool} (h:i∈us):¬noU us (listed.setIfInBounds i true):=fun h2=>by
 have h3:=h2 i h
 rcases Nat.lt_or_ge i listed.size with h' | h'
 ·simp [h']at h3
 ·simp [h']at h3
def un (P:Program) (md:Region.Mode) (ops:Array Oper) (Q:Exit→Act→World→Prop) (S:World→Prop) (us:List Nat):Nat→Array Bool→Act→World→Prop
 | 0,listed,a,w=>Region.ready md ops listed= []∧Q .normal a w
 | fuel+1,listed,a,w =>
  (Region.ready md ops listed= []→Q .normal a w) ∧
  ∀i∈Region.ready md ops listed,wpOp P ops Q i (fun a' w'=>(noU us (listed.setIfInBounds i true)→S w')∧un P md ops Q S us fuel (listed.setIfInBounds i true) a' w') a w
def zE (P:Program) (md:Region.Mode) (ops:Array Oper) (Q:Exit→Act→World→Prop) (S:World→Prop) (us:List Nat) (fuel:Nat) (listed:Array Bool) (a:Act) (w:World) (rs:List Nat):Prop :=
 ∀i∈rs,wpOp P ops Q i (fun a' w'=>(noU us (listed.setIfInBounds i true)→S w')∧un P md ops Q S us fuel (listed.setIfInBounds i true) a' w') a w
theorem zE.nil {fuel:Nat} {listed:Array Bool} {a:Act} {w:World}:zE P md ops Q S us fuel listed a w []:=fun _ h=>by cases h
theorem zE.cons {fuel:Nat} {listed:Array Bool} {a:Act} {w:World} {i:Nat} {o:Oper} {rs:List Nat} (ho:ops[i]?=some o)
  (h:∀K':Act→World→Prop,Shut (∀a w,S w→(S w→un P md ops Q S us fuel (listed.setIfInBounds i true) a w)→K' a w)→if Region.wanted o (yielded ops a.tmps)=true then Oper.wp P o a w K' Q else K' (a.put o.dst undef) w)
  (hs:zE P md ops Q S us fuel listed a w rs):zE P md ops Q S us fuel listed a w (i::rs):=fun j hj=>by
 rcases List.mem_cons.1 hj with rfl | hj
 ·exact wpOp_step ho (fun K' hK=>h K' (fun a w hS hW=>hK a w ⟨fun _=>hS,hW hS⟩))
 ·exact hs j hj
theorem zE.store {fuel:Nat} {listed:Array Bool} {a:Act} {w:World} {i:Nat} {o:Oper} {rs:List Nat} (ho:ops[i]?=some o) (hiu:us.contains i=true)
  (h:∀K':Act→World→Prop,Shut (∀a w,un P md ops Q S us fuel (listed.setIfInBounds i true) a w→K' a w)→if Region.wanted o (yielded ops a.tmps)=true then Oper.wp P o a w K' Q else K' (a.put o.dst undef) w)
  (hs:zE P md ops Q S us fuel listed a w rs):zE P md ops Q S us fuel listed a w (i::rs):=fun j hj=>by
 rcases List.mem_cons.1 hj with rfl | hj
 ·exact wpOp_step ho (fun K' hK=>h K' (fun a w hW=>hK a w ⟨fun hn=>absurd hn (KO (by simpa using hiu)),hW⟩))
 ·exact hs j hj
end
section
variable {P:Program} {ops:Array Oper} {c d e f h:Code} {b:Bool} {a:Act} {w:World} {Q:Exit→Act→World→Prop}
theorem jm (i:Nat) (z:Code.wp P (.region i ops b) Q a w):Code.wp P (.region i ops b) Q a w:=z
theorem jn (i:Nat) (z:Code.wp P (.seq (.region i ops b) c) Q a w):Code.wp P (.seq (.region i ops b) c) Q a w:=z
theorem jo (i:Nat) (z:Code.wp P (.seq (.seq (.region i ops b) c) d) Q a w):Code.wp P (.seq (.seq (.region i ops b) c) d) Q a w:=z
theorem jp (i:Nat) (z:Code.wp P (.seq (.seq (.seq (.region i ops b) c) d) e) Q a w):Code.wp P (.seq (.seq (.seq (.region i ops b) c) d) e) Q a w:=z
theorem jq (i:Nat) (z:Code.wp P (.seq (.seq (.seq (.seq (.region i ops b) c) d) e) f) Q a w):Code.wp P (.seq (.seq (.seq (.seq (.region i ops b) c) d) e) f) Q a w:=z
theorem jr (i:Nat) (z:Code.wp P (.seq (.seq (.seq (.seq (.seq (.region i ops b) c) d) e) f) h) Q a w):Code.wp P (.seq (.seq (.seq (.seq (.seq (.region i ops b) c) d) e) f) h) Q a w:=z
end
end Go.Proofs.YtdbbehfbkiiloaaGreatDoor
