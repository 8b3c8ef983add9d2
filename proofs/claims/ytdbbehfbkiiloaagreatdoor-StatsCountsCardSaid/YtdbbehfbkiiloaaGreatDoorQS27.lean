/- Lemmas of the proof. Conditions: as stated. -/
import Derived.Test.YtdbbehfbkiiloaaGreatDoorQS17
import Derived.Maps.GroupsBeside
set_option linter.unusedVariables false
set_option linter.unusedSimpArgs false
namespace Go.Proofs.YtdbbehfbkiiloaaGreatDoor
open Go.RowKit Go.Maps
open Go.ChangeShapes (lits)
def grp (fs:List FlP) (k:List UInt8):List Int :=
 match fnd 0 fs k with
 | none=> []
 | some i=>match fs[i]? with
  | none=> []
  | some p=>p.lead::p.wait
theorem vQ {fs:List FlP} {k:List UInt8} {i:Nat} (h:fnd 0 fs k=some i) (hi:i<fs.length):grp fs k=fs[i].lead::fs[i].wait:=by
 rw [grp,h];simp only [List.getElem?_eq_getElem hi]
theorem jJ:∀(fs:List FlP) (i j:Nat) (k:List UInt8),fnd i fs k=some j→∃h:j - i<fs.length,i≤j∧fs[j - i].key=k
 | p::r,i,j,k,h=>by
  rw [fnd]at h
  split at h
  ·rename_i e
   cases h
   refine⟨by simp,Nat.le_refl _,?_⟩
   simp only [Nat.sub_self,List.getElem_cons_zero]
   exact e
  ·obtain⟨h1,h2,h3⟩:=jJ r (i+1) j k h
   refine⟨by simp only [List.length_cons];omega,by omega,?_⟩
   have e:j - i=(j - (i+1))+1:=by omega
   simp only [e,List.getElem_cons_succ]
   exact h3
theorem kr {fs:List FlP} {j:Nat} {k:List UInt8} (h:fnd 0 fs k=some j):∃h:j<fs.length,fs[j].key=k:=by
 obtain⟨h1,_,h2⟩:=jJ fs 0 j k h;exact⟨h1,h2⟩
theorem qH:∀(fs:List FlP) (p:FlP) (i:Nat) (k:List UInt8),fnd i (fs++ [p]) k=match fnd i fs k with | some j=>some j | none=>if p.key=k then some (i+fs.length) else none
 | [],p,i,k=>by simp [fnd]
 | f::fs,p,i,k=>by
  rw [List.cons_append,fnd,fnd]
  by_cases h:f.key=k
  ·rw [if_pos h,if_pos h]
  ·rw [if_neg h,if_neg h,qH fs p (i+1) k,show i+1+fs.length=i+(f::fs).length by simp only [List.length_cons];omega]
theorem yF {fs:List FlP} {k:List UInt8} {n:Int} (h:fnd 0 fs k=none):grp (fs++ [⟨k,n, []⟩]) k= [n]:=by
 have e:fnd 0 (fs++ [(⟨k,n, []⟩:FlP)]) k=some fs.length:=by rw [qH,h];simp
 rw [vQ e (by simp)];simp
theorem kW {fs:List FlP} {k k':List UInt8} {n:Int} (h:k≠k'):grp (fs++ [⟨k,n, []⟩]) k'=grp fs k':=by
 unfold grp;rw [qH];cases e:fnd 0 fs k' with
 | none=>simp [h]
 | some j =>
  obtain⟨hj,_⟩:=kr e;simp only [];rw [List.getElem?_append_left hj]
theorem yO (fs:List FlP) (i:Nat) (p:FlP) (hi:i<fs.length) (hk:p.key=fs[i].key):(fs.set i p).map (·.key)=fs.map (·.key):=by
 rw [List.map_set];apply List.ext_getElem
 ·simp
 ·intro j h1 h2;rw [List.getElem_set];split
  ·rename_i e;subst e;simpa using hk
  ·rfl
theorem xn {fs:List FlP} {k:List UInt8} {i:Nat} {p:FlP} (h:fnd 0 fs k=some i) (hi:i<fs.length) (hk:p.key=fs[i].key):grp (fs.set i p) k=p.lead::p.wait:=by
 have e:fnd 0 (fs.set i p) k=some i:=by rw [qg (fs.set i p) fs 0 k (yO fs i p hi hk),h]
 rw [vQ e (by simpa using hi)];simp
theorem yE {fs:List FlP} {k k':List UInt8} {i:Nat} {p:FlP} (h:fnd 0 fs k=some i) (hi:i<fs.length) (hk:p.key=fs[i].key) (hne:k≠k'):grp (fs.set i p) k'=grp fs k':=by
 unfold grp;rw [qg (fs.set i p) fs 0 k' (yO fs i p hi hk)];cases e:fnd 0 fs k' with
 | none=>rfl
 | some j =>
  have hne':i≠j:=by
   rintro rfl;obtain⟨_,e1⟩:=kr e;obtain⟨_,e2⟩:=kr h;exact hne (e2.symm.trans e1)
  simp only [];rw [List.getElem?_set_ne hne']
def grpD (l:List Int):DataW Unit:=match l with | []=> .nil | _::_=> .slice (lits .i64 l) []
structure WhoD (fs:List FlP) (D:DataW Unit):Prop where
 tidy:Tidy D
 size:size D=fs.length
 has:∀k,Maps.has D (.string k)=(fnd 0 fs k).isSome
 at_:∀k,D.atKey (.string k) .nil=grpD (grp fs k)
theorem WhoD.nil_:WhoD [] (.map []):=⟨tidy_empty,rfl,fun _=>rfl,fun _=>rfl⟩
theorem yq (k:List UInt8):WideAt.IsKeyLit (.string k):=by simp [WideAt.IsKeyLit]
theorem WhoD.new {fs:List FlP} {D:DataW Unit} {k:List UInt8} {n:Int} (h:WhoD fs D) (hf:fnd 0 fs k=none):WhoD (fs++ [⟨k,n, []⟩]) (D.put (.string k) (grpD [n])):=by
 have hh:Maps.has D (.string k)=false:=by rw [h.has,hf];rfl
 refine⟨h.tidy.put (yq k) _,?_,fun k'=> ?_,fun k'=> ?_⟩
 ·rw [size_put h.tidy,hh,h.size];simp
 ·by_cases e:k'=k
  ·subst e;rw [has_put_same h.tidy.isMap (yq k') _,qH,hf];simp
  ·rw [has_put_other (by simpa using e),h.has,qH];cases fnd 0 fs k' with
   | none=>simp [Ne.symm e]
   | some j=>rfl
 ·by_cases e:k'=k
  ·subst e;rw [atKey_put_same h.tidy.isMap (yq k') _ _,yF hf]
  ·rw [atKey_put_other (by simpa using e),h.at_,kW (Ne.symm e)]
theorem WhoD.more {fs:List FlP} {D:DataW Unit} {k:List UInt8} {i:Nat} {p:FlP} (h:WhoD fs D) (hf:fnd 0 fs k=some i) (hi:i<fs.length) (hk:p.key=fs[i].key):WhoD (fs.set i p) (D.put (.string k) (grpD (p.lead::p.wait))):=by
 have hh:Maps.has D (.string k)=true:=by rw [h.has,hf];rfl
 refine⟨h.tidy.put (yq k) _,?_,fun k'=> ?_,fun k'=> ?_⟩
 ·rw [size_put h.tidy,hh,h.size,List.length_set];simp
 ·rw [qg (fs.set i p) fs 0 k' (yO fs i p hi hk)];by_cases e:k'=k
  ·subst e;rw [has_put_same h.tidy.isMap (yq k') _,hf];rfl
  ·rw [has_put_other (by simpa using e),h.has]
 ·by_cases e:k'=k
  ·subst e;rw [atKey_put_same h.tidy.isMap (yq k') _ _,xn hf hi hk]
  ·rw [atKey_put_other (by simpa using e),h.at_,yE hf hi hk (Ne.symm e)]
section
variable {P:Program} {k e:TypeId} {q:IntKind} {wr w:World} {base b n:Nat} {D:DataW Unit}
end
end Go.Proofs.YtdbbehfbkiiloaaGreatDoor
namespace Go.Proofs.YtdbbehfbkiiloaaGreatDoor
theorem zw:∀(fs:List FlP) (i:Nat) (k:List UInt8),fnd i fs k=none↔∀p∈fs,p.key≠k
 | [],i,k=>by simp [fnd]
 | f::fs,i,k=>by
  rw [fnd]
  by_cases h:f.key=k
  ·rw [if_pos h]
   constructor
   ·intro e;cases e
   ·intro e;exact absurd h (e f (by simp))
  ·rw [if_neg h,zw fs (i+1) k]
   constructor
   ·intro e p hp
    rcases List.mem_cons.1 hp with rfl | hp
    ·exact h
    ·exact e p hp
   ·intro e p hp;exact e p (by simp [hp])
theorem GoodF.nodup {fs:List FlP} (h:GoodF fs):(fs.map (·.key)).Nodup:=by
 rw [List.Nodup,List.pairwise_map,List.pairwise_iff_getElem];intro i j hi hj hij;have h1:=(zw _ _ _).1 (h.one j hj) fs[i] (by
  rw [List.mem_take_iff_getElem];exact⟨i,by omega,rfl⟩)
 exact h1
theorem GoodF.of {fs:List FlP} (h6:fs.length≤6) (h:∀p∈fs,(hexC p.key=0∧p.key.length≤1000)∧p.wait.length≤5∧CrewOk (p.lead::p.wait)) (hn:(fs.map (·.key)).Nodup):GoodF fs:=by
 refine⟨h6,fun j hj=>(h _ (List.getElem_mem hj)).1,fun j hj=> ?_,fun j hj=>(h _ (List.getElem_mem hj)).2.1,fun j hj=>(h _ (List.getElem_mem hj)).2.2⟩;rw [zw];intro p hp;rw [List.mem_take_iff_getElem]at hp;obtain⟨i,hi,rfl⟩:=hp;rw [List.Nodup,List.pairwise_map,List.pairwise_iff_getElem]at hn;exact hn i j (by omega) hj (by omega)
theorem GoodF.all {fs:List FlP} (h:GoodF fs):∀p∈fs,(hexC p.key=0∧p.key.length≤1000)∧p.wait.length≤5∧CrewOk (p.lead::p.wait):=fun p hp=>by
 obtain⟨j,hj,rfl⟩:=List.mem_iff_getElem.1 hp
 exact⟨h.key j hj,h.few j hj,h.crew j hj⟩
theorem GoodF.erase {fs:List FlP} (h:GoodF fs) (i:Nat):GoodF (fs.eraseIdx i):=by
 refine GoodF.of ?_ (fun p hp=>h.all p (List.mem_of_mem_eraseIdx hp)) ?_
 ·have:=List.length_eraseIdx_le fs i;have:=h.len;omega
 ·exact h.nodup.sublist ((List.eraseIdx_sublist fs i).map _)
theorem kV {fs:List FlP} (hn:(fs.map (·.key)).Nodup) {i:Nat} (hi:i<fs.length):fnd 0 (fs.eraseIdx i) fs[i].key=none:=by
 rw [zw];intro p hp e;rw [List.eraseIdx_eq_take_drop_succ]at hp;rw [List.Nodup,List.pairwise_map,List.pairwise_iff_getElem]at hn;rcases List.mem_append.1 hp with h | h
 ·rw [List.mem_take_iff_getElem]at h;obtain⟨j,hj,rfl⟩:=h;exact hn j i (by omega) hi (by omega) e
 ·rw [List.mem_drop_iff_getElem]at h;obtain⟨j,hj,rfl⟩:=h;exact hn i (i+1+j) hi (by omega) (by omega) e.symm
end Go.Proofs.YtdbbehfbkiiloaaGreatDoor
