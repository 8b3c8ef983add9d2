/- Lemmas of the proof. Conditions: as stated. -/
import Derived.Test.YtnmlbflhnnmoeaaGreatQX00
set_option linter.unusedVariables false
set_option linter.unusedSimpArgs false
namespace Go.Proofs.YtnmlbflhnnmoeaaGreat
open Go.RowKit
section
variable {w w':World} {size n:Nat} {A:Option Addr} {xs:List Value}
end
section
variable {P:Program} {w:World}
end
variable {W W':World} {g g' k base:Nat} {e:TypeId} {xs:List Value} {v:Value}
theorem Rd.of_arr {w:World} {g n size:Nat} {e:TypeId} {cs xs:List Value} (h:Arr w g e cs) (hx:xs.length=n*size) (ht:cs.take (n*size)=xs):Rd w size (some ⟨g,0,none⟩) n xs :=
 ⟨hx,fun _=>⟨g,0,rfl,h.lt,fun j u hu=>by
  rw [Nat.zero_add];refine h.cell ?_
  rw [←ht,List.getElem?_take]at hu
  split at hu
  ·exact hu
  ·cases hu⟩⟩
end Go.Proofs.YtnmlbflhnnmoeaaGreat
namespace Go.Proofs.YtnmlbflhnnmoeaaGreat
open Go.RowKit
section
variable {W:World} {g:Nat} {e:TypeId}
end
section
variable {α:Type}
theorem QB {s:Nat}:∀(ps:Cel α) (i j:Nat) (u:Value) (y:α) (hi:i<ps.length) (h:∀p∈ps,p.2.length=s) (hj:j<s),(cls ps).set (i*s+j) u=cls (ps.set i (y,(ps[i].2).set j u))
 | p::ps,0,j,u,y,hi,h,hj=>by
  rw [zP,Nat.zero_mul,Nat.zero_add,List.set_append_left _ _ (by rw [h p (by simp)];exact hj)];rfl
 | p::ps,i+1,j,u,y,hi,h,hj=>by
  have h0:=h p (by simp)
  have e:(i+1)*s=i*s+s:=Nat.succ_mul i s
  rw [zP,List.set_append_right _ _ (by omega),show(i+1)*s+j - p.2.length=i*s+j by omega,QB ps i j u y (by simpa using hi) (fun q hq=>h q (by simp [hq])) hj]
  rfl
end
section
variable {α:Type} {S:Shp α} {w w':World} {A:Option Addr} {l m:List α}
variable {e:TypeId} {base base':Nat} {v v':Value}
theorem RwO.set1 {g cap i j:Nat} {u:Value} {y:α} (h:RwO S e w base (.slice (some ⟨g,0,none⟩) l.length cap) l) (hi:i<l.length) (hj:j<S.size)
  (hR:∀W cs,S.R W l[i] cs→S.R W y (cs.set j u)) (hlead:∀b,leads b [u]→b≠g) :
  (∃v0,w.cell? ⟨g,i*S.size+j,none⟩=some v0)∧w.frozen? ⟨g,i*S.size+j,none⟩=false ∧
   RwO S e (w.setCell ⟨g,i*S.size+j,none⟩ u) base (.slice (some ⟨g,0,none⟩) l.length cap) (l.set i y)∧w.grownBy (w.setCell ⟨g,i*S.size+j,none⟩ u) (some g):=by
 obtain⟨ps,h1,h2,h3,h4⟩:=h;have hpl:ps.length=l.length:=by rw [←h1,List.length_map]
 have hip:i<ps.length:=by omega
 have hk:i*S.size+j<(cls ps).length:=by
  rw [jv ps h2.lens];have e1:(i+1)*S.size≤ps.length*S.size:=Nat.mul_le_mul_right _ hip;rw [Nat.succ_mul]at e1;omega
 obtain⟨k1,k2,k3,k4⟩:=xy h3 hk u;refine⟨k3,k4,⟨ps.set i (y,(ps[i].2).set j u),?_,?_,?_,?_⟩,k2⟩
 ·rw [List.map_set,h1]
 ·have hlds:∀p∈ps.set i (y,(ps[i].2).set j u),∀b,some g=some b→¬leads b p.2:=fun p hp b hb hl=>by
   rcases List.mem_or_eq_of_mem_set hp with h | h
   ·exact h4 p h b hb hl
   ·subst h;obtain⟨a,n,c,hm,e2⟩:=hl;rcases List.mem_or_eq_of_mem_set hm with h | h
    ·exact h4 _ (List.getElem_mem hip) b hb ⟨a,n,c,h,e2⟩
    ·cases hb
     exact hlead g ⟨a,n,c,by simp [h],e2⟩ rfl
  refine qj.grown (w:=w) (g:=some g) (fun p hp=> ?_) k2 hlds;rcases List.mem_or_eq_of_mem_set hp with h | h
  ·exact h2 p h
  ·subst h;have h5:=h2 _ (List.getElem_mem hip);have h6:(ps[i]).1=l[i]:=by
    have h7:=congrArg (fun x=>x[i]?) h1;simp only [List.getElem?_map,List.getElem?_eq_getElem hip,List.getElem?_eq_getElem hi,Option.map_some,Option.some.injEq]at h7;exact h7
   rw [h6]at h5;exact hR w _ h5
 ·rw [List.length_set,←QB ps i j u y hip h2.lens hj];exact k1
 ·intro p hp b hb hl;rcases List.mem_or_eq_of_mem_set hp with h | h
  ·exact h4 p h b hb hl
  ·subst h;obtain⟨a,n,c,hm,e2⟩:=hl;rcases List.mem_or_eq_of_mem_set hm with h | h
   ·exact h4 _ (List.getElem_mem hip) b hb ⟨a,n,c,h,e2⟩
   ·cases hb
    exact hlead g ⟨a,n,c,by simp [h],e2⟩ rfl
end
end Go.Proofs.YtnmlbflhnnmoeaaGreat
