/- Lemmas of the proof. Conditions: as stated. -/
import Derived.Test.YtnmlbflhnnmoeaaGreatQX12
import Derived.Test.YtnmlbflhnnmoeaaGreatQX14
set_option linter.unusedVariables false
set_option linter.unusedSimpArgs false
set_option maxRecDepth 100000
namespace Go.Proofs.YtnmlbflhnnmoeaaGreat
open Go.RowKit
section
variable {W W':World} {g c e:Nat} {A:Option Addr} {l:List UInt8}
end
theorem Xk {b t rest:List UInt8} (h:xV b=(t,rest,0)):t.length≤2000∧b=txt t++rest:=by
 obtain⟨n,r,e,hn⟩:∃n r e,zo b=(n,r,e):=⟨_,_,_,rfl⟩
 rw [xV,hn]at h;dsimp only at h;by_cases he:e≠0
 ·rw [if_pos he]at h;simp only [Prod.mk.injEq]at h;exact absurd h.2.2 he
 ·rw [if_neg he]at h;have he:e=0:=by simpa using he
  by_cases h1:2000<n
  ·rw [if_pos h1]at h;simp at h
  ·rw [if_neg h1]at h;by_cases h2:r.length<n
   ·rw [if_pos h2]at h;simp at h
   ·rw [if_neg h2]at h;simp only [Prod.mk.injEq,and_true]at h;obtain⟨h3,h4⟩:=h;subst he;have hb:=(xf hn).2;have hl:t.length=n:=by rw [←h3,List.length_take];omega
    refine⟨by omega,?_⟩;rw [txt,hl,List.append_assoc,hb,←h3,←h4,List.take_append_drop]
theorem UI (l:List UInt8) (h:l.length≤2000):kZ (kj l)=(l,0):=by
 have:=kv l;rw [kZ,if_neg (by omega),if_neg (by omega),xD]
theorem Xm {l l':List UInt8} {p:PartP} (h:yN l=(p,l',0)):l=yv p++l':=by
 obtain⟨t,l1,e1,h1⟩:∃t l1 e1,jz l 0=(t,l1,e1):=⟨_,_,_,rfl⟩
 obtain⟨d,l2,e2,h2⟩:∃d l2 e2,vB 32 l1 e1=(d,l2,e2):=⟨_,_,_,rfl⟩
 obtain⟨z,l3,e3,h3⟩:∃z l3 e3,uV l2 e2=(z,l3,e3):=⟨_,_,_,rfl⟩
 unfold yN at h;rw [h1]at h;dsimp only at h;rw [h2]at h;dsimp only at h;rw [h3]at h;dsimp only at h;simp only [Prod.mk.injEq]at h;obtain⟨rfl,rfl,rfl⟩:=h;have he2:e2=0:=by
  by_cases h0:e2=0
  ·exact h0
  ·rw [uV,if_pos h0]at h3;simp only [Prod.mk.injEq]at h3;exact h3.2.2
 subst he2;have he1:e1=0:=by
  by_cases h0:e1=0
  ·exact h0
  ·rw [vB,if_pos h0]at h2;simp only [Prod.mk.injEq]at h2;exact h2.2.2
 subst he1;rw [uV,if_neg (by decide)]at h3;rw [vB,if_neg (by decide)]at h2;rw [jz,if_neg (by decide)]at h1;have i1:=Xk h1;have i3:=xf h3;by_cases hlt:l1.length<32
 ·rw [if_pos hlt]at h2;simp at h2
 ·rw [if_neg hlt]at h2;simp only [Prod.mk.injEq,and_true]at h2;have hdl:d.length=32:=by rw [←h2.1,List.length_take];omega
  show l=txt t++(kZ (kj d)).1++num z++l3;rw [UI d (by omega),i1.2,List.append_assoc,List.append_assoc,←i3.2,←h2.1,←h2.2,List.take_append_drop]
theorem jI:∀(n:Nat) (out x:List PartP) (l l':List UInt8),zD n out l=(0,x,l')→∃y,x=out++y∧y.length=n∧l=y.flatMap yv++l'
 | 0,out,x,l,l',h=>by
  simp only [zD,Prod.mk.injEq,true_and]at h
  exact⟨[],by rw [List.append_nil];exact h.1.symm,rfl,by rw [h.2];rfl⟩
 | n+1,out,x,l,l',h=>by
  rw [zD]at h
  by_cases h0:(yN l).2.2=0
  ·rw [if_neg (by simpa using h0)]at h
   obtain⟨y,h1,h2,h3⟩:=jI n _ x _ l' h
   refine⟨(yN l).1::y,by rw [h1,List.append_assoc];rfl,by rw [List.length_cons,h2],?_⟩
   rw [List.flatMap_cons,List.append_assoc,←h3]
   exact Xm (by rw [←h0])
  ·rw [if_pos h0]at h
   simp only [Prod.mk.injEq]at h
   exact absurd h.1 h0
theorem VY {b:List UInt8} {x:List PartP} (h:qK b=(x,0)):enc x=b∧chk x=0:=by
 unfold qK at h;by_cases h1:2000<b.length
 ·rw [if_pos h1]at h;simp at h
 rw [if_neg h1]at h;by_cases h2: [65,77,49].isPrefixOf b=false
 ·rw [if_pos h2]at h;simp at h
 rw [if_neg h2]at h;obtain⟨m,r,er,hrd⟩:∃m r er,zo (b.drop 3)=(m,r,er):=⟨_,_,_,rfl⟩
 rw [hrd]at h;dsimp only at h;by_cases h3:er≠0
 ·rw [if_pos h3]at h;simp only [Prod.mk.injEq]at h;exact absurd h.2 h3
 rw [if_neg h3]at h;have h3:er=0:=by simpa using h3
 subst h3;by_cases h4:8<m
 ·rw [if_pos h4]at h;simp at h
 rw [if_neg h4]at h;obtain⟨e,y,l',hg⟩:∃e y l',zD m [] r=(e,y,l'):=⟨_,_,_,rfl⟩
 rw [hg]at h;dsimp only at h;by_cases h5:e≠0
 ·rw [if_pos h5]at h;simp only [Prod.mk.injEq]at h;exact absurd h.2 h5
 rw [if_neg h5]at h;have h5:e=0:=by simpa using h5
 subst h5;by_cases h6:0<l'.length
 ·rw [if_pos h6]at h;simp at h
 rw [if_neg h6]at h;by_cases h7:chk y≠0
 ·rw [if_pos h7]at h;simp only [Prod.mk.injEq]at h;exact absurd h.2 h7
 rw [if_neg h7]at h;simp only [Prod.mk.injEq,and_true]at h;subst h;have h7:chk y=0:=by simpa using h7
 have h6:l'= []:=List.eq_nil_of_length_eq_zero (by omega);obtain⟨y',e1,e2,e3⟩:=jI m [] y r l' hg;rw [List.nil_append]at e1;subst e1;have hr:=(xf hrd).2;refine⟨?_,h7⟩;rw [ZG,e2,show y.flatMap yv=r by rw [e3,h6,List.append_nil],←hr];have hp: [65,77,49].isPrefixOf b=true:=by simpa using h2
 obtain⟨s,hs⟩:=List.isPrefixOf_iff_prefix.1 hp;rw [←hs];rfl
end Go.Proofs.YtnmlbflhnnmoeaaGreat
