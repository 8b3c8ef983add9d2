/- Lemmas of the proof. Conditions: as stated. -/
import Derived.Test.YtnmlbflhnnmoeaaGreatQX10
import Derived.Sort.KeysCollected
import Derived.Sort.OwnSorted
import Derived.Lib.SlicesCompact
import Derived.Lib.RowBridge
set_option linter.unusedVariables false
set_option linter.unusedSimpArgs false
set_option maxRecDepth 100000
namespace Go.Proofs.YtnmlbflhnnmoeaaGreat
open Go.RowKit
def strs (L:List (List UInt8)):List Value:=L.map fun s=> .string ⟨s.toArray⟩
theorem qU (L:List (List UInt8)) (k:Nat) (h:k<L.length):(strs L)[k]?=some (.string ⟨L[k].toArray⟩):=by
 rw [strs,List.getElem?_map,List.getElem?_eq_getElem h];rfl
structure StrL (L:List (List UInt8)) (p:List UInt8→Prop):Prop where
 nd:L.Nodup
 le:L.Pairwise (fun x y=>leB x y=true)
 mem:∀x,x∈L↔p x
theorem StrL.uniq {L L':List (List UInt8)} {p:List UInt8→Prop} (h:StrL L p) (h':StrL L' p):L=L':=by
 have hp:L.Perm L':=(List.perm_ext_iff_of_nodup h.nd h'.nd).2 fun x=>by rw [h.mem,h'.mem]
 refine List.Perm.eq_of_pairwise (le:=fun a b=>leB a b=true) (fun a b _ _ h1 h2=> ?_) h.le h'.le hp;simp only [leB,decide_eq_true_eq]at h1 h2;exact List.le_antisymm h1 h2
def nub:List (List UInt8)→List (List UInt8)
 | []=> []
 | x::l=>if x∈l then nub l else x::nub l
theorem xr (x:List UInt8):∀l,x∈nub l↔x∈l
 | []=>Iff.rfl
 | y::l=>by
  rw [nub]
  split
  ·rename_i h
   rw [xr x l,List.mem_cons]
   exact⟨.inr,fun h2=>h2.elim (fun e=>e▸h) id⟩
  ·rw [List.mem_cons,xr x l,List.mem_cons]
theorem Za:∀l,(nub l).Nodup
 | []=>List.nodup_nil
 | y::l=>by
  rw [nub]
  split
  ·exact Za l
  ·rename_i h
   exact List.nodup_cons.2 ⟨fun h2=>h ((xr y l).1 h2),Za l⟩
theorem ZF (A:Option Addr) (c:Nat) (L:List (List UInt8)) (d:List UInt8) (w:World) (hl:L.length≤1000000000) (hr:Rd w 1 A L.length (strs L)) :
  Calls Tryz.prog 32 #[.slice A L.length c,.string ⟨d.toArray⟩] w fun e w'=>e= .returned (.bool (decide (d∈L)))∧w'=w:=by
 rcases Nat.eq_zero_or_pos L.length with h0 | h0
 ·obtain rfl:L= []:=List.eq_nil_of_length_eq_zero h0;exact(Tryz.slices_Contains_string_empty A c ⟨d.toArray⟩ w).mono fun e w' ⟨h1,h2⟩=>⟨by rw [h1];simp,h2⟩
 ·obtain⟨b,off,rfl,_,hc⟩:=hr.2 h0;have hz:(L.map fun s=>(⟨s.toArray⟩:ByteArray)).length=L.length:=List.length_map _;refine(Tryz.slices_Contains_string b off L.length c (L.map fun s=>⟨s.toArray⟩) ⟨d.toArray⟩ w (by rw [hz];exact Nat.le_refl _) (by omega) (fun j hj=> ?_)).mono ?_
  ·have hj':j<L.length:=by omega
   rw [hc j _ (qU L j hj')];simp [List.getD,List.getElem?_map,List.getElem?_eq_getElem hj']
  ·rintro e w' ⟨rfl,rfl⟩;refine⟨?_,rfl⟩
   congr 2
   rw [←hz,List.take_length];by_cases hm:d∈L
   ·rw [decide_eq_true hm,Lib.containsS_iff];exact List.mem_map.2 ⟨d,hm,rfl⟩
   ·rw [decide_eq_false hm,←Bool.not_eq_true,Lib.containsS_iff];intro h;obtain⟨x,hx,e⟩:=List.mem_map.1 h;exact hm (by rw [←UJ.1 e];exact hx)
end Go.Proofs.YtnmlbflhnnmoeaaGreat
namespace Go.Proofs.YtnmlbflhnnmoeaaGreat
open Go.RowKit Go.Sort
theorem vu:El Tryz.prog 27 9 1 16:=El.mk' (z:= .string ByteArray.empty) Tryz.underlying27 (by kernel_rfl) rfl (by omega) (by omega)
theorem xi (L M:List (List UInt8)):strs (L++M)=strs L++strs M:=by simp [strs]
theorem StrL.len {L N:List (List UInt8)} {p:List UInt8→Prop} (h:StrL L p) (hn:N.Nodup) (hm:∀x,x∈N↔p x):L.length=N.length :=
 ((List.perm_ext_iff_of_nodup h.nd hn).2 fun x=>by rw [h.mem,hm]).length_eq
end Go.Proofs.YtnmlbflhnnmoeaaGreat
