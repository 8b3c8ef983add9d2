/- Lemmas of the proof. Conditions: as stated. -/
import Derived.Test.YtnmlbflhnnmoeaaGreatQX06
import Derived.Test.YtnmlbflhnnmoeaaGreatQX34
set_option linter.unusedVariables false
set_option linter.unusedSimpArgs false
set_option maxRecDepth 100000
namespace Go.Proofs.YtnmlbflhnnmoeaaGreat
open Go.RowKit
theorem Un (A B:Option Addr) (c d:Nat) (L M:List (List UInt8)) (w:World) (hl:L.length≤1000000000) (hm:M.length≤1000000000) (hr:Rd w 1 A L.length (strs L)) (hr2:Rd w 1 B M.length (strs M)) :
  Calls Tryz.prog 23 #[.slice A L.length c,.slice B M.length d] w fun e w'=>e= .returned (.bool (decide (L=M)))∧Below w.heap.size w w':=by
 by_cases hlm:L.length=M.length
 rotate_left
 ·refine(Tryz.slices_Equal_string_lens A B L.length c M.length d w hlm).mono ?_;rintro e w' ⟨rfl,rfl⟩;exact⟨by rw [decide_eq_false (fun h=>hlm (by rw [h]))],Below.refl _ _⟩
 rcases Nat.eq_zero_or_pos L.length with h0 | h0
 ·obtain rfl:L= []:=List.eq_nil_of_length_eq_zero h0;obtain rfl:M= []:=List.eq_nil_of_length_eq_zero (by rw [←hlm];rfl);refine(Tryz.slices_Equal_string_empty A B c 0 d w (by omega)).mono ?_;rintro e w' ⟨rfl,rfl⟩;exact⟨rfl,Below.refl _ _⟩
 ·obtain⟨b,off,rfl,_,hc⟩:=hr.2 h0;obtain⟨b2,off2,rfl,_,hc2⟩:=hr2.2 (by omega);have hz:(L.map fun s=>(⟨s.toArray⟩:ByteArray)).length=L.length:=List.length_map _;have hz2:(M.map fun s=>(⟨s.toArray⟩:ByteArray)).length=M.length:=List.length_map _;refine(Tryz.slices_Equal_string b off L.length c b2 off2 M.length d (L.map fun s=>⟨s.toArray⟩) (M.map fun s=>⟨s.toArray⟩) w (by omega) (by omega) (by omega) (by omega) (fun j hj=> ?_) (fun j hj=> ?_)).mono ?_
  ·have hj':j<L.length:=by omega
   rw [hc j _ (qU L j hj')];simp [List.getD,List.getElem?_map,List.getElem?_eq_getElem hj']
  ·have hj':j<M.length:=by omega
   rw [hc2 j _ (qU M j hj')];simp [List.getD,List.getElem?_map,List.getElem?_eq_getElem hj']
  ·rintro e w' ⟨rfl,q,rfl⟩;refine⟨?_,zG (Below.refl _ _) q⟩
   congr 2
   rw [List.take_of_length_le (by omega),List.take_of_length_le (by omega)];by_cases h:L=M
   ·subst h;simp
   ·rw [decide_eq_false h,decide_eq_false];intro h2;refine h ?_;have h3:=congrArg (fun l:List ByteArray=>l.map fun s=>s.data.toList) h2;simpa [List.map_map,Function.comp_def] using h3
end Go.Proofs.YtnmlbflhnnmoeaaGreat
namespace Go.Proofs.YtnmlbflhnnmoeaaGreat
open Go.RowKit Go.Sort
end Go.Proofs.YtnmlbflhnnmoeaaGreat
