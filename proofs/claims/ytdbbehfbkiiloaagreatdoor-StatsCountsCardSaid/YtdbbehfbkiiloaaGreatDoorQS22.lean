/- Lemmas of the proof. Conditions: as stated. -/
import Derived.Test.YtdbbehfbkiiloaaGreatDoorQS07
import Derived.Sort.KeysCollected
import Derived.Sort.OwnSorted
import Derived.Lib.SlicesCompact
import Derived.Lib.RowBridge
set_option linter.unusedVariables false
set_option linter.unusedSimpArgs false
set_option maxRecDepth 100000
set_option maxHeartbeats 4000000
namespace Go.Proofs.YtdbbehfbkiiloaaGreatDoor
open Go.RowKit
def strs (L:List (List UInt8)):List Value:=L.map fun s=> .string ⟨s.toArray⟩
theorem qe (L:List (List UInt8)) (k:Nat) (h:k<L.length):(strs L)[k]?=some (.string ⟨L[k].toArray⟩):=by
 rw [strs,List.getElem?_map,List.getElem?_eq_getElem h];rfl
structure StrL (L:List (List UInt8)) (p:List UInt8→Prop):Prop where
 nd:L.Nodup
 le:L.Pairwise (fun x y=>leB x y=true)
 mem:∀x,x∈L↔p x
theorem StrL.uniq {L L':List (List UInt8)} {p:List UInt8→Prop} (h:StrL L p) (h':StrL L' p):L=L':=by
 have hp:L.Perm L':=(List.perm_ext_iff_of_nodup h.nd h'.nd).2 fun x=>by rw [h.mem,h'.mem]
 refine List.Perm.eq_of_pairwise (le:=fun a b=>leB a b=true) (fun a b _ _ h1 h2=> ?_) h.le h'.le hp;simp only [leB,decide_eq_true_eq]at h1 h2;exact List.le_antisymm h1 h2
def nub:List (List UInt8)→List (List UInt8)
 | []=> []
 | x::l=>if x∈l then nub l else x::nub l
theorem qX (x:List UInt8):∀l,x∈nub l↔x∈l
 | []=>Iff.rfl
 | y::l=>by
  rw [nub]
  split
  ·rename_i h
   rw [qX x l,List.mem_cons]
   exact⟨.inr,fun h2=>h2.elim (fun e=>e▸h) id⟩
  ·rw [List.mem_cons,qX x l,List.mem_cons]
theorem xy:∀l,(nub l).Nodup
 | []=>List.nodup_nil
 | y::l=>by
  rw [nub]
  split
  ·exact xy l
  ·rename_i h
   exact List.nodup_cons.2 ⟨fun h2=>h ((qX y l).1 h2),xy l⟩
theorem KN (x y:List UInt8):leB x y= !Op.bytesLess y x:=by
 rw [uB];show decide (x≤y)=_;by_cases h:y<x
 ·rw [decide_eq_true h,decide_eq_false (by rw [List.not_le];exact h)];rfl
 ·rw [decide_eq_false h,decide_eq_true (List.not_lt.1 h)];rfl
theorem QN (A:Option Addr) (c:Nat) (L:List (List UInt8)) (d:List UInt8) (w:World) (hl:L.length≤1000000000) (hr:Rd w 1 A L.length (strs L)) :
  Calls Tryz.prog 94 #[.slice A L.length c,.string ⟨d.toArray⟩] w fun e w'=>e= .returned (.bool (decide (d∈L)))∧w'=w:=by
 rcases Nat.eq_zero_or_pos L.length with h0 | h0
 ·obtain rfl:L= []:=List.eq_nil_of_length_eq_zero h0;exact(Tryz.slices_Contains_string_empty A c ⟨d.toArray⟩ w).mono fun e w' ⟨h1,h2⟩=>⟨by rw [h1];simp,h2⟩
 ·obtain⟨b,off,rfl,_,hc⟩:=hr.2 h0;have hz:(L.map fun s=>(⟨s.toArray⟩:ByteArray)).length=L.length:=List.length_map _;refine(Tryz.slices_Contains_string b off L.length c (L.map fun s=>⟨s.toArray⟩) ⟨d.toArray⟩ w (by rw [hz];exact Nat.le_refl _) (by omega) (fun j hj=> ?_)).mono ?_
  ·have hj':j<L.length:=by omega
   rw [hc j _ (qe L j hj')];simp [List.getD,List.getElem?_map,List.getElem?_eq_getElem hj']
  ·rintro e w' ⟨rfl,rfl⟩;refine⟨?_,rfl⟩
   congr 2
   rw [←hz,List.take_length];by_cases hm:d∈L
   ·rw [decide_eq_true hm,Lib.containsS_iff];exact List.mem_map.2 ⟨d,hm,rfl⟩
   ·rw [decide_eq_false hm,←Bool.not_eq_true,Lib.containsS_iff];intro h;obtain⟨x,hx,e⟩:=List.mem_map.1 h;exact hm (by rw [←Kt.1 e];exact hx)
end Go.Proofs.YtdbbehfbkiiloaaGreatDoor
namespace Go.Proofs.YtdbbehfbkiiloaaGreatDoor
open Go.RowKit Go.Sort
theorem xk:El Tryz.prog 27 9 1 16:=El.mk' (z:= .string ByteArray.empty) Tryz.underlying27 (by kernel_rfl) rfl (by omega) (by omega)
theorem yR (L:List (List UInt8)):∀u∈strs L,u.oneCell'=true:=by
 intro u hu;obtain⟨s,_,rfl⟩:=List.mem_map.1 hu;rfl
theorem yQ (L M:List (List UInt8)):strs (L++M)=strs L++strs M:=by simp [strs]
theorem StrL.len {L N:List (List UInt8)} {p:List UInt8→Prop} (h:StrL L p) (hn:N.Nodup) (hm:∀x,x∈N↔p x):L.length=N.length :=
 ((List.perm_ext_iff_of_nodup h.nd hn).2 fun x=>by rw [h.mem,hm]).length_eq
theorem uV (A:Option Addr) (c:Nat) (L:List (List UInt8)) (w:World) (hl:L.length≤1000000000) (hr:Rd w 1 A L.length (strs L)) :
  Calls Tryz.prog 46 #[.slice A L.length c] w fun e w'=>∃v,e= .returned v∧w'.ownsRow w.heap.size 9 1 v L.length (strs L)∧Below w.heap.size w w':=by
 rcases Nat.eq_zero_or_pos L.length with h0 | h0
 ·obtain rfl:L= []:=List.eq_nil_of_length_eq_zero h0;cases A with
  | none =>
   refine(Tryz.slices_Clone_string_nil 0 c w).mono ?_;rintro e w' ⟨rfl,rfl⟩;exact⟨_,rfl,World.ownsRow_nil _ _ _ _,Below.refl _ _⟩
  | some a =>
   refine(Tryz.slices_Clone_string_zero a c w).mono ?_;rintro e w' ⟨v,rfl,h1,_,h2⟩;exact⟨_,rfl,h1,h2⟩
 ·obtain⟨b,off,rfl,_,hc⟩:=hr.2 h0;have hz:(L.map fun s=>(⟨s.toArray⟩:ByteArray)).length=L.length:=List.length_map _;refine(Tryz.slices_Clone_string b off L.length c (L.map fun s=>⟨s.toArray⟩) w (by omega) (by omega) (fun j hj=> ?_)).mono ?_
  ·have hj':j<L.length:=by omega
   rw [hc j _ (qe L j hj')];simp [List.getD,List.getElem?_map,List.getElem?_eq_getElem hj']
  ·rintro e w' ⟨v,rfl,h1,_,h2⟩;refine⟨v,rfl,?_,h2⟩;rw [List.take_of_length_le (by omega),List.map_map]at h1;exact h1
theorem xM (n:Nat) (N:Int) (hN:N=n) (w:World) (hn:n≤8000000000) :
  Calls Tryz.prog 95 #[.slice none 0 0,.int .i64 N] w fun e w'=>∃v,e= .returned v∧w'.ownsRow w.heap.size 9 1 v 0 []∧Below w.heap.size w w':=by
 subst hN;by_cases h0:n=0
 ·subst h0;go_enter Tryz.func95,Tryz.ntmps95;go_wp2_with fail;go_ret;exact⟨_,rfl,World.ownsRow_nil _ _ _ _,Below.refl _ _⟩
 ·have hp:0<n:=by omega
  go_enter Tryz.func95,Tryz.ntmps95
  repeat' (fail_if_success (first|at_builtin|at_make));first|go_values|go_skip|go_guarded|go_step|go_upon|go_back
  refine uO rfl (.tmp 20) (.tmp 21) rfl xk Tryz.underlying3 n hp (by omega) (by rfl) (by rfl) ?_;intro A c w1 hown1 hc1 hb1;cases A with
  | none =>
   rcases hown1.2 with ⟨h1,_⟩ | ⟨g,_,_,h1,_⟩
   ·injection h1;omega
   ·cases h1
  | some ad =>
   go_wp2_with fail;go_ret;exact⟨_,rfl,hown1,hb1⟩
theorem ur (g:Nat) (A B:Option Addr) (c d:Nat) (L M:List (List UInt8)) (w:World) (hc:L.length≤c) (hd:M.length≤d) (hl:L.length≤1000000000) (hm:M.length≤1000000000)
  (h0:w.cell? ⟨g,0,none⟩=some (.slice A L.length c)) (h1:w.cell? ⟨g,1,none⟩=some (.slice B M.length d)) (hr:Rd w 1 A L.length (strs L)) (hr':Rd w 1 B M.length (strs M)) :
  Calls Tryz.prog 53 #[.slice (some ⟨g,0,none⟩) 2 2] w fun e w'=>∃v,e= .returned v∧w'.ownsRow w.heap.size 9 1 v (L++M).length (strs (L++M))∧Below w.heap.size w w':=by
 obtain⟨n,hn⟩:∃n,n=L.length:=⟨_,rfl⟩
 obtain⟨m,hm'⟩:∃m,m=M.length:=⟨_,rfl⟩
 rw [←hn]at h0 hr hc hl;rw [←hm']at h1 hr' hd hm;have HN:=sqH hn;have HM:=sqH hm';clear hn hm';go_enter Tryz.func53,Tryz.ntmps53;go_wp2_with fail;go_loop [3,11] (fun s i=>(i= .int .i64 0∧s= .int .i64 0)∨(i= .int .i64 1∧s= .int .i64 n)∨(i= .int .i64 2∧s= .int .i64 ((n:Int)+m))) (fun _ i=>2 - (intOf i).toNat)
 case atStart=>exact .inl ⟨rfl,rfl⟩
 case round =>
  rcases hrel with ⟨rfl,rfl⟩ | ⟨rfl,rfl⟩ | ⟨rfl,rfl⟩
  ·go_wp2_with fail;go_round
   case rel=>exact .inr (.inl ⟨rfl,rfl⟩)
   case measure=>simp [intOf]
  ·go_wp2_with fail;go_round
   case rel=>exact .inr (.inr ⟨rfl,by go_num⟩)
   case measure=>simp [intOf]
  ·go_wp2_with fail;refine(xM (n+m) _ (by omega) _ (by omega)).mono ?_;rintro e_ w1 ⟨v1,rfl,hown1,hb1⟩;dsimp only;go_wp2_with fail;go_loopw [6,27] (fun v i wr=>((i= .int .i64 0∧wr.ownsRow w.heap.size 9 1 v 0 [])∨(i= .int .i64 1∧wr.ownsRow w.heap.size 9 1 v n (strs L))∨(i= .int .i64 2∧wr.ownsRow w.heap.size 9 1 v (n+m) (strs L++strs M)))∧Below w.heap.size w wr) (fun _ i _=>2 - (intOf i).toNat)
   case atStart=>exact⟨.inl ⟨rfl,hown1⟩,hb1⟩
   case round =>
    obtain⟨hcase,hbel⟩:=hrel;have b0:=World.block_lt_of_cell? w _ h0;have h0':=(hbel.cell (p:=⟨g,0,none⟩) b0).trans h0;have h1':=(hbel.cell (p:=⟨g,1,none⟩) b0).trans h1;have hs:=hbel.size;rcases hcase with ⟨rfl,hown⟩ | ⟨rfl,hown⟩ | ⟨rfl,hown⟩
    ·repeat' (fail_if_success (first|at_builtin|at_make));first|go_values|go_skip|go_guarded|go_step|go_upon|go_back
     refine zu rfl (.tmp 31) (.tmp 32) rfl xk (by rfl) hown (by rfl) (hr.below hbel) (yR _) (by omega) hs ?_;intro v2 w2 hown2 hg2 _;have hb2:=z7 hbel hown (Nat.le_refl _) hg2;go_wp2_with fail;go_roundw
     case rel=>exact⟨.inr (.inl ⟨rfl,by simpa using hown2⟩),hb2⟩
     case measure=>simp [intOf]
    ·repeat' (fail_if_success (first|at_builtin|at_make));first|go_values|go_skip|go_guarded|go_step|go_upon|go_back
     refine zu rfl (.tmp 31) (.tmp 32) rfl xk (by rfl) hown (by rfl) (hr'.below hbel) (yR _) (by omega) hs ?_;intro v2 w2 hown2 hg2 _;have hb2:=z7 hbel hown (Nat.le_refl _) hg2;go_wp2_with fail;go_roundw
     case rel=>exact⟨.inr (.inr ⟨rfl,hown2⟩),hb2⟩
     case measure=>simp [intOf]
    ·rw [←yQ]at hown;have hlen:(L++M).length=n+m:=by rw [List.length_append,HN.out,HM.out]
     repeat' (fail_if_success (first|at_builtin|at_make));first|go_values|go_skip|go_guarded|go_step|go_upon|go_back
     go_ret;exact⟨_,rfl,by rw [hlen];exact hown,hbel⟩
end Go.Proofs.YtdbbehfbkiiloaaGreatDoor
