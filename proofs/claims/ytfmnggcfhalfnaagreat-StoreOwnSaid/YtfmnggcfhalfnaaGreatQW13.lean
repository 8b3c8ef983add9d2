/- Lemmas of the proof. Conditions: as stated. -/
import Derived.Test.YtfmnggcfhalfnaaGreatQW12
import Derived.Shelf.Spec.SlicesInsertGrow
set_option linter.unusedVariables false
set_option linter.unusedSimpArgs false
set_option maxRecDepth 100000
set_option maxHeartbeats 8000000
namespace Go.Proofs.YtfmnggcfhalfnaaGreat
open Go.RowKit
theorem zz {P:Program} (w:World) (dT sT ty elem:TypeId) (i:TypeInfo) (b o dLen dCap:Nat) (a:Addr) (sLen sCap:Nat) (cs:List Value) (k:Nat)
  (hu:P.underlying dT=some (.slice elem)) (hi:P.info? elem=some i) (hn:Nat.min sLen dLen=k) (hl:cs.length=k*i.size)
  (hsrc:∀j v,cs[j]?=some v→w.cell? (a.add j)=some v) (hc:∀j,j<cs.length→(w.cell? ⟨b,o+j,none⟩).isSome=true) (hf:∀j,j<cs.length→w.frozen? ⟨b,o+j,none⟩=false) (h1:∀v∈cs,v.oneCell'=true) :
  (Builtin.copy_ #[dT,sT] ty #[.slice (some ⟨b,o,none⟩) dLen dCap,.slice (some a) sLen sCap]).run P w= .ok (goInt k) (w.setCells b o cs):=by
 have hl':=run_firstCells_some (P:=P) (w:=w) i.size k a sLen sCap cs hl hsrc;have hst:=run_storeCells_cells (P:=P) b o cs 0 w (by simpa using hc) (by simpa using hf) h1;simp [Builtin.copy_,run_underlying hu,Builtin.lenOf,sizeOf,typeInfo,hi,hn,hl',hst]
theorem qq (z:Array Value) (k:Nat):(Builtin.zeroCells z k).size=k*z.size:=by
 simp [Builtin.zeroCells]
theorem uC {W:World} {g i n G:Nat} {e:TypeId} {cs vs R:List Value} (hcl:cs.length=n*4) (hvl:vs.length=4) (hi:i<n) (hR:R.length=G*4) (hG:n+1≤G) (hRt:R.take (i*4)=cs.take (i*4)) (hA:Arr W g e R) :
  ∃R',Arr ((W.setCells g (i*4) vs).drew.setCells g ((i+1)*4) (cs.drop (i*4))) g e R'∧R'.length=G*4∧R'.take ((n+1)*4)=cs.take (i*4)++vs++cs.drop (i*4):=by
 have hti:(cs.take (i*4)).length=i*4:=by rw [List.length_take];omega
 have hdl:(cs.drop (i*4)).length=(n - i)*4:=by rw [List.length_drop,hcl];omega
 have e1:R=cs.take (i*4)++((R.drop (i*4)).take 4++R.drop (i*4+4)):=by
  rw [←hRt,←List.drop_drop,List.take_append_drop,List.take_append_drop]
 rw [e1]at hA;have hA1:=Arr.setsMid vs _ (cs.take (i*4)) _ _ hA (by rw [List.length_take,List.length_drop,hvl];omega);rw [hti]at hA1;have e2:cs.take (i*4)++(vs++R.drop (i*4+4))=(cs.take (i*4)++vs)++((R.drop (i*4+4)).take ((n - i)*4)++(R.drop (i*4+4)).drop ((n - i)*4)):=by
  rw [List.take_append_drop,List.append_assoc]
 rw [e2]at hA1;have hA2:=Arr.setsMid (cs.drop (i*4)) _ (cs.take (i*4)++vs) _ _ hA1.drew (by rw [List.length_take,List.length_drop,List.length_drop,hcl,hR];omega);rw [show(cs.take (i*4)++vs).length=(i+1)*4 by rw [List.length_append,hti,hvl];omega]at hA2;refine⟨_,hA2,?_,?_⟩
 ·simp only [List.length_append,hti,hvl,hdl,List.length_drop,hR];omega
 ·rw [←List.append_assoc,List.take_append_of_le_length (by simp only [List.length_append,hti,hvl,hdl];omega),List.take_of_length_le (by simp only [List.length_append,hti,hvl,hdl];omega)]
theorem RwX.anew {α:Type} {S:Shp α} {e:TypeId} {w w':World} {v':Value} {N:Nat→Prop} (ps:Cel α) (h2:zK S w ps) (hN:∀p∈ps,∀b,N b→¬leads b p.2) (ho:w'.ownsRow w.heap.size e S.size v' ps.length (cls ps)) (hb:Below w.heap.size w w'):RwX S e w' w.heap.size v' (ps.map (·.1)) N :=
 ⟨ps,rfl,h2.below hb,by rw [List.length_map];exact ho,fun p hp b hb' hl=>by
  rcases hb' with e1 | e1
  ·have h1:=(ho.lt b e1).1
   have h3:=S.live (h2 p hp) b hl
   omega
  ·exact hN p hp b e1 hl⟩
theorem RwX.lower {α:Type} {S:Shp α} {e:TypeId} {w:World} {v:Value} {N:Nat→Prop} {base base':Nat} {l:List α} (h:RwX S e w base v l N) (hb:base'≤base):RwX S e w base' v l N:=by
 obtain⟨ps,h1,h2,h3,h4⟩:=h;exact⟨ps,h1,h2,zu h3 hb,h4⟩
theorem vn (b n i vb vc:Nat) (cs vs:List Value) (w:World) (hi:i<n) (hbig:n≤100000) (hcl:cs.length=n*4) (hvl:vs.length=4)
  (hcs:∀j v,cs[j]?=some v→w.cell? ⟨b,j,none⟩=some v) (hvs:∀j v,vs[j]?=some v→w.cell? ⟨vb,j,none⟩=some v) (h1c:∀v∈cs,v.oneCell'=true) (h1v:∀v∈vs,v.oneCell'=true) :
  Calls Tryz.prog 58 #[.slice (some ⟨b,0,none⟩) n n,.int .i64 i,.slice (some ⟨vb,0,none⟩) 1 vc] w fun e w' =>
   ∃v',e= .returned v'∧w'.ownsRow w.heap.size 32 4 v' (n+1) (cs.take (i*4)++vs++cs.drop (i*4))∧Below w.heap.size w w':=by
 have hz1:((1:Int)==0)=false:=by decide
 have hz2:((i:Int)==(n:Int))=false:=by rw [beq_eq_false_iff_ne];omega
 have hz3:decide ((n:Int)+1>(n:Int))=true:=decide_eq_true (by omega);have hz4:decide ((n:Int)<(n:Int)+1)=true:=decide_eq_true (by omega);obtain⟨hu,⟨i0,z0,hi0,hz0,hs0,hby0,hzs0⟩,hp0,hq0⟩:=kv;have hbw:b<w.heap.size:=block_lt_of_cell (hcs 0 _ (List.getElem?_eq_getElem (by omega)));have hvw:vb<w.heap.size:=block_lt_of_cell (hvs 0 _ (List.getElem?_eq_getElem (by omega)));have hkk:(n:Int)+1 - (i:Int)=((n+1 - i:Nat):Int):=by omega
 have hik:i+(n+1 - i)=n+1:=by omega
 have hold:(Builtin.firstCells i0.size i (.slice (some ⟨b,0,none⟩) i n)).run Tryz.prog w.drew= .ok (cs.take (i*4)).toArray w.drew:=by
  rw [hs0];exact run_firstCells_some w.drew 4 i ⟨b,0,none⟩ i n (cs.take (i*4)) (by rw [List.length_take];omega) (fun j v hj=>by
   rw [qt,Nat.zero_add];rw [List.getElem?_take]at hj;split at hj
   ·exact hcs j v hj
   ·cases hj)
 have hrz:∀ty,(Builtin.append_ #[25,3] ty #[.slice (some ⟨b,0,none⟩) i n,.int .i64 ((n:Int)+1 - (i:Int))]).run Tryz.prog w =
   .ok (.slice (some ⟨w.heap.size,0,none⟩) (n+1) (grownCap w (n+1) n 32)) (w.drew.alloc (.cells ((cs.take (i*4)).toArray++Builtin.zeroCells z0.cells (n+1 - i)++Builtin.zeroCells z0.cells (grownCap w (n+1) n 32 - (n+1))) 32)):=fun ty=>by
  have h:=Lib.run_append_grow_zeros (P:=Tryz.prog) w 25 3 ty 32 i0 z0 .i64 .i64 hu Tryz.underlying3 hi0 hz0 (some ⟨b,0,none⟩) i n (cs.take (i*4)) hold (n+1 - i) (by omega) (by omega) (by omega) (by omega) (by rw [hby0];omega) (by rw [hby0,hik];exact growslice_fits (by omega) (by omega));rw [hik]at h;rw [hkk];exact h
 have hz0c:z0.cells.size=4:=hzs0;obtain⟨G,hG⟩:∃G,G=grownCap w (n+1) n 32:=⟨_,rfl⟩
 have hGn:n+1≤G:=by rw [hG];exact grownCap_ge w _ _ _
 have hGm:G≤maxLen:=by rw [hG];exact grownCap_le_maxLen w (n+1) n 32 (by unfold maxLen;omega)
 have hG63:G≤9223372036854775807:=by unfold maxLen at hGm;omega
 obtain⟨ROW,hROW⟩:∃ROW:Array Value,ROW=(cs.take (i*4)).toArray++Builtin.zeroCells z0.cells (n+1 - i)++Builtin.zeroCells z0.cells (G - (n+1)):=⟨_,rfl⟩
 rw [←hG]at hrz;rw [←hROW]at hrz;have hRs:ROW.size=G*4:=by
  rw [hROW];simp only [Array.size_append,List.size_toArray,List.length_take,qq,hz0c,hcl];have:Nat.min (i*4) (n*4)=i*4:=Nat.min_eq_left (by omega);omega
 have hRt:ROW.toList.take (i*4)=cs.take (i*4):=by
  rw [hROW];simp only [Array.toList_append,List.append_assoc];rw [List.take_append_of_le_length (by simp;omega),List.take_of_length_le (by simp;omega)]
 have hA1:Arr (w.drew.alloc (.cells ROW 32)) w.heap.size 32 ROW.toList:=by
  have:=Arr.new w.drew 32 ROW.toList;simpa using this
 have hA1':Arr (w.alloc (.cells ROW 32)).drew w.heap.size 32 ROW.toList:=hA1;obtain⟨R',hA',hRl,hRt'⟩:=uC hcl hvl hi (by simpa using hRs) hGn hRt hA1';have hN:∀j,j<G*4→((w.drew.alloc (.cells ROW 32)).cell? ⟨w.heap.size,j,none⟩).isSome=true:=fun j hj=>by
  rw [hA1.cell (k:=j) (List.getElem?_eq_getElem (by simpa [hRs] using hj))];rfl
 have hNf:∀j,(w.drew.alloc (.cells ROW 32)).frozen? ⟨w.heap.size,j,none⟩=false:=fun j=>hA1.frozen j;have hOb:∀j v,w.cell? ⟨b,j,none⟩=some v→(w.drew.alloc (.cells ROW 32)).cell? ⟨b,j,none⟩=some v:=fun j v h=>(World.cell?_alloc_lt w.drew _ ⟨b,j,none⟩ hbw).trans h;have hOv:∀j v,w.cell? ⟨vb,j,none⟩=some v→(w.drew.alloc (.cells ROW 32)).cell? ⟨vb,j,none⟩=some v:=fun j v h=>(World.cell?_alloc_lt w.drew _ ⟨vb,j,none⟩ hvw).trans h;have hcpA:∀(W:World),(∀x,W.cell? x=(w.drew.alloc (.cells ROW 32)).cell? x)→(∀x,W.frozen? x=(w.drew.alloc (.cells ROW 32)).frozen? x)→∀ty dc,(Builtin.copy_ #[25,25] ty #[.slice (some ⟨w.heap.size,i*4,none⟩) (n+1 - i) dc,.slice (some ⟨vb,0,none⟩) 1 vc]).run Tryz.prog W= .ok (goInt 1) (W.setCells w.heap.size (i*4) vs):=fun W hWc hWf ty dc =>
  zz W 25 25 ty 32 i0 w.heap.size (i*4) (n+1 - i) dc ⟨vb,0,none⟩ 1 vc vs 1 hu hi0 (by simp only [Nat.min_def];split<;>omega) (by rw [hvl,hs0])
   (fun j v hj=>by rw [qt,hWc,Nat.zero_add];exact hOv _ v (hvs j v hj))
   (fun j hj=>by rw [hWc];exact hN _ (by omega)) (fun j hj=>by rw [hWf];exact hNf _) h1v
 have hbN:b≠w.heap.size:=by omega
 have hdl:(cs.drop (i*4)).length=(n - i)*4:=by rw [List.length_drop,hcl];omega
 have hcpB:∀(W:World),(∀x,W.cell? x=((w.drew.alloc (.cells ROW 32)).setCells w.heap.size (i*4) vs).cell? x)→(∀x,W.frozen? x=((w.drew.alloc (.cells ROW 32)).setCells w.heap.size (i*4) vs).frozen? x)→∀ty dc sc,(Builtin.copy_ #[25,25] ty #[.slice (some ⟨w.heap.size,(i+1)*4,none⟩) (n+1 - (i+1)) dc,.slice (some ⟨b,i*4,none⟩) (n - i) sc]).run Tryz.prog W=   .ok (goInt ((n - i:Nat):Int)) (W.setCells w.heap.size ((i+1)*4) (cs.drop (i*4))):=fun W hWc hWf ty dc sc =>
  zz W 25 25 ty 32 i0 w.heap.size ((i+1)*4) (n+1 - (i+1)) dc ⟨b,i*4,none⟩ (n - i) sc (cs.drop (i*4)) (n - i) hu hi0 (by simp only [Nat.min_def];split<;>omega) (by rw [hdl,hs0])
   (fun j v hj=>by
    rw [qt,hWc,World.cell?_setCells_out _ _ _ _ _ (fun h _=>absurd h hbN)];exact hOb _ v (hcs (i*4+j) v (by rwa [List.getElem?_drop]at hj)))
   (fun j hj=>by rw [hWc];exact isSome_setCells _ _ _ _ (fun t ht=>hN _ (by omega)) _ (hN _ (by omega)))
   (fun j hj=>by rw [hWf,World.frozen?_setCells];exact hNf _) (fun v hv=>h1c v (List.mem_of_mem_drop hv))
 have hE1:∀x,((w.alloc (.cells ROW 32)).drew).cell? x=(w.drew.alloc (.cells ROW 32)).cell? x:=fun x=>rfl;have hE2:∀x,((w.alloc (.cells ROW 32)).drew).frozen? x=(w.drew.alloc (.cells ROW 32)).frozen? x:=fun x=>rfl;have hF1:∀x,(((w.alloc (.cells ROW 32)).drew.setCells w.heap.size (i*4) vs).drew).cell? x=((w.drew.alloc (.cells ROW 32)).setCells w.heap.size (i*4) vs).cell? x:=fun x=>rfl;have hF2:∀x,(((w.alloc (.cells ROW 32)).drew.setCells w.heap.size (i*4) vs).drew).frozen? x=((w.drew.alloc (.cells ROW 32)).setCells w.heap.size (i*4) vs).frozen? x:=fun x=>rfl;have hGi:¬(G=i):=by omega
 have hGim:¬(G=i+1):=by omega
 have hci:¬(n=i):=by omega
 have hw1:IntKind.i64.wrap ((i:Int)+1)=(i:Int)+1:=IntWalk.i64_in _ (by omega);have hb1:(0:Int)≤(i:Int)+1:=by omega
 have hin:i≤n:=by omega
 have htn:((i:Int)+1).toNat=i+1:=by omega
 have hb3:(i:Int)≤(n:Int):=by omega
 have mixed:Tryz.prog.follows .mixedOrders=true:=by kernel_rfl
 have HROW:=sqH (And.intro hA' (And.intro hRl hRt'));clear hold hROW hRs hRt hA1 hA1' hA' hRl hRt' hN hNf hOb hOv hcs hvs hkk hik hG hz0c;go_enter Tryz.func58,Tryz.ntmps58
 repeat' (fail_if_success (first|at_builtin|at_make));first|go_values|go_skip|go_guarded|go_step|go_upon|go_back
 refine Lib.wpList_append_run _ rfl _ _ _ _ rfl _ _ rfl rfl _ _ (hrz _) ?_;go_wp2_with fail;go_region_law_o (refine step_copy_runI rfl _ _ 25 25 rfl (.slice (some ⟨w.heap.size,(i+1)*4,none⟩) (n+1 - (i+1)) (G - (i+1))) (.slice (some ⟨b,i*4,none⟩) (n - i) (n - i)) (by simp [Act.eval,Act.put]) (by simp [Act.eval,Act.put]) (hcpB _ hF1 hF2 3 (G - (i+1)) (n - i)) ?_);go_wp2_with fail;go_ret;have h1:=((Below.refl w.heap.size w).alloc (Nat.le_refl _) (.cells ROW 32)).drew;exact⟨_,rfl,⟨by simp only [List.length_append,List.length_take,List.length_drop,hcl,hvl];omega,.inr ⟨w.heap.size,G,R'.toArray,rfl,Nat.le_refl _,HROW.out.1,hGn,hGm,by simpa using HROW.out.2.1,by simpa using HROW.out.2.2⟩⟩,
  Below.sets (Nat.le_refl _) _ _ _ (Below.sets (Nat.le_refl _) _ _ _ h1).drew⟩
theorem vo (b n i vb vc:Nat) (cs vs:List Value) (w:World) (hi:i<n) (hbig:n≤100000) (hcl:cs.length=n*4) (hvl:vs.length=4)
  (hcs:∀j v,cs[j]?=some v→w.cell? ⟨b,j,none⟩=some v) (hvs:∀j v,vs[j]?=some v→w.cell? ⟨vb,j,none⟩=some v) (h1c:∀v∈cs,v.oneCell'=true) (h1v:∀v∈vs,v.oneCell'=true) :
  Calls Tryz.prog 67 #[.slice (some ⟨b,0,none⟩) n n,.int .i64 i,.slice (some ⟨vb,0,none⟩) 1 vc] w fun e w' =>
   ∃v',e= .returned v'∧w'.ownsRow w.heap.size 35 4 v' (n+1) (cs.take (i*4)++vs++cs.drop (i*4))∧Below w.heap.size w w':=by
 have hz1:((1:Int)==0)=false:=by decide
 have hz2:((i:Int)==(n:Int))=false:=by rw [beq_eq_false_iff_ne];omega
 have hz3:decide ((n:Int)+1>(n:Int))=true:=decide_eq_true (by omega);have hz4:decide ((n:Int)<(n:Int)+1)=true:=decide_eq_true (by omega);obtain⟨hu,⟨i0,z0,hi0,hz0,hs0,hby0,hzs0⟩,hp0,hq0⟩:=yR;have hbw:b<w.heap.size:=block_lt_of_cell (hcs 0 _ (List.getElem?_eq_getElem (by omega)));have hvw:vb<w.heap.size:=block_lt_of_cell (hvs 0 _ (List.getElem?_eq_getElem (by omega)));have hkk:(n:Int)+1 - (i:Int)=((n+1 - i:Nat):Int):=by omega
 have hik:i+(n+1 - i)=n+1:=by omega
 have hold:(Builtin.firstCells i0.size i (.slice (some ⟨b,0,none⟩) i n)).run Tryz.prog w.drew= .ok (cs.take (i*4)).toArray w.drew:=by
  rw [hs0];exact run_firstCells_some w.drew 4 i ⟨b,0,none⟩ i n (cs.take (i*4)) (by rw [List.length_take];omega) (fun j v hj=>by
   rw [qt,Nat.zero_add];rw [List.getElem?_take]at hj;split at hj
   ·exact hcs j v hj
   ·cases hj)
 have hrz:∀ty,(Builtin.append_ #[26,3] ty #[.slice (some ⟨b,0,none⟩) i n,.int .i64 ((n:Int)+1 - (i:Int))]).run Tryz.prog w =
   .ok (.slice (some ⟨w.heap.size,0,none⟩) (n+1) (grownCap w (n+1) n 35)) (w.drew.alloc (.cells ((cs.take (i*4)).toArray++Builtin.zeroCells z0.cells (n+1 - i)++Builtin.zeroCells z0.cells (grownCap w (n+1) n 35 - (n+1))) 35)):=fun ty=>by
  have h:=Lib.run_append_grow_zeros (P:=Tryz.prog) w 26 3 ty 35 i0 z0 .i64 .i64 hu Tryz.underlying3 hi0 hz0 (some ⟨b,0,none⟩) i n (cs.take (i*4)) hold (n+1 - i) (by omega) (by omega) (by omega) (by omega) (by rw [hby0];omega) (by rw [hby0,hik];exact growslice_fits (by omega) (by omega));rw [hik]at h;rw [hkk];exact h
 have hz0c:z0.cells.size=4:=hzs0;obtain⟨G,hG⟩:∃G,G=grownCap w (n+1) n 35:=⟨_,rfl⟩
 have hGn:n+1≤G:=by rw [hG];exact grownCap_ge w _ _ _
 have hGm:G≤maxLen:=by rw [hG];exact grownCap_le_maxLen w (n+1) n 35 (by unfold maxLen;omega)
 have hG63:G≤9223372036854775807:=by unfold maxLen at hGm;omega
 obtain⟨ROW,hROW⟩:∃ROW:Array Value,ROW=(cs.take (i*4)).toArray++Builtin.zeroCells z0.cells (n+1 - i)++Builtin.zeroCells z0.cells (G - (n+1)):=⟨_,rfl⟩
 rw [←hG]at hrz;rw [←hROW]at hrz;have hRs:ROW.size=G*4:=by
  rw [hROW];simp only [Array.size_append,List.size_toArray,List.length_take,qq,hz0c,hcl];have:Nat.min (i*4) (n*4)=i*4:=Nat.min_eq_left (by omega);omega
 have hRt:ROW.toList.take (i*4)=cs.take (i*4):=by
  rw [hROW];simp only [Array.toList_append,List.append_assoc];rw [List.take_append_of_le_length (by simp;omega),List.take_of_length_le (by simp;omega)]
 have hA1:Arr (w.drew.alloc (.cells ROW 35)) w.heap.size 35 ROW.toList:=by
  have:=Arr.new w.drew 35 ROW.toList;simpa using this
 have hA1':Arr (w.alloc (.cells ROW 35)).drew w.heap.size 35 ROW.toList:=hA1;obtain⟨R',hA',hRl,hRt'⟩:=uC hcl hvl hi (by simpa using hRs) hGn hRt hA1';have hN:∀j,j<G*4→((w.drew.alloc (.cells ROW 35)).cell? ⟨w.heap.size,j,none⟩).isSome=true:=fun j hj=>by
  rw [hA1.cell (k:=j) (List.getElem?_eq_getElem (by simpa [hRs] using hj))];rfl
 have hNf:∀j,(w.drew.alloc (.cells ROW 35)).frozen? ⟨w.heap.size,j,none⟩=false:=fun j=>hA1.frozen j;have hOb:∀j v,w.cell? ⟨b,j,none⟩=some v→(w.drew.alloc (.cells ROW 35)).cell? ⟨b,j,none⟩=some v:=fun j v h=>(World.cell?_alloc_lt w.drew _ ⟨b,j,none⟩ hbw).trans h;have hOv:∀j v,w.cell? ⟨vb,j,none⟩=some v→(w.drew.alloc (.cells ROW 35)).cell? ⟨vb,j,none⟩=some v:=fun j v h=>(World.cell?_alloc_lt w.drew _ ⟨vb,j,none⟩ hvw).trans h;have hcpA:∀(W:World),(∀x,W.cell? x=(w.drew.alloc (.cells ROW 35)).cell? x)→(∀x,W.frozen? x=(w.drew.alloc (.cells ROW 35)).frozen? x)→∀ty dc,(Builtin.copy_ #[26,26] ty #[.slice (some ⟨w.heap.size,i*4,none⟩) (n+1 - i) dc,.slice (some ⟨vb,0,none⟩) 1 vc]).run Tryz.prog W= .ok (goInt 1) (W.setCells w.heap.size (i*4) vs):=fun W hWc hWf ty dc =>
  zz W 26 26 ty 35 i0 w.heap.size (i*4) (n+1 - i) dc ⟨vb,0,none⟩ 1 vc vs 1 hu hi0 (by simp only [Nat.min_def];split<;>omega) (by rw [hvl,hs0])
   (fun j v hj=>by rw [qt,hWc,Nat.zero_add];exact hOv _ v (hvs j v hj))
   (fun j hj=>by rw [hWc];exact hN _ (by omega)) (fun j hj=>by rw [hWf];exact hNf _) h1v
 have hbN:b≠w.heap.size:=by omega
 have hdl:(cs.drop (i*4)).length=(n - i)*4:=by rw [List.length_drop,hcl];omega
 have hcpB:∀(W:World),(∀x,W.cell? x=((w.drew.alloc (.cells ROW 35)).setCells w.heap.size (i*4) vs).cell? x)→(∀x,W.frozen? x=((w.drew.alloc (.cells ROW 35)).setCells w.heap.size (i*4) vs).frozen? x)→∀ty dc sc,(Builtin.copy_ #[26,26] ty #[.slice (some ⟨w.heap.size,(i+1)*4,none⟩) (n+1 - (i+1)) dc,.slice (some ⟨b,i*4,none⟩) (n - i) sc]).run Tryz.prog W=   .ok (goInt ((n - i:Nat):Int)) (W.setCells w.heap.size ((i+1)*4) (cs.drop (i*4))):=fun W hWc hWf ty dc sc =>
  zz W 26 26 ty 35 i0 w.heap.size ((i+1)*4) (n+1 - (i+1)) dc ⟨b,i*4,none⟩ (n - i) sc (cs.drop (i*4)) (n - i) hu hi0 (by simp only [Nat.min_def];split<;>omega) (by rw [hdl,hs0])
   (fun j v hj=>by
    rw [qt,hWc,World.cell?_setCells_out _ _ _ _ _ (fun h _=>absurd h hbN)];exact hOb _ v (hcs (i*4+j) v (by rwa [List.getElem?_drop]at hj)))
   (fun j hj=>by rw [hWc];exact isSome_setCells _ _ _ _ (fun t ht=>hN _ (by omega)) _ (hN _ (by omega)))
   (fun j hj=>by rw [hWf,World.frozen?_setCells];exact hNf _) (fun v hv=>h1c v (List.mem_of_mem_drop hv))
 have hE1:∀x,((w.alloc (.cells ROW 35)).drew).cell? x=(w.drew.alloc (.cells ROW 35)).cell? x:=fun x=>rfl;have hE2:∀x,((w.alloc (.cells ROW 35)).drew).frozen? x=(w.drew.alloc (.cells ROW 35)).frozen? x:=fun x=>rfl;have hF1:∀x,(((w.alloc (.cells ROW 35)).drew.setCells w.heap.size (i*4) vs).drew).cell? x=((w.drew.alloc (.cells ROW 35)).setCells w.heap.size (i*4) vs).cell? x:=fun x=>rfl;have hF2:∀x,(((w.alloc (.cells ROW 35)).drew.setCells w.heap.size (i*4) vs).drew).frozen? x=((w.drew.alloc (.cells ROW 35)).setCells w.heap.size (i*4) vs).frozen? x:=fun x=>rfl;have hGi:¬(G=i):=by omega
 have hGim:¬(G=i+1):=by omega
 have hci:¬(n=i):=by omega
 have hw1:IntKind.i64.wrap ((i:Int)+1)=(i:Int)+1:=IntWalk.i64_in _ (by omega);have hb1:(0:Int)≤(i:Int)+1:=by omega
 have hin:i≤n:=by omega
 have htn:((i:Int)+1).toNat=i+1:=by omega
 have hb3:(i:Int)≤(n:Int):=by omega
 have mixed:Tryz.prog.follows .mixedOrders=true:=by kernel_rfl
 have HROW:=sqH (And.intro hA' (And.intro hRl hRt'));clear hold hROW hRs hRt hA1 hA1' hA' hRl hRt' hN hNf hOb hOv hcs hvs hkk hik hG hz0c;go_enter Tryz.func67,Tryz.ntmps67
 repeat' (fail_if_success (first|at_builtin|at_make));first|go_values|go_skip|go_guarded|go_step|go_upon|go_back
 refine Lib.wpList_append_run _ rfl _ _ _ _ rfl _ _ rfl rfl _ _ (hrz _) ?_;go_wp2_with fail;go_region_law_o (refine step_copy_runI rfl _ _ 26 26 rfl (.slice (some ⟨w.heap.size,(i+1)*4,none⟩) (n+1 - (i+1)) (G - (i+1))) (.slice (some ⟨b,i*4,none⟩) (n - i) (n - i)) (by simp [Act.eval,Act.put]) (by simp [Act.eval,Act.put]) (hcpB _ hF1 hF2 3 (G - (i+1)) (n - i)) ?_);go_wp2_with fail;go_ret;have h1:=((Below.refl w.heap.size w).alloc (Nat.le_refl _) (.cells ROW 35)).drew;exact⟨_,rfl,⟨by simp only [List.length_append,List.length_take,List.length_drop,hcl,hvl];omega,.inr ⟨w.heap.size,G,R'.toArray,rfl,Nat.le_refl _,HROW.out.1,hGn,hGm,by simpa using HROW.out.2.1,by simpa using HROW.out.2.2⟩⟩,
  Below.sets (Nat.le_refl _) _ _ _ (Below.sets (Nat.le_refl _) _ _ _ h1).drew⟩
theorem vp (l:List BlobP) (g i:Nat) (x:BlobP) (B:Option Addr) (c vb vc:Nat) (w:World) (base:Nat) (N:Nat→Prop) (hi:i≤l.length) (hbig:l.length≤1000) (hbase:base≤w.heap.size)
  (hv:RwX BlobS 32 w base (.slice (some ⟨g,0,none⟩) l.length l.length) l N) (hx:Arr w vb 32 (zi x B c)) (hR:(BlobS).R w x (zi x B c)) (hxl:∀b,(b=g∨N b)→¬leads b (zi x B c)) :
  Calls Tryz.prog 58 #[.slice (some ⟨g,0,none⟩) l.length l.length,.int .i64 i,.slice (some ⟨vb,0,none⟩) 1 vc] w fun e w' =>
   ∃v',e= .returned v'∧RwX BlobS 32 w' base v' (l.take i++x::l.drop i) N∧w.grownBy w' (some g):=by
 rcases Nat.lt_or_ge i l.length with hlt | hge
 ·obtain⟨ps,h1,h2,h3,h4⟩:=hv;have hpl:ps.length=l.length:=by rw [←h1,List.length_map]
  obtain⟨b,off,e1,hb,hc⟩:=(Rd.of_own h3).2 (by omega);cases e1
  refine(vn g l.length i vb vc (cls ps) (zi x B c) w hlt (by omega) (by have:=h3.1;exact this) rfl (fun j v hj=>by have:=hc j v hj;rwa [Nat.zero_add]at this) (fun j v hj=>hx.cell hj) h2.ones (yn _ _ _)).mono ?_;rintro e w' ⟨v',rfl,ho,hb'⟩;have e2:(cls ps).take (i*4)++zi x B c++(cls ps).drop (i*4)=cls (ps.take i++(x,zi x B c)::ps.drop i):=by
   rw [qu,zp,zY (s:=4) ps i h2.lens,zX (s:=4) ps i h2.lens,List.append_assoc]
  have hr:zK BlobS w (ps.take i++(x,zi x B c)::ps.drop i):=fun p hp=>by
   rcases List.mem_append.1 hp with h | h
   ·exact h2 p (List.mem_of_mem_take h)
   ·rcases List.mem_cons.1 h with h | h
    ·subst h;exact hR
    ·exact h2 p (List.mem_of_mem_drop h)
  have hn:∀p∈ps.take i++(x,zi x B c)::ps.drop i,∀b,N b→¬leads b p.2:=fun p hp b hb=>by
   rcases List.mem_append.1 hp with h | h
   ·exact h4 p (List.mem_of_mem_take h) b (.inr hb)
   ·rcases List.mem_cons.1 h with h | h
    ·subst h;exact hxl b (.inr hb)
    ·exact h4 p (List.mem_of_mem_drop h) b (.inr hb)
  rw [e2]at ho;have hlen:(ps.take i++(x,zi x B c)::ps.drop i).length=l.length+1:=by
   rw [List.length_append,List.length_cons,List.length_take,List.length_drop];omega
  have h5:=RwX.anew _ hr hn (by rw [hlen];exact ho) hb';have h6:(ps.take i++(x,zi x B c)::ps.drop i).map (·.1)=l.take i++x::l.drop i:=by
   rw [List.map_append,List.map_cons,List.map_take,List.map_drop,h1]
  rw [h6]at h5;exact⟨v',rfl,h5.lower hbase,hb'.os,hb'.tape,hb'.output,hb'.size,fun k hk _=>hb'.block k hk⟩
 ·obtain rfl:i=l.length:=by omega
  rw [List.take_length,List.drop_length];obtain⟨xs,hxo,hop⟩:=hv.open_;have hxr:Rd w 4 (some ⟨vb,0,none⟩) 1 (zi x B c):=Rd.of_arr hx rfl rfl;have HOP:=sqH hop;have HR:=sqH hR;have HXL:=sqH hxl;clear hop hv hR hxl;go_enter Tryz.func58,Tryz.ntmps58
  repeat' (fail_if_success (first|at_builtin|at_make));first|go_values|go_skip|go_guarded|go_step|go_upon|go_back
  refine zq rfl (.tmp 23) (.tmp 24) rfl kv (by rfl) hxo (by rfl) hxr (yn _ _ _) (by omega) hbase ?_;intro v1 w1 ho1 hg1 hv1;have hres:=HOP.out x _ w w1 v1 (Below.refl _ _) HR.out (fun b hb=>HXL.out b (hb.imp (fun e=>(Option.some.inj e).symm) id)) ho1 hg1 (hv1.imp id fun e=>⟨_,e,Nat.le_refl _⟩);go_wp2_with fail;go_ret;exact⟨_,rfl,hres,hg1⟩
theorem yG (A:Option Addr) (n c:Nat) (xs:List Value) (w:World) (hb:n*56≤140737488355328) (hr:Rd w 4 A n xs) (h1:∀u∈xs,u.oneCell'=true) :
  Calls Tryz.prog 57 #[.slice A n c] w fun e w'=>∃v,e= .returned v∧w'.ownsRow w.heap.size 32 4 v n xs∧Below w.heap.size w w':=by
 have heq:=fun W=>Lib.run_eql_slice_nil (P:=Tryz.prog) W 25 32 A n c 0 0 Tryz.underlying25;cases A with
 | none =>
  obtain rfl:n=0:=by
   rcases Nat.eq_zero_or_pos n with h | h
   ·exact h
   ·obtain⟨_,_,h1,_⟩:=hr.2 h;cases h1
  obtain rfl:xs= []:=List.eq_nil_of_length_eq_zero (by simpa using hr.1);go_enter Tryz.func57,Tryz.ntmps57;go_wp2_with fail;go_ret;exact⟨_,rfl,World.ownsRow_nil _ _ _ _,Below.refl _ _⟩
 | some ad =>
  go_enter Tryz.func57,Tryz.ntmps57
  repeat' (fail_if_success (first|at_builtin|at_make));first|go_values|go_skip|go_guarded|go_step|go_upon|go_back
  refine zq rfl (.tmp 5) (.tmp 6) rfl kv (by rfl) (World.ownsRow_made (size:=4) w #[] 0 (Nat.le_refl _) (by simp [maxLen]) rfl) (by rfl) (hr.alloc _) h1 (by omega) (by simp) ?_;intro v1 w1 hown1 hg1 _;have hb1:=zc ((Below.refl _ _).alloc (Nat.le_refl _) _) (World.ownsRow_made (size:=4) w #[] 0 (Nat.le_refl _) (by simp [maxLen]) rfl) (Nat.le_refl _) hg1;go_wp2_with fail;go_ret;exact⟨_,rfl,by simpa using hown1,hb1⟩
theorem vH (v:Value) (l:List BlobP) (w:World) (base:Nat) (N:Nat→Prop) (hl:l.length≤1000000) (hv:RwX BlobS 32 w base v l N) :
  Calls Tryz.prog 57 #[v] w fun e w'=>∃v',e= .returned v'∧RwX BlobS 32 w' w.heap.size v' l N∧Below w.heap.size w w':=by
 obtain⟨ps,h1,h2,h3,h4⟩:=hv;obtain⟨A,c,rfl,hc,hr⟩:=Rd.of_own' h3;refine(yG A l.length c (cls ps) w (by omega) hr h2.ones).mono ?_;rintro e w' ⟨v',rfl,ho,hb⟩;have hpl:ps.length=l.length:=by rw [←h1,List.length_map]
 have h5:=RwX.anew ps h2 (fun p hp b hb=>h4 p hp b (.inr hb)) (by rw [hpl];exact ho) hb;rw [h1]at h5;exact⟨v',rfl,h5,hb⟩
theorem vq (l:List EntP) (g i:Nat) (x:EntP) (B:Option Addr) (c vb vc:Nat) (w:World) (base:Nat) (N:Nat→Prop) (hi:i≤l.length) (hbig:l.length≤1000) (hbase:base≤w.heap.size)
  (hv:RwX EntS 35 w base (.slice (some ⟨g,0,none⟩) l.length l.length) l N) (hx:Arr w vb 35 (zw x B c)) (hR:(EntS).R w x (zw x B c)) (hxl:∀b,(b=g∨N b)→¬leads b (zw x B c)) :
  Calls Tryz.prog 67 #[.slice (some ⟨g,0,none⟩) l.length l.length,.int .i64 i,.slice (some ⟨vb,0,none⟩) 1 vc] w fun e w' =>
   ∃v',e= .returned v'∧RwX EntS 35 w' base v' (l.take i++x::l.drop i) N∧w.grownBy w' (some g):=by
 rcases Nat.lt_or_ge i l.length with hlt | hge
 ·obtain⟨ps,h1,h2,h3,h4⟩:=hv;have hpl:ps.length=l.length:=by rw [←h1,List.length_map]
  obtain⟨b,off,e1,hb,hc⟩:=(Rd.of_own h3).2 (by omega);cases e1
  refine(vo g l.length i vb vc (cls ps) (zw x B c) w hlt (by omega) (by have:=h3.1;exact this) rfl (fun j v hj=>by have:=hc j v hj;rwa [Nat.zero_add]at this) (fun j v hj=>hx.cell hj) h2.ones (yQ _ _ _)).mono ?_;rintro e w' ⟨v',rfl,ho,hb'⟩;have e2:(cls ps).take (i*4)++zw x B c++(cls ps).drop (i*4)=cls (ps.take i++(x,zw x B c)::ps.drop i):=by
   rw [qu,zp,zY (s:=4) ps i h2.lens,zX (s:=4) ps i h2.lens,List.append_assoc]
  have hr:zK EntS w (ps.take i++(x,zw x B c)::ps.drop i):=fun p hp=>by
   rcases List.mem_append.1 hp with h | h
   ·exact h2 p (List.mem_of_mem_take h)
   ·rcases List.mem_cons.1 h with h | h
    ·subst h;exact hR
    ·exact h2 p (List.mem_of_mem_drop h)
  have hn:∀p∈ps.take i++(x,zw x B c)::ps.drop i,∀b,N b→¬leads b p.2:=fun p hp b hb=>by
   rcases List.mem_append.1 hp with h | h
   ·exact h4 p (List.mem_of_mem_take h) b (.inr hb)
   ·rcases List.mem_cons.1 h with h | h
    ·subst h;exact hxl b (.inr hb)
    ·exact h4 p (List.mem_of_mem_drop h) b (.inr hb)
  rw [e2]at ho;have hlen:(ps.take i++(x,zw x B c)::ps.drop i).length=l.length+1:=by
   rw [List.length_append,List.length_cons,List.length_take,List.length_drop];omega
  have h5:=RwX.anew _ hr hn (by rw [hlen];exact ho) hb';have h6:(ps.take i++(x,zw x B c)::ps.drop i).map (·.1)=l.take i++x::l.drop i:=by
   rw [List.map_append,List.map_cons,List.map_take,List.map_drop,h1]
  rw [h6]at h5;exact⟨v',rfl,h5.lower hbase,hb'.os,hb'.tape,hb'.output,hb'.size,fun k hk _=>hb'.block k hk⟩
 ·obtain rfl:i=l.length:=by omega
  rw [List.take_length,List.drop_length];obtain⟨xs,hxo,hop⟩:=hv.open_;have hxr:Rd w 4 (some ⟨vb,0,none⟩) 1 (zw x B c):=Rd.of_arr hx rfl rfl;have HOP:=sqH hop;have HR:=sqH hR;have HXL:=sqH hxl;clear hop hv hR hxl;go_enter Tryz.func67,Tryz.ntmps67
  repeat' (fail_if_success (first|at_builtin|at_make));first|go_values|go_skip|go_guarded|go_step|go_upon|go_back
  refine zq rfl (.tmp 23) (.tmp 24) rfl yR (by rfl) hxo (by rfl) hxr (yQ _ _ _) (by omega) hbase ?_;intro v1 w1 ho1 hg1 hv1;have hres:=HOP.out x _ w w1 v1 (Below.refl _ _) HR.out (fun b hb=>HXL.out b (hb.imp (fun e=>(Option.some.inj e).symm) id)) ho1 hg1 (hv1.imp id fun e=>⟨_,e,Nat.le_refl _⟩);go_wp2_with fail;go_ret;exact⟨_,rfl,hres,hg1⟩
theorem yH (A:Option Addr) (n c:Nat) (xs:List Value) (w:World) (hb:n*56≤140737488355328) (hr:Rd w 4 A n xs) (h1:∀u∈xs,u.oneCell'=true) :
  Calls Tryz.prog 66 #[.slice A n c] w fun e w'=>∃v,e= .returned v∧w'.ownsRow w.heap.size 35 4 v n xs∧Below w.heap.size w w':=by
 have heq:=fun W=>Lib.run_eql_slice_nil (P:=Tryz.prog) W 26 35 A n c 0 0 Tryz.underlying26;cases A with
 | none =>
  obtain rfl:n=0:=by
   rcases Nat.eq_zero_or_pos n with h | h
   ·exact h
   ·obtain⟨_,_,h1,_⟩:=hr.2 h;cases h1
  obtain rfl:xs= []:=List.eq_nil_of_length_eq_zero (by simpa using hr.1);go_enter Tryz.func66,Tryz.ntmps66;go_wp2_with fail;go_ret;exact⟨_,rfl,World.ownsRow_nil _ _ _ _,Below.refl _ _⟩
 | some ad =>
  go_enter Tryz.func66,Tryz.ntmps66
  repeat' (fail_if_success (first|at_builtin|at_make));first|go_values|go_skip|go_guarded|go_step|go_upon|go_back
  refine zq rfl (.tmp 5) (.tmp 6) rfl yR (by rfl) (World.ownsRow_made (size:=4) w #[] 0 (Nat.le_refl _) (by simp [maxLen]) rfl) (by rfl) (hr.alloc _) h1 (by omega) (by simp) ?_;intro v1 w1 hown1 hg1 _;have hb1:=zc ((Below.refl _ _).alloc (Nat.le_refl _) _) (World.ownsRow_made (size:=4) w #[] 0 (Nat.le_refl _) (by simp [maxLen]) rfl) (Nat.le_refl _) hg1;go_wp2_with fail;go_ret;exact⟨_,rfl,by simpa using hown1,hb1⟩
theorem vI (v:Value) (l:List EntP) (w:World) (base:Nat) (N:Nat→Prop) (hl:l.length≤1000000) (hv:RwX EntS 35 w base v l N) :
  Calls Tryz.prog 66 #[v] w fun e w'=>∃v',e= .returned v'∧RwX EntS 35 w' w.heap.size v' l N∧Below w.heap.size w w':=by
 obtain⟨ps,h1,h2,h3,h4⟩:=hv;obtain⟨A,c,rfl,hc,hr⟩:=Rd.of_own' h3;refine(yH A l.length c (cls ps) w (by omega) hr h2.ones).mono ?_;rintro e w' ⟨v',rfl,ho,hb⟩;have hpl:ps.length=l.length:=by rw [←h1,List.length_map]
 have h5:=RwX.anew ps h2 (fun p hp b hb=>h4 p hp b (.inr hb)) (by rw [hpl];exact ho) hb;rw [h1]at h5;exact⟨v',rfl,h5,hb⟩
end Go.Proofs.YtfmnggcfhalfnaaGreat
