/- Lemmas, as stated. -/
import Derived.Shelf.Spec.SlicesInsertGrow
import Derived.BigRegion
import Derived.Test.YtcjmjaefcjcomaaGreatQB05
import Derived.Test.YtcjmjaefcjcomaaGreatQB06
set_option linter.unusedVariables false
set_option linter.unusedSimpArgs false
set_option maxRecDepth 100000
set_option maxHeartbeats 8000000
open Go.Proofs.Tryz
open Go.Proofs.Tryz renaming prog->zZZ
open Go.Value renaming slice->aA,int->aB,string->aD
open Option renaming none->aF,some->aG
open And renaming intro->aH
open Go.IntKind renaming i64->aC
open Go.Obj renaming cells->aE
namespace Go.Proofs.YtcjmjaefcjcomaaGreat
open Go.RowKit
variable {α:Type} {l:List α} {base g i n:Nat} {s:StoP} {e:TypeId} {w:World} {d y:ai} {N:am} {x:α} {f:α->List UInt8}
theorem qT {P:Program} (w:World) (dT sT ty elem:TypeId) (i:TypeInfo) (b o dLen dCap:Nat) (a:Addr) (sLen sCap:Nat) (cs:ak) (k:Nat)
  (hu:P.underlying dT=aG (.slice elem)) (hi:P.info? elem=aG i) (hn:Nat.min sLen dLen=k) (hl:cs.length=k*i.size)
  (hsrc:∀j v,cs[j]?=aG v->w.cell? (a.add j)=aG v) (hc:∀j,j<cs.length->(w.cell? ⟨b,o+j,aF⟩).isSome=true) (hf:∀j,j<cs.length->w.frozen? ⟨b,o+j,aF⟩=false) (h1:∀v∈cs,v.oneCell'=true) :
  (Builtin.copy_ #[dT,sT] ty #[aA (aG ⟨b,o,aF⟩) dLen dCap,aA (aG a) sLen sCap]).run P w= .ok (goInt k) (w.setCells b o cs):=by
 have hl':=run_firstCells_some (P:=P) (w:=w) i.size k a sLen sCap cs hl hsrc;have hst:=run_storeCells_cells (P:=P) b o cs 0 w (by simpa using hc) (by simpa using hf) h1;simp [Builtin.copy_,run_underlying hu,Builtin.lenOf,sizeOf,typeInfo,hi,hn,hl',hst]
theorem xb (z:Array Value) (k:Nat):(Builtin.zeroCells z k).size=k*z.size:=by
 simp [Builtin.zeroCells]
theorem XW {W:World} {G:Nat} {cs vs R:ak} (hcl:cs.length=n*4) (hvl:vs.length=4) (hi:i<n) (hR:R.length=G*4) (hG:n+1<=G) (hRt:R.take (i*4)=cs.take (i*4)) (hA:Arr W g e R) :
  ∃R',Arr ((W.setCells g (i*4) vs).drew.setCells g ((i+1)*4) (cs.drop (i*4))) g e R'/\R'.length=G*4/\R'.take ((n+1)*4)=cs.take (i*4)++vs++cs.drop (i*4):=by
 have hti:(cs.take (i*4)).length=i*4:=by rw [List.length_take];omega
 have hdl:(cs.drop (i*4)).length=(n - i)*4:=by rw [List.length_drop,hcl];omega
 have e1:R=cs.take (i*4)++((R.drop (i*4)).take 4++R.drop (i*4+4)):=by
  rw [<-hRt,<-List.drop_drop,List.take_append_drop,List.take_append_drop]
 rw [e1]at hA;have hA1:=Arr.setsMid vs _ (cs.take (i*4)) _ _ hA (by rw [List.length_take,List.length_drop,hvl];omega);rw [hti]at hA1;have e2:cs.take (i*4)++(vs++R.drop (i*4+4))=(cs.take (i*4)++vs)++((R.drop (i*4+4)).take ((n - i)*4)++(R.drop (i*4+4)).drop ((n - i)*4)):=by
  rw [List.take_append_drop,List.append_assoc]
 rw [e2]at hA1;have hA2:=Arr.setsMid (cs.drop (i*4)) _ (cs.take (i*4)++vs) _ _ hA1.drew (by rw [List.length_take,List.length_drop,List.length_drop,hcl,hR];omega);rw [show(cs.take (i*4)++vs).length=(i+1)*4 by rw [List.length_append,hti,hvl];omega]at hA2;refine⟨_,hA2,?_,?_⟩
 ·simp only [List.length_append,hti,hvl,hdl,List.length_drop,hR];omega
 ·rw [<-List.append_assoc,List.take_append_of_le_length (by simp only [List.length_append,hti,hvl,hdl];omega),List.take_of_length_le (by simp only [List.length_append,hti,hvl,hdl];omega)]
theorem RwX.anew {S:Shp α} {w':World} {v':Value} (ps:Cel α) (h2:qJ S w ps) (hN:∀p∈ps,∀b,N b->¬leads b p.2) (ho:w'.ownsRow w.heap.size e S.size v' ps.length (cls ps)) (hb:Below w.heap.size w w'):RwX S e w' w.heap.size v' (ps.map (·.1)) N :=
 ⟨ps,rfl,h2.below hb,by rw [List.length_map];exact ho,fun p hp b hb' hl=>by
  rcases hb' with e1 | e1
  ·have h1:=(ho.lt b e1).1
   have h3:=S.live (h2 p hp) b hl
   omega
  ·exact hN p hp b e1 hl⟩
theorem RwX.lower {S:Shp α} {v:Value} {base':Nat} (h:RwX S e w base v l N) (hb:base'<=base):RwX S e w base' v l N:=by
 obtain⟨ps,h1,h2,h3,h4⟩:=h;exact⟨ps,h1,h2,zb h3 hb,h4⟩
theorem KW (b n i vb vc:Nat) (cs vs:ak) (w:World) (hi:i<n) (hbig:n<=100000) (hcl:cs.length=n*4) (hvl:vs.length=4)
  (hcs:∀j v,cs[j]?=aG v->w.cell? ⟨b,j,aF⟩=aG v) (hvs:∀j v,vs[j]?=aG v->w.cell? ⟨vb,j,aF⟩=aG v) (h1c:∀v∈cs,v.oneCell'=true) (h1v:∀v∈vs,v.oneCell'=true) :
  Calls zZZ 159 #[aA (aG ⟨b,0,aF⟩) n n,aB .i64 i,aA (aG ⟨vb,0,aF⟩) 1 vc] w fun e w' =>
   ∃v',e= .returned v'/\w'.ownsRow w.heap.size 55 4 v' (n+1) (cs.take (i*4)++vs++cs.drop (i*4))/\Below w.heap.size w w':=by
 have hz1:((1:Int)==0)=false:=aa;have hz2:((i:Int)==(n:Int))=false:=by rw [beq_eq_false_iff_ne];omega
 have hz3:decide ((n:Int)+1>(n:Int))=true:=decide_eq_true wu;have hz4:decide ((n:Int)<(n:Int)+1)=true:=decide_eq_true wu;obtain⟨hu,⟨i0,z0,hi0,hz0,hs0,hby0,hzs0⟩,hp0,hq0⟩:=ue;have hbw:b<w.heap.size:=block_lt_of_cell (hcs 0 _ (List.getElem?_eq_getElem wu));have hvw:vb<w.heap.size:=block_lt_of_cell (hvs 0 _ (List.getElem?_eq_getElem wu));have hkk:(n:Int)+1 - (i:Int)=((n+1 - i:Nat):Int):=wu;have hik:i+(n+1 - i)=n+1:=wu;have hold:(Builtin.firstCells i0.size i (aA (aG ⟨b,0,aF⟩) i n)).run zZZ w.drew= .ok (cs.take (i*4)).toArray w.drew:=by
  rw [hs0];exact run_firstCells_some w.drew 4 i ⟨b,0,aF⟩ i n (cs.take (i*4)) (by rw [List.length_take];omega) (fun j v hj=>by
   rw [xe,Nat.zero_add];rw [List.getElem?_take]at hj;split at hj
   ·exact hcs j v hj
   ·cases hj)
 have hrz:∀ty,(Builtin.append_ #[35,3] ty #[aA (aG ⟨b,0,aF⟩) i n,aB .i64 ((n:Int)+1 - (i:Int))]).run zZZ w =
   .ok (aA (aG ⟨w.heap.size,0,aF⟩) (n+1) (grownCap w (n+1) n 55)) (w.drew.alloc (.cells ((cs.take (i*4)).toArray++Builtin.zeroCells z0.cells (n+1 - i)++Builtin.zeroCells z0.cells (grownCap w (n+1) n 55 - (n+1))) 55)):=fun ty=>by
  have h:=Lib.run_append_grow_zeros (P:=zZZ) w 35 3 ty 55 i0 z0 .i64 .i64 hu underlying3 hi0 hz0 (aG ⟨b,0,aF⟩) i n (cs.take (i*4)) hold (n+1 - i) wu wu wu wu (by rw [hby0];omega) (by rw [hby0,hik];exact growslice_fits wu wu);rw [hik]at h;rw [hkk];exact h
 have hz0c:z0.cells.size=4:=hzs0;obtain⟨G,hG⟩:=wY (grownCap w (n+1) n 55)
 have hGn:n+1<=G:=by rw [hG];exact grownCap_ge w _ _ _
 have hGm:G<=maxLen:=by rw [hG];exact grownCap_le_maxLen w (n+1) n 55 (by unfold maxLen;omega)
 have hG63:G<=9223372036854775807:=by unfold maxLen at hGm;omega
 obtain⟨ROW,hROW⟩:=wY ((cs.take (i*4)).toArray++Builtin.zeroCells z0.cells (n+1 - i)++Builtin.zeroCells z0.cells (G - (n+1)):Array Value)
 rw [<-hG]at hrz;rw [<-hROW]at hrz;have hRs:ROW.size=G*4:=by
  rw [hROW];simp only [Array.size_append,List.size_toArray,List.length_take,xb,hz0c,hcl];have:Nat.min (i*4) (n*4)=i*4:=Nat.min_eq_left wu;omega
 have hRt:ROW.toList.take (i*4)=cs.take (i*4):=by
  rw [hROW];simp only [Array.toList_append,List.append_assoc];rw [List.take_append_of_le_length af,List.take_of_length_le af]
 have hA1:Arr (w.drew.alloc (.cells ROW 55)) w.heap.size 55 ROW.toList:=by
  have:=Arr.new w.drew 55 ROW.toList;simpa using this
 have hA1':Arr (w.alloc (.cells ROW 55)).drew w.heap.size 55 ROW.toList:=hA1;obtain⟨R',hA',hRl,hRt'⟩:=XW hcl hvl hi (by simpa using hRs) hGn hRt hA1';have hN:∀j,j<G*4->((w.drew.alloc (.cells ROW 55)).cell? ⟨w.heap.size,j,aF⟩).isSome=true:=fun j hj=>by
  rw [hA1.cell (k:=j) (List.getElem?_eq_getElem (by simpa [hRs] using hj))];rfl
 have hNf:∀j,(w.drew.alloc (.cells ROW 55)).frozen? ⟨w.heap.size,j,aF⟩=false:=fun j=>hA1.frozen j;have hOb:∀j v,w.cell? ⟨b,j,aF⟩=aG v->(w.drew.alloc (.cells ROW 55)).cell? ⟨b,j,aF⟩=aG v:=fun j v h=>(World.cell?_alloc_lt w.drew _ ⟨b,j,aF⟩ hbw).trans h;have hOv:∀j v,w.cell? ⟨vb,j,aF⟩=aG v->(w.drew.alloc (.cells ROW 55)).cell? ⟨vb,j,aF⟩=aG v:=fun j v h=>(World.cell?_alloc_lt w.drew _ ⟨vb,j,aF⟩ hvw).trans h;have hcpA:∀(W:World),(∀x,W.cell? x=(w.drew.alloc (.cells ROW 55)).cell? x)->(∀x,W.frozen? x=(w.drew.alloc (.cells ROW 55)).frozen? x)->∀ty dc,(Builtin.copy_ #[35,35] ty #[aA (aG ⟨w.heap.size,i*4,aF⟩) (n+1 - i) dc,aA (aG ⟨vb,0,aF⟩) 1 vc]).run zZZ W= .ok (goInt 1) (W.setCells w.heap.size (i*4) vs):=fun W hWc hWf ty dc =>
  qT W 35 35 ty 55 i0 w.heap.size (i*4) (n+1 - i) dc ⟨vb,0,aF⟩ 1 vc vs 1 hu hi0 (by simp only [Nat.min_def];split<;>omega) (by rw [hvl,hs0])
   (fun j v hj=>by rw [xe,hWc,Nat.zero_add];exact hOv _ v (hvs j v hj))
   (fun j hj=>by rw [hWc];exact hN _ wu) (fun j hj=>by rw [hWf];exact hNf _) h1v
 have hbN:b≠w.heap.size:=wu;have hdl:(cs.drop (i*4)).length=(n - i)*4:=by rw [List.length_drop,hcl];omega
 have hcpB:∀(W:World),(∀x,W.cell? x=((w.drew.alloc (.cells ROW 55)).setCells w.heap.size (i*4) vs).cell? x)->(∀x,W.frozen? x=((w.drew.alloc (.cells ROW 55)).setCells w.heap.size (i*4) vs).frozen? x)->∀ty dc sc,(Builtin.copy_ #[35,35] ty #[aA (aG ⟨w.heap.size,(i+1)*4,aF⟩) (n+1 - (i+1)) dc,aA (aG ⟨b,i*4,aF⟩) (n - i) sc]).run zZZ W=   .ok (goInt ((n - i:Nat):Int)) (W.setCells w.heap.size ((i+1)*4) (cs.drop (i*4))):=fun W hWc hWf ty dc sc =>
  qT W 35 35 ty 55 i0 w.heap.size ((i+1)*4) (n+1 - (i+1)) dc ⟨b,i*4,aF⟩ (n - i) sc (cs.drop (i*4)) (n - i) hu hi0 (by simp only [Nat.min_def];split<;>omega) (by rw [hdl,hs0])
   (fun j v hj=>by
    rw [xe,hWc,World.cell?_setCells_out _ _ _ _ _ (fun h _=>absurd h hbN)];exact hOb _ v (hcs (i*4+j) v (by rwa [List.getElem?_drop]at hj)))
   (fun j hj=>by rw [hWc];exact isSome_setCells _ _ _ _ (fun t ht=>hN _ wu) _ (hN _ wu))
   (fun j hj=>by rw [hWf,World.frozen?_setCells];exact hNf _) (fun v hv=>h1c v (List.mem_of_mem_drop hv))
 have hE1:∀x,((w.alloc (.cells ROW 55)).drew).cell? x=(w.drew.alloc (.cells ROW 55)).cell? x:=fun x=>rfl;have hE2:∀x,((w.alloc (.cells ROW 55)).drew).frozen? x=(w.drew.alloc (.cells ROW 55)).frozen? x:=fun x=>rfl;have hF1:∀x,(((w.alloc (.cells ROW 55)).drew.setCells w.heap.size (i*4) vs).drew).cell? x=((w.drew.alloc (.cells ROW 55)).setCells w.heap.size (i*4) vs).cell? x:=fun x=>rfl;have hF2:∀x,(((w.alloc (.cells ROW 55)).drew.setCells w.heap.size (i*4) vs).drew).frozen? x=((w.drew.alloc (.cells ROW 55)).setCells w.heap.size (i*4) vs).frozen? x:=fun x=>rfl;have hGi:¬(G=i):=wu;have hGim:¬(G=i+1):=wu;have hci:¬(n=i):=wu;have hw1:IntKind.i64.wrap ((i:Int)+1)=(i:Int)+1:=IntWalk.i64_in _ wu;have hb1:(0:Int)<=(i:Int)+1:=wu;have hin:i<=n:=wu;have htn:((i:Int)+1).toNat=i+1:=wu;have hb3:(i:Int)<=(n:Int):=wu;have mixed:zZZ.follows .mixedOrders=true:=ww;have HROW:=sqH (aH hA' (aH hRl hRt'));clear hold hROW hRs hRt hA1 hA1' hA' hRl hRt' hN hNf hOb hOv hcs hvs hkk hik hG hz0c;go_enter func159,ntmps159
 refine wL ?_;intros;refine Lib.wpList_append_run _ rfl _ _ _ _ rfl _ _ rfl rfl _ _ (hrz _) ?_;go_wp2_with fail;go_region_law_o (refine step_copy_runI rfl _ _ 35 35 rfl (aA (aG ⟨w.heap.size,(i+1)*4,aF⟩) (n+1 - (i+1)) (G - (i+1))) (aA (aG ⟨b,i*4,aF⟩) (n - i) (n - i)) (by simp [Act.eval,Act.put]) (by simp [Act.eval,Act.put]) (hcpB _ hF1 hF2 3 (G - (i+1)) (n - i)) ?_);go_wp2_with fail;go_ret;have h1:=(ws w (.cells ROW 55)).drew;exact⟨_,rfl,⟨by simp only [List.length_append,List.length_take,List.length_drop,hcl,hvl];omega,.inr ⟨w.heap.size,G,R'.toArray,rfl,Nat.le_refl _,HROW.o.1,hGn,hGm,by simpa using HROW.o.2.1,by simpa using HROW.o.2.2⟩⟩,
  Below.sets ag _ _ _ (Below.sets ag _ _ _ h1).drew⟩
theorem KX (b n i vb vc:Nat) (cs vs:ak) (w:World) (hi:i<n) (hbig:n<=100000) (hcl:cs.length=n*4) (hvl:vs.length=4)
  (hcs:∀j v,cs[j]?=aG v->w.cell? ⟨b,j,aF⟩=aG v) (hvs:∀j v,vs[j]?=aG v->w.cell? ⟨vb,j,aF⟩=aG v) (h1c:∀v∈cs,v.oneCell'=true) (h1v:∀v∈vs,v.oneCell'=true) :
  Calls zZZ 185 #[aA (aG ⟨b,0,aF⟩) n n,aB .i64 i,aA (aG ⟨vb,0,aF⟩) 1 vc] w fun e w' =>
   ∃v',e= .returned v'/\w'.ownsRow w.heap.size 120 4 v' (n+1) (cs.take (i*4)++vs++cs.drop (i*4))/\Below w.heap.size w w':=by
 have hz1:((1:Int)==0)=false:=aa;have hz2:((i:Int)==(n:Int))=false:=by rw [beq_eq_false_iff_ne];omega
 have hz3:decide ((n:Int)+1>(n:Int))=true:=decide_eq_true wu;have hz4:decide ((n:Int)<(n:Int)+1)=true:=decide_eq_true wu;obtain⟨hu,⟨i0,z0,hi0,hz0,hs0,hby0,hzs0⟩,hp0,hq0⟩:=Xy;have hbw:b<w.heap.size:=block_lt_of_cell (hcs 0 _ (List.getElem?_eq_getElem wu));have hvw:vb<w.heap.size:=block_lt_of_cell (hvs 0 _ (List.getElem?_eq_getElem wu));have hkk:(n:Int)+1 - (i:Int)=((n+1 - i:Nat):Int):=wu;have hik:i+(n+1 - i)=n+1:=wu;have hold:(Builtin.firstCells i0.size i (aA (aG ⟨b,0,aF⟩) i n)).run zZZ w.drew= .ok (cs.take (i*4)).toArray w.drew:=by
  rw [hs0];exact run_firstCells_some w.drew 4 i ⟨b,0,aF⟩ i n (cs.take (i*4)) (by rw [List.length_take];omega) (fun j v hj=>by
   rw [xe,Nat.zero_add];rw [List.getElem?_take]at hj;split at hj
   ·exact hcs j v hj
   ·cases hj)
 have hrz:∀ty,(Builtin.append_ #[36,3] ty #[aA (aG ⟨b,0,aF⟩) i n,aB .i64 ((n:Int)+1 - (i:Int))]).run zZZ w =
   .ok (aA (aG ⟨w.heap.size,0,aF⟩) (n+1) (grownCap w (n+1) n 120)) (w.drew.alloc (.cells ((cs.take (i*4)).toArray++Builtin.zeroCells z0.cells (n+1 - i)++Builtin.zeroCells z0.cells (grownCap w (n+1) n 120 - (n+1))) 120)):=fun ty=>by
  have h:=Lib.run_append_grow_zeros (P:=zZZ) w 36 3 ty 120 i0 z0 .i64 .i64 hu underlying3 hi0 hz0 (aG ⟨b,0,aF⟩) i n (cs.take (i*4)) hold (n+1 - i) wu wu wu wu (by rw [hby0];omega) (by rw [hby0,hik];exact growslice_fits wu wu);rw [hik]at h;rw [hkk];exact h
 have hz0c:z0.cells.size=4:=hzs0;obtain⟨G,hG⟩:=wY (grownCap w (n+1) n 120)
 have hGn:n+1<=G:=by rw [hG];exact grownCap_ge w _ _ _
 have hGm:G<=maxLen:=by rw [hG];exact grownCap_le_maxLen w (n+1) n 120 (by unfold maxLen;omega)
 have hG63:G<=9223372036854775807:=by unfold maxLen at hGm;omega
 obtain⟨ROW,hROW⟩:=wY ((cs.take (i*4)).toArray++Builtin.zeroCells z0.cells (n+1 - i)++Builtin.zeroCells z0.cells (G - (n+1)):Array Value)
 rw [<-hG]at hrz;rw [<-hROW]at hrz;have hRs:ROW.size=G*4:=by
  rw [hROW];simp only [Array.size_append,List.size_toArray,List.length_take,xb,hz0c,hcl];have:Nat.min (i*4) (n*4)=i*4:=Nat.min_eq_left wu;omega
 have hRt:ROW.toList.take (i*4)=cs.take (i*4):=by
  rw [hROW];simp only [Array.toList_append,List.append_assoc];rw [List.take_append_of_le_length af,List.take_of_length_le af]
 have hA1:Arr (w.drew.alloc (.cells ROW 120)) w.heap.size 120 ROW.toList:=by
  have:=Arr.new w.drew 120 ROW.toList;simpa using this
 have hA1':Arr (w.alloc (.cells ROW 120)).drew w.heap.size 120 ROW.toList:=hA1;obtain⟨R',hA',hRl,hRt'⟩:=XW hcl hvl hi (by simpa using hRs) hGn hRt hA1';have hN:∀j,j<G*4->((w.drew.alloc (.cells ROW 120)).cell? ⟨w.heap.size,j,aF⟩).isSome=true:=fun j hj=>by
  rw [hA1.cell (k:=j) (List.getElem?_eq_getElem (by simpa [hRs] using hj))];rfl
 have hNf:∀j,(w.drew.alloc (.cells ROW 120)).frozen? ⟨w.heap.size,j,aF⟩=false:=fun j=>hA1.frozen j;have hOb:∀j v,w.cell? ⟨b,j,aF⟩=aG v->(w.drew.alloc (.cells ROW 120)).cell? ⟨b,j,aF⟩=aG v:=fun j v h=>(World.cell?_alloc_lt w.drew _ ⟨b,j,aF⟩ hbw).trans h;have hOv:∀j v,w.cell? ⟨vb,j,aF⟩=aG v->(w.drew.alloc (.cells ROW 120)).cell? ⟨vb,j,aF⟩=aG v:=fun j v h=>(World.cell?_alloc_lt w.drew _ ⟨vb,j,aF⟩ hvw).trans h;have hcpA:∀(W:World),(∀x,W.cell? x=(w.drew.alloc (.cells ROW 120)).cell? x)->(∀x,W.frozen? x=(w.drew.alloc (.cells ROW 120)).frozen? x)->∀ty dc,(Builtin.copy_ #[36,36] ty #[aA (aG ⟨w.heap.size,i*4,aF⟩) (n+1 - i) dc,aA (aG ⟨vb,0,aF⟩) 1 vc]).run zZZ W= .ok (goInt 1) (W.setCells w.heap.size (i*4) vs):=fun W hWc hWf ty dc =>
  qT W 36 36 ty 120 i0 w.heap.size (i*4) (n+1 - i) dc ⟨vb,0,aF⟩ 1 vc vs 1 hu hi0 (by simp only [Nat.min_def];split<;>omega) (by rw [hvl,hs0])
   (fun j v hj=>by rw [xe,hWc,Nat.zero_add];exact hOv _ v (hvs j v hj))
   (fun j hj=>by rw [hWc];exact hN _ wu) (fun j hj=>by rw [hWf];exact hNf _) h1v
 have hbN:b≠w.heap.size:=wu;have hdl:(cs.drop (i*4)).length=(n - i)*4:=by rw [List.length_drop,hcl];omega
 have hcpB:∀(W:World),(∀x,W.cell? x=((w.drew.alloc (.cells ROW 120)).setCells w.heap.size (i*4) vs).cell? x)->(∀x,W.frozen? x=((w.drew.alloc (.cells ROW 120)).setCells w.heap.size (i*4) vs).frozen? x)->∀ty dc sc,(Builtin.copy_ #[36,36] ty #[aA (aG ⟨w.heap.size,(i+1)*4,aF⟩) (n+1 - (i+1)) dc,aA (aG ⟨b,i*4,aF⟩) (n - i) sc]).run zZZ W=   .ok (goInt ((n - i:Nat):Int)) (W.setCells w.heap.size ((i+1)*4) (cs.drop (i*4))):=fun W hWc hWf ty dc sc =>
  qT W 36 36 ty 120 i0 w.heap.size ((i+1)*4) (n+1 - (i+1)) dc ⟨b,i*4,aF⟩ (n - i) sc (cs.drop (i*4)) (n - i) hu hi0 (by simp only [Nat.min_def];split<;>omega) (by rw [hdl,hs0])
   (fun j v hj=>by
    rw [xe,hWc,World.cell?_setCells_out _ _ _ _ _ (fun h _=>absurd h hbN)];exact hOb _ v (hcs (i*4+j) v (by rwa [List.getElem?_drop]at hj)))
   (fun j hj=>by rw [hWc];exact isSome_setCells _ _ _ _ (fun t ht=>hN _ wu) _ (hN _ wu))
   (fun j hj=>by rw [hWf,World.frozen?_setCells];exact hNf _) (fun v hv=>h1c v (List.mem_of_mem_drop hv))
 have hE1:∀x,((w.alloc (.cells ROW 120)).drew).cell? x=(w.drew.alloc (.cells ROW 120)).cell? x:=fun x=>rfl;have hE2:∀x,((w.alloc (.cells ROW 120)).drew).frozen? x=(w.drew.alloc (.cells ROW 120)).frozen? x:=fun x=>rfl;have hF1:∀x,(((w.alloc (.cells ROW 120)).drew.setCells w.heap.size (i*4) vs).drew).cell? x=((w.drew.alloc (.cells ROW 120)).setCells w.heap.size (i*4) vs).cell? x:=fun x=>rfl;have hF2:∀x,(((w.alloc (.cells ROW 120)).drew.setCells w.heap.size (i*4) vs).drew).frozen? x=((w.drew.alloc (.cells ROW 120)).setCells w.heap.size (i*4) vs).frozen? x:=fun x=>rfl;have hGi:¬(G=i):=wu;have hGim:¬(G=i+1):=wu;have hci:¬(n=i):=wu;have hw1:IntKind.i64.wrap ((i:Int)+1)=(i:Int)+1:=IntWalk.i64_in _ wu;have hb1:(0:Int)<=(i:Int)+1:=wu;have hin:i<=n:=wu;have htn:((i:Int)+1).toNat=i+1:=wu;have hb3:(i:Int)<=(n:Int):=wu;have mixed:zZZ.follows .mixedOrders=true:=ww;have HROW:=sqH (aH hA' (aH hRl hRt'));clear hold hROW hRs hRt hA1 hA1' hA' hRl hRt' hN hNf hOb hOv hcs hvs hkk hik hG hz0c;go_enter func185,ntmps185
 refine wL ?_;intros;refine Lib.wpList_append_run _ rfl _ _ _ _ rfl _ _ rfl rfl _ _ (hrz _) ?_;go_wp2_with fail;go_region_law_o (refine step_copy_runI rfl _ _ 36 36 rfl (aA (aG ⟨w.heap.size,(i+1)*4,aF⟩) (n+1 - (i+1)) (G - (i+1))) (aA (aG ⟨b,i*4,aF⟩) (n - i) (n - i)) (by simp [Act.eval,Act.put]) (by simp [Act.eval,Act.put]) (hcpB _ hF1 hF2 3 (G - (i+1)) (n - i)) ?_);go_wp2_with fail;go_ret;have h1:=(ws w (.cells ROW 120)).drew;exact⟨_,rfl,⟨by simp only [List.length_append,List.length_take,List.length_drop,hcl,hvl];omega,.inr ⟨w.heap.size,G,R'.toArray,rfl,Nat.le_refl _,HROW.o.1,hGn,hGm,by simpa using HROW.o.2.1,by simpa using HROW.o.2.2⟩⟩,
  Below.sets ag _ _ _ (Below.sets ag _ _ _ h1).drew⟩
theorem KY (l:List BlobP) (g i:Nat) (x:BlobP) (B:aj) (c vb vc:Nat) (w:World) (base:Nat) (N:am) (hi:i<=l.length) (hbig:l.length<=1000) (hbase:base<=w.heap.size)
  (hv:RwX BlobS 55 w base (aA (aG ⟨g,0,aF⟩) l.length l.length) l N) (hx:Arr w vb 55 (zX x B c)) (hR:(BlobS).R w x (zX x B c)) (hxl:∀b,(b=g\/N b)->¬leads b (zX x B c)) :
  Calls zZZ 159 #[aA (aG ⟨g,0,aF⟩) l.length l.length,aB .i64 i,aA (aG ⟨vb,0,aF⟩) 1 vc] w fun e w' =>
   ∃v',e= .returned v'/\RwX BlobS 55 w' base v' (l.take i++x::l.drop i) N/\w.grownBy w' (aG g):=by
 rcases Nat.lt_or_ge i l.length with hlt | hge
 ·obtain⟨ps,h1,h2,h3,h4⟩:=hv;have hpl:ps.length=l.length:=by rw [<-h1,List.length_map]
  obtain⟨b,off,e1,hb,hc⟩:=(Rd.of_own h3).2 wu;cases e1
  refine(KW g l.length i vb vc (cls ps) (zX x B c) w hlt wu (by have:=h3.1;exact this) rfl (fun j v hj=>by have:=hc j v hj;rwa [Nat.zero_add]at this) (fun j v hj=>hx.cell hj) h2.ones (jH _ _ _)).mono ?_;rintro e w' ⟨v',rfl,ho,hb'⟩;have e2:(cls ps).take (i*4)++zX x B c++(cls ps).drop (i*4)=cls (ps.take i++(x,zX x B c)::ps.drop i):=by
   rw [xg,qj,kO (s:=4) ps i h2.lens,yg (s:=4) ps i h2.lens,List.append_assoc]
  have hr:qJ BlobS w (ps.take i++(x,zX x B c)::ps.drop i):=fun p hp=>by
   rcases List.mem_append.1 hp with h | h
   ·exact h2 p (List.mem_of_mem_take h)
   ·rcases List.mem_cons.1 h with h | h
    ·subst h;exact hR
    ·exact h2 p (List.mem_of_mem_drop h)
  have hn:∀p∈ps.take i++(x,zX x B c)::ps.drop i,∀b,N b->¬leads b p.2:=fun p hp b hb=>by
   rcases List.mem_append.1 hp with h | h
   ·exact h4 p (List.mem_of_mem_take h) b (.inr hb)
   ·rcases List.mem_cons.1 h with h | h
    ·subst h;exact hxl b (.inr hb)
    ·exact h4 p (List.mem_of_mem_drop h) b (.inr hb)
  rw [e2]at ho;have hlen:(ps.take i++(x,zX x B c)::ps.drop i).length=l.length+1:=by
   rw [List.length_append,List.length_cons,List.length_take,List.length_drop];omega
  have h5:=RwX.anew _ hr hn (by rw [hlen];exact ho) hb';have h6:(ps.take i++(x,zX x B c)::ps.drop i).map (·.1)=l.take i++x::l.drop i:=by
   rw [List.map_append,List.map_cons,List.map_take,List.map_drop,h1]
  rw [h6]at h5;exact⟨v',rfl,h5.lower hbase,hb'.os,hb'.tape,hb'.output,hb'.size,fun k hk _=>hb'.block k hk⟩
 ·obtain rfl:i=l.length:=by omega
  rw [List.take_length,List.drop_length];obtain⟨xs,hxo,hop⟩:=hv.open_;have hxr:Rd w 4 (aG ⟨vb,0,aF⟩) 1 (zX x B c):=Rd.of_arr hx rfl rfl;obtain⟨HOP,HR,HXL⟩:=sqJ3 hop hR hxl;clear hop hv hR hxl;go_enter func159,ntmps159
  refine wL ?_;intros;refine zG rfl (.tmp 23) (.tmp 24) rfl ue ac hxo ac hxr (jH _ _ _) wu hbase ?_;intro v1 w1 ho1 hg1 hv1;have hres:=HOP.o x _ w w1 v1 (Below.refl _ _) HR.o (fun b hb=>HXL.o b (hb.imp (fun e=>(Option.some.inj e).symm) id)) ho1 hg1 (hv1.imp id fun e=>⟨_,e,Nat.le_refl _⟩);go_wp2_with fail;go_ret;exact⟨_,rfl,hres,hg1⟩
theorem Zc (A:aj) (n c:Nat) (xs:ak) (w:World) (hb:n*56<=140737488355328) (hr:Rd w 4 A n xs) (h1:∀u∈xs,u.oneCell'=true) :
  Calls zZZ 158 #[aA A n c] w fun e w'=>∃v,e= .returned v/\w'.ownsRow w.heap.size 55 4 v n xs/\Below w.heap.size w w':=by
 have heq:=fun W=>Lib.run_eql_slice_nil (P:=zZZ) W 35 55 A n c 0 0 underlying35;cases A with
 | none =>
  obtain rfl:n=0:=by
   rcases Nat.eq_zero_or_pos n with h | h
   ·exact h
   ·obtain⟨_,_,h1,_⟩:=hr.2 h;cases h1
  obtain rfl:xs= []:=List.eq_nil_of_length_eq_zero (by simpa using hr.1);go_enter func158,ntmps158;go_wp2_with fail;go_ret;exact⟨_,rfl,World.ownsRow_nil _ _ _ _,Below.refl _ _⟩
 | some ad =>
  go_enter func158,ntmps158
  refine wL ?_;intros;refine zG rfl (.tmp 5) (.tmp 6) rfl ue ac (World.ownsRow_made (size:=4) w #[] 0 ag (by simp [maxLen]) rfl) ac (hr.alloc _) h1 wu ab ?_;intro v1 w1 hown1 hg1 _;have hb1:=zh ((Below.refl _ _).alloc ag _) (World.ownsRow_made (size:=4) w #[] 0 ag (by simp [maxLen]) rfl) ag hg1;go_wp2_with fail;go_ret;exact⟨_,rfl,by simpa using hown1,hb1⟩
theorem YF (v:Value) (l:List BlobP) (w:World) (base:Nat) (N:am) (hl:l.length<=1000000) (hv:RwX BlobS 55 w base v l N) :
  Calls zZZ 158 #[v] w fun e w'=>∃v',e= .returned v'/\RwX BlobS 55 w' w.heap.size v' l N/\Below w.heap.size w w':=by
 obtain⟨ps,h1,h2,h3,h4⟩:=hv;obtain⟨A,c,rfl,hc,hr⟩:=Rd.of_own' h3;refine(Zc A l.length c (cls ps) w wu hr h2.ones).mono ?_;rintro e w' ⟨v',rfl,ho,hb⟩;have hpl:ps.length=l.length:=by rw [<-h1,List.length_map]
 have h5:=RwX.anew ps h2 (fun p hp b hb=>h4 p hp b (.inr hb)) (by rw [hpl];exact ho) hb;rw [h1]at h5;exact⟨v',rfl,h5,hb⟩
theorem KZ (l:List EntP) (g i:Nat) (x:EntP) (B:aj) (c vb vc:Nat) (w:World) (base:Nat) (N:am) (hi:i<=l.length) (hbig:l.length<=1000) (hbase:base<=w.heap.size)
  (hv:RwX EntS 120 w base (aA (aG ⟨g,0,aF⟩) l.length l.length) l N) (hx:Arr w vb 120 (ko x B c)) (hR:(EntS).R w x (ko x B c)) (hxl:∀b,(b=g\/N b)->¬leads b (ko x B c)) :
  Calls zZZ 185 #[aA (aG ⟨g,0,aF⟩) l.length l.length,aB .i64 i,aA (aG ⟨vb,0,aF⟩) 1 vc] w fun e w' =>
   ∃v',e= .returned v'/\RwX EntS 120 w' base v' (l.take i++x::l.drop i) N/\w.grownBy w' (aG g):=by
 rcases Nat.lt_or_ge i l.length with hlt | hge
 ·obtain⟨ps,h1,h2,h3,h4⟩:=hv;have hpl:ps.length=l.length:=by rw [<-h1,List.length_map]
  obtain⟨b,off,e1,hb,hc⟩:=(Rd.of_own h3).2 wu;cases e1
  refine(KX g l.length i vb vc (cls ps) (ko x B c) w hlt wu (by have:=h3.1;exact this) rfl (fun j v hj=>by have:=hc j v hj;rwa [Nat.zero_add]at this) (fun j v hj=>hx.cell hj) h2.ones (JM _ _ _)).mono ?_;rintro e w' ⟨v',rfl,ho,hb'⟩;have e2:(cls ps).take (i*4)++ko x B c++(cls ps).drop (i*4)=cls (ps.take i++(x,ko x B c)::ps.drop i):=by
   rw [xg,qj,kO (s:=4) ps i h2.lens,yg (s:=4) ps i h2.lens,List.append_assoc]
  have hr:qJ EntS w (ps.take i++(x,ko x B c)::ps.drop i):=fun p hp=>by
   rcases List.mem_append.1 hp with h | h
   ·exact h2 p (List.mem_of_mem_take h)
   ·rcases List.mem_cons.1 h with h | h
    ·subst h;exact hR
    ·exact h2 p (List.mem_of_mem_drop h)
  have hn:∀p∈ps.take i++(x,ko x B c)::ps.drop i,∀b,N b->¬leads b p.2:=fun p hp b hb=>by
   rcases List.mem_append.1 hp with h | h
   ·exact h4 p (List.mem_of_mem_take h) b (.inr hb)
   ·rcases List.mem_cons.1 h with h | h
    ·subst h;exact hxl b (.inr hb)
    ·exact h4 p (List.mem_of_mem_drop h) b (.inr hb)
  rw [e2]at ho;have hlen:(ps.take i++(x,ko x B c)::ps.drop i).length=l.length+1:=by
   rw [List.length_append,List.length_cons,List.length_take,List.length_drop];omega
  have h5:=RwX.anew _ hr hn (by rw [hlen];exact ho) hb';have h6:(ps.take i++(x,ko x B c)::ps.drop i).map (·.1)=l.take i++x::l.drop i:=by
   rw [List.map_append,List.map_cons,List.map_take,List.map_drop,h1]
  rw [h6]at h5;exact⟨v',rfl,h5.lower hbase,hb'.os,hb'.tape,hb'.output,hb'.size,fun k hk _=>hb'.block k hk⟩
 ·obtain rfl:i=l.length:=by omega
  rw [List.take_length,List.drop_length];obtain⟨xs,hxo,hop⟩:=hv.open_;have hxr:Rd w 4 (aG ⟨vb,0,aF⟩) 1 (ko x B c):=Rd.of_arr hx rfl rfl;obtain⟨HOP,HR,HXL⟩:=sqJ3 hop hR hxl;clear hop hv hR hxl;go_enter func185,ntmps185
  refine wL ?_;intros;refine zG rfl (.tmp 23) (.tmp 24) rfl Xy ac hxo ac hxr (JM _ _ _) wu hbase ?_;intro v1 w1 ho1 hg1 hv1;have hres:=HOP.o x _ w w1 v1 (Below.refl _ _) HR.o (fun b hb=>HXL.o b (hb.imp (fun e=>(Option.some.inj e).symm) id)) ho1 hg1 (hv1.imp id fun e=>⟨_,e,Nat.le_refl _⟩);go_wp2_with fail;go_ret;exact⟨_,rfl,hres,hg1⟩
theorem Zd (A:aj) (n c:Nat) (xs:ak) (w:World) (hb:n*56<=140737488355328) (hr:Rd w 4 A n xs) (h1:∀u∈xs,u.oneCell'=true) :
  Calls zZZ 184 #[aA A n c] w fun e w'=>∃v,e= .returned v/\w'.ownsRow w.heap.size 120 4 v n xs/\Below w.heap.size w w':=by
 have heq:=fun W=>Lib.run_eql_slice_nil (P:=zZZ) W 36 120 A n c 0 0 underlying36;cases A with
 | none =>
  obtain rfl:n=0:=by
   rcases Nat.eq_zero_or_pos n with h | h
   ·exact h
   ·obtain⟨_,_,h1,_⟩:=hr.2 h;cases h1
  obtain rfl:xs= []:=List.eq_nil_of_length_eq_zero (by simpa using hr.1);go_enter func184,ntmps184;go_wp2_with fail;go_ret;exact⟨_,rfl,World.ownsRow_nil _ _ _ _,Below.refl _ _⟩
 | some ad =>
  go_enter func184,ntmps184
  refine wL ?_;intros;refine zG rfl (.tmp 5) (.tmp 6) rfl Xy ac (World.ownsRow_made (size:=4) w #[] 0 ag (by simp [maxLen]) rfl) ac (hr.alloc _) h1 wu ab ?_;intro v1 w1 hown1 hg1 _;have hb1:=zh ((Below.refl _ _).alloc ag _) (World.ownsRow_made (size:=4) w #[] 0 ag (by simp [maxLen]) rfl) ag hg1;go_wp2_with fail;go_ret;exact⟨_,rfl,by simpa using hown1,hb1⟩
theorem YG (v:Value) (l:List EntP) (w:World) (base:Nat) (N:am) (hl:l.length<=1000000) (hv:RwX EntS 120 w base v l N) :
  Calls zZZ 184 #[v] w fun e w'=>∃v',e= .returned v'/\RwX EntS 120 w' w.heap.size v' l N/\Below w.heap.size w w':=by
 obtain⟨ps,h1,h2,h3,h4⟩:=hv;obtain⟨A,c,rfl,hc,hr⟩:=Rd.of_own' h3;refine(Zd A l.length c (cls ps) w wu hr h2.ones).mono ?_;rintro e w' ⟨v',rfl,ho,hb⟩;have hpl:ps.length=l.length:=by rw [<-h1,List.length_map]
 have h5:=RwX.anew ps h2 (fun p hp b hb=>h4 p hp b (.inr hb)) (by rw [hpl];exact ho) hb;rw [h1]at h5;exact⟨v',rfl,h5,hb⟩
theorem Xt:∀x y:ai,decide (Lib.compareBytes x y<0)=Op.bytesLess x y
 | [], []=>rfl
 | [],_::_=>rfl
 | _::_, []=>rfl
 | a::x,b::y=>by
  rw [Lib.compareBytes,Op.bytesLess]
  by_cases h1:a<b
  ·simp [h1]
  ·by_cases h2:b<a
   ·have hne:a≠b:=by rintro rfl;exact h1 h2
    simp [h1,h2,hne]
   ·have he:a=b:=by
     rcases JX a b with h | h | h
     ·exact absurd h h1
     ·exact h
     ·exact absurd h h2
    subst he;have:=Xt x y;simp [h1,this]
theorem uZ {x:ai} (h:Op.bytesLess x y=true):Lib.compareBytes x y<0:=by
 have:=Xt x y;rw [h,decide_eq_true_eq]at this;exact this
theorem uY {x:ai} (h:Op.bytesLess x y=false):¬Lib.compareBytes x y<0:=by
 have:=Xt x y;rw [h,decide_eq_false_iff_not]at this;exact this
section
variable {α:Type} {f:α->List UInt8} {l:List α} {d:ai} {i:Nat}
theorem jI (h1:∀k (h:k<l.length),k<i->Op.bytesLess (f l[k]) d=true) (hi:i<l.length) (he:f l[i]=d):l.findIdx? (fun x=>f x==d)=aG i:=by
 rw [List.findIdx?_eq_some_iff_getElem];exact⟨hi,by simp [he],fun k hk=>by
  have:=xf (h1 k wu hk);simp [this]⟩
theorem Xp (hr:RisesBy f l) (h1:∀k (h:k<l.length),k<i->Op.bytesLess (f l[k]) d=true) (h2:∀k (h:k<l.length),i<=k->Op.bytesLess (f l[k]) d=false) (hn:¬ ∃h:i<l.length,f l[i]=d) :
  (∀x∈l,f x≠d)/\∀k (h:k<l.length),i<=k->Op.bytesLess d (f l[k])=true:=by
 have hp:=List.pairwise_iff_getElem.1 hr;have h3:∀k (h:k<l.length),i<=k->Op.bytesLess d (f l[k])=true:=fun k h hk=>by
  have hi:i<l.length:=wu;have h4:Op.bytesLess d (f l[i])=true:=by
   rcases uS d (f l[i]) with h | h | h
   ·exact h
   ·exact absurd ⟨hi,h.symm⟩ hn
   ·rw [h2 i hi ag]at h;cases h
  rcases Nat.lt_or_ge i k with h5 | h5
  ·exact qi h4 (hp i k hi h h5)
  ·obtain rfl:i=k:=by omega
   exact h4
 refine⟨fun x hx e=> ?_,h3⟩;obtain⟨k,hk,rfl⟩:=List.mem_iff_getElem.1 hx;rcases Nat.lt_or_ge k i with h5 | h5
 ·exact xf (h1 k hk h5) e
 ·exact xf (h3 k hk h5) e.symm
theorem z3d (hr:RisesBy f l) (h1:∀k (h:k<l.length),k<i->Op.bytesLess (f l[k]) d=true) (h2:∀k (h:k<l.length),i<=k->Op.bytesLess (f l[k]) d=false) (hn:¬ ∃h:i<l.length,f l[i]=d) {x:α} (hx:f x=d) :
  RisesBy f (l.take i++x::l.drop i)/\(l.take i++x::l.drop i).Perm (x::l):=by
 have h3:=(Xp hr h1 h2 hn).2;have ht:∀a∈l.take i,Op.bytesLess (f a) d=true:=fun a ha=>by
  obtain⟨k,hk,rfl⟩:=List.mem_iff_getElem.1 ha;rw [List.length_take]at hk;rw [List.getElem_take];exact h1 k wu wu
 have hd:∀a∈l.drop i,Op.bytesLess d (f a)=true:=fun a ha=>by
  obtain⟨k,hk,rfl⟩:=List.mem_iff_getElem.1 ha;rw [List.length_drop]at hk;rw [List.getElem_drop];exact h3 (i+k) wu wu
 refine⟨List.pairwise_append.2 ⟨hr.sublist (List.take_sublist _ _),List.pairwise_cons.2 ⟨fun a ha=>by rw [hx];exact hd a ha,hr.sublist (List.drop_sublist _ _)⟩,fun a ha b hb=> ?_⟩,?_⟩
 ·rcases List.mem_cons.1 hb with rfl | hb
  ·rw [hx];exact ht a ha
  ·exact qi (ht a ha) (hd b hb)
 ·have:=(List.perm_middle (a:=x) (l₁:=l.take i) (l₂:=l.drop i))
  rwa [List.take_append_drop]at this
theorem JF (hr:RisesBy f l) (h1:∀k (h:k<l.length),k<i->Op.bytesLess (f l[k]) d=true) (h2:∀k (h:k<l.length),i<=k->Op.bytesLess (f l[k]) d=false) (hn:¬ ∃h:i<l.length,f l[i]=d) {x:α} (hx:f x=d) :
  l.take i++x::l.drop i=srt f (x::l):=by
 obtain⟨a,b⟩:=z3d hr h1 h2 hn hx;exact z3y a b
theorem JE (hr:RisesBy f l) (h1:∀k (h:k<l.length),k<i->Op.bytesLess (f l[k]) d=true) (h2:∀k (h:k<l.length),i<=k->Op.bytesLess (f l[k]) d=false) (hn:¬ ∃h:i<l.length,f l[i]=d):l.findIdx? (fun x=>f x==d)=aF:=by
 rw [List.findIdx?_eq_none_iff];intro x hx;have:=(Xp hr h1 h2 hn).1 x hx;simp [this]
end
def xl (l:List EntP) (x:EntP):List EntP:=match l.findIdx? (fun y=>y.key==x.key) with | some i=>l.set i { x with aQ:=(match l[i]? with | some y=>y.aQ | none=>0) } | none=>srt (·.key) (x::l)
def putB (l:List BlobP) (d:ai):List BlobP:=match l.findIdx? (fun b=>b.dig==shaS d) with | some _=>l | none=>srt (·.dig) (⟨shaS d,d,0,false⟩::l)
theorem JU (hr:RisesBy f l) (hn:l.findIdx? (fun y=>f y==f x)=aF):RisesBy f (srt f (x::l)):=uz (by
 rw [List.map_cons,List.nodup_cons]
 refine⟨fun h=> ?_,Rises.nodup (RisesBy.map hr)⟩
 obtain⟨y,hy,e⟩:=List.mem_map.1 h
 have:=List.findIdx?_eq_none_iff.1 hn y hy
 simp [e]at this)
theorem ZX {l:List EntP} {x:EntP} (hr:RisesBy (·.key) l) (hi:i<l.length) (hk:x.key=l[i].key):RisesBy (·.key) (l.set i x):=by
 have h:(l.set i x).map (·.key)=l.map (·.key):=by
  rw [List.map_set,hk];apply List.ext_getElem?;intro k;rw [List.getElem?_set];split
  ·rename_i e;subst e;rw [List.length_map,if_pos hi,List.getElem?_map,List.getElem?_eq_getElem hi];rfl
  ·rfl
 have h1:Rises ((l.set i x).map (·.key)):=by rw [h];exact hr.map
 exact List.pairwise_map.1 h1
theorem ZV {l:List EntP} {x:EntP} (hg:GoodE l) (hx:GoodE1 x) (hlen:l.length<10):GoodE (xl l x):=by
 unfold xl;cases hf:l.findIdx? (fun y=>y.key==x.key) with
 | none =>
  refine⟨?_,fun y hy=> ?_,JU hg.ris hf⟩
  ·rw [(q7 _ _).length_eq];simp;omega
  ·rcases List.mem_cons.1 ((q7 _ _).mem_iff.1 hy) with rfl | h
   ·exact hx
   ·exact hg.one y h
 | some i =>
  obtain⟨hi,he,_⟩:=List.findIdx?_eq_some_iff_getElem.1 hf;have he':l[i].key=x.key:=by simpa using he
  show GoodE (l.set i { x with aQ:=(match l[i]? with | some y=>y.aQ | none=>0) });rw [List.getElem?_eq_getElem hi];refine⟨by rw [List.length_set];exact hg.len,fun y hy=> ?_,ZX hg.ris hi he'.symm⟩;rcases List.mem_or_eq_of_mem_set hy with h | h
  ·exact hg.one y h
  ·subst h;obtain⟨a,b,c,e⟩:=hx;exact⟨a,b,(hg.one _ (List.getElem_mem hi)).2.2.1,e⟩
theorem Vk {l:List BlobP} (hg:GoodB l) (hd:d.length<=300) (hlen:l.length<24):GoodB (putB l d):=by
 unfold putB;cases hf:l.findIdx? (fun b=>b.dig==shaS d) with
 | none =>
  refine⟨?_,fun y hy=> ?_,JU (f:=fun b:BlobP=>b.dig) (x:=⟨shaS d,d,0,false⟩) hg.ris hf⟩
  ·rw [(q7 _ _).length_eq];simp;omega
  ·rcases List.mem_cons.1 ((q7 _ _).mem_iff.1 hy) with rfl | h
   ·exact⟨rfl,hd,by show 0<=5;omega⟩
   ·exact hg.one y h
 | some i=>exact hg
theorem RwX.put4 {S:Shp α} {cap:Nat} {u0 u1 u2 u3:Value} (h:RwX S e w base (aA (aG ⟨g,0,aF⟩) l.length cap) l N) (h4:S.size=4) (hi:i<l.length)
  (hR:S.R w x [u0,u1,u2,u3]) (hl:∀b,(b=g\/N b)->¬leads b [u0,u1,u2,u3]) :
  RwX S e (put4 w g (i*4) u0 u1 u2 u3) base (aA (aG ⟨g,0,aF⟩) l.length cap) (l.set i x) N/\w.grownBy (put4 w g (i*4) u0 u1 u2 u3) (aG g):=by
 obtain⟨ps,h1,h2,h3,h5⟩:=h;have hpl:ps.length=l.length:=by rw [<-h1,List.length_map]
 have hip:i<ps.length:=wu;have hlen:∀p∈ps,p.2.length=4:=fun p hp=>by rw [h2.lens p hp,h4]
 have hli:=hlen _ (List.getElem_mem hip);obtain⟨a0,a1,a2,a3,ha⟩:∃a0 a1 a2 a3,ps[i].2= [a0,a1,a2,a3]:=by
  match hq:ps[i].2,hli with
  | [a0,a1,a2,a3],_=>exact⟨a0,a1,a2,a3,rfl⟩
 have e1:cls ps=cls (ps.take i)++ [a0,a1,a2,a3]++cls (ps.drop (i+1)):=by
  conv=>lhs;rw [<-List.take_append_drop i ps,List.drop_eq_getElem_cons hip,xg,qj,ha]
  rw [List.append_assoc]
 rw [e1]at h3;have hcl:(cls (ps.take i)).length=i*4:=by
  rw [vZ (s:=4) _ (fun p hp=>hlen p (List.mem_of_mem_take hp)),List.length_take];rw [Nat.min_eq_left wu]
 obtain⟨ho,hg⟩:=Jg h3 hcl u0 u1 u2 u3;have hall:∀p∈ps.set i (x, [u0,u1,u2,u3]),S.R w p.1 p.2/\∀b,(b=g\/N b)->¬leads b p.2:=fun p hp=>by
  rcases List.mem_or_eq_of_mem_set hp with h | h
  ·exact⟨h2 p h,fun b hb=>h5 p h b (hb.imp (fun e=>by rw [e];rfl) id)⟩
  ·subst h;exact⟨hR,hl⟩
 refine⟨⟨ps.set i (x, [u0,u1,u2,u3]),by rw [List.map_set,h1],?_,?_,fun p hp b hb=>(hall p hp).2 b (hb.imp (fun e=>(Option.some.inj e).symm) id)⟩,hg⟩
 ·exact qJ.grown (w:=w) (g:=aG g) (fun p hp=>(hall p hp).1) hg (fun p hp b hb=>(hall p hp).2 b (.inl (Option.some.inj hb).symm))
 ·have e2:cls (ps.set i (x, [u0,u1,u2,u3]))=cls (ps.take i)++ [u0,u1,u2,u3]++cls (ps.drop (i+1)):=by
   rw [z12 (s:=4) ps i _ hip hlen,kO (s:=4) ps i hlen,yg (s:=4) ps (i+1) hlen]
  rw [List.length_set,e2];exact ho
theorem z4f (w:World):(zeroValue 55).run zZZ w= .ok (.agg #[aD ByteArray.empty,aA aF 0 0,aB aC 0,.bool false]) w:=by kernel_rfl
theorem VZ (g i n cap base:Nat) (xs:ak) (w:World) (h:w.ownsRow base 55 4 (aA (aG ⟨g,0,aF⟩) n cap) n xs) (hi:i<n) (hx:∀u∈xs,u.oneCell'=true) :
  Calls zZZ 142 #[aA (aG ⟨g,0,aF⟩) n cap,aB aC i,aB aC ((i:Int)+1)] w fun e w'=>e= .returned (aA (aG ⟨g,0,aF⟩) (n - 1) cap) /\
   w'.ownsRow base 55 4 (aA (aG ⟨g,0,aF⟩) (n - 1) cap) (n - 1) (xs.take (i*4)++xs.drop ((i+1)*4))/\w.grownBy w' (aG g):=by
 obtain⟨g',cap',cs,e1,hbg,hA,hnc,hcm,hcl,hct⟩:=yt h wu;injection e1 with e11 _ e13;injection e11 with e11;injection e11 with e11;subst e11 e13;obtain⟨i0,hi0,hz0,hz1,hz2⟩:=info_parts (show(zZZ.info? 55).map (fun i=>(i.zero,i.size,i.bytes))=aG (aG (.agg #[aD ByteArray.empty,aA aF 0 0,aB aC 0,.bool false]),4,56) by kernel_rfl);obtain⟨zs,hzs⟩:=wY ((Builtin.zeroCells (Value.agg #[aD ByteArray.empty,aA aF 0 0,aB aC 0,.bool false]).cells 1).toList)
 have hzs':zs= [aD ByteArray.empty,aA aF 0 0,aB aC 0,.bool false]:=by rw [hzs];kernel_rfl
 have hzl:zs.length=4:=by rw [hzs'];rfl
 have hz1':∀u∈zs,u.oneCell'=true:=by rw [hzs'];intro u hu;simp at hu;rcases hu with rfl | rfl | rfl | rfl<;>rfl
 obtain⟨a1,a2⟩:=Qr (i:=i) (n:=n) (zs:=zs) hA.drew hcl hnc hi hzl;rw [hct]at a1 a2;have hlen:(xs.drop ((i+1)*4)).length=(n - (i+1))*4:=by rw [List.length_drop,h.1,Nat.sub_mul]
 obtain⟨news,hnews⟩:=wY (xs.drop ((i+1)*4))
 rw [<-hnews]at a1 a2 hlen;obtain⟨W1,hW1⟩:=wY (w.drew.setCells g (i*4) news)
 rw [<-hW1]at a1 a2;have hr:=Rd.of_own h;have HC:=sqH (show ∀k u,xs[k]?=aG u->w.drew.cell? ⟨g,k,aF⟩=aG u from fun k u hu=>by
  refine Arr.cell hA.drew ?_;rw [<-hct,List.getElem?_take]at hu;split at hu
  ·exact hu
  ·cases hu)
 obtain⟨A,hAd,hsrc⟩:∃A:Addr,(if cap=i+1 then aG (⟨g,0,aF⟩:Addr) else aG ⟨g,(i+1)*4,aF⟩)=aG A/\Hid (∀t u,news[t]?=aG u->w.drew.cell? (A.add t)=aG u):=by
  by_cases hce:cap=i+1
  ·refine⟨⟨g,0,aF⟩,by simp [hce],Lib.hid fun t u hu=> ?_⟩;have h0:news.length=0:=by rw [hlen,show n - (i+1)=0 by omega]
   rw [List.length_eq_zero_iff.1 h0]at hu;cases hu
  ·refine⟨⟨g,(i+1)*4,aF⟩,by simp [hce],Lib.hid fun t u hu=> ?_⟩;rw [hnews,List.getElem?_drop]at hu;have:=HC.o _ _ hu;rw [Addr.add_lit];exact this
 have s1:=sqH hlen;have s2:=sqH (show ∀u∈news,u.oneCell'=true from fun u hu=>hx u (by rw [hnews]at hu;exact List.mem_of_mem_drop hu));have s3:=sqH (show ∀t,t<news.length->(w.drew.cell? ⟨g,0+i*4+t,aF⟩).isSome=true/\w.drew.frozen? ⟨g,0+i*4+t,aF⟩=false from fun t ht=>by
  rw [hlen]at ht;have hlt:i*4+t<xs.length:=by rw [h.1];omega
  rw [Nat.zero_add,HC.o _ _ (List.getElem?_eq_getElem hlt)];exact⟨rfl,hA.drew.frozen _⟩)
 have hclr:∀ty,(Builtin.clear_ #[35] ty #[aA (aG ⟨g,(n - 1)*4,aF⟩) (n - (n - 1)) (cap - (n - 1))]).run zZZ W1= .ok (.tuple #[]) (W1.setCells g ((n - 1)*4) zs):=fun ty=>by
  rw [show n - (n - 1)=1 by omega];exact yr W1 _ _ ty _ zs underlying35 z4f hzs.symm hz1' g _ _ (fun j hj=>by
   have hk:(n - 1)*4+j<(cs.take (i*4)++news++cs.drop ((n - 1)*4)).length:=by
    simp only [List.length_append,List.length_take,List.length_drop,hcl,hlen];omega
   rw [a1.cell (List.getElem?_eq_getElem hk)];rfl) (fun j hj=>a1.frozen _)
 have hcapi:i<=cap:=wu;have hci1:i+1<=cap:=wu;have hwi:((i:Int)+1).toNat=i+1:=wu;have hp0:(0:Int)<=(i:Int)+1:=wu;have hp1:(i:Int)+1<=(n:Int):=wu;have hne:((i:Int)==(i:Int)+1)=false:=by rw [beq_eq_false_iff_ne];omega
 obtain⟨A2,HW1,HG,HL,HCL,HN,HT,HX⟩:=sqJ8 a2 hW1 (show w.grownBy (W1.setCells g ((n - 1)*4) zs) (aG g) from(show w.grownBy w.drew (aG g) from⟨rfl,rfl,rfl,Nat.le_refl _,fun _ _ _=>rfl⟩).trans (by rw [hW1];exact(qg _ _ _).trans (qg _ _ _))) hlen hcl hnews hct h.1;clear hW1 a1 a2 hct hnews hlen hzs hzs' hz1' hr hA HC hx hcl;go_enter func142,ntmps142;go_wp2_with fail;go_region_law (refine step_append_room rfl (.tmp 22) (.tmp 25) 35 rfl 55 i0 4 underlying35 hi0 hz1 g 0 i cap (by simp [Act.eval,Act.put]) A (n - (i+1)) (cap - (i+1)) news (by simp [Act.eval,Act.put]) s1.o hsrc.o s2.o wu s3.o ?_;rw [Nat.zero_add,<-HW1.o]);rw [show i+(n - (i+1))=n - 1 by omega];go_wp2_with fail;go_ret;refine⟨rfl,⟨?_,.inr ⟨g,cap,_,rfl,hbg,A2.o,wu,hcm,?_,?_⟩⟩,HG.o⟩
 ·rw [<-HN.o,List.length_append,List.length_take,HL.o,HX.o];omega
 ·simp only [List.size_toArray,List.length_append,List.length_take,List.length_drop,HL.o,hzl,HCL.o];omega
 ·have e1:xs.take (i*4)=cs.take (i*4):=by rw [<-HT.o,List.take_take,Nat.min_eq_left wu]
  rw [e1,<-HN.o,List.append_assoc,List.take_left' (by rw [List.length_append,List.length_take,HL.o,HCL.o];omega)]
theorem z5c (w:World):(zeroValue 120).run zZZ w= .ok (.agg #[aD ByteArray.empty,aA aF 0 0,aB aC 0,aB aC 0]) w:=by kernel_rfl
theorem U0 (g i n cap base:Nat) (xs:ak) (w:World) (h:w.ownsRow base 120 4 (aA (aG ⟨g,0,aF⟩) n cap) n xs) (hi:i<n) (hx:∀u∈xs,u.oneCell'=true) :
  Calls zZZ 136 #[aA (aG ⟨g,0,aF⟩) n cap,aB aC i,aB aC ((i:Int)+1)] w fun e w'=>e= .returned (aA (aG ⟨g,0,aF⟩) (n - 1) cap) /\
   w'.ownsRow base 120 4 (aA (aG ⟨g,0,aF⟩) (n - 1) cap) (n - 1) (xs.take (i*4)++xs.drop ((i+1)*4))/\w.grownBy w' (aG g):=by
 obtain⟨g',cap',cs,e1,hbg,hA,hnc,hcm,hcl,hct⟩:=yt h wu;injection e1 with e11 _ e13;injection e11 with e11;injection e11 with e11;subst e11 e13;obtain⟨i0,hi0,hz0,hz1,hz2⟩:=info_parts (show(zZZ.info? 120).map (fun i=>(i.zero,i.size,i.bytes))=aG (aG (.agg #[aD ByteArray.empty,aA aF 0 0,aB aC 0,aB aC 0]),4,56) by kernel_rfl);obtain⟨zs,hzs⟩:=wY ((Builtin.zeroCells (Value.agg #[aD ByteArray.empty,aA aF 0 0,aB aC 0,aB aC 0]).cells 1).toList)
 have hzs':zs= [aD ByteArray.empty,aA aF 0 0,aB aC 0,aB aC 0]:=by rw [hzs];kernel_rfl
 have hzl:zs.length=4:=by rw [hzs'];rfl
 have hz1':∀u∈zs,u.oneCell'=true:=by rw [hzs'];intro u hu;simp at hu;rcases hu with rfl | rfl | rfl | rfl<;>rfl
 obtain⟨a1,a2⟩:=Qr (i:=i) (n:=n) (zs:=zs) hA.drew hcl hnc hi hzl;rw [hct]at a1 a2;have hlen:(xs.drop ((i+1)*4)).length=(n - (i+1))*4:=by rw [List.length_drop,h.1,Nat.sub_mul]
 obtain⟨news,hnews⟩:=wY (xs.drop ((i+1)*4))
 rw [<-hnews]at a1 a2 hlen;obtain⟨W1,hW1⟩:=wY (w.drew.setCells g (i*4) news)
 rw [<-hW1]at a1 a2;have hr:=Rd.of_own h;have HC:=sqH (show ∀k u,xs[k]?=aG u->w.drew.cell? ⟨g,k,aF⟩=aG u from fun k u hu=>by
  refine Arr.cell hA.drew ?_;rw [<-hct,List.getElem?_take]at hu;split at hu
  ·exact hu
  ·cases hu)
 obtain⟨A,hAd,hsrc⟩:∃A:Addr,(if cap=i+1 then aG (⟨g,0,aF⟩:Addr) else aG ⟨g,(i+1)*4,aF⟩)=aG A/\Hid (∀t u,news[t]?=aG u->w.drew.cell? (A.add t)=aG u):=by
  by_cases hce:cap=i+1
  ·refine⟨⟨g,0,aF⟩,by simp [hce],Lib.hid fun t u hu=> ?_⟩;have h0:news.length=0:=by rw [hlen,show n - (i+1)=0 by omega]
   rw [List.length_eq_zero_iff.1 h0]at hu;cases hu
  ·refine⟨⟨g,(i+1)*4,aF⟩,by simp [hce],Lib.hid fun t u hu=> ?_⟩;rw [hnews,List.getElem?_drop]at hu;have:=HC.o _ _ hu;rw [Addr.add_lit];exact this
 have s1:=sqH hlen;have s2:=sqH (show ∀u∈news,u.oneCell'=true from fun u hu=>hx u (by rw [hnews]at hu;exact List.mem_of_mem_drop hu));have s3:=sqH (show ∀t,t<news.length->(w.drew.cell? ⟨g,0+i*4+t,aF⟩).isSome=true/\w.drew.frozen? ⟨g,0+i*4+t,aF⟩=false from fun t ht=>by
  rw [hlen]at ht;have hlt:i*4+t<xs.length:=by rw [h.1];omega
  rw [Nat.zero_add,HC.o _ _ (List.getElem?_eq_getElem hlt)];exact⟨rfl,hA.drew.frozen _⟩)
 have hclr:∀ty,(Builtin.clear_ #[36] ty #[aA (aG ⟨g,(n - 1)*4,aF⟩) (n - (n - 1)) (cap - (n - 1))]).run zZZ W1= .ok (.tuple #[]) (W1.setCells g ((n - 1)*4) zs):=fun ty=>by
  rw [show n - (n - 1)=1 by omega];exact yr W1 _ _ ty _ zs underlying36 z5c hzs.symm hz1' g _ _ (fun j hj=>by
   have hk:(n - 1)*4+j<(cs.take (i*4)++news++cs.drop ((n - 1)*4)).length:=by
    simp only [List.length_append,List.length_take,List.length_drop,hcl,hlen];omega
   rw [a1.cell (List.getElem?_eq_getElem hk)];rfl) (fun j hj=>a1.frozen _)
 have hcapi:i<=cap:=wu;have hci1:i+1<=cap:=wu;have hwi:((i:Int)+1).toNat=i+1:=wu;have hp0:(0:Int)<=(i:Int)+1:=wu;have hp1:(i:Int)+1<=(n:Int):=wu;have hne:((i:Int)==(i:Int)+1)=false:=by rw [beq_eq_false_iff_ne];omega
 obtain⟨A2,HW1,HG,HL,HCL,HN,HT,HX⟩:=sqJ8 a2 hW1 (show w.grownBy (W1.setCells g ((n - 1)*4) zs) (aG g) from(show w.grownBy w.drew (aG g) from⟨rfl,rfl,rfl,Nat.le_refl _,fun _ _ _=>rfl⟩).trans (by rw [hW1];exact(qg _ _ _).trans (qg _ _ _))) hlen hcl hnews hct h.1;clear hW1 a1 a2 hct hnews hlen hzs hzs' hz1' hr hA HC hx hcl;go_enter func136,ntmps136;go_wp2_with fail;go_region_law (refine step_append_room rfl (.tmp 22) (.tmp 25) 36 rfl 120 i0 4 underlying36 hi0 hz1 g 0 i cap (by simp [Act.eval,Act.put]) A (n - (i+1)) (cap - (i+1)) news (by simp [Act.eval,Act.put]) s1.o hsrc.o s2.o wu s3.o ?_;rw [Nat.zero_add,<-HW1.o]);rw [show i+(n - (i+1))=n - 1 by omega];go_wp2_with fail;go_ret;refine⟨rfl,⟨?_,.inr ⟨g,cap,_,rfl,hbg,A2.o,wu,hcm,?_,?_⟩⟩,HG.o⟩
 ·rw [<-HN.o,List.length_append,List.length_take,HL.o,HX.o];omega
 ·simp only [List.size_toArray,List.length_append,List.length_take,List.length_drop,HL.o,hzl,HCL.o];omega
 ·have e1:xs.take (i*4)=cs.take (i*4):=by rw [<-HT.o,List.take_take,Nat.min_eq_left wu]
  rw [e1,<-HN.o,List.append_assoc,List.take_left' (by rw [List.length_append,List.length_take,HL.o,HCL.o];omega)]
theorem z09 (g i:Nat) (l:List BlobP) (base cap:Nat) (w:World) (N:am) (hi:i<l.length) (h:RwX BlobS 55 w base (aA (aG ⟨g,0,aF⟩) l.length cap) l N) :
  Calls zZZ 142 #[aA (aG ⟨g,0,aF⟩) l.length cap,aB aC i,aB aC ((i:Int)+1)] w fun e w'=>e= .returned (aA (aG ⟨g,0,aF⟩) (l.eraseIdx i).length cap) /\
   RwX BlobS 55 w' base (aA (aG ⟨g,0,aF⟩) (l.eraseIdx i).length cap) (l.eraseIdx i) N/\w.grownBy w' (aG g):=by
 obtain⟨ps,h1,h2,h3,h4⟩:=h;have hlen:(l.eraseIdx i).length=l.length - 1:=List.length_eraseIdx_of_lt hi;rw [hlen];refine(VZ g i l.length cap base (cls ps) w h3 hi h2.ones).mono ?_;rintro e w' ⟨rfl,ho,hg⟩;refine⟨rfl,⟨ps.eraseIdx i,?_,?_,?_,fun p hp b hb=>h4 p (List.mem_of_mem_eraseIdx hp) b hb⟩,hg⟩
 ·rw [<-h1,List.eraseIdx_eq_take_drop_succ,List.eraseIdx_eq_take_drop_succ,List.map_append,List.map_take,List.map_drop]
 ·exact qJ.grown (w:=w) (g:=aG g) (fun p hp=>h2 p (List.mem_of_mem_eraseIdx hp)) hg (fun p hp b hb=>h4 p (List.mem_of_mem_eraseIdx hp) b (.inl hb))
 ·rw [<-vY (s:=4) ps i h2.lens,hlen];exact ho
theorem z0a (g i:Nat) (l:List EntP) (base cap:Nat) (w:World) (N:am) (hi:i<l.length) (h:RwX EntS 120 w base (aA (aG ⟨g,0,aF⟩) l.length cap) l N) :
  Calls zZZ 136 #[aA (aG ⟨g,0,aF⟩) l.length cap,aB aC i,aB aC ((i:Int)+1)] w fun e w'=>e= .returned (aA (aG ⟨g,0,aF⟩) (l.eraseIdx i).length cap) /\
   RwX EntS 120 w' base (aA (aG ⟨g,0,aF⟩) (l.eraseIdx i).length cap) (l.eraseIdx i) N/\w.grownBy w' (aG g):=by
 obtain⟨ps,h1,h2,h3,h4⟩:=h;have hlen:(l.eraseIdx i).length=l.length - 1:=List.length_eraseIdx_of_lt hi;rw [hlen];refine(U0 g i l.length cap base (cls ps) w h3 hi h2.ones).mono ?_;rintro e w' ⟨rfl,ho,hg⟩;refine⟨rfl,⟨ps.eraseIdx i,?_,?_,?_,fun p hp b hb=>h4 p (List.mem_of_mem_eraseIdx hp) b hb⟩,hg⟩
 ·rw [<-h1,List.eraseIdx_eq_take_drop_succ,List.eraseIdx_eq_take_drop_succ,List.map_append,List.map_take,List.map_drop]
 ·exact qJ.grown (w:=w) (g:=aG g) (fun p hp=>h2 p (List.mem_of_mem_eraseIdx hp)) hg (fun p hp b hb=>h4 p (List.mem_of_mem_eraseIdx hp) b (.inl hb))
 ·rw [<-vY (s:=4) ps i h2.lens,hlen];exact ho
theorem qQ (h:hexC d=0):d.length=64:=by
 unfold hexC at h;by_cases h64:d.length=64
 ·exact h64
 ·rw [if_pos wu]at h;cases h
theorem vL {x:List PartP} (h:chk x=0):jA x:=fun p hp=>by
 obtain⟨h1,h2,h3⟩:=(zi h).2 p hp
 have e1:=kB h1
 have e2:=qQ h2
 exact⟨wu,wu,wu⟩
theorem Yr (l:ai):xI (shaS l) l=0:=by
 rw [xI,zE,if_neg aa,if_neg ab]
theorem vP (A:aj) (c:Nat) (l:List BlobP) (w:World) (hg:GoodB l) (hA:Rw BlobS w A l) :
  Calls zZZ 118 #[aA A l.length c] w fun e w'=>e= .returned (aB aC 0)/\Below w.heap.size w w':=by
 have HG:=sqH hg;have hl:=hg.len;have hps:=List.pairwise_iff_getElem.1 hg.ris;have HPS:=sqH hps;clear hg hps;go_enter func118,ntmps118;go_wp2_with fail;go_loopg [11] l.length (fun gn i wr=>∃j:Nat,gn=l.length - j/\i= aB aC j/\j<=l.length/\Below w.heap.size w wr)
 case atStart=>exact⟨0,rfl,rfl,wu,Below.refl _ _⟩
 case round =>
  obtain⟨j,hgk,rfl,hj,hbl⟩:=hrel;have HGK:=sqH hgk;clear hgk;by_cases hlt:j<l.length
  ·have hcc:decide (j<l.length)=true:=decide_eq_true hlt;have hA2:=hA.below hbl;obtain⟨b,off,B,cb,rfl,hbb,c0,c1,c2,c3,hs⟩:=hA2.blob_at j hlt;have hj0:=we j
   have hj1:(j:Int)<(l.length:Int):=wu;have HG1:=sqH (HG.o.one l[j] (List.getElem_mem hlt));have hprev:0<j->∃q:ai,Op.bytesLess q l[j].dig=true/\wr.cell? ⟨b,off+(j - 1)*4,aF⟩=aG (aD ⟨q.toArray⟩):=fun h0=>by
    obtain⟨b',off',B',cb',e1,_,d0,_⟩:=hA2.blob_at (j - 1) wu
    cases e1
    exact⟨_,HPS.o (j - 1) j wu hlt wu,d0⟩
   generalize l[j]=x at *
   obtain⟨sx,hsx⟩:=wY (⟨x.dig.toArray⟩:ByteArray)
   rw [<-hsx]at c0;have HSX:=sqH hsx;have HSL:=sqH (show sx.data.toList=x.dig by rw [hsx]);clear hsx hA2;have hX:Arr (wr.alloc (aE #[aD sx,aA B x.data.length cb,aB aC x.aQ,(.bool x.mark)] 55)) wr.heap.size 55 [aD sx,aA B x.data.length cb,aB aC x.aQ,(.bool x.mark)]:=Arr.new wr 55 _;have hba:=ws wr (aE #[aD sx,aA B x.data.length cb,aB aC x.aQ,(.bool x.mark)] 55);have hb2:=wm hbl hba;have hs2:=hs.below hba;have hq2:0<j->∃q:ai,Op.bytesLess q x.dig=true/\(wr.alloc (aE #[aD sx,aA B x.data.length cb,aB aC x.aQ,(.bool x.mark)] 55)).cell? ⟨b,off+(j - 1)*4,aF⟩=aG (aD ⟨q.toArray⟩):=fun h0=>by
    obtain⟨q,q1,q2⟩:=hprev h0;exact⟨q,q1,(hba.cell (p:=⟨b,off+(j - 1)*4,aF⟩) hbb).trans q2⟩
   have hbb2:b<(wr.alloc (aE #[aD sx,aA B x.data.length cb,aB aC x.aQ,(.bool x.mark)] 55)).heap.size:=by simp;omega
   obtain⟨x0,x1,x2,x3⟩:=sqC4 hX;clear hprev hbl hba hs;go_wp2_with fail;generalize wr.alloc (aE #[aD sx,aA B x.data.length cb,aB aC x.aQ,(.bool x.mark)] 55)=w2 at *
   generalize wr.heap.size=gx at *
   clear c0 c1 c2 c3 x0 x1 x2 x3;obtain⟨g1,g2,g3⟩:=HG1.o;have hsz:sx.size<=140737488351232:=by
    rw [HSX.o];show(x.dig.toArray).size<=_;rw [List.size_toArray,g1,Z2];decide
   have HRT:=Up sx B x.data.length cb x.data (x.aQ:Int) x.mark w2 wu wu hsz rfl g2 hs2.cap hs2.rd;rw [HSL.o,g1,Yr]at HRT;have HRT:=sqH HRT;clear g1 g2 g3 hsz hs2;refine wZ HRT.o fun w3 hb3=>?_;dsimp only;have hb23:=wm hb2 hb3;have hX3:=hX.below hb3;clear hX hb2;by_cases h0:0<j
   ·obtain⟨q,q1,q2⟩:=hq2 h0;have hkb:decide (0<(j:Int))=true:=decide_eq_true wu;have hkc:decide ((j:Int)>0)=true:=decide_eq_true wu;have hkd:decide (0<j)=true:=decide_eq_true h0;have hm1:IntKind.i64.wrap ((j:Int) - 1)=(j:Int) - 1:=IntWalk.i64_in _ wu;have hm2:((j:Int) - 1).toNat=j - 1:=wu
    have hm3:(0:Int)<=(j:Int) - 1:=wu;have hm4:(j:Int) - 1<(l.length:Int):=wu;have hm5:(1:Int)<=(j:Int):=wu;obtain⟨sq,hsq⟩:=wY (⟨q.toArray⟩:ByteArray)
    rw [<-hsq]at q2;have q3:=(hb3.cell (p:=⟨b,off+(j - 1)*4,aF⟩) hbb2).trans q2;have l1:Op.bytesLess sx.toList sq.toList=false:=by
     rw [HSX.o,hsq,ByteArray.toList_eq,ByteArray.toList_eq];exact yC q1
    have l2:(sx.toList==sq.toList)=false:=by
     rw [HSX.o,hsq,ByteArray.toList_eq,ByteArray.toList_eq,beq_eq_false_iff_ne];exact(xf q1).symm
    have y0:=hX3.c0;clear hsq q1 q2 hq2;go_wp2_with fail;go_quiet (fail);go_wp2_with fail;go_roundg (l.length - (j+1))
    case measure=>exact wc HGK
    case rel=>exact⟨j+1,rfl,by go_num,wu,zO hb23 _⟩
   ·have hkb:decide (0<(j:Int))=false:=decide_eq_false wu;have hkc:decide ((j:Int)>0)=false:=decide_eq_false wu;have hkd:decide (0<j)=false:=decide_eq_false h0;clear hq2;go_wp2_with fail;go_quiet (fail);go_wp2_with fail;go_roundg (l.length - (j+1))
    case measure=>exact wc HGK
    case rel=>exact⟨j+1,rfl,by go_num,wu,zO hb23 _⟩
  ·obtain rfl:j=l.length:=by omega
   have hcc:decide (l.length<l.length)=false:=ab;go_wp2_with fail;go_ret;exact⟨rfl,hbl⟩
theorem xq (A:aj) (c:Nat) (l:List EntP) (w:World) (hg:GoodE l) (hA:Rw EntS w A l) :
  Calls zZZ 119 #[aA A l.length c] w fun e w'=>e= .returned (aB aC 0)/\Below w.heap.size w w':=by
 have HG:=sqH hg;have hl:=hg.len;have hps:=List.pairwise_iff_getElem.1 hg.ris;have HPS:=sqH hps;clear hg hps;go_enter func119,ntmps119;go_wp2_with fail;go_loopg [13] l.length (fun gn i wr=>∃j:Nat,gn=l.length - j/\i= aB aC j/\j<=l.length/\Below w.heap.size w wr)
 case atStart=>exact⟨0,rfl,rfl,wu,Below.refl _ _⟩
 case round =>
  obtain⟨j,hgk,rfl,hj,hbl⟩:=hrel;have HGK:=sqH hgk;clear hgk;by_cases hlt:j<l.length
  ·have hcc:decide (j<l.length)=true:=decide_eq_true hlt;have hA2:=hA.below hbl;obtain⟨b,off,B,cb,rfl,hbb,c0,c1,c2,c3,hs⟩:=hA2.ent_at j hlt;have hj0:=we j
   have hj1:(j:Int)<(l.length:Int):=wu;have HG1:=sqH (HG.o.one l[j] (List.getElem_mem hlt));have hprev:0<j->∃q:ai,Op.bytesLess q l[j].key=true/\wr.cell? ⟨b,off+(j - 1)*4,aF⟩=aG (aD ⟨q.toArray⟩):=fun h0=>by
    obtain⟨b',off',B',cb',e1,_,d0,_⟩:=hA2.ent_at (j - 1) wu
    cases e1
    exact⟨_,HPS.o (j - 1) j wu hlt wu,d0⟩
   generalize l[j]=x at *
   obtain⟨sx,hsx⟩:=wY (⟨x.key.toArray⟩:ByteArray)
   rw [<-hsx]at c0;have HSX:=sqH hsx;have HSL:=sqH (show sx.data.toList=x.key by rw [hsx]);clear hsx hA2;have hX:Arr (wr.alloc (aE #[aD sx,aA B x.aP.length cb,aB aC x.aQ,(aB aC x.aO)] 120)) wr.heap.size 120 [aD sx,aA B x.aP.length cb,aB aC x.aQ,(aB aC x.aO)]:=Arr.new wr 120 _;have hba:=ws wr (aE #[aD sx,aA B x.aP.length cb,aB aC x.aQ,(aB aC x.aO)] 120);have hb2:=wm hbl hba;have hs2:=hs.below hba;have hq2:0<j->∃q:ai,Op.bytesLess q x.key=true/\(wr.alloc (aE #[aD sx,aA B x.aP.length cb,aB aC x.aQ,(aB aC x.aO)] 120)).cell? ⟨b,off+(j - 1)*4,aF⟩=aG (aD ⟨q.toArray⟩):=fun h0=>by
    obtain⟨q,q1,q2⟩:=hprev h0;exact⟨q,q1,(hba.cell (p:=⟨b,off+(j - 1)*4,aF⟩) hbb).trans q2⟩
   have hbb2:b<(wr.alloc (aE #[aD sx,aA B x.aP.length cb,aB aC x.aQ,(aB aC x.aO)] 120)).heap.size:=by simp;omega
   obtain⟨x0,x1,x2,x3⟩:=sqC4 hX;clear hprev hbl hba hs;go_wp2_with fail;generalize wr.alloc (aE #[aD sx,aA B x.aP.length cb,aB aC x.aQ,(aB aC x.aO)] 120)=w2 at *
   generalize wr.heap.size=gx at *
   clear c0 c1 c2 c3 x0 x1 x2 x3;obtain⟨g1,g2,g3,g4⟩:=HG1.o;have hsz:sx.size<=140737488351232:=by
    have:=qQ g1;rw [HSX.o];show(x.key.toArray).size<=_;rw [List.size_toArray];omega
   have HRT:=kG sx w2 hsz;rw [HSL.o,g1]at HRT;have HRT:=sqH HRT;have hpl:=(zi g2).1;obtain⟨HPO,HG2,HPN⟩:=sqJ3 (vL g2) g2 (fun w'=>xr (x.aQ:Int) wu wu w');have st1:decide ((x.aO:Int)<0)=false:=decide_eq_false wu;have st2:decide ((x.aO:Int)>1099511627776)=false:=decide_eq_false wu;have st3:decide ((1099511627776:Int)<(x.aO:Int))=false:=decide_eq_false wu;have st4:decide (1099511627776<x.aO)=false:=decide_eq_false wu;clear g1 g2 hsz;refine wZ HRT.o fun w3 hb3=>?_;dsimp only;have hb23:=wm hb2 hb3;have hX3:=hX.below hb3;have hs3:=hs2.below hb3;have HMC:=sqH (show ∀w',Below w3.heap.size w3 w'->Calls zZZ 40 #[aA B x.aP.length cb] w' fun e w''=>e= .returned (aB aC 0)/\Below w'.heap.size w' w'' from fun w' hb=>by
    have:=yK B x.aP.length cb x.aP w' rfl hs3.cap wu HPO.o (hs3.below hb).rd
    rwa [HG2.o]at this)
   clear hX hb2 hs2 hs3;by_cases h0:0<j
   ·obtain⟨q,q1,q2⟩:=hq2 h0;have hkb:decide (0<(j:Int))=true:=decide_eq_true wu;have hkc:decide ((j:Int)>0)=true:=decide_eq_true wu;have hkd:decide (0<j)=true:=decide_eq_true h0;have hm1:IntKind.i64.wrap ((j:Int) - 1)=(j:Int) - 1:=IntWalk.i64_in _ wu;have hm2:((j:Int) - 1).toNat=j - 1:=wu
    have hm3:(0:Int)<=(j:Int) - 1:=wu;have hm4:(j:Int) - 1<(l.length:Int):=wu;have hm5:(1:Int)<=(j:Int):=wu;obtain⟨sq,hsq⟩:=wY (⟨q.toArray⟩:ByteArray)
    rw [<-hsq]at q2;have q3:=(hb3.cell (p:=⟨b,off+(j - 1)*4,aF⟩) hbb2).trans q2;have l1:Op.bytesLess sx.toList sq.toList=false:=by
     rw [HSX.o,hsq,ByteArray.toList_eq,ByteArray.toList_eq];exact yC q1
    have l2:(sx.toList==sq.toList)=false:=by
     rw [HSX.o,hsq,ByteArray.toList_eq,ByteArray.toList_eq,beq_eq_false_iff_ne];exact(xf q1).symm
    have y0:=hX3.c0;clear hsq q1 q2 hq2;go_wp2_with fail;go_quiet (fail);have hb34:=fun n=>zO (wo w3) n;have hb24:=fun n=>zO hb23 n;have y1:=fun n=>(hX3.drewN n).c1;go_wp2_with fail;refine wZ (HMC.o _ (hb34 _)) fun w5 hb5=>?_;dsimp only;have hb25:=(hb24 _).trans (hb5.mono (hb24 _).size);have hX5:=(hX3.below (hb34 _)).below hb5;clear y1 hb34 hb24;have y2:=hX5.c2;have y3:=hX5.c3;go_wp2_with fail;refine(HPN.o w5).mono ?_;rintro e_ _ ⟨rfl,rfl⟩;dsimp only;go_wp2_with fail;go_roundg (l.length - (j+1))
    case measure=>exact wc HGK
    case rel=>exact⟨j+1,rfl,by go_num,wu,hb25⟩
   ·have hkb:decide (0<(j:Int))=false:=decide_eq_false wu;have hkc:decide ((j:Int)>0)=false:=decide_eq_false wu;have hkd:decide (0<j)=false:=decide_eq_false h0;clear hq2;go_wp2_with fail;go_quiet (fail);have hb34:=fun n=>zO (wo w3) n;have hb24:=fun n=>zO hb23 n;have y1:=fun n=>(hX3.drewN n).c1;go_wp2_with fail;refine wZ (HMC.o _ (hb34 _)) fun w5 hb5=>?_;dsimp only;have hb25:=(hb24 _).trans (hb5.mono (hb24 _).size);have hX5:=(hX3.below (hb34 _)).below hb5;clear y1 hb34 hb24;have y2:=hX5.c2;have y3:=hX5.c3;go_wp2_with fail;refine(HPN.o w5).mono ?_;rintro e_ _ ⟨rfl,rfl⟩;dsimp only;go_wp2_with fail;go_roundg (l.length - (j+1))
    case measure=>exact wc HGK
    case rel=>exact⟨j+1,rfl,by go_num,wu,hb25⟩
  ·obtain rfl:j=l.length:=by omega
   have hcc:decide (l.length<l.length)=false:=ab;go_wp2_with fail;go_ret;exact⟨rfl,hbl⟩
def qK (l:List BlobP):List PartP->Nat
 | []=>0
 | p::ps=>match l.findIdx? (fun b=>b.dig==p.dig) with
  | none=>5
  | some i=>if (match l[i]? with | some b=>b.data.length | none=>0)=p.size then qK l ps else 4
theorem Vp (hr:RisesBy f l) (hx:x∈l) (hd:f x=d):∃i,∃h:i<l.length,l.findIdx? (fun y=>f y==d)=aG i/\l[i]=x:=by
 obtain⟨i,hi,he⟩:=List.mem_iff_getElem.1 hx;refine⟨i,hi,?_,he⟩;rw [List.findIdx?_eq_some_iff_getElem];refine⟨hi,by rw [he];simp [hd],fun k hk=> ?_⟩;have:=List.pairwise_iff_getElem.1 hr k i wu hi hk;rw [he,hd]at this;simpa using xf this
theorem ZH {l:List BlobP} (hr:RisesBy (·.dig) l):∀ {ps:List PartP},Have l ps->qK l ps=0
 | [],_=>rfl
 | p::ps,h=>by
  obtain⟨b,hb,h1,h2⟩:=h p ab
  obtain⟨i,hi,h3,h4⟩:=Vp (f:=fun b:BlobP=>b.dig) hr hb h1
  rw [qK,h3]
  show(if (match l[i]? with | some b=>b.data.length | none=>0)=p.size then _ else _)=_
  rw [List.getElem?_eq_getElem hi,h4]
  show(if b.data.length=p.size then _ else _)=_
  rw [if_pos h2,ZH hr fun q hq=>h q (by simp [hq])]
theorem yF {l:List BlobP}:∀ {ps:List PartP},qK l ps=0->Have l ps
 | [],_=>fun p hp=>by cases hp
 | p::ps,h=>by
  rw [qK]at h
  cases hf:l.findIdx? (fun b=>b.dig==p.dig) with
  | none=>rw [hf]at h;cases h
  | some i =>
   rw [hf]at h
   obtain⟨hi,he,_⟩:=List.findIdx?_eq_some_iff_getElem.1 hf
   have h':(if (match l[i]? with | some b=>b.data.length | none=>0)=p.size then qK l ps else 4)=0:=h
   have h3:(if l[i].data.length=p.size then qK l ps else 4)=0:=by rw [List.getElem?_eq_getElem hi]at h';exact h'
   by_cases h2:l[i].data.length=p.size
   ·rw [if_pos h2]at h3
    intro q hq
    rcases List.mem_cons.1 hq with rfl | hq
    ·exact⟨l[i],List.getElem_mem hi,by simpa using he,h2⟩
    ·exact yF h3 q hq
   ·rw [if_neg h2]at h3;cases h3
def zJ (s:StoP) (d:ai):StoP:= { s with aI:=putB s.aI d }
def xF (s:StoP) (k:ai) (ps:List PartP):StoP:= { s with aJ:=xl s.aJ ⟨k,ps,0,s.aK+1⟩,aK:=s.aK+1 }
def kD (s:StoP) (i:Nat) (x:EntP):StoP:= { s with aJ:=s.aJ.set i { x with aO:=s.aK+1 },aK:=s.aK+1 }
def kg (s:StoP) (i:Nat) (b:BlobP) (n:Nat):StoP:= { s with aI:=s.aI.set i { b with aQ:=n } }
def ZJ (s:StoP) (i:Nat) (x:EntP) (n:Nat):StoP:= { s with aJ:=s.aJ.set i { x with aQ:=n } }
theorem Kp {l:List BlobP} {b:BlobP} (h:b∈l):b∈putB l d:=by
 unfold putB;cases l.findIdx? (fun b=>b.dig==shaS d) with
 | none=>exact(q7 _ _).mem_iff.2 (List.mem_cons_of_mem _ h)
 | some i=>exact h
theorem Yp (h:GoodS s) (hd:d.length<=300) (hl:s.aI.length<24) (hr:usd (putB s.aI d)<=s.aL):GoodS (zJ s d) :=
 ⟨Vk h.b hd hl,h.e,h.aL,hr,h.aK,fun x hx=>⟨(h.ent x hx).1,(h.ent x hx).2.mono fun b hb=>Kp hb⟩⟩
theorem Ja {l:List EntP} {x y:EntP} (h:y∈xl l x):y∈l\/(y.key=x.key/\y.aP=x.aP/\y.aO=x.aO/\(y.aQ=x.aQ\/∃z∈l,z.key=x.key/\y.aQ=z.aQ)):=by
 unfold xl at h;cases hf:l.findIdx? (fun y=>y.key==x.key) with
 | none =>
  rw [hf]at h;rcases List.mem_cons.1 ((q7 _ _).mem_iff.1 h) with h | h
  ·subst h;exact .inr ⟨rfl,rfl,rfl,.inl rfl⟩
  ·exact .inl h
 | some i =>
  rw [hf]at h;obtain⟨hi,he,_⟩:=List.findIdx?_eq_some_iff_getElem.1 hf;have h':y∈l.set i { x with aQ:=(match l[i]? with | some y=>y.aQ | none=>0) }:=h;rw [List.getElem?_eq_getElem hi]at h';rcases List.mem_or_eq_of_mem_set h' with h | h
  ·exact .inl h
  ·subst h;exact .inr ⟨rfl,rfl,rfl,.inr ⟨l[i],List.getElem_mem hi,by simpa using he,rfl⟩⟩
theorem ja {k:ai} {ps:List PartP} (h:GoodS s) (hk:hexC k=0) (hp:chk ps=0) (hh:Have s.aI ps) (hc:s.aK<1099511627776) (hl:s.aJ.length<10):GoodS (xF s k ps):=by
 refine⟨h.b,ZV h.e ⟨hk,hp,by show 0<=5;omega,by show s.aK+1<=_;omega⟩ hl,h.aL,h.used,by show s.aK+1<=_;omega,fun x hx=> ?_⟩;rcases Ja hx with h1 | ⟨h1,h2,h3,_⟩
 ·have:=h.ent x h1;exact⟨by show x.aO<=s.aK+1;omega,this.2⟩
 ·exact⟨by rw [h3];exact Nat.le_refl _,by rw [h2];exact hh⟩
theorem ZC {l:List EntP} {x:EntP} (h:GoodE l) (hi:i<l.length) (hk:x.key=l[i].key) (hx:GoodE1 x):GoodE (l.set i x) :=
 ⟨by rw [List.length_set];exact h.len,fun y hy=>(List.mem_or_eq_of_mem_set hy).elim (h.one y) (fun e=>e▸hx),ZX h.ris hi hk⟩
theorem ZB (h:GoodS s) (hi:i<s.aJ.length) (hc:s.aK<1099511627776):GoodS (kD s i s.aJ[i]):=by
 have h1:=h.e.one _ (List.getElem_mem hi);have h2:=h.ent _ (List.getElem_mem hi);refine⟨h.b,ZC h.e hi rfl ⟨h1.1,h1.2.1,h1.2.2.1,by show s.aK+1<=_;omega⟩,h.aL,h.used,by show s.aK+1<=_;omega,fun x hx=> ?_⟩;rcases List.mem_or_eq_of_mem_set hx with h3 | h3
 ·have:=h.ent x h3;exact⟨by show x.aO<=s.aK+1;omega,this.2⟩
 ·subst h3;exact⟨Nat.le_refl _,h2.2⟩
theorem Qx (h:GoodS s) (hi:i<s.aJ.length) (hn:n<=5):GoodS (ZJ s i s.aJ[i] n):=by
 have h1:=h.e.one _ (List.getElem_mem hi);have h2:=h.ent _ (List.getElem_mem hi);refine⟨h.b,ZC h.e hi rfl ⟨h1.1,h1.2.1,hn,h1.2.2.2⟩,h.aL,h.used,h.aK,fun x hx=> ?_⟩;rcases List.mem_or_eq_of_mem_set hx with h3 | h3
 ·exact h.ent x h3
 ·subst h3;exact h2
theorem Jl {l:List BlobP} {x:BlobP} (hr:RisesBy (·.dig) l) (hi:i<l.length) (hk:x.dig=l[i].dig):RisesBy (·.dig) (l.set i x):=by
 have h:(l.set i x).map (·.dig)=l.map (·.dig):=by
  rw [List.map_set,hk];apply List.ext_getElem?;intro k;rw [List.getElem?_set];split
  ·rename_i e;subst e;rw [List.length_map,if_pos hi,List.getElem?_map,List.getElem?_eq_getElem hi];rfl
  ·rfl
 have h1:Rises ((l.set i x).map (·.dig)):=by rw [h];exact hr.map
 exact List.pairwise_map.1 h1
theorem Kz {β:Type} (f:α->β) (hi:i<l.length) (hk:f x=f l[i]):(l.set i x).map f=l.map f:=by
 rw [List.map_set,hk];apply List.ext_getElem?;intro k;rw [List.getElem?_set];split
 ·rename_i e;subst e;rw [List.length_map,if_pos hi,List.getElem?_map,List.getElem?_eq_getElem hi];rfl
 ·rfl
theorem Vz {x:BlobP} (h:GoodS s) (hi:i<s.aI.length) (h1:x.dig=s.aI[i].dig) (h2:x.data=s.aI[i].data) (h3:x.aQ<=5):GoodS { s with aI:=s.aI.set i x }:=by
 have g:=h.b.one _ (List.getElem_mem hi);refine⟨⟨by rw [List.length_set];exact h.b.len,fun y hy=>(List.mem_or_eq_of_mem_set hy).elim (h.b.one y) (fun e=>e▸⟨by rw [h1,h2];exact g.1,by rw [h2];exact g.2.1,h3⟩),Jl h.b.ris hi h1⟩,h.e,h.aL,?_,h.aK,fun y hy=>⟨(h.ent y hy).1,fun p hp=> ?_⟩⟩
 ·show usd (s.aI.set i x)<=_;unfold usd;rw [Kz (fun b:BlobP=>b.data.length) hi (by rw [h2])];exact h.used
 ·obtain⟨b,hb,e1,e2⟩:=(h.ent y hy).2 p hp;obtain⟨k,hk,rfl⟩:=List.mem_iff_getElem.1 hb;by_cases e:k=i
  ·subst e;exact⟨x,List.mem_iff_getElem.2 ⟨k,by rw [List.length_set];exact hk,ab⟩,by rw [h1];exact e1,by rw [h2];exact e2⟩
  ·exact⟨_,List.mem_iff_getElem.2 ⟨k,by rw [List.length_set];exact hk,List.getElem_set_ne (fun h=>e h.symm) _⟩,e1,e2⟩
theorem un (h:GoodS s) (hi:i<s.aI.length) (hn:n<=5):GoodS (kg s i s.aI[i] n):=Vz h hi rfl rfl hn
end Go.Proofs.YtcjmjaefcjcomaaGreat
