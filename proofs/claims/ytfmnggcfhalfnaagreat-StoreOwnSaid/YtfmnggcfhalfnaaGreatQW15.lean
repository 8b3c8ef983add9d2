/- Lemmas of the proof. Conditions: as stated. -/
import Derived.Test.YtfmnggcfhalfnaaGreatQW08
import Derived.Laws.CopyOwn
set_option linter.unusedVariables false
set_option linter.unusedSimpArgs false
set_option maxRecDepth 200000
set_option maxHeartbeats 2000000
namespace Go.Proofs.YtfmnggcfhalfnaaGreat
open Go.RowKit
theorem jj (w:World):Calls Tryz.prog 96 #[] w fun e w'=>e= .returned (.slice (some ⟨w.heap.size,0,none⟩) 8 8)∧Rd w' 1 (some ⟨w.heap.size,0,none⟩) 8 (wds h0s)∧Below w.heap.size w w':=by
 go_enter Tryz.func96,Tryz.ntmps96;go_wp2_with fail;go_ret;exact⟨rfl,Rd.newN (w:=w) (e:=88) (size:=1) (m:=8) (wds h0s) (by rfl),(Below.refl _ _).alloc (Nat.le_refl _) _⟩
theorem jW:(Tryz.prog.info? 118).map (·.size)=some 64:=by kernel_rfl
theorem Arr.setRow {W:World} {g:Nat} {e:TypeId} {xs:List Value} (h:Arr W g e xs) (ys:List Value):Arr (W.setRow g ys.toArray) g e ys:=setRow_heap W g _ _ _ _ h
theorem Arr.otherRow {W:World} {g g':Nat} {e:TypeId} {xs:List Value} (h:Arr W g e xs) (hne:g≠g') (ys:Array Value):Arr (W.setRow g' ys) g e xs:=(setRow_other W g' g ys hne).trans h
theorem ym (l:List W32):(wds l).toArray.all (·.oneCell')=true:=all_oneCell_toArray (yC l)
theorem uS (w:World):Calls Tryz.prog 115 #[] w fun e w'=>e= .returned (.agg (wds rks).toArray)∧Below w.heap.size w w':=by
 go_enter Tryz.func115,Tryz.ntmps115
 repeat' ((fail_if_success at_builtin);(fail_if_success at_make);(fail_if_success (with_reducible refine z8 118 ?_));(fail_if_success (with_reducible refine zf 118 ?_));(fail_if_success (with_reducible refine ze ?_));(first | go_values | go_skip | go_guarded | go_step | go_upon | go_back))
 have q0:Arr (w.alloc (.cells (wds (List.replicate 64 0)).toArray 118)) w.heap.size 118 (wds (List.replicate 64 0)):=Arr.new _ _ _;have b0:=(Below.refl _ w).alloc (Nat.le_refl _) (.cells (wds (List.replicate 64 0)).toArray 118);change wpList _ _ _ _ _ (w.alloc (.cells (wds (List.replicate 64 0)).toArray 118));refine wpList_store_mid rfl 118 (.tmp 0) (.tmp 1) rfl w.heap.size 0 (wds rks).toArray (by rfl) (by rfl) (q0.thereN (by rfl)) (by kernel_rfl) (ym rks) ?_;have q1:=q0.sets (ys:=wds rks) (by rfl);have b1:=Below.sets (Nat.le_refl w.heap.size) (wds rks) 0 _ b0;clear q0 b0;change wpList _ _ _ _ _ ((w.alloc (.cells (wds (List.replicate 64 0)).toArray 118)).setCells w.heap.size 0 (wds rks));generalize (w.alloc (.cells (wds (List.replicate 64 0)).toArray 118)).setCells w.heap.size 0 (wds rks)=w1 at *
 go_wp2_with fail;exact bodyPost_ret (results_cell_row rfl _ _ w.heap.size _ _ _ _ (by rfl) q1 Tryz.underlying118 rfl (by kernel_rfl)) rfl ⟨rfl,b1⟩
theorem xw (B:Option Addr) (d:Nat) (b:List W32) (w:World) (hb:b.length=16) (hd:16≤d) (hr:Rd w 1 B 16 (wds b)) :
  Calls Tryz.prog 116 #[.slice B 16 d] w fun e w'=>e= .returned (.agg (wds (zv b 48)).toArray)∧Below w.heap.size w w':=by
 obtain⟨bb,ob,rfl,hbb,hcb⟩:=hr.2 (by omega);have HB:=sqH hb;have HCB:=sqH hcb;clear hb hcb;go_enter Tryz.func116,Tryz.ntmps116
 repeat' ((fail_if_success at_builtin);(fail_if_success at_make);(fail_if_success (with_reducible refine z8 118 ?_));(fail_if_success (with_reducible refine zf 118 ?_));(fail_if_success (with_reducible refine ze ?_));(first | go_values | go_skip | go_guarded | go_step | go_upon | go_back))
 have q0:=(Arr.new w 118 (wds (List.replicate 64 0))).alloc (.cells (wds (List.replicate 64 0)).toArray 118);have q1:=Arr.new (w.alloc (.cells (wds (List.replicate 64 0)).toArray 118)) 118 (wds (List.replicate 64 0));have b1:=((Below.refl _ w).alloc (Nat.le_refl _) (.cells (wds (List.replicate 64 0)).toArray 118)).alloc (by simp) (.cells (wds (List.replicate 64 0)).toArray 118);have r1:=(hr.alloc (.cells (wds (List.replicate 64 0)).toArray 118)).alloc (.cells (wds (List.replicate 64 0)).toArray 118);change wpList _ _ _ _ _ ((w.alloc (.cells (wds (List.replicate 64 0)).toArray 118)).alloc (.cells (wds (List.replicate 64 0)).toArray 118));rw [World.size_alloc]at q1;generalize ((w.alloc (.cells (wds (List.replicate 64 0)).toArray 118)).alloc (.cells (wds (List.replicate 64 0)).toArray 118))=w1 at *
 generalize hg0:w.heap.size=g0 at *
 generalize hg1:g0+1=g1 at *
 have hbb':bb<g0:=hbb;have ne0:g0≠g1:=by omega
 have hge:w.heap.size≤g1:=by omega
 obtain⟨b',o',e',_,hcb'⟩:=r1.2 (by omega);cases e'
 refine wpList_copy_own rfl (.tmp 9) (.tmp 10) 90 90 rfl 88 Tryz.underlying90 (by kernel_rfl) g1 0 64 64 ⟨bb,ob,none⟩ 16 d (by rfl) (by rfl) _ _ q1 (wds b) (by rw [zn,HB.out];rfl) (fun j v hj=>by rw [Addr.add_mid];exact hcb' j v hj) (by rw [zn,HB.out];decide) (yC b) ?_;have q2:Arr (w1.setRow g1 (((wds (List.replicate 64 0)).toArray.toList.take 0)++(wds b++((wds (List.replicate 64 0)).toArray.toList.drop (0+(wds b).length)))).toArray) g1 118 (wds (zv b (16 - 16)++List.replicate (64 - 16) 0)):=by
  have h:=q1.setRow (((wds (List.replicate 64 0)).toArray.toList.take 0)++(wds b++((wds (List.replicate 64 0)).toArray.toList.drop (0+(wds b).length))));have e:wds (zv b (16 - 16)++List.replicate (64 - 16) 0)=(((wds (List.replicate 64 0)).toArray.toList.take 0)++(wds b++((wds (List.replicate 64 0)).toArray.toList.drop (0+(wds b).length)))):=by
   rw [zn,HB.out];simp only [Nat.sub_self,zv,wds,List.map_append];rfl
  rw [e];exact h
 have p0:=q0.otherRow ne0 (((wds (List.replicate 64 0)).toArray.toList.take 0)++(wds b++((wds (List.replicate 64 0)).toArray.toList.drop (0+(wds b).length)))).toArray;have b2:=below_setRow (g:=g1) b1 (show g0≤g1 by omega) (((wds (List.replicate 64 0)).toArray.toList.take 0)++(wds b++((wds (List.replicate 64 0)).toArray.toList.drop (0+(wds b).length)))).toArray;generalize w1.setRow g1 (((wds (List.replicate 64 0)).toArray.toList.take 0)++(wds b++((wds (List.replicate 64 0)).toArray.toList.drop (0+(wds b).length)))).toArray=w2 at *
 rw [zn,HB.out];have hWl:=HB.out;clear q0 q1 b1 r1 hcb' hr
 repeat' ((fail_if_success at_builtin);(fail_if_success at_make);(fail_if_success (with_reducible refine z8 118 ?_));(fail_if_success (with_reducible refine zf 118 ?_));(fail_if_success (with_reducible refine ze ?_));(first | go_values | go_skip | go_guarded | go_step | go_upon | go_back))
 go_loopg [4] 48 (fun gn i wr=>∃t:Nat,gn=64 - t∧i= .int .i64 t∧16≤t∧t≤64∧Arr wr g0 118 (wds (List.replicate 64 0))∧Arr wr g1 118 (wds (zv b (t - 16)++List.replicate (64 - t) 0))∧Below g0 w wr)
 case atStart=>exact⟨16,rfl,rfl,by omega,by omega,p0,q2,b2⟩
 case round =>
  clear p0 q2 b2;obtain⟨t,hgt,rfl,ht0,ht,q0,q1,hbel⟩:=hrel;have HGT:=sqH hgt;clear hgt;by_cases hlt2:t<64
  ·have hLl:(zv b (t - 16)).length=t:=by rw [zT,hWl];omega
   have hnx:=kZ _ t hLl ht0;have hss:zv b (t+1 - 16)=zv b (t - 16)++ [qA (zv b (t - 16))]:=by rw [show t+1 - 16=(t - 16)+1 by omega];rfl
   have HSS:=sqH hss;clear hss hWl;generalize zv b (t - 16)=L at *
   have hcl:∀j (hj:j<L.length),wr.cell? ⟨g1,j,none⟩=some (.int .u32 (wd L[j])):=fun j hj=>q1.cell (by rw [qo _ _ (by rw [List.length_append];omega),List.getElem_append_left hj]);have c1:=hcl (t - 16) (by omega);have c2:=hcl (t - 15) (by omega);have c3:=hcl (t - 7) (by omega);have c4:=hcl (t - 2) (by omega);clear hcl;generalize L[t - 16]=x1 at *
   generalize L[t - 15]=x2 at *
   generalize L[t - 7]=x3 at *
   generalize L[t - 2]=x4 at *
   have HNX:=sqH hnx;have HLL:=sqH hLl;clear hnx hLl;have j1:((t:Int) - 16).toNat=t - 16:=by omega
   have j2:((t:Int) - 15).toNat=t - 15:=by omega
   have j3:((t:Int) - 7).toNat=t - 7:=by omega
   have j4:((t:Int) - 2).toNat=t - 2:=by omega
   have k1:(0:Int)≤(t:Int) - 16:=by omega
   have k2:(0:Int)≤(t:Int) - 15:=by omega
   have k3:(0:Int)≤(t:Int) - 7:=by omega
   have k4:(0:Int)≤(t:Int) - 2:=by omega
   have l1:(t:Int) - 16<64:=by omega
   have l2:(t:Int) - 15<64:=by omega
   have l3:(t:Int) - 7<64:=by omega
   have l4:(t:Int) - 2<64:=by omega
   have n1:(16:Int)≤(t:Int):=by omega
   have n2:(15:Int)≤(t:Int):=by omega
   have n3:(7:Int)≤(t:Int):=by omega
   have n4:(2:Int)≤(t:Int):=by omega
   have m1:IntKind.i64.wrap ((t:Int) - 16)=(t:Int) - 16:=by rw [IntKind.wrap_i64];omega
   have m2:IntKind.i64.wrap ((t:Int) - 15)=(t:Int) - 15:=by rw [IntKind.wrap_i64];omega
   have m3:IntKind.i64.wrap ((t:Int) - 7)=(t:Int) - 7:=by rw [IntKind.wrap_i64];omega
   have m4:IntKind.i64.wrap ((t:Int) - 2)=(t:Int) - 2:=by rw [IntKind.wrap_i64];omega
   have i4:(t:Int)<64:=by omega
   have i5:decide ((t:Int)<64)=true:=by simpa using i4
   repeat' ((fail_if_success at_builtin);(fail_if_success at_make);(fail_if_success (with_reducible refine z8 118 ?_));(fail_if_success (with_reducible refine zf 118 ?_));(fail_if_success (with_reducible refine ze ?_));(first | go_values | go_skip | go_guarded | go_step | go_upon | go_back))
   refine(xF x2 2 2 rfl _ (by omega)).mono ?_;rintro e_ w_ ⟨rfl,nk1,rfl⟩;dsimp only
   repeat' ((fail_if_success at_builtin);(fail_if_success at_make);(fail_if_success (with_reducible refine z8 118 ?_));(fail_if_success (with_reducible refine zf 118 ?_));(fail_if_success (with_reducible refine ze ?_));(first | go_values | go_skip | go_guarded | go_step | go_upon | go_back))
   refine(xF x4 3 3 rfl _ (by omega)).mono ?_;rintro e_ w_ ⟨rfl,nk2,rfl⟩;dsimp only
   repeat' ((fail_if_success at_builtin);(fail_if_success at_make);(fail_if_success (with_reducible refine z8 118 ?_));(fail_if_success (with_reducible refine zf 118 ?_));(fail_if_success (with_reducible refine ze ?_));(first | go_values | go_skip | go_guarded | go_step | go_upon | go_back))
   have hb2:=zk hbel (nk1+nk2);have q0':=q0.drewN (nk1+nk2);have q1':=q1.drewN (nk1+nk2);have d1:(wr.drewN (nk1+nk2)).cell? ⟨g1,t - 16,none⟩=_:=c1;have d3:(wr.drewN (nk1+nk2)).cell? ⟨g1,t - 7,none⟩=_:=c3;clear c1 c2 c3 c4 q0 q1 hbel;generalize wr.drewN (nk1+nk2)=wz at *
   go_still_tail 15,(by kernel_rfl)
   change wpList _ _ _ _ _ wz.drew;simp only [vz];rw [←HNX.out];have hc5:∃v,wz.drew.cell? ⟨g1,t,none⟩=some v:=⟨_,q1'.cell (k:=t) (by rw [qo _ _ (by rw [List.length_append,List.length_replicate];have:=HLL.out;omega)])⟩
   obtain⟨v5,hc5⟩:=hc5;have hf5:wz.drew.frozen? ⟨g1,t,none⟩=false:=q1'.frozen t;have hs5:=q1'.set (k:=t) (by rw [zn,List.length_append,List.length_replicate];have:=HLL.out;omega) (.int .u32 (wd (qA L)));rw [kF,Qe L t HLL.out (by omega),←HSS.out]at hs5;have HS5:=sqH hs5;clear hs5 q1' j1 j2 j3 j4 m1 m2 m3 m4
   repeat' ((fail_if_success at_builtin);(fail_if_success at_make);(fail_if_success (with_reducible refine z8 118 ?_));(fail_if_success (with_reducible refine zf 118 ?_));(fail_if_success (with_reducible refine ze ?_));(first | go_values | go_skip | go_guarded | go_step | go_upon | go_back))
   go_roundg (64 - (t+1))
   case measure=>have:=HGT.out;omega
   case rel=>exact⟨t+1,rfl,by go_num,by omega,by omega,q0'.other ne0 _,HS5.out,Below.setCell hb2.drew (show g0≤g1 by omega) _⟩
  ·obtain rfl:t=64:=by omega
   rw [List.replicate_zero,List.append_nil,show 64 - 16=48 from rfl]at q1;have hsl:(zv b 48).length=64:=by rw [zT,hWl]
   generalize hS:zv b 48=S at *
   have HS:=sqH hS;clear hS hWl
   repeat' ((fail_if_success at_builtin);(fail_if_success at_make);(fail_if_success (with_reducible refine z8 118 ?_));(fail_if_success (with_reducible refine zf 118 ?_));(fail_if_success (with_reducible refine ze ?_));(first | go_values | go_skip | go_guarded | go_step | go_upon | go_back))
   have hi64:=jW;refine wpList_load_row rfl 118 (.tmp 3) rfl g1 (by rfl) _ _ _ _ q1 Tryz.underlying118 rfl (by rw [hi64];simp [zn,hsl]) ?_;refine wpList_store_mid rfl 118 (.tmp 2) (.tmp 47) rfl g0 0 (wds S).toArray (by rfl) (by rfl) (q0.thereN (by simp [zn,hsl])) (by rw [hi64];simp [zn,hsl]) (ym S) ?_;have p0:=q0.sets (ys:=wds S) (by simp [zn,hsl]);have b2:=Below.sets (show g0≤g0 from Nat.le_refl _) (wds S) 0 _ hbel;change wpList _ _ _ _ _ (wr.setCells g0 0 (wds S));clear q0 q1 hbel;generalize wr.setCells g0 0 (wds S)=wz at *
   repeat' ((fail_if_success at_builtin);(fail_if_success at_make);(fail_if_success (with_reducible refine z8 118 ?_));(fail_if_success (with_reducible refine zf 118 ?_));(fail_if_success (with_reducible refine ze ?_));(first | go_values | go_skip | go_guarded | go_step | go_upon | go_back))
   refine bodyPost_ret (results_cell_row rfl _ _ g0 _ _ _ _ (by rfl) p0 Tryz.underlying118 rfl (by rw [hi64];simp [zn,hsl])) rfl ⟨?_,?_⟩
   ·rw [HS.out]
   ·rw [hg0];exact b2
end Go.Proofs.YtfmnggcfhalfnaaGreat
namespace Go.Proofs.YtfmnggcfhalfnaaGreat
open Go.RowKit
theorem j8 (x y z:W32) (w:World):Calls Tryz.prog 118 #[.int .u32 (wd x),.int .u32 (wd y),.int .u32 (wd z)] w fun e w'=>e= .returned (.int .u32 (wd (jT x y z)))∧w'=w:=by
 go_enter Tryz.func118,Tryz.ntmps118;go_wp2_with fail;go_ret;rw [uj];simp only [show(if IntKind.u32.signed=true then (-1:Int) else IntKind.u32.max)=IntKind.u32.max from if_neg (by decide),zP,zQ,kO];exact⟨rfl,trivial⟩
theorem ZJ (x y z:W32) (w:World):Calls Tryz.prog 119 #[.int .u32 (wd x),.int .u32 (wd y),.int .u32 (wd z)] w fun e w'=>e= .returned (.int .u32 (wd (yV x y z)))∧w'=w:=by
 go_enter Tryz.func119,Tryz.ntmps119;go_wp2_with fail;go_ret;rw [jx];simp only [zP,zQ];exact⟨rfl,trivial⟩
theorem uJ {w:World} {base n:Nat} {e:TypeId} {v:Value} {xs:List Value} (h:w.ownsRow base e 1 v n xs) (h0:0<n):∃g cap rest,v= .slice (some ⟨g,0,none⟩) n cap∧base≤g∧n≤cap∧cap≤maxLen∧Arr w g e (xs++rest):=by
 rcases h.2 with ⟨_,h1⟩ | ⟨g,cap,cur,hv,hb,hg,hnc,hcm,hcs,htake⟩
 ·omega
 ·refine⟨g,cap,cur.toList.drop n,hv,hb,hnc,hcm,?_⟩;rw [Nat.mul_one]at htake;unfold Arr;rw [←htake,List.take_append_drop];simpa using hg
theorem Arr.rd {W:World} {g:Nat} {e:TypeId} {xs rest:List Value} (h:Arr W g e (xs++rest)) (n:Nat) (hn:xs.length=n):Rd W 1 (some ⟨g,0,none⟩) n xs :=
 ⟨by omega,fun _=>⟨g,0,rfl,h.lt,fun j u hj=>by
  rw [Nat.zero_add]
  exact h.cell (by rw [List.getElem?_append_left (List.getElem?_eq_some_iff.1 hj).1];exact hj)⟩⟩
theorem jH (h b:List W32) (hh:h.length=8):List.zipWith (· + ·) h (kT (zv b 48) h 64)=qS h b:=by
 unfold qS;rw [List.zipWith_comm]
 congr 1
 funext a b
 exact BitVec.add_comm _ _
theorem Zd (A:Option Addr) (c:Nat) (h:List W32) (B:Option Addr) (d:Nat) (b:List W32) (w:World) (hh:h.length=8) (hc:8≤c) (hr:Rd w 1 A 8 (wds h)) (hb:b.length=16) (hd:16≤d) (hr':Rd w 1 B 16 (wds b)) :
  Calls Tryz.prog 97 #[.slice A 8 c,.slice B 16 d] w fun e w'=>∃g' c',e= .returned (.tuple #[.slice (some ⟨g',0,none⟩) 8 c',.int .i64 0])∧8≤c'∧Rd w' 1 (some ⟨g',0,none⟩) 8 (wds (qS h b))∧Below w.heap.size w w':=by
 have HHL:=sqH hh;have HBL:=sqH hb;clear hh hb;go_enter Tryz.func97,Tryz.ntmps97
 repeat' ((fail_if_success at_builtin);(fail_if_success at_make);(fail_if_success (with_reducible refine z8 118 ?_));(fail_if_success (with_reducible refine zf 118 ?_));(fail_if_success (with_reducible refine ze ?_));(first | go_values | go_skip | go_guarded | go_step | go_upon | go_back))
 refine(uS _).mono ?_;rintro e_ w1 ⟨rfl,hb1⟩;dsimp only
 repeat' ((fail_if_success at_builtin);(fail_if_success at_make);(fail_if_success (with_reducible refine z8 118 ?_));(fail_if_success (with_reducible refine zf 118 ?_));(fail_if_success (with_reducible refine ze ?_));(first | go_values | go_skip | go_guarded | go_step | go_upon | go_back))
 refine(xw _ _ b _ HBL.out hd (hr'.below hb1)).mono ?_;rintro e_ w2 ⟨rfl,hb2⟩;dsimp only;have hb3:=hb1.trans (hb2.mono hb1.size);have hWl:(zv b 48).length=64:=by rw [zT,HBL.out]
 generalize hW:zv b 48=W at *
 have HW:=sqH hW;have HWL:=sqH hWl;clear hW hWl
 repeat' ((fail_if_success at_builtin);(fail_if_success at_make);(fail_if_success (with_reducible refine z8 118 ?_));(fail_if_success (with_reducible refine zf 118 ?_));(fail_if_success (with_reducible refine ze ?_));(first | go_values | go_skip | go_guarded | go_step | go_upon | go_back))
 have q0:=(Arr.new w2 118 (wds (List.replicate 64 0))).alloc (.cells (wds (List.replicate 64 0)).toArray 118);have q1:=Arr.new (w2.alloc (.cells (wds (List.replicate 64 0)).toArray 118)) 118 (wds (List.replicate 64 0));have b1:=(hb3.alloc hb3.size (.cells (wds (List.replicate 64 0)).toArray 118)).alloc (by have:=hb3.size;simp;omega) (.cells (wds (List.replicate 64 0)).toArray 118);change wpList _ _ _ _ _ ((w2.alloc (.cells (wds (List.replicate 64 0)).toArray 118)).alloc (.cells (wds (List.replicate 64 0)).toArray 118));rw [World.size_alloc]at q1;have hsz:=hb3.size;generalize ((w2.alloc (.cells (wds (List.replicate 64 0)).toArray 118)).alloc (.cells (wds (List.replicate 64 0)).toArray 118))=w3 at *
 generalize hg0:w2.heap.size=g0 at *
 generalize hg1:g0+1=g1 at *
 have ne01:g0≠g1:=by omega
 refine wpList_store_mid rfl 118 (.tmp 6) (.tmp 25) rfl g0 0 (wds rks).toArray (by rfl) (by rfl) (q0.thereN (by rfl)) (by kernel_rfl) (ym rks) ?_;have p0:=q0.sets (ys:=wds rks) (by rfl);have p1:=q1.otherSets (g':=g0) (by omega) (wds rks) 0;have b2:=Below.sets (show w.heap.size≤g0 by omega) (wds rks) 0 _ b1;have hs1:=b1.size;change wpList _ _ _ _ _ (w3.setCells g0 0 (wds rks));clear q0 q1 b1;generalize w3.setCells g0 0 (wds rks)=w4 at *
 refine wpList_store_mid rfl 118 (.tmp 7) (.tmp 27) rfl g1 0 (wds W).toArray (by rfl) (by rfl) (p1.thereN (by simp [zn,HWL.out])) (by rw [jW];simp [zn,HWL.out]) (ym W) ?_;have q1:=p1.sets (ys:=wds W) (by simp [zn,HWL.out]);have q0:=p0.otherSets (g':=g1) (by omega) (wds W) 0;have b3:=Below.sets (show w.heap.size≤g1 by omega) (wds W) 0 _ b2;change wpList _ _ _ _ _ (w4.setCells g1 0 (wds W));clear p0 p1 b2;generalize w4.setCells g1 0 (wds W)=w5 at *
 repeat' ((fail_if_success at_builtin);(fail_if_success at_make);(fail_if_success (with_reducible refine z8 118 ?_));(fail_if_success (with_reducible refine zf 118 ?_));(fail_if_success (with_reducible refine ze ?_));(first | go_values | go_skip | go_guarded | go_step | go_upon | go_back))
 refine zq rfl (.const (.slice none 0 0)) (.tmp 28) rfl Zk (by rfl) (World.ownsRow_nil w5 w5.heap.size _ _) (by rfl) (hr.below b3) (yC _) (by omega) (Nat.le_refl _) ?_;intro v6 w6 ho6 hg6 _;have hb6:=zc (Below.refl _ _) (World.ownsRow_nil w5 w5.heap.size 88 1) (Nat.le_refl _) hg6;rw [List.nil_append,Nat.zero_add]at ho6;obtain⟨gv,cap,rest,rfl,hgv,hcap,hcm,qv⟩:=uJ ho6 (by omega);have r0:=q0.below hb6;have r1:=q1.below hb6;have b6:=b3.trans (hb6.mono b3.size);have hlt0:=q0.lt;have hlt1:=q1.lt;have nev0:g0≠gv:=by omega
 have nev1:g1≠gv:=by omega
 have hvb:w.heap.size≤gv:=by have:=b3.size;omega
 have hcap1:¬cap=1:=by omega
 have hcmi:(cap:Int)≤9223372036854775807:=by unfold maxLen at hcm;omega
 have hcapi:(8:Int)≤(cap:Int):=by omega
 have hcap7i:(7:Int)≤(cap:Int):=by omega
 have hcap7:7≤cap:=by omega
 have rv:Arr w6 gv 88 (wds (kT W h 0)++rest):=qv;clear q0 q1 b3 hb6 hg6 ho6 qv hcm
 repeat' ((fail_if_success at_builtin);(fail_if_success at_make);(fail_if_success (with_reducible refine z8 118 ?_));(fail_if_success (with_reducible refine zf 118 ?_));(fail_if_success (with_reducible refine ze ?_));(first | go_values | go_skip | go_guarded | go_step | go_upon | go_back))
 go_loopg [30] 64 (fun gn i wr=>∃t:Nat,gn=64 - t∧i= .int .i64 t∧t≤64∧Arr wr g0 118 (wds rks)∧Arr wr g1 118 (wds W)∧Arr wr gv 88 (wds (kT W h t)++rest)∧Below w.heap.size w wr)
 case atStart=>exact⟨0,rfl,rfl,by omega,r0,r1,rv,b6⟩
 case round =>
  clear r0 r1 rv b6;obtain⟨t,hgt,rfl,ht,r0,r1,rv,hbel⟩:=hrel;have HGT:=sqH hgt;clear hgt;by_cases hlt:t<64
  ·obtain⟨v0,v1,v2,v3,v4,v5,v6,v7,kt,wt,hv,hkt,hwt,hnx⟩:=kU W h HHL.out t hlt HWL.out;rw [hv]at rv;have HNX:=sqH hnx;have hck:=r0.cell hkt;have hcw:=r1.cell hwt;clear hv hkt hwt hnx;have f0:=rv.cell (k:=0) rfl;have f4:=rv.cell (k:=4) rfl;have i1:(t:Int)<64:=by omega
   have i2:(0:Int)≤(t:Int):=by omega
   have i5:decide ((t:Int)<64)=true:=by simpa using i1
   repeat' ((fail_if_success at_builtin);(fail_if_success at_make);(fail_if_success (with_reducible refine z8 118 ?_));(fail_if_success (with_reducible refine zf 118 ?_));(fail_if_success (with_reducible refine ze ?_));(first | go_values | go_skip | go_guarded | go_step | go_upon | go_back))
   refine(xF v4 1 1 rfl _ (by omega)).mono ?_;rintro e_ w_ ⟨rfl,nk1,rfl⟩;dsimp only
   repeat' ((fail_if_success at_builtin);(fail_if_success at_make);(fail_if_success (with_reducible refine z8 118 ?_));(fail_if_success (with_reducible refine zf 118 ?_));(fail_if_success (with_reducible refine ze ?_));(first | go_values | go_skip | go_guarded | go_step | go_upon | go_back))
   refine(xF v0 0 0 rfl _ (by omega)).mono ?_;rintro e_ w_ ⟨rfl,nk2,rfl⟩;dsimp only
   repeat' ((fail_if_success at_builtin);(fail_if_success at_make);(fail_if_success (with_reducible refine z8 118 ?_));(fail_if_success (with_reducible refine zf 118 ?_));(fail_if_success (with_reducible refine ze ?_));(first | go_values | go_skip | go_guarded | go_step | go_upon | go_back))
   have p0:=r0.drewN (nk1+nk2);have p1:=r1.drewN (nk1+nk2);have pv:=rv.drewN (nk1+nk2);have pb:=zk hbel (nk1+nk2);have dk:(wr.drewN (nk1+nk2)).cell? ⟨g0,t,none⟩=_:=hck;have dw:(wr.drewN (nk1+nk2)).cell? ⟨g1,t,none⟩=_:=hcw;clear r0 r1 rv hbel hck hcw f0 f4;generalize wr.drewN (nk1+nk2)=wz at *
   have f4:=pv.cell (k:=4) rfl;have f5:=pv.cell (k:=5) rfl;have f6:=pv.cell (k:=6) rfl;have f7:=pv.cell (k:=7) rfl;go_quiet ((go_at_call 118;exact Calls.quiet_of_same (j8 _ _ _ _)));rw [Qc];have r0:=p0.drewN nq;have r1:=p1.drewN nq;have rv:=pv.drewN nq;have rb:=zk pb nq;clear p0 p1 pv pb dk dw f4 f5 f6 f7;generalize wz.drewN nq=wx at *
   obtain⟨f0,f1,f2⟩:=sqC3 rv;generalize hone:v7+q9 v4 1+jT v4 v5 v6+kt+wt=one at *
   have HONE:=sqH hone;clear hone
   repeat' ((fail_if_success at_builtin);(fail_if_success at_make);(fail_if_success (with_reducible refine z8 118 ?_));(fail_if_success (with_reducible refine zf 118 ?_));(fail_if_success (with_reducible refine ze ?_));(first | go_values | go_skip | go_guarded | go_step | go_upon | go_back))
   go_quiet ((go_at_call 119;exact Calls.quiet_of_same (ZJ _ _ _ _)))
   first | rw [ZE] | rw [vz]
   generalize htwo:q9 v0 0+yV v0 v1 v2=two at *
   have HTWO:=sqH htwo;clear htwo;have s0:=r0.drewN nq;have s1:=r1.drewN nq;have sv:=rv.drewN nq;have sb:=zk rb nq;clear r0 r1 rv rb f0 f1 f2;generalize wx.drewN nq=wv at *
   repeat' ((fail_if_success at_builtin);(fail_if_success at_make);(fail_if_success (with_reducible refine z8 118 ?_));(fail_if_success (with_reducible refine zf 118 ?_));(fail_if_success (with_reducible refine ze ?_));(first | go_values | go_skip | go_guarded | go_step | go_upon | go_back))
   go_still_tail 4,(by kernel_rfl)
   change wpList _ _ _ _ _ wv.drew;refine wpList_copy_own rfl (.tmp 84) (.tmp 86) 90 90 rfl 88 Tryz.underlying90 (by kernel_rfl) gv 1 7 (cap - 1) ⟨gv,0,none⟩ 7 cap (by rfl) (by rfl) _ _ (sv.drew) (wds [v0,v1,v2,v3,v4,v5,v6]) (by rfl) (fun j v hj=>by rw [Addr.add_mid,Nat.zero_add];exact sv.drew.cell (by rw [show wds [v0,v1,v2,v3,v4,v5,v6,v7]++rest=wds [v0,v1,v2,v3,v4,v5,v6]++(wds [v7]++rest) from rfl,List.getElem?_append_left (List.getElem?_eq_some_iff.1 hj).1];exact hj)) (by simp [wds]<;>omega) (yC _) ?_;have t0:=(s0.drew).otherRow nev0 (((wds [v0,v1,v2,v3,v4,v5,v6,v7]++rest).toArray.toList.take 1)++(wds [v0,v1,v2,v3,v4,v5,v6]++((wds [v0,v1,v2,v3,v4,v5,v6,v7]++rest).toArray.toList.drop (1+(wds [v0,v1,v2,v3,v4,v5,v6]).length)))).toArray;have t1:=(s1.drew).otherRow nev1 (((wds [v0,v1,v2,v3,v4,v5,v6,v7]++rest).toArray.toList.take 1)++(wds [v0,v1,v2,v3,v4,v5,v6]++((wds [v0,v1,v2,v3,v4,v5,v6,v7]++rest).toArray.toList.drop (1+(wds [v0,v1,v2,v3,v4,v5,v6]).length)))).toArray;have tv:Arr (wv.drew.setRow gv (((wds [v0,v1,v2,v3,v4,v5,v6,v7]++rest).toArray.toList.take 1)++(wds [v0,v1,v2,v3,v4,v5,v6]++((wds [v0,v1,v2,v3,v4,v5,v6,v7]++rest).toArray.toList.drop (1+(wds [v0,v1,v2,v3,v4,v5,v6]).length)))).toArray) gv 88 (wds [v0,v0,v1,v2,v3,v4,v5,v6]++rest):=(sv.drew).setRow _;have tb:=below_setRow sb.drew hvb (((wds [v0,v1,v2,v3,v4,v5,v6,v7]++rest).toArray.toList.take 1)++(wds [v0,v1,v2,v3,v4,v5,v6]++((wds [v0,v1,v2,v3,v4,v5,v6,v7]++rest).toArray.toList.drop (1+(wds [v0,v1,v2,v3,v4,v5,v6]).length)))).toArray;clear s0 s1 sv sb;generalize wv.drew.setRow gv (((wds [v0,v1,v2,v3,v4,v5,v6,v7]++rest).toArray.toList.take 1)++(wds [v0,v1,v2,v3,v4,v5,v6]++((wds [v0,v1,v2,v3,v4,v5,v6,v7]++rest).toArray.toList.drop (1+(wds [v0,v1,v2,v3,v4,v5,v6]).length)))).toArray=wt at *
   have f4:=tv.cell (k:=4) rfl;have f0:=tv.cell (k:=0) rfl;have z:=tv.frozen
   repeat' ((fail_if_success at_builtin);(fail_if_success at_make);(fail_if_success (with_reducible refine z8 118 ?_));(fail_if_success (with_reducible refine zf 118 ?_));(fail_if_success (with_reducible refine ze ?_));(first | go_values | go_skip | go_guarded | go_step | go_upon | go_back))
   have u3:=(tv.set (k:=4) (by simp [wds]) (.int .u32 (wd (v3+one)))).set (k:=0) (by simp [wds]) (.int .u32 (wd (one+two)));have hrn:kT W h (t+1)= [one+two,v0,v1,v2,v3+one,v4,v5,v6]:=by rw [HNX.out,←HONE.out,←HTWO.out];rfl
   simp only [ZE,vz];go_roundg (64 - (t+1))
   case measure=>have:=HGT.out;omega
   case rel =>
    refine⟨t+1,rfl,by go_num,by omega,(t0.other nev0 _).other nev0 _,(t1.other nev1 _).other nev1 _,?_,Below.setCell (Below.setCell tb hvb _) hvb _⟩;rw [hrn];exact u3
  ·obtain rfl:t=64:=by omega
   have hVl:(kT W h 64).length=8:=qO W h HHL.out 64;have hst:=jH h b HHL.out;rw [HW.out]at hst;generalize kT W h 64=V at *
   have HST:=sqH hst;have HVL:=sqH hVl;clear hst hVl r0 r1;have hrl:=hr.below hbel;obtain⟨bh,oh,rfl,hbh,_⟩:=hr.2 (by omega);have hbe:bh≠gv:=by omega
   repeat' ((fail_if_success at_builtin);(fail_if_success at_make);(fail_if_success (with_reducible refine z8 118 ?_));(fail_if_success (with_reducible refine zf 118 ?_));(fail_if_success (with_reducible refine ze ?_));(first | go_values | go_skip | go_guarded | go_step | go_upon | go_back))
   have rv':Arr wr gv 88 (wds (kL V h 0)++rest):=by rw [yZ];exact rv
   rw [show((64:Nat):Int)=(64:Int) from rfl];clear rv;go_loopg [102] 8 (fun gn i wr=>∃t:Nat,gn=8 - t∧i= .int .i64 t∧t≤8∧Arr wr gv 88 (wds (kL V h t)++rest)∧Rd wr 1 (some ⟨bh,oh,none⟩) 8 (wds h)∧Below w.heap.size w wr)
   case atStart=>exact⟨0,rfl,rfl,by omega,rv',hrl,hbel⟩
   case round =>
    clear rv' hrl hbel;obtain⟨t,hgt,rfl,ht,rv,hrl,hbel⟩:=hrel;have HGT:=sqH hgt;clear hgt;by_cases hlt4:t<8
    ·obtain⟨x,y,hx,hy,hnx⟩:=yY V h t (by rw [HVL.out];exact hlt4) (by rw [HVL.out,HHL.out]);have hpl:(wds (kL V h t)).length=8:=by rw [zn,qj V h t (by rw [HVL.out,HHL.out]),HVL.out]
     have cx:=rv.cell (k:=t) (v:= .int .u32 (wd x)) (by rw [List.getElem?_append_left (by omega)];exact hx);obtain⟨_,_,e',_,hcb'⟩:=hrl.2 (by omega);cases e'
     have cy:=hcb' t _ hy;have fx:=rv.frozen t;have hs:=rv.set (k:=t) (by rw [List.length_append,hpl];omega) (.int .u32 (wd (x+y)));rw [List.set_append_left _ _ (by omega),kF,hnx]at hs;have HS:=sqH hs;clear hnx hx hy hs hcb' hpl;have i1:(t:Int)<8:=by omega
     have i2:(0:Int)≤(t:Int):=by omega
     have i5:decide ((t:Int)<8)=true:=by simpa using i1
     repeat' ((fail_if_success at_builtin);(fail_if_success at_make);(fail_if_success (with_reducible refine z8 118 ?_));(fail_if_success (with_reducible refine zf 118 ?_));(fail_if_success (with_reducible refine ze ?_));(first | go_values | go_skip | go_guarded | go_step | go_upon | go_back))
     go_still_tail 10,(by kernel_rfl)
     change wpList _ _ _ _ _ wr.drew;simp only [ZE,vz];have dx:wr.drew.cell? ⟨gv,t,none⟩=some (.int .u32 (wd x)):=cx;have gx:wr.drew.frozen? ⟨gv,t,none⟩=false:=fx
     repeat' ((fail_if_success at_builtin);(fail_if_success at_make);(fail_if_success (with_reducible refine z8 118 ?_));(fail_if_success (with_reducible refine zf 118 ?_));(fail_if_success (with_reducible refine ze ?_));(first | go_values | go_skip | go_guarded | go_step | go_upon | go_back))
     go_roundg (8 - (t+1))
     case measure=>have:=HGT.out;omega
     case rel=>exact⟨t+1,rfl,by go_num,by omega,HS.out,hrl.drewR.other hbe _,Below.setCell hbel.drew hvb _⟩
    ·obtain rfl:t=8:=by omega
     have hpe:kL V h 8=qS h b:=by rw [xU V h 8 (by rw [HVL.out];omega) (by rw [HVL.out,HHL.out]),HST.out]
     have hpl:(wds (kL V h 8)).length=8:=by rw [zn,qj V h 8 (by rw [HVL.out,HHL.out]),HVL.out]
     have hq:=rv.rd 8 hpl;rw [hpe]at hq;clear hpe hpl
     repeat' ((fail_if_success at_builtin);(fail_if_success at_make);(fail_if_success (with_reducible refine z8 118 ?_));(fail_if_success (with_reducible refine zf 118 ?_));(fail_if_success (with_reducible refine ze ?_));(first | go_values | go_skip | go_guarded | go_step | go_upon | go_back))
     go_ret2;exact⟨gv,cap,rfl,hcap,hq,hbel⟩
end Go.Proofs.YtfmnggcfhalfnaaGreat
namespace Go.Proofs.YtfmnggcfhalfnaaGreat
open Go.RowKit
theorem jN (P:List UInt8) (q k:Nat) (hP:P.length=64*q) (hk:k<q):(((zL P).drop (16*k)).take 16).length=16:=by
 have:=ki (16*q) P (by omega);rw [List.length_take,List.length_drop];omega
theorem jO (A:Option Addr) (n c:Nat) (l:List UInt8) (w:World) (hl:l.length=n) (hn:n≤2000) (hc:n≤c) (hr:Rd w 1 A n (bys l)) :
  Calls Tryz.prog 54 #[.slice A n c] w fun e w'=>e= .returned (.tuple #[.string ⟨(shaS l).toArray⟩,.int .i64 0])∧Below w.heap.size w w':=by
 have hpl:=y8 l;obtain⟨q,hq⟩:∃q,(zt l).length=64*q:=⟨(zt l).length / 64,by omega⟩
 have hfin:shaS l=qU (wbs (ke h0s (zL (zt l)) q)):=by
  unfold shaS jE;rw [hq,Nat.mul_div_cancel_left _ (by omega)]
 have HFIN:=sqH hfin;have HPAD:=sqH (ZK A n c l w hl hn hc hr);clear hfin;generalize zt l=P at *
 have HQ:=sqH hq;have hq0:1≤q:=by omega
 have hqm:64*q≤2072:=by omega
 clear hq hpl hl;go_enter Tryz.func54,Tryz.ntmps54;go_wp2_with fail;refine HPAD.out.mono ?_;rintro e_ w1 ⟨A1,c1,rfl,ho1,hb1⟩;dsimp only;go_wp2_with fail;have hcap1:=ho1.cap;refine(jm A1 P.length c1 P _ rfl (by have:=HQ.out;omega) (by have:=HQ.out;omega) hcap1 ho1.rd).mono ?_;rintro e_ w2 ⟨v2,rfl,ho2,hb2⟩;dsimp only;have hw4:P.length / 4=16*q:=by have:=HQ.out;omega
 rw [hw4]at ho2;obtain⟨gw,cw,rest,rfl,hgw,hcw,hcm,qw⟩:=uJ ho2 (by omega);have hrw:Rd w2 1 (some ⟨gw,0,none⟩) (16*q) (wds (zL P)):=qw.rd (16*q) (by rw [zn];exact ki (16*q) P (by have:=HQ.out;omega));have hb12:=hb1.trans (hb2.mono hb1.size);clear qw ho2 ho1 hb2 hw4;generalize hLW:16*q=lw at *
 have HLW:=sqH hLW;have hlw1:lw≤600:=by omega
 clear hLW;go_wp2_with fail;refine(jj _).mono ?_;rintro e_ w3 ⟨rfl,hr3,hb3⟩;dsimp only;have hr3w:=hrw.below hb3;have hb13:=hb12.trans (hb3.mono hb12.size);have hcwi:(lw:Int)≤(cw:Int):=by omega
 have hcmi:(cw:Int)≤9223372036854775807:=by unfold maxLen at hcm;omega
 clear hrw hb3 hb12 hcm;go_wp2_with fail;go_loopg [8,9] q (fun gn v i wr=>∃k A' c',gn=q - k∧i= .int .i64 ((16*k:Nat):Int)∧k≤q∧v= .slice A' 8 c'∧8≤c'∧Rd wr 1 A' 8 (wds (ke h0s (zL P) k))∧Below w3.heap.size w3 wr)
 case atStart=>exact⟨0,_,8,rfl,rfl,by omega,rfl,by omega,hr3,Below.refl _ _⟩
 case round =>
  clear hr3;obtain⟨k,A',c',hgk,rfl,hk,rfl,hc',hrk,hbel⟩:=hrel;have HGK:=sqH hgk;clear hgk;by_cases hkq:k<q
  ·have hrw:=hr3w.below hbel;have hm16:16*k+16≤lw:=by have:=HLW.out;omega
   have hwl:=jN P q k HQ.out hkq;have hchl:=zS h0s (zL P) rfl k;have hnx:ke h0s (zL P) (k+1)=qS (ke h0s (zL P) k) (((zL P).drop (16*k)).take 16):=rfl;have HNX:=sqH hnx;have HWL:=sqH hwl;have HCH:=sqH hchl;have hcut:=(hrw.cutAt (k:=16*k) (c:=cw) (by omega) hcw).pre (k:=16) (by omega);have hcut2:Rd wr 1 (if cw=16*k then some ⟨gw,0,none⟩ else some ⟨gw,0+16*k,none⟩) 16 (wds (((zL P).drop (16*k)).take 16)):=by
    have e:(List.drop (16*k) (wds (zL P))).take (16*1)=wds (((zL P).drop (16*k)).take 16):=by simp [wds]
    rw [e]at hcut;exact hcut
   clear hcut hnx hwl hchl hrw;generalize hm:16*k=m at *
   have HM:=sqH hm;clear hm;have i1:(0:Int)≤(m:Int):=by omega
   have i2:(m:Int)+16≤(cw:Int):=by omega
   have i3:(m:Int)<(lw:Int):=by omega
   rw [if_neg (by omega),Nat.zero_add]at hcut2;have hd16:16≤cw - m:=by omega
   go_wp2_with fail;refine(Zd A' c' _ _ _ _ _ HCH.out hc' hrk HWL.out hd16 hcut2).mono ?_;rintro e_ w5 ⟨g5,c5,rfl,hc5,hr5,hb5⟩;dsimp only;have hb6:=hbel.trans (hb5.mono hbel.size);rw [←HNX.out]at hr5;clear hrk hcut2 hbel hb5;go_wp2_with fail;go_roundg (q - (k+1))
   case measure=>have:=HGK.out;omega
   case rel=>exact⟨k+1,_,c5,rfl,by have:=HM.out;go_num,by omega,rfl,hc5,hr5,hb6⟩
  ·obtain rfl:k=q:=by omega
   have hge:lw≤16*k:=by have:=HLW.out;omega
   generalize hm:16*k=m at *
   have hchl:=zS h0s (zL P) rfl k;have HCH:=sqH hchl;clear hm hchl;generalize ke h0s (zL P) k=H at *
   have hb7:=hb13.trans (hbel.mono hb13.size);go_wp2_with fail;refine(j5 A' 8 c' H _ HCH.out (by omega) hc' hrk).mono ?_;rintro e_ w5 ⟨A5,c5,rfl,ho5,hb5⟩;dsimp only;have hb8:=hb7.trans (hb5.mono hb7.size);have hcap5:=ho5.cap;go_wp2_with fail;refine(Ze A5 _ c5 _ _ rfl (by rw [yB,HCH.out];omega) hcap5 ho5.rd).mono ?_;rintro e_ w6 ⟨rfl,hb6⟩;dsimp only;have hb9:=hb8.trans (hb6.mono hb8.size);go_wp2_with fail;go_ret2;rw [HFIN.out];exact⟨rfl,hb9⟩
end Go.Proofs.YtfmnggcfhalfnaaGreat
