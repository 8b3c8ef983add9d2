/- Lemmas, as stated. -/
import Derived.Laws.CopyOwn
import Derived.Shelf.Spec.SlicesInsertGrow
import Derived.BigRegion
import Derived.Test.YtcjndgldjhmbgaaGreatQF02
set_option linter.unusedVariables false
set_option linter.unusedSimpArgs false
set_option maxRecDepth 200000
set_option maxHeartbeats 8000000
open Go.Proofs.Tryz
open Go.Proofs.Tryz renaming prog->zZZ
open Go.Value renaming slice->aw,int->ax,string->az
open Go.Obj renaming cells->aA
open Option renaming none->aB,some->aC
open And renaming intro->aD
open Go.IntKind renaming i64->ay
namespace Go.Proofs.YtcjndgldjhmbgaaGreat
open Go.RowKit
variable {α:Type} {l:List α} {base g i n:Nat} {s:StoP} {e:TypeId} {v:Value} {W w:World} {d y:ac} {xs:af} {N:ai} {x:α} {f:α->List UInt8}
theorem Uv (w:World):Calls zZZ 189 #[] w fun e w'=>e= .returned (aw (aC ⟨w.heap.size,0,aB⟩) 8 8)/\Rd w' 1 (aC ⟨w.heap.size,0,aB⟩) 8 (wds h0s)/\Below w.heap.size w w':=by
 go_enter func189,ntmps189;go_wp2_with fail;go_ret;exact⟨rfl,Rd.newN (w:=w) (e:=129) (size:=1) (m:=8) (wds h0s) wu,(Below.refl _ _).alloc ab _⟩
theorem JH:(zZZ.info? 207).map (·.size)=aC 64:=by kernel_rfl
theorem Arr.setRow (h:Arr W g e xs) (ys:af):Arr (W.setRow g ys.toArray) g e ys:=setRow_heap W g _ _ _ _ h
theorem Arr.otherRow {g':Nat} (h:Arr W g e xs) (hne:g≠g') (ys:Array Value):Arr (W.setRow g' ys) g e xs:=(setRow_other W g' g ys hne).trans h
theorem jK (l:List W32):(wds l).toArray.all (·.oneCell')=true:=all_oneCell_toArray (Zb l)
theorem Vt (w:World):Calls zZZ 209 #[] w fun e w'=>e= .returned (.agg (wds rks).toArray)/\Below w.heap.size w w':=by
 go_enter func209,ntmps209
 refine wK 207 ?_;intros;have q0:Arr (w.alloc (aA (wds (List.replicate 64 0)).toArray 207)) w.heap.size 207 (wds (List.replicate 64 0)):=Arr.new _ _ _;have b0:=(Below.refl _ w).alloc ab (aA (wds (List.replicate 64 0)).toArray 207);change wpList _ _ _ _ _ (w.alloc (aA (wds (List.replicate 64 0)).toArray 207));refine wpList_store_mid rfl 207 (.tmp 0) (.tmp 1) rfl w.heap.size 0 (wds rks).toArray wu wu (q0.thereN wu) wm (jK rks) ?_;have q1:=q0.sets (ys:=wds rks) wu;have b1:=Below.sets (Nat.le_refl w.heap.size) (wds rks) 0 _ b0;clear q0 b0;change wpList _ _ _ _ _ ((w.alloc (aA (wds (List.replicate 64 0)).toArray 207)).setCells w.heap.size 0 (wds rks));generalize (w.alloc (aA (wds (List.replicate 64 0)).toArray 207)).setCells w.heap.size 0 (wds rks)=w1 at *
 go_wp2_with fail;exact bodyPost_ret (results_cell_row rfl _ _ w.heap.size _ _ _ _ wu q1 underlying207 rfl wm) rfl ⟨rfl,b1⟩
theorem QL (B:ae) (d:Nat) (b:List W32) (w:World) (hb:b.length=16) (hd:16<=d) (hr:Rd w 1 B 16 (wds b)) :
  Calls zZZ 210 #[aw B 16 d] w fun e w'=>e= .returned (.agg (wds (qy b 48)).toArray)/\Below w.heap.size w w':=by
 obtain⟨bb,ob,rfl,hbb,hcb⟩:=hr.2 wj;have HB:=sqH hb;have HCB:=sqH hcb;clear hb hcb;go_enter func210,ntmps210
 refine wK 207 ?_;intros;have q0:=(Arr.new w 207 (wds (List.replicate 64 0))).alloc (aA (wds (List.replicate 64 0)).toArray 207);have q1:=Arr.new (w.alloc (aA (wds (List.replicate 64 0)).toArray 207)) 207 (wds (List.replicate 64 0));have b1:=((Below.refl _ w).alloc ab (aA (wds (List.replicate 64 0)).toArray 207)).alloc ws (aA (wds (List.replicate 64 0)).toArray 207);have r1:=(hr.alloc (aA (wds (List.replicate 64 0)).toArray 207)).alloc (aA (wds (List.replicate 64 0)).toArray 207);change wpList _ _ _ _ _ ((w.alloc (aA (wds (List.replicate 64 0)).toArray 207)).alloc (aA (wds (List.replicate 64 0)).toArray 207));rw [World.size_alloc]at q1;generalize ((w.alloc (aA (wds (List.replicate 64 0)).toArray 207)).alloc (aA (wds (List.replicate 64 0)).toArray 207))=w1 at *
 generalize hg0:w.heap.size=g0 at *
 generalize hg1:g0+1=g1 at *
 have hbb':bb<g0:=hbb;have ne0:g0≠g1:=wj;have hge:w.heap.size<=g1:=wj;obtain⟨b',o',e',_,hcb'⟩:=r1.2 wj;cases e'
 refine wpList_copy_own rfl (.tmp 9) (.tmp 10) 131 131 rfl 129 underlying131 wm g1 0 64 64 ⟨bb,ob,aB⟩ 16 d wu wu _ _ q1 (wds b) (by rw [qc,HB.o];rfl) (fun j v hj=>by rw [Addr.add_mid];exact hcb' j v hj) (by rw [qc,HB.o];decide) (Zb b) ?_;have q2:Arr (w1.setRow g1 (((wds (List.replicate 64 0)).toArray.toList.take 0)++(wds b++((wds (List.replicate 64 0)).toArray.toList.drop (0+(wds b).length)))).toArray) g1 207 (wds (qy b (16 - 16)++List.replicate (64 - 16) 0)):=by
  have h:=q1.setRow (((wds (List.replicate 64 0)).toArray.toList.take 0)++(wds b++((wds (List.replicate 64 0)).toArray.toList.drop (0+(wds b).length))));have e:wds (qy b (16 - 16)++List.replicate (64 - 16) 0)=(((wds (List.replicate 64 0)).toArray.toList.take 0)++(wds b++((wds (List.replicate 64 0)).toArray.toList.drop (0+(wds b).length)))):=by
   rw [qc,HB.o];simp only [Nat.sub_self,qy,wds,List.map_append];rfl
  rw [e];exact h
 have p0:=q0.otherRow ne0 (((wds (List.replicate 64 0)).toArray.toList.take 0)++(wds b++((wds (List.replicate 64 0)).toArray.toList.drop (0+(wds b).length)))).toArray;have b2:=below_setRow (g:=g1) b1 (show g0<=g1 by omega) (((wds (List.replicate 64 0)).toArray.toList.take 0)++(wds b++((wds (List.replicate 64 0)).toArray.toList.drop (0+(wds b).length)))).toArray;generalize w1.setRow g1 (((wds (List.replicate 64 0)).toArray.toList.take 0)++(wds b++((wds (List.replicate 64 0)).toArray.toList.drop (0+(wds b).length)))).toArray=w2 at *
 rw [qc,HB.o];have hWl:=HB.o;clear q0 q1 b1 r1 hcb' hr
 refine wK 207 ?_;intros;go_loopg [4] 48 (fun gn i wr=>∃t:Nat,gn=64 - t/\i= ax .i64 t/\16<=t/\t<=64/\Arr wr g0 207 (wds (List.replicate 64 0))/\Arr wr g1 207 (wds (qy b (t - 16)++List.replicate (64 - t) 0))/\Below g0 w wr)
 case atStart=>exact⟨16,rfl,rfl,wj,wj,p0,q2,b2⟩
 case round =>
  clear p0 q2 b2;obtain⟨t,hgt,rfl,ht0,ht,q0,q1,hbel⟩:=hrel;have HGT:=sqH hgt;clear hgt;by_cases hlt2:t<64
  ·have hLl:(qy b (t - 16)).length=t:=by rw [kZ,hWl];omega
   have hnx:=jm _ t hLl ht0;have hss:qy b (t+1 - 16)=qy b (t - 16)++ [xb (qy b (t - 16))]:=by rw [show t+1 - 16=(t - 16)+1 by omega];rfl
   have HSS:=sqH hss;clear hss hWl;generalize qy b (t - 16)=L at *
   have hcl:∀j (hj:j<L.length),wr.cell? ⟨g1,j,aB⟩=aC (ax .u32 (wd L[j])):=fun j hj=>q1.cell (by rw [yR _ _ (by rw [List.length_append];omega),List.getElem_append_left hj]);have c1:=hcl (t - 16) wj;have c2:=hcl (t - 15) wj;have c3:=hcl (t - 7) wj;have c4:=hcl (t - 2) wj;clear hcl;generalize L[t - 16]=x1 at *
   generalize L[t - 15]=x2 at *
   generalize L[t - 7]=x3 at *
   generalize L[t - 2]=x4 at *
   have HNX:=sqH hnx;have HLL:=sqH hLl;clear hnx hLl;have j1:((t:Int) - 16).toNat=t - 16:=wj;have j2:((t:Int) - 15).toNat=t - 15:=wj;have j3:((t:Int) - 7).toNat=t - 7:=wj;have j4:((t:Int) - 2).toNat=t - 2:=wj;have k1:(0:Int)<=(t:Int) - 16:=wj;have k2:(0:Int)<=(t:Int) - 15:=wj;have k3:(0:Int)<=(t:Int) - 7:=wj;have k4:(0:Int)<=(t:Int) - 2:=wj;have l1:(t:Int) - 16<64:=wj;have l2:(t:Int) - 15<64:=wj;have l3:(t:Int) - 7<64:=wj;have l4:(t:Int) - 2<64:=wj;have n1:(16:Int)<=(t:Int):=wj;have n2:(15:Int)<=(t:Int):=wj;have n3:(7:Int)<=(t:Int):=wj;have n4:(2:Int)<=(t:Int):=wj;have m1:IntKind.i64.wrap ((t:Int) - 16)=(t:Int) - 16:=by rw [IntKind.wrap_i64];omega
   have m2:IntKind.i64.wrap ((t:Int) - 15)=(t:Int) - 15:=by rw [IntKind.wrap_i64];omega
   have m3:IntKind.i64.wrap ((t:Int) - 7)=(t:Int) - 7:=by rw [IntKind.wrap_i64];omega
   have m4:IntKind.i64.wrap ((t:Int) - 2)=(t:Int) - 2:=by rw [IntKind.wrap_i64];omega
   have i4:(t:Int)<64:=wj;have i5:decide ((t:Int)<64)=true:=by simpa using i4
   refine wK 207 ?_;intros;refine(QX x2 2 2 rfl _ wj).mono ?_;rintro e_ w_ ⟨rfl,nk1,rfl⟩;dsimp only
   refine wK 207 ?_;intros;refine(QX x4 3 3 rfl _ wj).mono ?_;rintro e_ w_ ⟨rfl,nk2,rfl⟩;dsimp only
   refine wK 207 ?_;intros;have hb2:=zN hbel (nk1+nk2);have q0':=q0.drewN (nk1+nk2);have q1':=q1.drewN (nk1+nk2);have d1:(wr.drewN (nk1+nk2)).cell? ⟨g1,t - 16,aB⟩=_:=c1;have d3:(wr.drewN (nk1+nk2)).cell? ⟨g1,t - 7,aB⟩=_:=c3;clear c1 c2 c3 c4 q0 q1 hbel;generalize wr.drewN (nk1+nk2)=wz at *
   go_still_tail 15,wm
   change wpList _ _ _ _ _ wz.drew;simp only [Y8];rw [<-HNX.o];have hc5:∃v,wz.drew.cell? ⟨g1,t,aB⟩=aC v:=⟨_,q1'.cell (k:=t) (by rw [yR _ _ (by rw [List.length_append,List.length_replicate];have:=HLL.o;omega)])⟩
   obtain⟨v5,hc5⟩:=hc5;have hf5:wz.drew.frozen? ⟨g1,t,aB⟩=false:=q1'.frozen t;have hs5:=q1'.set (k:=t) (by rw [qc,List.length_append,List.length_replicate];have:=HLL.o;omega) (ax .u32 (wd (xb L)));rw [uD,grow L t HLL.o wj,<-HSS.o]at hs5;have HS5:=sqH hs5;clear hs5 q1' j1 j2 j3 j4 m1 m2 m3 m4
   refine wK 207 ?_;intros;go_roundg (64 - (t+1))
   case measure=>exact wW HGT
   case rel=>exact⟨t+1,rfl,by go_num,wj,wj,q0'.other ne0 _,HS5.o,Below.setCell hb2.drew (show g0<=g1 by omega) _⟩
  ·obtain rfl:t=64:=by omega
   rw [List.replicate_zero,List.append_nil,show 64 - 16=48 from rfl]at q1;have hsl:(qy b 48).length=64:=by rw [kZ,hWl]
   generalize hS:qy b 48=S at *
   have HS:=sqH hS;clear hS hWl
   refine wK 207 ?_;intros;have hi64:=JH;refine wpList_load_row rfl 207 (.tmp 3) rfl g1 wu _ _ _ _ q1 underlying207 rfl (by rw [hi64];simp [qc,hsl]) ?_;refine wpList_store_mid rfl 207 (.tmp 2) (.tmp 47) rfl g0 0 (wds S).toArray wu wu (q0.thereN (by simp [qc,hsl])) (by rw [hi64];simp [qc,hsl]) (jK S) ?_;have p0:=q0.sets (ys:=wds S) (by simp [qc,hsl]);have b2:=Below.sets (show g0<=g0 from Nat.le_refl _) (wds S) 0 _ hbel;change wpList _ _ _ _ _ (wr.setCells g0 0 (wds S));clear q0 q1 hbel;generalize wr.setCells g0 0 (wds S)=wz at *
   refine wK 207 ?_;intros;refine bodyPost_ret (results_cell_row rfl _ _ g0 _ _ _ _ wu p0 underlying207 rfl (by rw [hi64];simp [qc,hsl])) rfl ⟨?_,?_⟩
   ·rw [HS.o]
   ·rw [hg0];exact b2
theorem VX (x y z:W32) (w:World):Calls zZZ 212 #[ax .u32 (wd x),ax .u32 (wd y),ax .u32 (wd z)] w fun e w'=>e= .returned (ax .u32 (wd (JD x y z)))/\w'=w:=by
 go_enter func212,ntmps212;go_wp2_with fail;go_ret;rw [Xs];simp only [show(if IntKind.u32.signed=true then (-1:Int) else IntKind.u32.max)=IntKind.u32.max from if_neg wo,kQ,kR,uT];exact⟨rfl,trivial⟩
theorem z2y (x y z:W32) (w:World):Calls zZZ 213 #[ax .u32 (wd x),ax .u32 (wd y),ax .u32 (wd z)] w fun e w'=>e= .returned (ax .u32 (wd (ZP x y z)))/\w'=w:=by
 go_enter func213,ntmps213;go_wp2_with fail;go_ret;rw [J7];simp only [kQ,kR];exact⟨rfl,trivial⟩
theorem Vf (h:w.ownsRow base e 1 v n xs) (h0:0<n):∃g cap rest,v= aw (aC ⟨g,0,aB⟩) n cap/\base<=g/\n<=cap/\cap<=maxLen/\Arr w g e (xs++rest):=by
 rcases h.2 with ⟨_,h1⟩ | ⟨g,cap,cur,hv,hb,hg,hnc,hcm,hcs,htake⟩
 ·omega
 ·refine⟨g,cap,cur.toList.drop n,hv,hb,hnc,hcm,?_⟩;rw [Nat.mul_one]at htake;unfold Arr;rw [<-htake,List.take_append_drop];simpa using hg
theorem Arr.rd {rest:af} (h:Arr W g e (xs++rest)) (n:Nat) (hn:xs.length=n):Rd W 1 (aC ⟨g,0,aB⟩) n xs :=
 ⟨wj,fun _=>⟨g,0,rfl,h.lt,fun j u hj=>by
  rw [Nat.zero_add]
  exact h.cell (by rw [List.getElem?_append_left (List.getElem?_eq_some_iff.1 hj).1];exact hj)⟩⟩
theorem Jl (h b:List W32) (hh:h.length=8):List.zipWith (· + ·) h (je (qy b 48) h 64)=xD h b:=by
 unfold xD;rw [List.zipWith_comm]
 congr 1
 funext a b
 exact BitVec.add_comm _ _
theorem z0o (A:ae) (c:Nat) (h:List W32) (B:ae) (d:Nat) (b:List W32) (w:World) (hh:h.length=8) (hc:8<=c) (hr:Rd w 1 A 8 (wds h)) (hb:b.length=16) (hd:16<=d) (hr':Rd w 1 B 16 (wds b)) :
  Calls zZZ 190 #[aw A 8 c,aw B 16 d] w fun e w'=>∃g' c',e= .returned (.tuple #[aw (aC ⟨g',0,aB⟩) 8 c',ax .i64 0])/\8<=c'/\Rd w' 1 (aC ⟨g',0,aB⟩) 8 (wds (xD h b))/\Below w.heap.size w w':=by
 have HHL:=sqH hh;have HBL:=sqH hb;clear hh hb;go_enter func190,ntmps190
 refine wK 207 ?_;intros;refine wV (Vt _) fun w1 hb1=>?_;dsimp only
 refine wK 207 ?_;intros;refine wV (QL _ _ b _ HBL.o hd (hr'.below hb1)) fun w2 hb2=>?_;dsimp only;have hb3:=wg hb1 hb2;have hWl:(qy b 48).length=64:=by rw [kZ,HBL.o]
 generalize hW:qy b 48=W at *
 have HW:=sqH hW;have HWL:=sqH hWl;clear hW hWl
 refine wK 207 ?_;intros;have q0:=(Arr.new w2 207 (wds (List.replicate 64 0))).alloc (aA (wds (List.replicate 64 0)).toArray 207);have q1:=Arr.new (w2.alloc (aA (wds (List.replicate 64 0)).toArray 207)) 207 (wds (List.replicate 64 0));have b1:=(hb3.alloc hb3.size (aA (wds (List.replicate 64 0)).toArray 207)).alloc (by have:=hb3.size;simp;omega) (aA (wds (List.replicate 64 0)).toArray 207);change wpList _ _ _ _ _ ((w2.alloc (aA (wds (List.replicate 64 0)).toArray 207)).alloc (aA (wds (List.replicate 64 0)).toArray 207));rw [World.size_alloc]at q1;have hsz:=hb3.size;generalize ((w2.alloc (aA (wds (List.replicate 64 0)).toArray 207)).alloc (aA (wds (List.replicate 64 0)).toArray 207))=w3 at *
 generalize hg0:w2.heap.size=g0 at *
 generalize hg1:g0+1=g1 at *
 have ne01:g0≠g1:=wj;refine wpList_store_mid rfl 207 (.tmp 6) (.tmp 25) rfl g0 0 (wds rks).toArray wu wu (q0.thereN wu) wm (jK rks) ?_;have p0:=q0.sets (ys:=wds rks) wu;have p1:=q1.otherSets (g':=g0) wj (wds rks) 0;have b2:=Below.sets (show w.heap.size<=g0 by omega) (wds rks) 0 _ b1;have hs1:=b1.size;change wpList _ _ _ _ _ (w3.setCells g0 0 (wds rks));clear q0 q1 b1;generalize w3.setCells g0 0 (wds rks)=w4 at *
 refine wpList_store_mid rfl 207 (.tmp 7) (.tmp 27) rfl g1 0 (wds W).toArray wu wu (p1.thereN (by simp [qc,HWL.o])) (by rw [JH];simp [qc,HWL.o]) (jK W) ?_;have q1:=p1.sets (ys:=wds W) (by simp [qc,HWL.o]);have q0:=p0.otherSets (g':=g1) wj (wds W) 0;have b3:=Below.sets (show w.heap.size<=g1 by omega) (wds W) 0 _ b2;change wpList _ _ _ _ _ (w4.setCells g1 0 (wds W));clear p0 p1 b2;generalize w4.setCells g1 0 (wds W)=w5 at *
 refine wK 207 ?_;intros;refine zK rfl (.const (aw aB 0 0)) (.tmp 28) rfl z14 wu (World.ownsRow_nil w5 w5.heap.size _ _) wu (hr.below b3) (Zb _) wj ab ?_;intro v6 w6 ho6 hg6 _;have hb6:=zj (Below.refl _ _) (World.ownsRow_nil w5 w5.heap.size 129 1) ab hg6;rw [List.nil_append,Nat.zero_add]at ho6;obtain⟨gv,cap,rest,rfl,hgv,hcap,hcm,qv⟩:=Vf ho6 wj;have r0:=q0.below hb6;have r1:=q1.below hb6;have b6:=wg b3 hb6;have hlt0:=q0.lt;have hlt1:=q1.lt;have nev0:g0≠gv:=wj;have nev1:g1≠gv:=wj;have hvb:w.heap.size<=gv:=by have:=b3.size;omega
 have hcap1:¬cap=1:=wj;have hcmi:(cap:Int)<=9223372036854775807:=by unfold maxLen at hcm;omega
 have hcapi:(8:Int)<=(cap:Int):=wj;have hcap7i:(7:Int)<=(cap:Int):=wj;have hcap7:7<=cap:=wj;have rv:Arr w6 gv 129 (wds (je W h 0)++rest):=qv;clear q0 q1 b3 hb6 hg6 ho6 qv hcm
 refine wK 207 ?_;intros;go_loopg [30] 64 (fun gn i wr=>∃t:Nat,gn=64 - t/\i= ax .i64 t/\t<=64/\Arr wr g0 207 (wds rks)/\Arr wr g1 207 (wds W)/\Arr wr gv 129 (wds (je W h t)++rest)/\Below w.heap.size w wr)
 case atStart=>exact⟨0,rfl,rfl,wj,r0,r1,rv,b6⟩
 case round =>
  clear r0 r1 rv b6;obtain⟨t,hgt,rfl,ht,r0,r1,rv,hbel⟩:=hrel;have HGT:=sqH hgt;clear hgt;by_cases hlt:t<64
  ·obtain⟨v0,v1,v2,v3,v4,v5,v6,v7,kt,wt,hv,hkt,hwt,hnx⟩:=jg W h HHL.o t hlt HWL.o;rw [hv]at rv;have HNX:=sqH hnx;have hck:=r0.cell hkt;have hcw:=r1.cell hwt;clear hv hkt hwt hnx;have f0:=rv.c0;have f4:=rv.c4;have i1:(t:Int)<64:=wj
   have i2:=wX t
   have i5:decide ((t:Int)<64)=true:=by simpa using i1
   refine wK 207 ?_;intros;refine(QX v4 1 1 rfl _ wj).mono ?_;rintro e_ w_ ⟨rfl,nk1,rfl⟩;dsimp only
   refine wK 207 ?_;intros;refine(QX v0 0 0 rfl _ wj).mono ?_;rintro e_ w_ ⟨rfl,nk2,rfl⟩;dsimp only
   refine wK 207 ?_;intros;have p0:=r0.drewN (nk1+nk2);have p1:=r1.drewN (nk1+nk2);have pv:=rv.drewN (nk1+nk2);have pb:=zN hbel (nk1+nk2);have dk:(wr.drewN (nk1+nk2)).cell? ⟨g0,t,aB⟩=_:=hck;have dw:(wr.drewN (nk1+nk2)).cell? ⟨g1,t,aB⟩=_:=hcw;clear r0 r1 rv hbel hck hcw f0 f4;generalize wr.drewN (nk1+nk2)=wz at *
   have f4:=pv.c4;have f5:=pv.c5;have f6:=pv.c6;have f7:=pv.c7;go_quiet ((go_at_call 212;exact Calls.quiet_of_same (VX _ _ _ _)));rw [z52];have r0:=p0.drewN nq;have r1:=p1.drewN nq;have rv:=pv.drewN nq;have rb:=zN pb nq;clear p0 p1 pv pb dk dw f4 f5 f6 f7;generalize wz.drewN nq=wx at *
   obtain⟨f0,f1,f2⟩:=sqC3 rv;generalize hone:v7+yu v4 1+JD v4 v5 v6+kt+wt=one at *
   have HONE:=sqH hone;clear hone
   refine wK 207 ?_;intros;go_quiet ((go_at_call 213;exact Calls.quiet_of_same (z2y _ _ _ _)))
   first | rw [z2g] | rw [Y8]
   generalize htwo:yu v0 0+ZP v0 v1 v2=two at *
   have HTWO:=sqH htwo;clear htwo;have s0:=r0.drewN nq;have s1:=r1.drewN nq;have sv:=rv.drewN nq;have sb:=zN rb nq;clear r0 r1 rv rb f0 f1 f2;generalize wx.drewN nq=wv at *
   refine wK 207 ?_;intros;go_still_tail 4,wm
   change wpList _ _ _ _ _ wv.drew;refine wpList_copy_own rfl (.tmp 84) (.tmp 86) 131 131 rfl 129 underlying131 wm gv 1 7 (cap - 1) ⟨gv,0,aB⟩ 7 cap wu wu _ _ (sv.drew) (wds [v0,v1,v2,v3,v4,v5,v6]) wu (fun j v hj=>by rw [Addr.add_mid,Nat.zero_add];exact sv.drew.cell (by rw [show wds [v0,v1,v2,v3,v4,v5,v6,v7]++rest=wds [v0,v1,v2,v3,v4,v5,v6]++(wds [v7]++rest) from rfl,List.getElem?_append_left (List.getElem?_eq_some_iff.1 hj).1];exact hj)) (by simp [wds]<;>omega) (Zb _) ?_;have t0:=(s0.drew).otherRow nev0 (((wds [v0,v1,v2,v3,v4,v5,v6,v7]++rest).toArray.toList.take 1)++(wds [v0,v1,v2,v3,v4,v5,v6]++((wds [v0,v1,v2,v3,v4,v5,v6,v7]++rest).toArray.toList.drop (1+(wds [v0,v1,v2,v3,v4,v5,v6]).length)))).toArray;have t1:=(s1.drew).otherRow nev1 (((wds [v0,v1,v2,v3,v4,v5,v6,v7]++rest).toArray.toList.take 1)++(wds [v0,v1,v2,v3,v4,v5,v6]++((wds [v0,v1,v2,v3,v4,v5,v6,v7]++rest).toArray.toList.drop (1+(wds [v0,v1,v2,v3,v4,v5,v6]).length)))).toArray;have tv:Arr (wv.drew.setRow gv (((wds [v0,v1,v2,v3,v4,v5,v6,v7]++rest).toArray.toList.take 1)++(wds [v0,v1,v2,v3,v4,v5,v6]++((wds [v0,v1,v2,v3,v4,v5,v6,v7]++rest).toArray.toList.drop (1+(wds [v0,v1,v2,v3,v4,v5,v6]).length)))).toArray) gv 129 (wds [v0,v0,v1,v2,v3,v4,v5,v6]++rest):=(sv.drew).setRow _;have tb:=below_setRow sb.drew hvb (((wds [v0,v1,v2,v3,v4,v5,v6,v7]++rest).toArray.toList.take 1)++(wds [v0,v1,v2,v3,v4,v5,v6]++((wds [v0,v1,v2,v3,v4,v5,v6,v7]++rest).toArray.toList.drop (1+(wds [v0,v1,v2,v3,v4,v5,v6]).length)))).toArray;clear s0 s1 sv sb;generalize wv.drew.setRow gv (((wds [v0,v1,v2,v3,v4,v5,v6,v7]++rest).toArray.toList.take 1)++(wds [v0,v1,v2,v3,v4,v5,v6]++((wds [v0,v1,v2,v3,v4,v5,v6,v7]++rest).toArray.toList.drop (1+(wds [v0,v1,v2,v3,v4,v5,v6]).length)))).toArray=wt at *
   have f4:=tv.c4;have f0:=tv.c0;have z:=tv.frozen
   refine wK 207 ?_;intros;have u3:=(tv.set (k:=4) (by simp [wds]) (ax .u32 (wd (v3+one)))).set (k:=0) (by simp [wds]) (ax .u32 (wd (one+two)));have hrn:je W h (t+1)= [one+two,v0,v1,v2,v3+one,v4,v5,v6]:=by rw [HNX.o,<-HONE.o,<-HTWO.o];rfl
   simp only [z2g,Y8];go_roundg (64 - (t+1))
   case measure=>exact wW HGT
   case rel =>
    refine⟨t+1,rfl,by go_num,wj,(t0.other nev0 _).other nev0 _,(t1.other nev1 _).other nev1 _,?_,Below.setCell (Below.setCell tb hvb _) hvb _⟩;rw [hrn];exact u3
  ·obtain rfl:t=64:=by omega
   have hVl:(je W h 64).length=8:=xA W h HHL.o 64;have hst:=Jl h b HHL.o;rw [HW.o]at hst;generalize je W h 64=V at *
   have HST:=sqH hst;have HVL:=sqH hVl;clear hst hVl r0 r1;have hrl:=hr.below hbel;obtain⟨bh,oh,rfl,hbh,_⟩:=hr.2 wj;have hbe:bh≠gv:=wj;refine wK 207 ?_;intros;have rv':Arr wr gv 129 (wds (uO V h 0)++rest):=by rw [ZY];exact rv
   rw [show((64:Nat):Int)=(64:Int) from rfl];clear rv;go_loopg [102] 8 (fun gn i wr=>∃t:Nat,gn=8 - t/\i= ax .i64 t/\t<=8/\Arr wr gv 129 (wds (uO V h t)++rest)/\Rd wr 1 (aC ⟨bh,oh,aB⟩) 8 (wds h)/\Below w.heap.size w wr)
   case atStart=>exact⟨0,rfl,rfl,wj,rv',hrl,hbel⟩
   case round =>
    clear rv' hrl hbel;obtain⟨t,hgt,rfl,ht,rv,hrl,hbel⟩:=hrel;have HGT:=sqH hgt;clear hgt;by_cases hlt4:t<8
    ·obtain⟨x,y,hx,hy,hnx⟩:=ZX V h t (by rw [HVL.o];exact hlt4) (by rw [HVL.o,HHL.o]);have hpl:(wds (uO V h t)).length=8:=by rw [qc,yN V h t (by rw [HVL.o,HHL.o]),HVL.o]
     have cx:=rv.cell (k:=t) (v:= ax .u32 (wd x)) (by rw [List.getElem?_append_left wj];exact hx);obtain⟨_,_,e',_,hcb'⟩:=hrl.2 wj;cases e'
     have cy:=hcb' t _ hy;have fx:=rv.frozen t;have hs:=rv.set (k:=t) (by rw [List.length_append,hpl];omega) (ax .u32 (wd (x+y)));rw [List.set_append_left _ _ wj,uD,hnx]at hs;have HS:=sqH hs;clear hnx hx hy hs hcb' hpl;have i1:(t:Int)<8:=wj;have i2:=wX t
     have i5:decide ((t:Int)<8)=true:=by simpa using i1
     refine wK 207 ?_;intros;go_still_tail 10,wm
     change wpList _ _ _ _ _ wr.drew;simp only [z2g,Y8];have dx:wr.drew.cell? ⟨gv,t,aB⟩=aC (ax .u32 (wd x)):=cx;have gx:wr.drew.frozen? ⟨gv,t,aB⟩=false:=fx
     refine wK 207 ?_;intros;go_roundg (8 - (t+1))
     case measure=>exact wW HGT
     case rel=>exact⟨t+1,rfl,by go_num,wj,HS.o,hrl.drewR.other hbe _,Below.setCell hbel.drew hvb _⟩
    ·obtain rfl:t=8:=by omega
     have hpe:uO V h 8=xD h b:=by rw [Kq V h 8 (by rw [HVL.o];omega) (by rw [HVL.o,HHL.o]),HST.o]
     have hpl:(wds (uO V h 8)).length=8:=by rw [qc,yN V h 8 (by rw [HVL.o,HHL.o]),HVL.o]
     have hq:=rv.rd 8 hpl;rw [hpe]at hq;clear hpe hpl
     refine wK 207 ?_;intros;go_ret2;exact⟨gv,cap,rfl,hcap,hq,hbel⟩
theorem Jv (P:ac) (q k:Nat) (hP:P.length=64*q) (hk:k<q):(((ko P).drop (16*k)).take 16).length=16:=by
 have:=vL (16*q) P wj;rw [List.length_take,List.length_drop];omega
theorem Xc (A:ae) (n c:Nat) (l:ac) (w:World) (hl:l.length=n) (hn:n<=2000) (hc:n<=c) (hr:Rd w 1 A n (bys l)) :
  Calls zZZ 169 #[aw A n c] w fun e w'=>e= .returned (.tuple #[.string ⟨(shaS l).toArray⟩,ax .i64 0])/\Below w.heap.size w w':=by
 have hpl:=jn l;obtain⟨q,hq⟩:∃q,(qp l).length=64*q:=⟨(qp l).length / 64,wj⟩
 have hfin:shaS l=yb (wbs (vq h0s (ko (qp l)) q)):=by
  unfold shaS Jj;rw [hq,Nat.mul_div_cancel_left _ wj]
 have HFIN:=sqH hfin;have HPAD:=sqH (z30 A n c l w hl hn hc hr);clear hfin;generalize qp l=P at *
 have HQ:=sqH hq;have hq0:1<=q:=wj;have hqm:64*q<=2072:=wj;clear hq hpl hl;go_enter func169,ntmps169;go_wp2_with fail;refine HPAD.o.mono ?_;rintro e_ w1 ⟨A1,c1,rfl,ho1,hb1⟩;dsimp only;go_wp2_with fail;have hcap1:=ho1.cap;refine(Uz A1 P.length c1 P _ rfl (wW HQ) (wW HQ) hcap1 ho1.rd).mono ?_;rintro e_ w2 ⟨v2,rfl,ho2,hb2⟩;dsimp only;have hw4:P.length / 4=16*q:=by have:=HQ.o;omega
 rw [hw4]at ho2;obtain⟨gw,cw,rest,rfl,hgw,hcw,hcm,qw⟩:=Vf ho2 wj;have hrw:Rd w2 1 (aC ⟨gw,0,aB⟩) (16*q) (wds (ko P)):=qw.rd (16*q) (by rw [qc];exact vL (16*q) P (wW HQ));have hb12:=wg hb1 hb2;clear qw ho2 ho1 hb2 hw4;generalize hLW:16*q=lw at *
 have HLW:=sqH hLW;have hlw1:lw<=600:=wj;clear hLW;go_wp2_with fail;refine(Uv _).mono ?_;rintro e_ w3 ⟨rfl,hr3,hb3⟩;dsimp only;have hr3w:=hrw.below hb3;have hb13:=wg hb12 hb3;have hcwi:(lw:Int)<=(cw:Int):=wj;have hcmi:(cw:Int)<=9223372036854775807:=by unfold maxLen at hcm;omega
 clear hrw hb3 hb12 hcm;go_wp2_with fail;go_loopg [8,9] q (fun gn v i wr=>∃k A' c',gn=q - k/\i= ax .i64 ((16*k:Nat):Int)/\k<=q/\v= aw A' 8 c'/\8<=c'/\Rd wr 1 A' 8 (wds (vq h0s (ko P) k))/\Below w3.heap.size w3 wr)
 case atStart=>exact⟨0,_,8,rfl,rfl,wj,rfl,wj,hr3,Below.refl _ _⟩
 case round =>
  clear hr3;obtain⟨k,A',c',hgk,rfl,hk,rfl,hc',hrk,hbel⟩:=hrel;have HGK:=sqH hgk;clear hgk;by_cases hkq:k<q
  ·have hrw:=hr3w.below hbel;have hm16:16*k+16<=lw:=by have:=HLW.o;omega
   have hwl:=Jv P q k HQ.o hkq;have hchl:=kT h0s (ko P) rfl k;have hnx:vq h0s (ko P) (k+1)=xD (vq h0s (ko P) k) (((ko P).drop (16*k)).take 16):=rfl;obtain⟨HNX,HWL,HCH⟩:=sqJ3 hnx hwl hchl;have hcut:=(hrw.cutAt (k:=16*k) (c:=cw) wj hcw).pre (k:=16) wj;have hcut2:Rd wr 1 (if cw=16*k then aC ⟨gw,0,aB⟩ else aC ⟨gw,0+16*k,aB⟩) 16 (wds (((ko P).drop (16*k)).take 16)):=by
    have e:(List.drop (16*k) (wds (ko P))).take (16*1)=wds (((ko P).drop (16*k)).take 16):=by simp [wds]
    rw [e]at hcut;exact hcut
   clear hcut hnx hwl hchl hrw;generalize hm:16*k=m at *
   have HM:=sqH hm;clear hm;have i1:=wX m
   have i2:(m:Int)+16<=(cw:Int):=wj;have i3:(m:Int)<(lw:Int):=wj;rw [if_neg wj,Nat.zero_add]at hcut2;have hd16:16<=cw - m:=wj;go_wp2_with fail;refine(z0o A' c' _ _ _ _ _ HCH.o hc' hrk HWL.o hd16 hcut2).mono ?_;rintro e_ w5 ⟨g5,c5,rfl,hc5,hr5,hb5⟩;dsimp only;have hb6:=wg hbel hb5;rw [<-HNX.o]at hr5;clear hrk hcut2 hbel hb5;go_wp2_with fail;go_roundg (q - (k+1))
   case measure=>exact wW HGK
   case rel=>exact⟨k+1,_,c5,rfl,by have:=HM.o;go_num,wj,rfl,hc5,hr5,hb6⟩
  ·obtain rfl:k=q:=by omega
   have hge:lw<=16*k:=by have:=HLW.o;omega
   generalize hm:16*k=m at *
   have hchl:=kT h0s (ko P) rfl k;have HCH:=sqH hchl;clear hm hchl;generalize vq h0s (ko P) k=H at *
   have hb7:=wg hb13 hbel;go_wp2_with fail;refine(VQ A' 8 c' H _ HCH.o wj hc' hrk).mono ?_;rintro e_ w5 ⟨A5,c5,rfl,ho5,hb5⟩;dsimp only;have hb8:=wg hb7 hb5;have hcap5:=ho5.cap;go_wp2_with fail;refine wV (Xh A5 _ c5 _ _ rfl (by rw [Za,HCH.o];omega) hcap5 ho5.rd) fun w6 hb6=>?_;dsimp only;have hb9:=wg hb8 hb6;go_wp2_with fail;go_ret2;rw [HFIN.o];exact⟨rfl,hb9⟩
theorem xh (p:Int) (h0:0<=p) (h5:p<=5) (w:World):Calls Tryz.prog 143 #[.int .i64 p] w fun e w'=>e= .returned (.int .i64 0)/\w=w':=by
 have e0:decide (p<0)=false:=by simpa using h0
 have e1:decide (5<p)=false:=by simpa using h5
 go_enter Tryz.func143,Tryz.ntmps143;go_wp2_with fail;go_ret;exact⟨rfl,rfl⟩
def xz (d l:ac):Nat:=if hexC d≠0 then hexC d else if shaS l≠d then 9 else 0
theorem Ur (s:ByteArray) (A:ae) (n c:Nat) (l:ac) (p:Int) (mk:Bool) (w:World) (hp0:0<=p) (hp5:p<=5) (hs:s.size<=140737488351232) (hl:l.length=n) (hn:n<=300) (hc:n<=c) (hr:Rd w 1 A n (bys l)) :
  Calls Tryz.prog 142 #[.agg #[.string s,.slice A n c,.int .i64 p,.bool mk]] w fun e w'=>e= .returned (.int .i64 (xz s.data.toList l))/\Below w.heap.size w w':=by
 have HC:=kC s;generalize hk:hexC s.data.toList=k at HC;obtain⟨HL,HK,HSZ⟩:=sqJ3 hl hk hs;obtain⟨D,hD⟩:=wU (⟨(shaS l).toArray⟩:ByteArray)
 have HS:=sqH (fun w' hr'=>hD▸Xc A n c l w' hl wj hc hr');have HD:=sqH hD;obtain⟨w1,hw1⟩:=wU (w.alloc (.cells #[.string s,.slice A n c,.int .i64 p,.bool mk] 88))
 have hb1:Below w.heap.size w w1:=by rw [hw1];exact(Below.refl _ _).alloc ab _
 have hs1:=hb1.size;have hA1:Arr w1 w.heap.size 88 [.string s,.slice A n c,.int .i64 p,.bool mk]:=by rw [hw1];exact Arr.new w _ _
 have hr1:Rd w1 1 A n (bys l):=by rw [hw1];exact hr.alloc _
 clear hl hk hD hs hr;go_enter Tryz.func142,Tryz.ntmps142;go_wp2_with fail;rw [<-hw1];obtain⟨g,hg⟩:=wU w.heap.size
 rw [<-hg]at hA1 ⊢
 clear hw1 hg;refine wV (HC _ HSZ.o) fun w2 hb2=>?_;dsimp only;have hb12:=hb1.trans (hb2.mono hs1);have hA2:=hA1.below hb2;obtain⟨f0,f1⟩:=sqC2 hA2;by_cases k0:k=0
 ·have e0:((k:Int) != 0)=false:=by rw [bne_eq_false_iff_eq];omega
  have e1:decide ((300:Int)<(n:Int))=false:=by simp;omega
  have HK0:=sqH k0;clear k0;go_wp2_with fail;refine wV (HS.o w2 (hr1.below hb2)) fun w3 hb3=>?_;dsimp only;have hA3:=hA2.below hb3;have hb13:=wg hb12 hb3;have g0:=hA3.c0;have g2:=hA3.c2;clear f0 f1;by_cases he:D=s
  ·have hfin:xz s.data.toList l=0:=by
    have:shaS l=s.data.toList:=by rw [<-he,HD.o]
    rw [xz,HK.o,if_neg (by simp [HK0.o]),if_neg (by simp [this])]
   have HF:=sqH hfin;have h1:(D.toList==s.toList)=true:=by simp [he]
   clear hfin he;go_wp2_with fail;refine(xh p hp0 hp5 _).mono ?_;rintro e_ _ ⟨rfl,rfl⟩;dsimp only;go_wp2_with fail;go_ret;exact⟨by rw [HF.o];rfl,hb13⟩
  ·have hfin:xz s.data.toList l=9:=by
    have:shaS l≠s.data.toList:=fun h=>he (by rw [HD.o,h]);rw [xz,HK.o,if_neg (by simp [HK0.o]),if_pos this]
   have HF:=sqH hfin;have h1:(D.toList==s.toList)=false:=by
    rw [beq_eq_false_iff_ne,ByteArray.toList_eq,ByteArray.toList_eq];intro h;apply he;cases D;cases s;simp only [ByteArray.mk.injEq];exact Array.toList_inj.1 h
   clear hfin he;go_wp2_with fail;go_ret;exact⟨by rw [HF.o];rfl,hb13⟩
 ·have e0:((k:Int) != 0)=true:=by rw [bne_iff_ne];omega
  have hfin:xz s.data.toList l=k:=by rw [xz,HK.o,if_pos k0]
  have HF:=sqH hfin;clear k0 hfin;go_wp2_with fail;go_ret;exact⟨by rw [HF.o];rfl,hb12⟩
theorem qR {P:Program} (w:World) (dT sT ty elem:TypeId) (i:TypeInfo) (b o dLen dCap:Nat) (a:Addr) (sLen sCap:Nat) (cs:af) (k:Nat)
  (hu:P.underlying dT=aC (.slice elem)) (hi:P.info? elem=aC i) (hn:Nat.min sLen dLen=k) (hl:cs.length=k*i.size)
  (hsrc:∀j v,cs[j]?=aC v->w.cell? (a.add j)=aC v) (hc:∀j,j<cs.length->(w.cell? ⟨b,o+j,aB⟩).isSome=true) (hf:∀j,j<cs.length->w.frozen? ⟨b,o+j,aB⟩=false) (h1:∀v∈cs,v.oneCell'=true) :
  (Builtin.copy_ #[dT,sT] ty #[aw (aC ⟨b,o,aB⟩) dLen dCap,aw (aC a) sLen sCap]).run P w= .ok (goInt k) (w.setCells b o cs):=by
 have hl':=run_firstCells_some (P:=P) (w:=w) i.size k a sLen sCap cs hl hsrc;have hst:=run_storeCells_cells (P:=P) b o cs 0 w (by simpa using hc) (by simpa using hf) h1;simp [Builtin.copy_,run_underlying hu,Builtin.lenOf,sizeOf,typeInfo,hi,hn,hl',hst]
theorem yT (z:Array Value) (k:Nat):(Builtin.zeroCells z k).size=k*z.size:=by
 simp [Builtin.zeroCells]
theorem XY {G:Nat} {cs vs R:af} (hcl:cs.length=n*4) (hvl:vs.length=4) (hi:i<n) (hR:R.length=G*4) (hG:n+1<=G) (hRt:R.take (i*4)=cs.take (i*4)) (hA:Arr W g e R) :
  ∃R',Arr ((W.setCells g (i*4) vs).drew.setCells g ((i+1)*4) (cs.drop (i*4))) g e R'/\R'.length=G*4/\R'.take ((n+1)*4)=cs.take (i*4)++vs++cs.drop (i*4):=by
 have hti:(cs.take (i*4)).length=i*4:=by rw [List.length_take];omega
 have hdl:(cs.drop (i*4)).length=(n - i)*4:=by rw [List.length_drop,hcl];omega
 have e1:R=cs.take (i*4)++((R.drop (i*4)).take 4++R.drop (i*4+4)):=by
  rw [<-hRt,<-List.drop_drop,List.take_append_drop,List.take_append_drop]
 rw [e1]at hA;have hA1:=Arr.setsMid vs _ (cs.take (i*4)) _ _ hA (by rw [List.length_take,List.length_drop,hvl];omega);rw [hti]at hA1;have e2:cs.take (i*4)++(vs++R.drop (i*4+4))=(cs.take (i*4)++vs)++((R.drop (i*4+4)).take ((n - i)*4)++(R.drop (i*4+4)).drop ((n - i)*4)):=by
  rw [List.take_append_drop,List.append_assoc]
 rw [e2]at hA1;have hA2:=Arr.setsMid (cs.drop (i*4)) _ (cs.take (i*4)++vs) _ _ hA1.drew (by rw [List.length_take,List.length_drop,List.length_drop,hcl,hR];omega);rw [show(cs.take (i*4)++vs).length=(i+1)*4 by rw [List.length_append,hti,hvl];omega]at hA2;refine⟨_,hA2,?_,?_⟩
 ·simp only [List.length_append,hti,hvl,hdl,List.length_drop,hR];omega
 ·rw [<-List.append_assoc,List.take_append_of_le_length (by simp only [List.length_append,hti,hvl,hdl];omega),List.take_of_length_le (by simp only [List.length_append,hti,hvl,hdl];omega)]
theorem RwX.anew {S:Shp α} {w':World} {v':Value} (ps:Cel α) (h2:qK S w ps) (hN:∀p∈ps,∀b,N b->¬leads b p.2) (ho:w'.ownsRow w.heap.size e S.size v' ps.length (cls ps)) (hb:Below w.heap.size w w'):RwX S e w' w.heap.size v' (ps.map (·.1)) N :=
 ⟨ps,rfl,h2.below hb,by rw [List.length_map];exact ho,fun p hp b hb' hl=>by
  rcases hb' with e1 | e1
  ·have h1:=(ho.lt b e1).1
   have h3:=S.live (h2 p hp) b hl
   omega
  ·exact hN p hp b e1 hl⟩
theorem RwX.lower {S:Shp α} {base':Nat} (h:RwX S e w base v l N) (hb:base'<=base):RwX S e w base' v l N:=by
 obtain⟨ps,h1,h2,h3,h4⟩:=h;exact⟨ps,h1,h2,zb h3 hb,h4⟩
theorem KW (b n i vb vc:Nat) (cs vs:af) (w:World) (hi:i<n) (hbig:n<=100000) (hcl:cs.length=n*4) (hvl:vs.length=4)
  (hcs:∀j v,cs[j]?=aC v->w.cell? ⟨b,j,aB⟩=aC v) (hvs:∀j v,vs[j]?=aC v->w.cell? ⟨vb,j,aB⟩=aC v) (h1c:∀v∈cs,v.oneCell'=true) (h1v:∀v∈vs,v.oneCell'=true) :
  Calls zZZ 207 #[aw (aC ⟨b,0,aB⟩) n n,ax .i64 i,aw (aC ⟨vb,0,aB⟩) 1 vc] w fun e w' =>
   ∃v',e= .returned v'/\w'.ownsRow w.heap.size 88 4 v' (n+1) (cs.take (i*4)++vs++cs.drop (i*4))/\Below w.heap.size w w':=by
 have hz1:((1:Int)==0)=false:=wo;have hz2:((i:Int)==(n:Int))=false:=by rw [beq_eq_false_iff_ne];omega
 have hz3:decide ((n:Int)+1>(n:Int))=true:=decide_eq_true wj;have hz4:decide ((n:Int)<(n:Int)+1)=true:=decide_eq_true wj;obtain⟨hu,⟨i0,z0,hi0,hz0,hs0,hby0,hzs0⟩,hp0,hq0⟩:=ue;have hbw:b<w.heap.size:=block_lt_of_cell (hcs 0 _ (List.getElem?_eq_getElem wj));have hvw:vb<w.heap.size:=block_lt_of_cell (hvs 0 _ (List.getElem?_eq_getElem wj));have hkk:(n:Int)+1 - (i:Int)=((n+1 - i:Nat):Int):=wj;have hik:i+(n+1 - i)=n+1:=wj;have hold:(Builtin.firstCells i0.size i (aw (aC ⟨b,0,aB⟩) i n)).run zZZ w.drew= .ok (cs.take (i*4)).toArray w.drew:=by
  rw [hs0];exact run_firstCells_some w.drew 4 i ⟨b,0,aB⟩ i n (cs.take (i*4)) (by rw [List.length_take];omega) (fun j v hj=>by
   rw [yU,Nat.zero_add];rw [List.getElem?_take]at hj;split at hj
   ·exact hcs j v hj
   ·cases hj)
 have hrz:∀ty,(Builtin.append_ #[24,3] ty #[aw (aC ⟨b,0,aB⟩) i n,ax .i64 ((n:Int)+1 - (i:Int))]).run zZZ w =
   .ok (aw (aC ⟨w.heap.size,0,aB⟩) (n+1) (grownCap w (n+1) n 88)) (w.drew.alloc (.cells ((cs.take (i*4)).toArray++Builtin.zeroCells z0.cells (n+1 - i)++Builtin.zeroCells z0.cells (grownCap w (n+1) n 88 - (n+1))) 88)):=fun ty=>by
  have h:=Lib.run_append_grow_zeros (P:=zZZ) w 24 3 ty 88 i0 z0 .i64 .i64 hu underlying3 hi0 hz0 (aC ⟨b,0,aB⟩) i n (cs.take (i*4)) hold (n+1 - i) wj wj wj wj (by rw [hby0];omega) (by rw [hby0,hik];exact growslice_fits wj wj);rw [hik]at h;rw [hkk];exact h
 have hz0c:z0.cells.size=4:=hzs0;obtain⟨G,hG⟩:=wU (grownCap w (n+1) n 88)
 have hGn:n+1<=G:=by rw [hG];exact grownCap_ge w _ _ _
 have hGm:G<=maxLen:=by rw [hG];exact grownCap_le_maxLen w (n+1) n 88 (by unfold maxLen;omega)
 have hG63:G<=9223372036854775807:=by unfold maxLen at hGm;omega
 obtain⟨ROW,hROW⟩:=wU ((cs.take (i*4)).toArray++Builtin.zeroCells z0.cells (n+1 - i)++Builtin.zeroCells z0.cells (G - (n+1)):Array Value)
 rw [<-hG]at hrz;rw [<-hROW]at hrz;have hRs:ROW.size=G*4:=by
  rw [hROW];simp only [Array.size_append,List.size_toArray,List.length_take,yT,hz0c,hcl];have:Nat.min (i*4) (n*4)=i*4:=Nat.min_eq_left wj;omega
 have hRt:ROW.toList.take (i*4)=cs.take (i*4):=by
  rw [hROW];simp only [Array.toList_append,List.append_assoc];rw [List.take_append_of_le_length aa,List.take_of_length_le aa]
 have hA1:Arr (w.drew.alloc (.cells ROW 88)) w.heap.size 88 ROW.toList:=by
  have:=Arr.new w.drew 88 ROW.toList;simpa using this
 have hA1':Arr (w.alloc (.cells ROW 88)).drew w.heap.size 88 ROW.toList:=hA1;obtain⟨R',hA',hRl,hRt'⟩:=XY hcl hvl hi (by simpa using hRs) hGn hRt hA1';have hN:∀j,j<G*4->((w.drew.alloc (.cells ROW 88)).cell? ⟨w.heap.size,j,aB⟩).isSome=true:=fun j hj=>by
  rw [hA1.cell (k:=j) (List.getElem?_eq_getElem (by simpa [hRs] using hj))];rfl
 have hNf:∀j,(w.drew.alloc (.cells ROW 88)).frozen? ⟨w.heap.size,j,aB⟩=false:=fun j=>hA1.frozen j;have hOb:∀j v,w.cell? ⟨b,j,aB⟩=aC v->(w.drew.alloc (.cells ROW 88)).cell? ⟨b,j,aB⟩=aC v:=fun j v h=>(World.cell?_alloc_lt w.drew _ ⟨b,j,aB⟩ hbw).trans h;have hOv:∀j v,w.cell? ⟨vb,j,aB⟩=aC v->(w.drew.alloc (.cells ROW 88)).cell? ⟨vb,j,aB⟩=aC v:=fun j v h=>(World.cell?_alloc_lt w.drew _ ⟨vb,j,aB⟩ hvw).trans h;have hcpA:∀(W:World),(∀x,W.cell? x=(w.drew.alloc (.cells ROW 88)).cell? x)->(∀x,W.frozen? x=(w.drew.alloc (.cells ROW 88)).frozen? x)->∀ty dc,(Builtin.copy_ #[24,24] ty #[aw (aC ⟨w.heap.size,i*4,aB⟩) (n+1 - i) dc,aw (aC ⟨vb,0,aB⟩) 1 vc]).run zZZ W= .ok (goInt 1) (W.setCells w.heap.size (i*4) vs):=fun W hWc hWf ty dc =>
  qR W 24 24 ty 88 i0 w.heap.size (i*4) (n+1 - i) dc ⟨vb,0,aB⟩ 1 vc vs 1 hu hi0 (by simp only [Nat.min_def];split<;>omega) (by rw [hvl,hs0])
   (fun j v hj=>by rw [yU,hWc,Nat.zero_add];exact hOv _ v (hvs j v hj))
   (fun j hj=>by rw [hWc];exact hN _ wj) (fun j hj=>by rw [hWf];exact hNf _) h1v
 have hbN:b≠w.heap.size:=wj;have hdl:(cs.drop (i*4)).length=(n - i)*4:=by rw [List.length_drop,hcl];omega
 have hcpB:∀(W:World),(∀x,W.cell? x=((w.drew.alloc (.cells ROW 88)).setCells w.heap.size (i*4) vs).cell? x)->(∀x,W.frozen? x=((w.drew.alloc (.cells ROW 88)).setCells w.heap.size (i*4) vs).frozen? x)->∀ty dc sc,(Builtin.copy_ #[24,24] ty #[aw (aC ⟨w.heap.size,(i+1)*4,aB⟩) (n+1 - (i+1)) dc,aw (aC ⟨b,i*4,aB⟩) (n - i) sc]).run zZZ W=   .ok (goInt ((n - i:Nat):Int)) (W.setCells w.heap.size ((i+1)*4) (cs.drop (i*4))):=fun W hWc hWf ty dc sc =>
  qR W 24 24 ty 88 i0 w.heap.size ((i+1)*4) (n+1 - (i+1)) dc ⟨b,i*4,aB⟩ (n - i) sc (cs.drop (i*4)) (n - i) hu hi0 (by simp only [Nat.min_def];split<;>omega) (by rw [hdl,hs0])
   (fun j v hj=>by
    rw [yU,hWc,World.cell?_setCells_out _ _ _ _ _ (fun h _=>absurd h hbN)];exact hOb _ v (hcs (i*4+j) v (by rwa [List.getElem?_drop]at hj)))
   (fun j hj=>by rw [hWc];exact isSome_setCells _ _ _ _ (fun t ht=>hN _ wj) _ (hN _ wj))
   (fun j hj=>by rw [hWf,World.frozen?_setCells];exact hNf _) (fun v hv=>h1c v (List.mem_of_mem_drop hv))
 have hE1:∀x,((w.alloc (.cells ROW 88)).drew).cell? x=(w.drew.alloc (.cells ROW 88)).cell? x:=fun x=>rfl;have hE2:∀x,((w.alloc (.cells ROW 88)).drew).frozen? x=(w.drew.alloc (.cells ROW 88)).frozen? x:=fun x=>rfl;have hF1:∀x,(((w.alloc (.cells ROW 88)).drew.setCells w.heap.size (i*4) vs).drew).cell? x=((w.drew.alloc (.cells ROW 88)).setCells w.heap.size (i*4) vs).cell? x:=fun x=>rfl;have hF2:∀x,(((w.alloc (.cells ROW 88)).drew.setCells w.heap.size (i*4) vs).drew).frozen? x=((w.drew.alloc (.cells ROW 88)).setCells w.heap.size (i*4) vs).frozen? x:=fun x=>rfl;have hGi:¬(G=i):=wj;have hGim:¬(G=i+1):=wj;have hci:¬(n=i):=wj;have hw1:IntKind.i64.wrap ((i:Int)+1)=(i:Int)+1:=IntWalk.i64_in _ wj;have hb1:(0:Int)<=(i:Int)+1:=wj;have hin:i<=n:=wj;have htn:((i:Int)+1).toNat=i+1:=wj;have hb3:(i:Int)<=(n:Int):=wj;have mixed:zZZ.follows .mixedOrders=true:=wm;have HROW:=sqH (aD hA' (aD hRl hRt'));clear hold hROW hRs hRt hA1 hA1' hA' hRl hRt' hN hNf hOb hOv hcs hvs hkk hik hG hz0c;go_enter func207,ntmps207
 refine wH ?_;intros;refine Lib.wpList_append_run _ rfl _ _ _ _ rfl _ _ rfl rfl _ _ (hrz _) ?_;go_wp2_with fail;go_region_law_o (refine step_copy_runI rfl _ _ 24 24 rfl (aw (aC ⟨w.heap.size,(i+1)*4,aB⟩) (n+1 - (i+1)) (G - (i+1))) (aw (aC ⟨b,i*4,aB⟩) (n - i) (n - i)) (by simp [Act.eval,Act.put]) (by simp [Act.eval,Act.put]) (hcpB _ hF1 hF2 3 (G - (i+1)) (n - i)) ?_);go_wp2_with fail;go_ret;have h1:=(wi w (.cells ROW 88)).drew;exact⟨_,rfl,⟨by simp only [List.length_append,List.length_take,List.length_drop,hcl,hvl];omega,.inr ⟨w.heap.size,G,R'.toArray,rfl,Nat.le_refl _,HROW.o.1,hGn,hGm,by simpa using HROW.o.2.1,by simpa using HROW.o.2.2⟩⟩,
  Below.sets ab _ _ _ (Below.sets ab _ _ _ h1).drew⟩
theorem KX (b n i vb vc:Nat) (cs vs:af) (w:World) (hi:i<n) (hbig:n<=100000) (hcl:cs.length=n*4) (hvl:vs.length=4)
  (hcs:∀j v,cs[j]?=aC v->w.cell? ⟨b,j,aB⟩=aC v) (hvs:∀j v,vs[j]?=aC v->w.cell? ⟨vb,j,aB⟩=aC v) (h1c:∀v∈cs,v.oneCell'=true) (h1v:∀v∈vs,v.oneCell'=true) :
  Calls zZZ 226 #[aw (aC ⟨b,0,aB⟩) n n,ax .i64 i,aw (aC ⟨vb,0,aB⟩) 1 vc] w fun e w' =>
   ∃v',e= .returned v'/\w'.ownsRow w.heap.size 109 4 v' (n+1) (cs.take (i*4)++vs++cs.drop (i*4))/\Below w.heap.size w w':=by
 have hz1:((1:Int)==0)=false:=wo;have hz2:((i:Int)==(n:Int))=false:=by rw [beq_eq_false_iff_ne];omega
 have hz3:decide ((n:Int)+1>(n:Int))=true:=decide_eq_true wj;have hz4:decide ((n:Int)<(n:Int)+1)=true:=decide_eq_true wj;obtain⟨hu,⟨i0,z0,hi0,hz0,hs0,hby0,hzs0⟩,hp0,hq0⟩:=Xy;have hbw:b<w.heap.size:=block_lt_of_cell (hcs 0 _ (List.getElem?_eq_getElem wj));have hvw:vb<w.heap.size:=block_lt_of_cell (hvs 0 _ (List.getElem?_eq_getElem wj));have hkk:(n:Int)+1 - (i:Int)=((n+1 - i:Nat):Int):=wj;have hik:i+(n+1 - i)=n+1:=wj;have hold:(Builtin.firstCells i0.size i (aw (aC ⟨b,0,aB⟩) i n)).run zZZ w.drew= .ok (cs.take (i*4)).toArray w.drew:=by
  rw [hs0];exact run_firstCells_some w.drew 4 i ⟨b,0,aB⟩ i n (cs.take (i*4)) (by rw [List.length_take];omega) (fun j v hj=>by
   rw [yU,Nat.zero_add];rw [List.getElem?_take]at hj;split at hj
   ·exact hcs j v hj
   ·cases hj)
 have hrz:∀ty,(Builtin.append_ #[25,3] ty #[aw (aC ⟨b,0,aB⟩) i n,ax .i64 ((n:Int)+1 - (i:Int))]).run zZZ w =
   .ok (aw (aC ⟨w.heap.size,0,aB⟩) (n+1) (grownCap w (n+1) n 109)) (w.drew.alloc (.cells ((cs.take (i*4)).toArray++Builtin.zeroCells z0.cells (n+1 - i)++Builtin.zeroCells z0.cells (grownCap w (n+1) n 109 - (n+1))) 109)):=fun ty=>by
  have h:=Lib.run_append_grow_zeros (P:=zZZ) w 25 3 ty 109 i0 z0 .i64 .i64 hu underlying3 hi0 hz0 (aC ⟨b,0,aB⟩) i n (cs.take (i*4)) hold (n+1 - i) wj wj wj wj (by rw [hby0];omega) (by rw [hby0,hik];exact growslice_fits wj wj);rw [hik]at h;rw [hkk];exact h
 have hz0c:z0.cells.size=4:=hzs0;obtain⟨G,hG⟩:=wU (grownCap w (n+1) n 109)
 have hGn:n+1<=G:=by rw [hG];exact grownCap_ge w _ _ _
 have hGm:G<=maxLen:=by rw [hG];exact grownCap_le_maxLen w (n+1) n 109 (by unfold maxLen;omega)
 have hG63:G<=9223372036854775807:=by unfold maxLen at hGm;omega
 obtain⟨ROW,hROW⟩:=wU ((cs.take (i*4)).toArray++Builtin.zeroCells z0.cells (n+1 - i)++Builtin.zeroCells z0.cells (G - (n+1)):Array Value)
 rw [<-hG]at hrz;rw [<-hROW]at hrz;have hRs:ROW.size=G*4:=by
  rw [hROW];simp only [Array.size_append,List.size_toArray,List.length_take,yT,hz0c,hcl];have:Nat.min (i*4) (n*4)=i*4:=Nat.min_eq_left wj;omega
 have hRt:ROW.toList.take (i*4)=cs.take (i*4):=by
  rw [hROW];simp only [Array.toList_append,List.append_assoc];rw [List.take_append_of_le_length aa,List.take_of_length_le aa]
 have hA1:Arr (w.drew.alloc (.cells ROW 109)) w.heap.size 109 ROW.toList:=by
  have:=Arr.new w.drew 109 ROW.toList;simpa using this
 have hA1':Arr (w.alloc (.cells ROW 109)).drew w.heap.size 109 ROW.toList:=hA1;obtain⟨R',hA',hRl,hRt'⟩:=XY hcl hvl hi (by simpa using hRs) hGn hRt hA1';have hN:∀j,j<G*4->((w.drew.alloc (.cells ROW 109)).cell? ⟨w.heap.size,j,aB⟩).isSome=true:=fun j hj=>by
  rw [hA1.cell (k:=j) (List.getElem?_eq_getElem (by simpa [hRs] using hj))];rfl
 have hNf:∀j,(w.drew.alloc (.cells ROW 109)).frozen? ⟨w.heap.size,j,aB⟩=false:=fun j=>hA1.frozen j;have hOb:∀j v,w.cell? ⟨b,j,aB⟩=aC v->(w.drew.alloc (.cells ROW 109)).cell? ⟨b,j,aB⟩=aC v:=fun j v h=>(World.cell?_alloc_lt w.drew _ ⟨b,j,aB⟩ hbw).trans h;have hOv:∀j v,w.cell? ⟨vb,j,aB⟩=aC v->(w.drew.alloc (.cells ROW 109)).cell? ⟨vb,j,aB⟩=aC v:=fun j v h=>(World.cell?_alloc_lt w.drew _ ⟨vb,j,aB⟩ hvw).trans h;have hcpA:∀(W:World),(∀x,W.cell? x=(w.drew.alloc (.cells ROW 109)).cell? x)->(∀x,W.frozen? x=(w.drew.alloc (.cells ROW 109)).frozen? x)->∀ty dc,(Builtin.copy_ #[25,25] ty #[aw (aC ⟨w.heap.size,i*4,aB⟩) (n+1 - i) dc,aw (aC ⟨vb,0,aB⟩) 1 vc]).run zZZ W= .ok (goInt 1) (W.setCells w.heap.size (i*4) vs):=fun W hWc hWf ty dc =>
  qR W 25 25 ty 109 i0 w.heap.size (i*4) (n+1 - i) dc ⟨vb,0,aB⟩ 1 vc vs 1 hu hi0 (by simp only [Nat.min_def];split<;>omega) (by rw [hvl,hs0])
   (fun j v hj=>by rw [yU,hWc,Nat.zero_add];exact hOv _ v (hvs j v hj))
   (fun j hj=>by rw [hWc];exact hN _ wj) (fun j hj=>by rw [hWf];exact hNf _) h1v
 have hbN:b≠w.heap.size:=wj;have hdl:(cs.drop (i*4)).length=(n - i)*4:=by rw [List.length_drop,hcl];omega
 have hcpB:∀(W:World),(∀x,W.cell? x=((w.drew.alloc (.cells ROW 109)).setCells w.heap.size (i*4) vs).cell? x)->(∀x,W.frozen? x=((w.drew.alloc (.cells ROW 109)).setCells w.heap.size (i*4) vs).frozen? x)->∀ty dc sc,(Builtin.copy_ #[25,25] ty #[aw (aC ⟨w.heap.size,(i+1)*4,aB⟩) (n+1 - (i+1)) dc,aw (aC ⟨b,i*4,aB⟩) (n - i) sc]).run zZZ W=   .ok (goInt ((n - i:Nat):Int)) (W.setCells w.heap.size ((i+1)*4) (cs.drop (i*4))):=fun W hWc hWf ty dc sc =>
  qR W 25 25 ty 109 i0 w.heap.size ((i+1)*4) (n+1 - (i+1)) dc ⟨b,i*4,aB⟩ (n - i) sc (cs.drop (i*4)) (n - i) hu hi0 (by simp only [Nat.min_def];split<;>omega) (by rw [hdl,hs0])
   (fun j v hj=>by
    rw [yU,hWc,World.cell?_setCells_out _ _ _ _ _ (fun h _=>absurd h hbN)];exact hOb _ v (hcs (i*4+j) v (by rwa [List.getElem?_drop]at hj)))
   (fun j hj=>by rw [hWc];exact isSome_setCells _ _ _ _ (fun t ht=>hN _ wj) _ (hN _ wj))
   (fun j hj=>by rw [hWf,World.frozen?_setCells];exact hNf _) (fun v hv=>h1c v (List.mem_of_mem_drop hv))
 have hE1:∀x,((w.alloc (.cells ROW 109)).drew).cell? x=(w.drew.alloc (.cells ROW 109)).cell? x:=fun x=>rfl;have hE2:∀x,((w.alloc (.cells ROW 109)).drew).frozen? x=(w.drew.alloc (.cells ROW 109)).frozen? x:=fun x=>rfl;have hF1:∀x,(((w.alloc (.cells ROW 109)).drew.setCells w.heap.size (i*4) vs).drew).cell? x=((w.drew.alloc (.cells ROW 109)).setCells w.heap.size (i*4) vs).cell? x:=fun x=>rfl;have hF2:∀x,(((w.alloc (.cells ROW 109)).drew.setCells w.heap.size (i*4) vs).drew).frozen? x=((w.drew.alloc (.cells ROW 109)).setCells w.heap.size (i*4) vs).frozen? x:=fun x=>rfl;have hGi:¬(G=i):=wj;have hGim:¬(G=i+1):=wj;have hci:¬(n=i):=wj;have hw1:IntKind.i64.wrap ((i:Int)+1)=(i:Int)+1:=IntWalk.i64_in _ wj;have hb1:(0:Int)<=(i:Int)+1:=wj;have hin:i<=n:=wj;have htn:((i:Int)+1).toNat=i+1:=wj;have hb3:(i:Int)<=(n:Int):=wj;have mixed:zZZ.follows .mixedOrders=true:=wm;have HROW:=sqH (aD hA' (aD hRl hRt'));clear hold hROW hRs hRt hA1 hA1' hA' hRl hRt' hN hNf hOb hOv hcs hvs hkk hik hG hz0c;go_enter func226,ntmps226
 refine wH ?_;intros;refine Lib.wpList_append_run _ rfl _ _ _ _ rfl _ _ rfl rfl _ _ (hrz _) ?_;go_wp2_with fail;go_region_law_o (refine step_copy_runI rfl _ _ 25 25 rfl (aw (aC ⟨w.heap.size,(i+1)*4,aB⟩) (n+1 - (i+1)) (G - (i+1))) (aw (aC ⟨b,i*4,aB⟩) (n - i) (n - i)) (by simp [Act.eval,Act.put]) (by simp [Act.eval,Act.put]) (hcpB _ hF1 hF2 3 (G - (i+1)) (n - i)) ?_);go_wp2_with fail;go_ret;have h1:=(wi w (.cells ROW 109)).drew;exact⟨_,rfl,⟨by simp only [List.length_append,List.length_take,List.length_drop,hcl,hvl];omega,.inr ⟨w.heap.size,G,R'.toArray,rfl,Nat.le_refl _,HROW.o.1,hGn,hGm,by simpa using HROW.o.2.1,by simpa using HROW.o.2.2⟩⟩,
  Below.sets ab _ _ _ (Below.sets ab _ _ _ h1).drew⟩
theorem KY (l:List BlobP) (g i:Nat) (x:BlobP) (B:ae) (c vb vc:Nat) (w:World) (base:Nat) (N:ai) (hi:i<=l.length) (hbig:l.length<=1000) (hbase:base<=w.heap.size)
  (hv:RwX BlobS 88 w base (aw (aC ⟨g,0,aB⟩) l.length l.length) l N) (hx:Arr w vb 88 (zZ x B c)) (hR:(BlobS).R w x (zZ x B c)) (hxl:∀b,(b=g\/N b)->¬leads b (zZ x B c)) :
  Calls zZZ 207 #[aw (aC ⟨g,0,aB⟩) l.length l.length,ax .i64 i,aw (aC ⟨vb,0,aB⟩) 1 vc] w fun e w' =>
   ∃v',e= .returned v'/\RwX BlobS 88 w' base v' (l.take i++x::l.drop i) N/\w.grownBy w' (aC g):=by
 rcases Nat.lt_or_ge i l.length with hlt | hge
 ·obtain⟨ps,h1,h2,h3,h4⟩:=hv;have hpl:ps.length=l.length:=by rw [<-h1,List.length_map]
  obtain⟨b,off,e1,hb,hc⟩:=(Rd.of_own h3).2 wj;cases e1
  refine(KW g l.length i vb vc (cls ps) (zZ x B c) w hlt wj (by have:=h3.1;exact this) rfl (fun j v hj=>by have:=hc j v hj;rwa [Nat.zero_add]at this) (fun j v hj=>hx.cell hj) h2.ones (jN _ _ _)).mono ?_;rintro e w' ⟨v',rfl,ho,hb'⟩;have e2:(cls ps).take (i*4)++zZ x B c++(cls ps).drop (i*4)=cls (ps.take i++(x,zZ x B c)::ps.drop i):=by
   rw [yW,ql,kJ (s:=4) ps i h2.lens,yh (s:=4) ps i h2.lens,List.append_assoc]
  have hr:qK BlobS w (ps.take i++(x,zZ x B c)::ps.drop i):=fun p hp=>by
   rcases List.mem_append.1 hp with h | h
   ·exact h2 p (List.mem_of_mem_take h)
   ·rcases List.mem_cons.1 h with h | h
    ·subst h;exact hR
    ·exact h2 p (List.mem_of_mem_drop h)
  have hn:∀p∈ps.take i++(x,zZ x B c)::ps.drop i,∀b,N b->¬leads b p.2:=fun p hp b hb=>by
   rcases List.mem_append.1 hp with h | h
   ·exact h4 p (List.mem_of_mem_take h) b (.inr hb)
   ·rcases List.mem_cons.1 h with h | h
    ·subst h;exact hxl b (.inr hb)
    ·exact h4 p (List.mem_of_mem_drop h) b (.inr hb)
  rw [e2]at ho;have hlen:(ps.take i++(x,zZ x B c)::ps.drop i).length=l.length+1:=by
   rw [List.length_append,List.length_cons,List.length_take,List.length_drop];omega
  have h5:=RwX.anew _ hr hn (by rw [hlen];exact ho) hb';have h6:(ps.take i++(x,zZ x B c)::ps.drop i).map (·.1)=l.take i++x::l.drop i:=by
   rw [List.map_append,List.map_cons,List.map_take,List.map_drop,h1]
  rw [h6]at h5;exact⟨v',rfl,h5.lower hbase,hb'.os,hb'.tape,hb'.output,hb'.size,fun k hk _=>hb'.block k hk⟩
 ·obtain rfl:i=l.length:=by omega
  rw [List.take_length,List.drop_length];obtain⟨xs,hxo,hop⟩:=hv.open_;have hxr:Rd w 4 (aC ⟨vb,0,aB⟩) 1 (zZ x B c):=Rd.of_arr hx rfl rfl;obtain⟨HOP,HR,HXL⟩:=sqJ3 hop hR hxl;clear hop hv hR hxl;go_enter func207,ntmps207
  refine wH ?_;intros;refine zK rfl (.tmp 23) (.tmp 24) rfl ue wu hxo wu hxr (jN _ _ _) wj hbase ?_;intro v1 w1 ho1 hg1 hv1;have hres:=HOP.o x _ w w1 v1 (Below.refl _ _) HR.o (fun b hb=>HXL.o b (hb.imp (fun e=>(Option.some.inj e).symm) id)) ho1 hg1 (hv1.imp id fun e=>⟨_,e,Nat.le_refl _⟩);go_wp2_with fail;go_ret;exact⟨_,rfl,hres,hg1⟩
theorem Zg (A:ae) (n c:Nat) (xs:af) (w:World) (hb:n*56<=140737488355328) (hr:Rd w 4 A n xs) (h1:∀u∈xs,u.oneCell'=true) :
  Calls zZZ 206 #[aw A n c] w fun e w'=>∃v,e= .returned v/\w'.ownsRow w.heap.size 88 4 v n xs/\Below w.heap.size w w':=by
 have heq:=fun W=>Lib.run_eql_slice_nil (P:=zZZ) W 24 88 A n c 0 0 underlying24;cases A with
 | none =>
  obtain rfl:n=0:=by
   rcases Nat.eq_zero_or_pos n with h | h
   ·exact h
   ·obtain⟨_,_,h1,_⟩:=hr.2 h;cases h1
  obtain rfl:xs= []:=List.eq_nil_of_length_eq_zero (by simpa using hr.1);go_enter func206,ntmps206;go_wp2_with fail;go_ret;exact⟨_,rfl,World.ownsRow_nil _ _ _ _,Below.refl _ _⟩
 | some ad =>
  go_enter func206,ntmps206
  refine wH ?_;intros;refine zK rfl (.tmp 5) (.tmp 6) rfl ue wu (World.ownsRow_made (size:=4) w #[] 0 ab (by simp [maxLen]) rfl) wu (hr.alloc _) h1 wj ws ?_;intro v1 w1 hown1 hg1 _;have hb1:=zj ((Below.refl _ _).alloc ab _) (World.ownsRow_made (size:=4) w #[] 0 ab (by simp [maxLen]) rfl) ab hg1;go_wp2_with fail;go_ret;exact⟨_,rfl,by simpa using hown1,hb1⟩
theorem YG (v:Value) (l:List BlobP) (w:World) (base:Nat) (N:ai) (hl:l.length<=1000000) (hv:RwX BlobS 88 w base v l N) :
  Calls zZZ 206 #[v] w fun e w'=>∃v',e= .returned v'/\RwX BlobS 88 w' w.heap.size v' l N/\Below w.heap.size w w':=by
 obtain⟨ps,h1,h2,h3,h4⟩:=hv;obtain⟨A,c,rfl,hc,hr⟩:=Rd.of_own' h3;refine(Zg A l.length c (cls ps) w wj hr h2.ones).mono ?_;rintro e w' ⟨v',rfl,ho,hb⟩;have hpl:ps.length=l.length:=by rw [<-h1,List.length_map]
 have h5:=RwX.anew ps h2 (fun p hp b hb=>h4 p hp b (.inr hb)) (by rw [hpl];exact ho) hb;rw [h1]at h5;exact⟨v',rfl,h5,hb⟩
theorem KZ (l:List EntP) (g i:Nat) (x:EntP) (B:ae) (c vb vc:Nat) (w:World) (base:Nat) (N:ai) (hi:i<=l.length) (hbig:l.length<=1000) (hbase:base<=w.heap.size)
  (hv:RwX EntS 109 w base (aw (aC ⟨g,0,aB⟩) l.length l.length) l N) (hx:Arr w vb 109 (kn x B c)) (hR:(EntS).R w x (kn x B c)) (hxl:∀b,(b=g\/N b)->¬leads b (kn x B c)) :
  Calls zZZ 226 #[aw (aC ⟨g,0,aB⟩) l.length l.length,ax .i64 i,aw (aC ⟨vb,0,aB⟩) 1 vc] w fun e w' =>
   ∃v',e= .returned v'/\RwX EntS 109 w' base v' (l.take i++x::l.drop i) N/\w.grownBy w' (aC g):=by
 rcases Nat.lt_or_ge i l.length with hlt | hge
 ·obtain⟨ps,h1,h2,h3,h4⟩:=hv;have hpl:ps.length=l.length:=by rw [<-h1,List.length_map]
  obtain⟨b,off,e1,hb,hc⟩:=(Rd.of_own h3).2 wj;cases e1
  refine(KX g l.length i vb vc (cls ps) (kn x B c) w hlt wj (by have:=h3.1;exact this) rfl (fun j v hj=>by have:=hc j v hj;rwa [Nat.zero_add]at this) (fun j v hj=>hx.cell hj) h2.ones (JG _ _ _)).mono ?_;rintro e w' ⟨v',rfl,ho,hb'⟩;have e2:(cls ps).take (i*4)++kn x B c++(cls ps).drop (i*4)=cls (ps.take i++(x,kn x B c)::ps.drop i):=by
   rw [yW,ql,kJ (s:=4) ps i h2.lens,yh (s:=4) ps i h2.lens,List.append_assoc]
  have hr:qK EntS w (ps.take i++(x,kn x B c)::ps.drop i):=fun p hp=>by
   rcases List.mem_append.1 hp with h | h
   ·exact h2 p (List.mem_of_mem_take h)
   ·rcases List.mem_cons.1 h with h | h
    ·subst h;exact hR
    ·exact h2 p (List.mem_of_mem_drop h)
  have hn:∀p∈ps.take i++(x,kn x B c)::ps.drop i,∀b,N b->¬leads b p.2:=fun p hp b hb=>by
   rcases List.mem_append.1 hp with h | h
   ·exact h4 p (List.mem_of_mem_take h) b (.inr hb)
   ·rcases List.mem_cons.1 h with h | h
    ·subst h;exact hxl b (.inr hb)
    ·exact h4 p (List.mem_of_mem_drop h) b (.inr hb)
  rw [e2]at ho;have hlen:(ps.take i++(x,kn x B c)::ps.drop i).length=l.length+1:=by
   rw [List.length_append,List.length_cons,List.length_take,List.length_drop];omega
  have h5:=RwX.anew _ hr hn (by rw [hlen];exact ho) hb';have h6:(ps.take i++(x,kn x B c)::ps.drop i).map (·.1)=l.take i++x::l.drop i:=by
   rw [List.map_append,List.map_cons,List.map_take,List.map_drop,h1]
  rw [h6]at h5;exact⟨v',rfl,h5.lower hbase,hb'.os,hb'.tape,hb'.output,hb'.size,fun k hk _=>hb'.block k hk⟩
 ·obtain rfl:i=l.length:=by omega
  rw [List.take_length,List.drop_length];obtain⟨xs,hxo,hop⟩:=hv.open_;have hxr:Rd w 4 (aC ⟨vb,0,aB⟩) 1 (kn x B c):=Rd.of_arr hx rfl rfl;obtain⟨HOP,HR,HXL⟩:=sqJ3 hop hR hxl;clear hop hv hR hxl;go_enter func226,ntmps226
  refine wH ?_;intros;refine zK rfl (.tmp 23) (.tmp 24) rfl Xy wu hxo wu hxr (JG _ _ _) wj hbase ?_;intro v1 w1 ho1 hg1 hv1;have hres:=HOP.o x _ w w1 v1 (Below.refl _ _) HR.o (fun b hb=>HXL.o b (hb.imp (fun e=>(Option.some.inj e).symm) id)) ho1 hg1 (hv1.imp id fun e=>⟨_,e,Nat.le_refl _⟩);go_wp2_with fail;go_ret;exact⟨_,rfl,hres,hg1⟩
theorem Zh (A:ae) (n c:Nat) (xs:af) (w:World) (hb:n*56<=140737488355328) (hr:Rd w 4 A n xs) (h1:∀u∈xs,u.oneCell'=true) :
  Calls zZZ 225 #[aw A n c] w fun e w'=>∃v,e= .returned v/\w'.ownsRow w.heap.size 109 4 v n xs/\Below w.heap.size w w':=by
 have heq:=fun W=>Lib.run_eql_slice_nil (P:=zZZ) W 25 109 A n c 0 0 underlying25;cases A with
 | none =>
  obtain rfl:n=0:=by
   rcases Nat.eq_zero_or_pos n with h | h
   ·exact h
   ·obtain⟨_,_,h1,_⟩:=hr.2 h;cases h1
  obtain rfl:xs= []:=List.eq_nil_of_length_eq_zero (by simpa using hr.1);go_enter func225,ntmps225;go_wp2_with fail;go_ret;exact⟨_,rfl,World.ownsRow_nil _ _ _ _,Below.refl _ _⟩
 | some ad =>
  go_enter func225,ntmps225
  refine wH ?_;intros;refine zK rfl (.tmp 5) (.tmp 6) rfl Xy wu (World.ownsRow_made (size:=4) w #[] 0 ab (by simp [maxLen]) rfl) wu (hr.alloc _) h1 wj ws ?_;intro v1 w1 hown1 hg1 _;have hb1:=zj ((Below.refl _ _).alloc ab _) (World.ownsRow_made (size:=4) w #[] 0 ab (by simp [maxLen]) rfl) ab hg1;go_wp2_with fail;go_ret;exact⟨_,rfl,by simpa using hown1,hb1⟩
theorem YH (v:Value) (l:List EntP) (w:World) (base:Nat) (N:ai) (hl:l.length<=1000000) (hv:RwX EntS 109 w base v l N) :
  Calls zZZ 225 #[v] w fun e w'=>∃v',e= .returned v'/\RwX EntS 109 w' w.heap.size v' l N/\Below w.heap.size w w':=by
 obtain⟨ps,h1,h2,h3,h4⟩:=hv;obtain⟨A,c,rfl,hc,hr⟩:=Rd.of_own' h3;refine(Zh A l.length c (cls ps) w wj hr h2.ones).mono ?_;rintro e w' ⟨v',rfl,ho,hb⟩;have hpl:ps.length=l.length:=by rw [<-h1,List.length_map]
 have h5:=RwX.anew ps h2 (fun p hp b hb=>h4 p hp b (.inr hb)) (by rw [hpl];exact ho) hb;rw [h1]at h5;exact⟨v',rfl,h5,hb⟩
theorem Xv:∀x y:ac,decide (Lib.compareBytes x y<0)=Op.bytesLess x y
 | [], []=>rfl
 | [],_::_=>rfl
 | _::_, []=>rfl
 | a::x,b::y=>by
  rw [Lib.compareBytes,Op.bytesLess]
  by_cases h1:a<b
  ·simp [h1]
  ·by_cases h2:b<a
   ·have hne:a≠b:=by rintro rfl;exact h1 h2
    simp [h1,h2,hne]
   ·have he:a=b:=by
     rcases JQ a b with h | h | h
     ·exact absurd h h1
     ·exact h
     ·exact absurd h h2
    subst he;have:=Xv x y;simp [h1,this]
theorem j5 {x:ac} (h:Op.bytesLess x y=true):Lib.compareBytes x y<0:=by
 have:=Xv x y;rw [h,decide_eq_true_eq]at this;exact this
theorem j0 {x:ac} (h:Op.bytesLess x y=false):¬Lib.compareBytes x y<0:=by
 have:=Xv x y;rw [h,decide_eq_false_iff_not]at this;exact this
section
variable {α:Type} {f:α->List UInt8} {l:List α} {d:ac} {i:Nat}
theorem jO (h1:∀k (h:k<l.length),k<i->Op.bytesLess (f l[k]) d=true) (hi:i<l.length) (he:f l[i]=d):l.findIdx? (fun x=>f x==d)=aC i:=by
 rw [List.findIdx?_eq_some_iff_getElem];exact⟨hi,by simp [he],fun k hk=>by
  have:=yV (h1 k wj hk);simp [this]⟩
theorem Xr (hr:RisesBy f l) (h1:∀k (h:k<l.length),k<i->Op.bytesLess (f l[k]) d=true) (h2:∀k (h:k<l.length),i<=k->Op.bytesLess (f l[k]) d=false) (hn:¬ ∃h:i<l.length,f l[i]=d) :
  (∀x∈l,f x≠d)/\∀k (h:k<l.length),i<=k->Op.bytesLess d (f l[k])=true:=by
 have hp:=List.pairwise_iff_getElem.1 hr;have h3:∀k (h:k<l.length),i<=k->Op.bytesLess d (f l[k])=true:=fun k h hk=>by
  have hi:i<l.length:=wj;have h4:Op.bytesLess d (f l[i])=true:=by
   rcases uU d (f l[i]) with h | h | h
   ·exact h
   ·exact absurd ⟨hi,h.symm⟩ hn
   ·rw [h2 i hi ab]at h;cases h
  rcases Nat.lt_or_ge i k with h5 | h5
  ·exact qj h4 (hp i k hi h h5)
  ·obtain rfl:i=k:=by omega
   exact h4
 refine⟨fun x hx e=> ?_,h3⟩;obtain⟨k,hk,rfl⟩:=List.mem_iff_getElem.1 hx;rcases Nat.lt_or_ge k i with h5 | h5
 ·exact yV (h1 k hk h5) e
 ·exact yV (h3 k hk h5) e.symm
theorem z38 (hr:RisesBy f l) (h1:∀k (h:k<l.length),k<i->Op.bytesLess (f l[k]) d=true) (h2:∀k (h:k<l.length),i<=k->Op.bytesLess (f l[k]) d=false) (hn:¬ ∃h:i<l.length,f l[i]=d) {x:α} (hx:f x=d) :
  RisesBy f (l.take i++x::l.drop i)/\(l.take i++x::l.drop i).Perm (x::l):=by
 have h3:=(Xr hr h1 h2 hn).2;have ht:∀a∈l.take i,Op.bytesLess (f a) d=true:=fun a ha=>by
  obtain⟨k,hk,rfl⟩:=List.mem_iff_getElem.1 ha;rw [List.length_take]at hk;rw [List.getElem_take];exact h1 k wj wj
 have hd:∀a∈l.drop i,Op.bytesLess d (f a)=true:=fun a ha=>by
  obtain⟨k,hk,rfl⟩:=List.mem_iff_getElem.1 ha;rw [List.length_drop]at hk;rw [List.getElem_drop];exact h3 (i+k) wj wj
 refine⟨List.pairwise_append.2 ⟨hr.sublist (List.take_sublist _ _),List.pairwise_cons.2 ⟨fun a ha=>by rw [hx];exact hd a ha,hr.sublist (List.drop_sublist _ _)⟩,fun a ha b hb=> ?_⟩,?_⟩
 ·rcases List.mem_cons.1 hb with rfl | hb
  ·rw [hx];exact ht a ha
  ·exact qj (ht a ha) (hd b hb)
 ·have:=(List.perm_middle (a:=x) (l₁:=l.take i) (l₂:=l.drop i))
  rwa [List.take_append_drop]at this
theorem JC (hr:RisesBy f l) (h1:∀k (h:k<l.length),k<i->Op.bytesLess (f l[k]) d=true) (h2:∀k (h:k<l.length),i<=k->Op.bytesLess (f l[k]) d=false) (hn:¬ ∃h:i<l.length,f l[i]=d) {x:α} (hx:f x=d) :
  l.take i++x::l.drop i=srt f (x::l):=by
 obtain⟨a,b⟩:=z38 hr h1 h2 hn hx;exact z3t a b
theorem JB (hr:RisesBy f l) (h1:∀k (h:k<l.length),k<i->Op.bytesLess (f l[k]) d=true) (h2:∀k (h:k<l.length),i<=k->Op.bytesLess (f l[k]) d=false) (hn:¬ ∃h:i<l.length,f l[i]=d):l.findIdx? (fun x=>f x==d)=aB:=by
 rw [List.findIdx?_eq_none_iff];intro x hx;have:=(Xr hr h1 h2 hn).1 x hx;simp [this]
end
def x9 (l:List EntP) (x:EntP):List EntP:=match l.findIdx? (fun y=>y.key==x.key) with | some i=>l.set i { x with aM:=(match l[i]? with | some y=>y.aM | none=>0) } | none=>srt (·.key) (x::l)
def putB (l:List BlobP) (d:ac):List BlobP:=match l.findIdx? (fun b=>b.dig==shaS d) with | some _=>l | none=>srt (·.dig) (⟨shaS d,d,0,false⟩::l)
theorem JN (hr:RisesBy f l) (hn:l.findIdx? (fun y=>f y==f x)=aB):RisesBy f (srt f (x::l)):=uB (by
 rw [List.map_cons,List.nodup_cons]
 refine⟨fun h=> ?_,Rises.nodup (RisesBy.map hr)⟩
 obtain⟨y,hy,e⟩:=List.mem_map.1 h
 have:=List.findIdx?_eq_none_iff.1 hn y hy
 simp [e]at this)
theorem Q0 {l:List EntP} {x:EntP} (hr:RisesBy (·.key) l) (hi:i<l.length) (hk:x.key=l[i].key):RisesBy (·.key) (l.set i x):=by
 have h:(l.set i x).map (·.key)=l.map (·.key):=by
  rw [List.map_set,hk];apply List.ext_getElem?;intro k;rw [List.getElem?_set];split
  ·rename_i e;subst e;rw [List.length_map,if_pos hi,List.getElem?_map,List.getElem?_eq_getElem hi];rfl
  ·rfl
 have h1:Rises ((l.set i x).map (·.key)):=by rw [h];exact hr.map
 exact List.pairwise_map.1 h1
theorem ZZ {l:List EntP} {x:EntP} (hg:GoodE l) (hx:GoodE1 x) (hlen:l.length<10):GoodE (x9 l x):=by
 unfold x9;cases hf:l.findIdx? (fun y=>y.key==x.key) with
 | none =>
  refine⟨?_,fun y hy=> ?_,JN hg.ris hf⟩
  ·rw [(q9 _ _).length_eq];simp;omega
  ·rcases List.mem_cons.1 ((q9 _ _).mem_iff.1 hy) with rfl | h
   ·exact hx
   ·exact hg.one y h
 | some i =>
  obtain⟨hi,he,_⟩:=List.findIdx?_eq_some_iff_getElem.1 hf;have he':l[i].key=x.key:=by simpa using he
  show GoodE (l.set i { x with aM:=(match l[i]? with | some y=>y.aM | none=>0) });rw [List.getElem?_eq_getElem hi];refine⟨by rw [List.length_set];exact hg.len,fun y hy=> ?_,Q0 hg.ris hi he'.symm⟩;rcases List.mem_or_eq_of_mem_set hy with h | h
  ·exact hg.one y h
  ·subst h;obtain⟨a,b,c,e⟩:=hx;exact⟨a,b,(hg.one _ (List.getElem_mem hi)).2.2.1,e⟩
theorem Vl {l:List BlobP} (hg:GoodB l) (hd:d.length<=300) (hlen:l.length<24):GoodB (putB l d):=by
 unfold putB;cases hf:l.findIdx? (fun b=>b.dig==shaS d) with
 | none =>
  refine⟨?_,fun y hy=> ?_,JN (f:=fun b:BlobP=>b.dig) (x:=⟨shaS d,d,0,false⟩) hg.ris hf⟩
  ·rw [(q9 _ _).length_eq];simp;omega
  ·rcases List.mem_cons.1 ((q9 _ _).mem_iff.1 hy) with rfl | h
   ·exact⟨rfl,hd,by show 0<=5;omega⟩
   ·exact hg.one y h
 | some i=>exact hg
theorem RwX.put4 {S:Shp α} {cap:Nat} {u0 u1 u2 u3:Value} (h:RwX S e w base (aw (aC ⟨g,0,aB⟩) l.length cap) l N) (h4:S.size=4) (hi:i<l.length)
  (hR:S.R w x [u0,u1,u2,u3]) (hl:∀b,(b=g\/N b)->¬leads b [u0,u1,u2,u3]) :
  RwX S e (put4 w g (i*4) u0 u1 u2 u3) base (aw (aC ⟨g,0,aB⟩) l.length cap) (l.set i x) N/\w.grownBy (put4 w g (i*4) u0 u1 u2 u3) (aC g):=by
 obtain⟨ps,h1,h2,h3,h5⟩:=h;have hpl:ps.length=l.length:=by rw [<-h1,List.length_map]
 have hip:i<ps.length:=wj;have hlen:∀p∈ps,p.2.length=4:=fun p hp=>by rw [h2.lens p hp,h4]
 have hli:=hlen _ (List.getElem_mem hip);obtain⟨a0,a1,a2,a3,ha⟩:∃a0 a1 a2 a3,ps[i].2= [a0,a1,a2,a3]:=by
  match hq:ps[i].2,hli with
  | [a0,a1,a2,a3],_=>exact⟨a0,a1,a2,a3,rfl⟩
 have e1:cls ps=cls (ps.take i)++ [a0,a1,a2,a3]++cls (ps.drop (i+1)):=by
  conv=>lhs;rw [<-List.take_append_drop i ps,List.drop_eq_getElem_cons hip,yW,ql,ha]
  rw [List.append_assoc]
 rw [e1]at h3;have hcl:(cls (ps.take i)).length=i*4:=by
  rw [vZ (s:=4) _ (fun p hp=>hlen p (List.mem_of_mem_take hp)),List.length_take];rw [Nat.min_eq_left wj]
 obtain⟨ho,hg⟩:=Je h3 hcl u0 u1 u2 u3;have hall:∀p∈ps.set i (x, [u0,u1,u2,u3]),S.R w p.1 p.2/\∀b,(b=g\/N b)->¬leads b p.2:=fun p hp=>by
  rcases List.mem_or_eq_of_mem_set hp with h | h
  ·exact⟨h2 p h,fun b hb=>h5 p h b (hb.imp (fun e=>by rw [e];rfl) id)⟩
  ·subst h;exact⟨hR,hl⟩
 refine⟨⟨ps.set i (x, [u0,u1,u2,u3]),by rw [List.map_set,h1],?_,?_,fun p hp b hb=>(hall p hp).2 b (hb.imp (fun e=>(Option.some.inj e).symm) id)⟩,hg⟩
 ·exact qK.grown (w:=w) (g:=aC g) (fun p hp=>(hall p hp).1) hg (fun p hp b hb=>(hall p hp).2 b (.inl (Option.some.inj hb).symm))
 ·have e2:cls (ps.set i (x, [u0,u1,u2,u3]))=cls (ps.take i)++ [u0,u1,u2,u3]++cls (ps.drop (i+1)):=by
   rw [z0w (s:=4) ps i _ hip hlen,kJ (s:=4) ps i hlen,yh (s:=4) ps (i+1) hlen]
  rw [List.length_set,e2];exact ho
theorem z4a (w:World):(zeroValue 88).run zZZ w= .ok (.agg #[az ByteArray.empty,aw aB 0 0,ax ay 0,.bool false]) w:=by kernel_rfl
theorem U0 (g i n cap base:Nat) (xs:af) (w:World) (h:w.ownsRow base 88 4 (aw (aC ⟨g,0,aB⟩) n cap) n xs) (hi:i<n) (hx:∀u∈xs,u.oneCell'=true) :
  Calls zZZ 106 #[aw (aC ⟨g,0,aB⟩) n cap,ax ay i,ax ay ((i:Int)+1)] w fun e w'=>e= .returned (aw (aC ⟨g,0,aB⟩) (n - 1) cap) /\
   w'.ownsRow base 88 4 (aw (aC ⟨g,0,aB⟩) (n - 1) cap) (n - 1) (xs.take (i*4)++xs.drop ((i+1)*4))/\w.grownBy w' (aC g):=by
 obtain⟨g',cap',cs,e1,hbg,hA,hnc,hcm,hcl,hct⟩:=yq h wj;injection e1 with e11 _ e13;injection e11 with e11;injection e11 with e11;subst e11 e13;obtain⟨i0,hi0,hz0,hz1,hz2⟩:=info_parts (show(zZZ.info? 88).map (fun i=>(i.zero,i.size,i.bytes))=aC (aC (.agg #[az ByteArray.empty,aw aB 0 0,ax ay 0,.bool false]),4,56) by kernel_rfl);obtain⟨zs,hzs⟩:=wU ((Builtin.zeroCells (Value.agg #[az ByteArray.empty,aw aB 0 0,ax ay 0,.bool false]).cells 1).toList)
 have hzs':zs= [az ByteArray.empty,aw aB 0 0,ax ay 0,.bool false]:=by rw [hzs];kernel_rfl
 have hzl:zs.length=4:=by rw [hzs'];rfl
 have hz1':∀u∈zs,u.oneCell'=true:=by rw [hzs'];intro u hu;simp at hu;rcases hu with rfl | rfl | rfl | rfl<;>rfl
 obtain⟨a1,a2⟩:=Qu (i:=i) (n:=n) (zs:=zs) hA.drew hcl hnc hi hzl;rw [hct]at a1 a2;have hlen:(xs.drop ((i+1)*4)).length=(n - (i+1))*4:=by rw [List.length_drop,h.1,Nat.sub_mul]
 obtain⟨news,hnews⟩:=wU (xs.drop ((i+1)*4))
 rw [<-hnews]at a1 a2 hlen;obtain⟨W1,hW1⟩:=wU (w.drew.setCells g (i*4) news)
 rw [<-hW1]at a1 a2;have hr:=Rd.of_own h;have HC:=sqH (show ∀k u,xs[k]?=aC u->w.drew.cell? ⟨g,k,aB⟩=aC u from fun k u hu=>by
  refine Arr.cell hA.drew ?_;rw [<-hct,List.getElem?_take]at hu;split at hu
  ·exact hu
  ·cases hu)
 obtain⟨A,hAd,hsrc⟩:∃A:Addr,(if cap=i+1 then aC (⟨g,0,aB⟩:Addr) else aC ⟨g,(i+1)*4,aB⟩)=aC A/\Hid (∀t u,news[t]?=aC u->w.drew.cell? (A.add t)=aC u):=by
  by_cases hce:cap=i+1
  ·refine⟨⟨g,0,aB⟩,by simp [hce],Lib.hid fun t u hu=> ?_⟩;have h0:news.length=0:=by rw [hlen,show n - (i+1)=0 by omega]
   rw [List.length_eq_zero_iff.1 h0]at hu;cases hu
  ·refine⟨⟨g,(i+1)*4,aB⟩,by simp [hce],Lib.hid fun t u hu=> ?_⟩;rw [hnews,List.getElem?_drop]at hu;have:=HC.o _ _ hu;rw [Addr.add_lit];exact this
 have s1:=sqH hlen;have s2:=sqH (show ∀u∈news,u.oneCell'=true from fun u hu=>hx u (by rw [hnews]at hu;exact List.mem_of_mem_drop hu));have s3:=sqH (show ∀t,t<news.length->(w.drew.cell? ⟨g,0+i*4+t,aB⟩).isSome=true/\w.drew.frozen? ⟨g,0+i*4+t,aB⟩=false from fun t ht=>by
  rw [hlen]at ht;have hlt:i*4+t<xs.length:=by rw [h.1];omega
  rw [Nat.zero_add,HC.o _ _ (List.getElem?_eq_getElem hlt)];exact⟨rfl,hA.drew.frozen _⟩)
 have hclr:∀ty,(Builtin.clear_ #[24] ty #[aw (aC ⟨g,(n - 1)*4,aB⟩) (n - (n - 1)) (cap - (n - 1))]).run zZZ W1= .ok (.tuple #[]) (W1.setCells g ((n - 1)*4) zs):=fun ty=>by
  rw [show n - (n - 1)=1 by omega];exact yp W1 _ _ ty _ zs underlying24 z4a hzs.symm hz1' g _ _ (fun j hj=>by
   have hk:(n - 1)*4+j<(cs.take (i*4)++news++cs.drop ((n - 1)*4)).length:=by
    simp only [List.length_append,List.length_take,List.length_drop,hcl,hlen];omega
   rw [a1.cell (List.getElem?_eq_getElem hk)];rfl) (fun j hj=>a1.frozen _)
 have hcapi:i<=cap:=wj;have hci1:i+1<=cap:=wj;have hwi:((i:Int)+1).toNat=i+1:=wj;have hp0:(0:Int)<=(i:Int)+1:=wj;have hp1:(i:Int)+1<=(n:Int):=wj;have hne:((i:Int)==(i:Int)+1)=false:=by rw [beq_eq_false_iff_ne];omega
 obtain⟨A2,HW1,HG,HL,HCL,HN,HT,HX⟩:=sqJ8 a2 hW1 (show w.grownBy (W1.setCells g ((n - 1)*4) zs) (aC g) from(show w.grownBy w.drew (aC g) from⟨rfl,rfl,rfl,Nat.le_refl _,fun _ _ _=>rfl⟩).trans (by rw [hW1];exact(qi _ _ _).trans (qi _ _ _))) hlen hcl hnews hct h.1;clear hW1 a1 a2 hct hnews hlen hzs hzs' hz1' hr hA HC hx hcl;go_enter func106,ntmps106;go_wp2_with fail;go_region_law (refine step_append_room rfl (.tmp 22) (.tmp 25) 24 rfl 88 i0 4 underlying24 hi0 hz1 g 0 i cap (by simp [Act.eval,Act.put]) A (n - (i+1)) (cap - (i+1)) news (by simp [Act.eval,Act.put]) s1.o hsrc.o s2.o wj s3.o ?_;rw [Nat.zero_add,<-HW1.o]);rw [show i+(n - (i+1))=n - 1 by omega];go_wp2_with fail;go_ret;refine⟨rfl,⟨?_,.inr ⟨g,cap,_,rfl,hbg,A2.o,wj,hcm,?_,?_⟩⟩,HG.o⟩
 ·rw [<-HN.o,List.length_append,List.length_take,HL.o,HX.o];omega
 ·simp only [List.size_toArray,List.length_append,List.length_take,List.length_drop,HL.o,hzl,HCL.o];omega
 ·have e1:xs.take (i*4)=cs.take (i*4):=by rw [<-HT.o,List.take_take,Nat.min_eq_left wj]
  rw [e1,<-HN.o,List.append_assoc,List.take_left' (by rw [List.length_append,List.length_take,HL.o,HCL.o];omega)]
theorem z4y (w:World):(zeroValue 109).run zZZ w= .ok (.agg #[az ByteArray.empty,aw aB 0 0,ax ay 0,ax ay 0]) w:=by kernel_rfl
theorem U1 (g i n cap base:Nat) (xs:af) (w:World) (h:w.ownsRow base 109 4 (aw (aC ⟨g,0,aB⟩) n cap) n xs) (hi:i<n) (hx:∀u∈xs,u.oneCell'=true) :
  Calls zZZ 184 #[aw (aC ⟨g,0,aB⟩) n cap,ax ay i,ax ay ((i:Int)+1)] w fun e w'=>e= .returned (aw (aC ⟨g,0,aB⟩) (n - 1) cap) /\
   w'.ownsRow base 109 4 (aw (aC ⟨g,0,aB⟩) (n - 1) cap) (n - 1) (xs.take (i*4)++xs.drop ((i+1)*4))/\w.grownBy w' (aC g):=by
 obtain⟨g',cap',cs,e1,hbg,hA,hnc,hcm,hcl,hct⟩:=yq h wj;injection e1 with e11 _ e13;injection e11 with e11;injection e11 with e11;subst e11 e13;obtain⟨i0,hi0,hz0,hz1,hz2⟩:=info_parts (show(zZZ.info? 109).map (fun i=>(i.zero,i.size,i.bytes))=aC (aC (.agg #[az ByteArray.empty,aw aB 0 0,ax ay 0,ax ay 0]),4,56) by kernel_rfl);obtain⟨zs,hzs⟩:=wU ((Builtin.zeroCells (Value.agg #[az ByteArray.empty,aw aB 0 0,ax ay 0,ax ay 0]).cells 1).toList)
 have hzs':zs= [az ByteArray.empty,aw aB 0 0,ax ay 0,ax ay 0]:=by rw [hzs];kernel_rfl
 have hzl:zs.length=4:=by rw [hzs'];rfl
 have hz1':∀u∈zs,u.oneCell'=true:=by rw [hzs'];intro u hu;simp at hu;rcases hu with rfl | rfl | rfl | rfl<;>rfl
 obtain⟨a1,a2⟩:=Qu (i:=i) (n:=n) (zs:=zs) hA.drew hcl hnc hi hzl;rw [hct]at a1 a2;have hlen:(xs.drop ((i+1)*4)).length=(n - (i+1))*4:=by rw [List.length_drop,h.1,Nat.sub_mul]
 obtain⟨news,hnews⟩:=wU (xs.drop ((i+1)*4))
 rw [<-hnews]at a1 a2 hlen;obtain⟨W1,hW1⟩:=wU (w.drew.setCells g (i*4) news)
 rw [<-hW1]at a1 a2;have hr:=Rd.of_own h;have HC:=sqH (show ∀k u,xs[k]?=aC u->w.drew.cell? ⟨g,k,aB⟩=aC u from fun k u hu=>by
  refine Arr.cell hA.drew ?_;rw [<-hct,List.getElem?_take]at hu;split at hu
  ·exact hu
  ·cases hu)
 obtain⟨A,hAd,hsrc⟩:∃A:Addr,(if cap=i+1 then aC (⟨g,0,aB⟩:Addr) else aC ⟨g,(i+1)*4,aB⟩)=aC A/\Hid (∀t u,news[t]?=aC u->w.drew.cell? (A.add t)=aC u):=by
  by_cases hce:cap=i+1
  ·refine⟨⟨g,0,aB⟩,by simp [hce],Lib.hid fun t u hu=> ?_⟩;have h0:news.length=0:=by rw [hlen,show n - (i+1)=0 by omega]
   rw [List.length_eq_zero_iff.1 h0]at hu;cases hu
  ·refine⟨⟨g,(i+1)*4,aB⟩,by simp [hce],Lib.hid fun t u hu=> ?_⟩;rw [hnews,List.getElem?_drop]at hu;have:=HC.o _ _ hu;rw [Addr.add_lit];exact this
 have s1:=sqH hlen;have s2:=sqH (show ∀u∈news,u.oneCell'=true from fun u hu=>hx u (by rw [hnews]at hu;exact List.mem_of_mem_drop hu));have s3:=sqH (show ∀t,t<news.length->(w.drew.cell? ⟨g,0+i*4+t,aB⟩).isSome=true/\w.drew.frozen? ⟨g,0+i*4+t,aB⟩=false from fun t ht=>by
  rw [hlen]at ht;have hlt:i*4+t<xs.length:=by rw [h.1];omega
  rw [Nat.zero_add,HC.o _ _ (List.getElem?_eq_getElem hlt)];exact⟨rfl,hA.drew.frozen _⟩)
 have hclr:∀ty,(Builtin.clear_ #[25] ty #[aw (aC ⟨g,(n - 1)*4,aB⟩) (n - (n - 1)) (cap - (n - 1))]).run zZZ W1= .ok (.tuple #[]) (W1.setCells g ((n - 1)*4) zs):=fun ty=>by
  rw [show n - (n - 1)=1 by omega];exact yp W1 _ _ ty _ zs underlying25 z4y hzs.symm hz1' g _ _ (fun j hj=>by
   have hk:(n - 1)*4+j<(cs.take (i*4)++news++cs.drop ((n - 1)*4)).length:=by
    simp only [List.length_append,List.length_take,List.length_drop,hcl,hlen];omega
   rw [a1.cell (List.getElem?_eq_getElem hk)];rfl) (fun j hj=>a1.frozen _)
 have hcapi:i<=cap:=wj;have hci1:i+1<=cap:=wj;have hwi:((i:Int)+1).toNat=i+1:=wj;have hp0:(0:Int)<=(i:Int)+1:=wj;have hp1:(i:Int)+1<=(n:Int):=wj;have hne:((i:Int)==(i:Int)+1)=false:=by rw [beq_eq_false_iff_ne];omega
 obtain⟨A2,HW1,HG,HL,HCL,HN,HT,HX⟩:=sqJ8 a2 hW1 (show w.grownBy (W1.setCells g ((n - 1)*4) zs) (aC g) from(show w.grownBy w.drew (aC g) from⟨rfl,rfl,rfl,Nat.le_refl _,fun _ _ _=>rfl⟩).trans (by rw [hW1];exact(qi _ _ _).trans (qi _ _ _))) hlen hcl hnews hct h.1;clear hW1 a1 a2 hct hnews hlen hzs hzs' hz1' hr hA HC hx hcl;go_enter func184,ntmps184;go_wp2_with fail;go_region_law (refine step_append_room rfl (.tmp 22) (.tmp 25) 25 rfl 109 i0 4 underlying25 hi0 hz1 g 0 i cap (by simp [Act.eval,Act.put]) A (n - (i+1)) (cap - (i+1)) news (by simp [Act.eval,Act.put]) s1.o hsrc.o s2.o wj s3.o ?_;rw [Nat.zero_add,<-HW1.o]);rw [show i+(n - (i+1))=n - 1 by omega];go_wp2_with fail;go_ret;refine⟨rfl,⟨?_,.inr ⟨g,cap,_,rfl,hbg,A2.o,wj,hcm,?_,?_⟩⟩,HG.o⟩
 ·rw [<-HN.o,List.length_append,List.length_take,HL.o,HX.o];omega
 ·simp only [List.size_toArray,List.length_append,List.length_take,List.length_drop,HL.o,hzl,HCL.o];omega
 ·have e1:xs.take (i*4)=cs.take (i*4):=by rw [<-HT.o,List.take_take,Nat.min_eq_left wj]
  rw [e1,<-HN.o,List.append_assoc,List.take_left' (by rw [List.length_append,List.length_take,HL.o,HCL.o];omega)]
theorem z04 (g i:Nat) (l:List BlobP) (base cap:Nat) (w:World) (N:ai) (hi:i<l.length) (h:RwX BlobS 88 w base (aw (aC ⟨g,0,aB⟩) l.length cap) l N) :
  Calls zZZ 106 #[aw (aC ⟨g,0,aB⟩) l.length cap,ax ay i,ax ay ((i:Int)+1)] w fun e w'=>e= .returned (aw (aC ⟨g,0,aB⟩) (l.eraseIdx i).length cap) /\
   RwX BlobS 88 w' base (aw (aC ⟨g,0,aB⟩) (l.eraseIdx i).length cap) (l.eraseIdx i) N/\w.grownBy w' (aC g):=by
 obtain⟨ps,h1,h2,h3,h4⟩:=h;have hlen:(l.eraseIdx i).length=l.length - 1:=List.length_eraseIdx_of_lt hi;rw [hlen];refine(U0 g i l.length cap base (cls ps) w h3 hi h2.ones).mono ?_;rintro e w' ⟨rfl,ho,hg⟩;refine⟨rfl,⟨ps.eraseIdx i,?_,?_,?_,fun p hp b hb=>h4 p (List.mem_of_mem_eraseIdx hp) b hb⟩,hg⟩
 ·rw [<-h1,List.eraseIdx_eq_take_drop_succ,List.eraseIdx_eq_take_drop_succ,List.map_append,List.map_take,List.map_drop]
 ·exact qK.grown (w:=w) (g:=aC g) (fun p hp=>h2 p (List.mem_of_mem_eraseIdx hp)) hg (fun p hp b hb=>h4 p (List.mem_of_mem_eraseIdx hp) b (.inl hb))
 ·rw [<-vY (s:=4) ps i h2.lens,hlen];exact ho
theorem z05 (g i:Nat) (l:List EntP) (base cap:Nat) (w:World) (N:ai) (hi:i<l.length) (h:RwX EntS 109 w base (aw (aC ⟨g,0,aB⟩) l.length cap) l N) :
  Calls zZZ 184 #[aw (aC ⟨g,0,aB⟩) l.length cap,ax ay i,ax ay ((i:Int)+1)] w fun e w'=>e= .returned (aw (aC ⟨g,0,aB⟩) (l.eraseIdx i).length cap) /\
   RwX EntS 109 w' base (aw (aC ⟨g,0,aB⟩) (l.eraseIdx i).length cap) (l.eraseIdx i) N/\w.grownBy w' (aC g):=by
 obtain⟨ps,h1,h2,h3,h4⟩:=h;have hlen:(l.eraseIdx i).length=l.length - 1:=List.length_eraseIdx_of_lt hi;rw [hlen];refine(U1 g i l.length cap base (cls ps) w h3 hi h2.ones).mono ?_;rintro e w' ⟨rfl,ho,hg⟩;refine⟨rfl,⟨ps.eraseIdx i,?_,?_,?_,fun p hp b hb=>h4 p (List.mem_of_mem_eraseIdx hp) b hb⟩,hg⟩
 ·rw [<-h1,List.eraseIdx_eq_take_drop_succ,List.eraseIdx_eq_take_drop_succ,List.map_append,List.map_take,List.map_drop]
 ·exact qK.grown (w:=w) (g:=aC g) (fun p hp=>h2 p (List.mem_of_mem_eraseIdx hp)) hg (fun p hp b hb=>h4 p (List.mem_of_mem_eraseIdx hp) b (.inl hb))
 ·rw [<-vY (s:=4) ps i h2.lens,hlen];exact ho
theorem qO (h:hexC d=0):d.length=64:=by
 unfold hexC at h;by_cases h64:d.length=64
 ·exact h64
 ·rw [if_pos wj]at h;cases h
theorem vI {x:List PartP} (h:chk x=0):Qn x:=fun p hp=>by
 obtain⟨h1,h2,h3⟩:=(zk h).2 p hp
 have e1:=xQ h1
 have e2:=qO h2
 exact⟨wj,wj,wj⟩
theorem Yr (l:ac):xz (shaS l) l=0:=by
 rw [xz,zq,if_neg wo,if_neg ws]
theorem vM (A:ae) (c:Nat) (l:List BlobP) (w:World) (hg:GoodB l) (hA:Rw BlobS w A l) :
  Calls zZZ 96 #[aw A l.length c] w fun e w'=>e= .returned (ax ay 0)/\Below w.heap.size w w':=by
 have HG:=sqH hg;have hl:=hg.len;have hps:=List.pairwise_iff_getElem.1 hg.ris;have HPS:=sqH hps;clear hg hps;go_enter func96,ntmps96;go_wp2_with fail;go_loopg [11] l.length (fun gn i wr=>∃j:Nat,gn=l.length - j/\i= ax ay j/\j<=l.length/\Below w.heap.size w wr)
 case atStart=>exact⟨0,rfl,rfl,wj,Below.refl _ _⟩
 case round =>
  obtain⟨j,hgk,rfl,hj,hbl⟩:=hrel;have HGK:=sqH hgk;clear hgk;by_cases hlt:j<l.length
  ·have hcc:decide (j<l.length)=true:=decide_eq_true hlt;have hA2:=hA.below hbl;obtain⟨b,off,B,cb,rfl,hbb,c0,c1,c2,c3,hs⟩:=hA2.blob_at j hlt;have hj0:=wX j
   have hj1:(j:Int)<(l.length:Int):=wj;have HG1:=sqH (HG.o.one l[j] (List.getElem_mem hlt));have hprev:0<j->∃q:ac,Op.bytesLess q l[j].dig=true/\wr.cell? ⟨b,off+(j - 1)*4,aB⟩=aC (az ⟨q.toArray⟩):=fun h0=>by
    obtain⟨b',off',B',cb',e1,_,d0,_⟩:=hA2.blob_at (j - 1) wj
    cases e1
    exact⟨_,HPS.o (j - 1) j wj hlt wj,d0⟩
   generalize l[j]=x at *
   obtain⟨sx,hsx⟩:=wU (⟨x.dig.toArray⟩:ByteArray)
   rw [<-hsx]at c0;have HSX:=sqH hsx;have HSL:=sqH (show sx.data.toList=x.dig by rw [hsx]);clear hsx hA2;have hX:Arr (wr.alloc (aA #[az sx,aw B x.data.length cb,ax ay x.aM,(.bool x.mark)] 88)) wr.heap.size 88 [az sx,aw B x.data.length cb,ax ay x.aM,(.bool x.mark)]:=Arr.new wr 88 _;have hba:=wi wr (aA #[az sx,aw B x.data.length cb,ax ay x.aM,(.bool x.mark)] 88);have hb2:=wg hbl hba;have hs2:=hs.below hba;have hq2:0<j->∃q:ac,Op.bytesLess q x.dig=true/\(wr.alloc (aA #[az sx,aw B x.data.length cb,ax ay x.aM,(.bool x.mark)] 88)).cell? ⟨b,off+(j - 1)*4,aB⟩=aC (az ⟨q.toArray⟩):=fun h0=>by
    obtain⟨q,q1,q2⟩:=hprev h0;exact⟨q,q1,(hba.cell (p:=⟨b,off+(j - 1)*4,aB⟩) hbb).trans q2⟩
   have hbb2:b<(wr.alloc (aA #[az sx,aw B x.data.length cb,ax ay x.aM,(.bool x.mark)] 88)).heap.size:=by simp;omega
   obtain⟨x0,x1,x2,x3⟩:=sqC4 hX;clear hprev hbl hba hs;go_wp2_with fail;generalize wr.alloc (aA #[az sx,aw B x.data.length cb,ax ay x.aM,(.bool x.mark)] 88)=w2 at *
   generalize wr.heap.size=gx at *
   clear c0 c1 c2 c3 x0 x1 x2 x3;obtain⟨g1,g2,g3⟩:=HG1.o;have hsz:sx.size<=140737488351232:=by
    rw [HSX.o];show(x.dig.toArray).size<=_;rw [List.size_toArray,g1,Z6];decide
   have HRT:=Ur sx B x.data.length cb x.data (x.aM:Int) x.mark w2 wj wj hsz rfl g2 hs2.cap hs2.rd;rw [HSL.o,g1,Yr]at HRT;have HRT:=sqH HRT;clear g1 g2 g3 hsz hs2;refine wV HRT.o fun w3 hb3=>?_;dsimp only;have hb23:=wg hb2 hb3;have hX3:=hX.below hb3;clear hX hb2;by_cases h0:0<j
   ·obtain⟨q,q1,q2⟩:=hq2 h0;have hkb:decide (0<(j:Int))=true:=decide_eq_true wj;have hkc:decide ((j:Int)>0)=true:=decide_eq_true wj;have hkd:decide (0<j)=true:=decide_eq_true h0;have hm1:IntKind.i64.wrap ((j:Int) - 1)=(j:Int) - 1:=IntWalk.i64_in _ wj;have hm2:((j:Int) - 1).toNat=j - 1:=wj
    have hm3:(0:Int)<=(j:Int) - 1:=wj;have hm4:(j:Int) - 1<(l.length:Int):=wj;have hm5:(1:Int)<=(j:Int):=wj;obtain⟨sq,hsq⟩:=wU (⟨q.toArray⟩:ByteArray)
    rw [<-hsq]at q2;have q3:=(hb3.cell (p:=⟨b,off+(j - 1)*4,aB⟩) hbb2).trans q2;have l1:Op.bytesLess sx.toList sq.toList=false:=by
     rw [HSX.o,hsq,ByteArray.toList_eq,ByteArray.toList_eq];exact yA q1
    have l2:(sx.toList==sq.toList)=false:=by
     rw [HSX.o,hsq,ByteArray.toList_eq,ByteArray.toList_eq,beq_eq_false_iff_ne];exact(yV q1).symm
    have y0:=hX3.c0;clear hsq q1 q2 hq2;go_wp2_with fail;go_quiet (fail);go_wp2_with fail;go_roundg (l.length - (j+1))
    case measure=>exact wW HGK
    case rel=>exact⟨j+1,rfl,by go_num,wj,zN hb23 _⟩
   ·have hkb:decide (0<(j:Int))=false:=decide_eq_false wj;have hkc:decide ((j:Int)>0)=false:=decide_eq_false wj;have hkd:decide (0<j)=false:=decide_eq_false h0;clear hq2;go_wp2_with fail;go_quiet (fail);go_wp2_with fail;go_roundg (l.length - (j+1))
    case measure=>exact wW HGK
    case rel=>exact⟨j+1,rfl,by go_num,wj,zN hb23 _⟩
  ·obtain rfl:j=l.length:=by omega
   have hcc:decide (l.length<l.length)=false:=ws;go_wp2_with fail;go_ret;exact⟨rfl,hbl⟩
theorem xf (A:ae) (c:Nat) (l:List EntP) (w:World) (hg:GoodE l) (hA:Rw EntS w A l) :
  Calls zZZ 97 #[aw A l.length c] w fun e w'=>e= .returned (ax ay 0)/\Below w.heap.size w w':=by
 have HG:=sqH hg;have hl:=hg.len;have hps:=List.pairwise_iff_getElem.1 hg.ris;have HPS:=sqH hps;clear hg hps;go_enter func97,ntmps97;go_wp2_with fail;go_loopg [13] l.length (fun gn i wr=>∃j:Nat,gn=l.length - j/\i= ax ay j/\j<=l.length/\Below w.heap.size w wr)
 case atStart=>exact⟨0,rfl,rfl,wj,Below.refl _ _⟩
 case round =>
  obtain⟨j,hgk,rfl,hj,hbl⟩:=hrel;have HGK:=sqH hgk;clear hgk;by_cases hlt:j<l.length
  ·have hcc:decide (j<l.length)=true:=decide_eq_true hlt;have hA2:=hA.below hbl;obtain⟨b,off,B,cb,rfl,hbb,c0,c1,c2,c3,hs⟩:=hA2.ent_at j hlt;have hj0:=wX j
   have hj1:(j:Int)<(l.length:Int):=wj;have HG1:=sqH (HG.o.one l[j] (List.getElem_mem hlt));have hprev:0<j->∃q:ac,Op.bytesLess q l[j].key=true/\wr.cell? ⟨b,off+(j - 1)*4,aB⟩=aC (az ⟨q.toArray⟩):=fun h0=>by
    obtain⟨b',off',B',cb',e1,_,d0,_⟩:=hA2.ent_at (j - 1) wj
    cases e1
    exact⟨_,HPS.o (j - 1) j wj hlt wj,d0⟩
   generalize l[j]=x at *
   obtain⟨sx,hsx⟩:=wU (⟨x.key.toArray⟩:ByteArray)
   rw [<-hsx]at c0;have HSX:=sqH hsx;have HSL:=sqH (show sx.data.toList=x.key by rw [hsx]);clear hsx hA2;have hX:Arr (wr.alloc (aA #[az sx,aw B x.aL.length cb,ax ay x.aM,(ax ay x.aK)] 109)) wr.heap.size 109 [az sx,aw B x.aL.length cb,ax ay x.aM,(ax ay x.aK)]:=Arr.new wr 109 _;have hba:=wi wr (aA #[az sx,aw B x.aL.length cb,ax ay x.aM,(ax ay x.aK)] 109);have hb2:=wg hbl hba;have hs2:=hs.below hba;have hq2:0<j->∃q:ac,Op.bytesLess q x.key=true/\(wr.alloc (aA #[az sx,aw B x.aL.length cb,ax ay x.aM,(ax ay x.aK)] 109)).cell? ⟨b,off+(j - 1)*4,aB⟩=aC (az ⟨q.toArray⟩):=fun h0=>by
    obtain⟨q,q1,q2⟩:=hprev h0;exact⟨q,q1,(hba.cell (p:=⟨b,off+(j - 1)*4,aB⟩) hbb).trans q2⟩
   have hbb2:b<(wr.alloc (aA #[az sx,aw B x.aL.length cb,ax ay x.aM,(ax ay x.aK)] 109)).heap.size:=by simp;omega
   obtain⟨x0,x1,x2,x3⟩:=sqC4 hX;clear hprev hbl hba hs;go_wp2_with fail;generalize wr.alloc (aA #[az sx,aw B x.aL.length cb,ax ay x.aM,(ax ay x.aK)] 109)=w2 at *
   generalize wr.heap.size=gx at *
   clear c0 c1 c2 c3 x0 x1 x2 x3;obtain⟨g1,g2,g3,g4⟩:=HG1.o;have hsz:sx.size<=140737488351232:=by
    have:=qO g1;rw [HSX.o];show(x.key.toArray).size<=_;rw [List.size_toArray];omega
   have HRT:=kC sx w2 hsz;rw [HSL.o,g1]at HRT;have HRT:=sqH HRT;have hpl:=(zk g2).1;obtain⟨HPO,HG2,HPN⟩:=sqJ3 (vI g2) g2 (fun w'=>xh (x.aM:Int) wj wj w');have st1:decide ((x.aK:Int)<0)=false:=decide_eq_false wj;have st2:decide ((x.aK:Int)>1099511627776)=false:=decide_eq_false wj;have st3:decide ((1099511627776:Int)<(x.aK:Int))=false:=decide_eq_false wj;have st4:decide (1099511627776<x.aK)=false:=decide_eq_false wj;clear g1 g2 hsz;refine wV HRT.o fun w3 hb3=>?_;dsimp only;have hb23:=wg hb2 hb3;have hX3:=hX.below hb3;have hs3:=hs2.below hb3;have HMC:=sqH (show ∀w',Below w3.heap.size w3 w'->Calls zZZ 113 #[aw B x.aL.length cb] w' fun e w''=>e= .returned (ax ay 0)/\Below w'.heap.size w' w'' from fun w' hb=>by
    have:=xg B x.aL.length cb x.aL w' rfl hs3.cap wj HPO.o (hs3.below hb).rd
    rwa [HG2.o]at this)
   clear hX hb2 hs2 hs3;by_cases h0:0<j
   ·obtain⟨q,q1,q2⟩:=hq2 h0;have hkb:decide (0<(j:Int))=true:=decide_eq_true wj;have hkc:decide ((j:Int)>0)=true:=decide_eq_true wj;have hkd:decide (0<j)=true:=decide_eq_true h0;have hm1:IntKind.i64.wrap ((j:Int) - 1)=(j:Int) - 1:=IntWalk.i64_in _ wj;have hm2:((j:Int) - 1).toNat=j - 1:=wj
    have hm3:(0:Int)<=(j:Int) - 1:=wj;have hm4:(j:Int) - 1<(l.length:Int):=wj;have hm5:(1:Int)<=(j:Int):=wj;obtain⟨sq,hsq⟩:=wU (⟨q.toArray⟩:ByteArray)
    rw [<-hsq]at q2;have q3:=(hb3.cell (p:=⟨b,off+(j - 1)*4,aB⟩) hbb2).trans q2;have l1:Op.bytesLess sx.toList sq.toList=false:=by
     rw [HSX.o,hsq,ByteArray.toList_eq,ByteArray.toList_eq];exact yA q1
    have l2:(sx.toList==sq.toList)=false:=by
     rw [HSX.o,hsq,ByteArray.toList_eq,ByteArray.toList_eq,beq_eq_false_iff_ne];exact(yV q1).symm
    have y0:=hX3.c0;clear hsq q1 q2 hq2;go_wp2_with fail;go_quiet (fail);have hb34:=fun n=>zN (wh w3) n;have hb24:=fun n=>zN hb23 n;have y1:=fun n=>(hX3.drewN n).c1;go_wp2_with fail;refine wV (HMC.o _ (hb34 _)) fun w5 hb5=>?_;dsimp only;have hb25:=(hb24 _).trans (hb5.mono (hb24 _).size);have hX5:=(hX3.below (hb34 _)).below hb5;clear y1 hb34 hb24;have y2:=hX5.c2;have y3:=hX5.c3;go_wp2_with fail;refine(HPN.o w5).mono ?_;rintro e_ _ ⟨rfl,rfl⟩;dsimp only;go_wp2_with fail;go_roundg (l.length - (j+1))
    case measure=>exact wW HGK
    case rel=>exact⟨j+1,rfl,by go_num,wj,hb25⟩
   ·have hkb:decide (0<(j:Int))=false:=decide_eq_false wj;have hkc:decide ((j:Int)>0)=false:=decide_eq_false wj;have hkd:decide (0<j)=false:=decide_eq_false h0;clear hq2;go_wp2_with fail;go_quiet (fail);have hb34:=fun n=>zN (wh w3) n;have hb24:=fun n=>zN hb23 n;have y1:=fun n=>(hX3.drewN n).c1;go_wp2_with fail;refine wV (HMC.o _ (hb34 _)) fun w5 hb5=>?_;dsimp only;have hb25:=(hb24 _).trans (hb5.mono (hb24 _).size);have hX5:=(hX3.below (hb34 _)).below hb5;clear y1 hb34 hb24;have y2:=hX5.c2;have y3:=hX5.c3;go_wp2_with fail;refine(HPN.o w5).mono ?_;rintro e_ _ ⟨rfl,rfl⟩;dsimp only;go_wp2_with fail;go_roundg (l.length - (j+1))
    case measure=>exact wW HGK
    case rel=>exact⟨j+1,rfl,by go_num,wj,hb25⟩
  ·obtain rfl:j=l.length:=by omega
   have hcc:decide (l.length<l.length)=false:=ws;go_wp2_with fail;go_ret;exact⟨rfl,hbl⟩
def qL (l:List BlobP):List PartP->Nat
 | []=>0
 | p::ps=>match l.findIdx? (fun b=>b.dig==p.dig) with
  | none=>5
  | some i=>if (match l[i]? with | some b=>b.data.length | none=>0)=p.size then qL l ps else 4
theorem Vq (hr:RisesBy f l) (hx:x∈l) (hd:f x=d):∃i,∃h:i<l.length,l.findIdx? (fun y=>f y==d)=aC i/\l[i]=x:=by
 obtain⟨i,hi,he⟩:=List.mem_iff_getElem.1 hx;refine⟨i,hi,?_,he⟩;rw [List.findIdx?_eq_some_iff_getElem];refine⟨hi,by rw [he];simp [hd],fun k hk=> ?_⟩;have:=List.pairwise_iff_getElem.1 hr k i wj hi hk;rw [he,hd]at this;simpa using yV this
theorem ZJ {l:List BlobP} (hr:RisesBy (·.dig) l):∀ {ps:List PartP},Have l ps->qL l ps=0
 | [],_=>rfl
 | p::ps,h=>by
  obtain⟨b,hb,h1,h2⟩:=h p ws
  obtain⟨i,hi,h3,h4⟩:=Vq (f:=fun b:BlobP=>b.dig) hr hb h1
  rw [qL,h3]
  show(if (match l[i]? with | some b=>b.data.length | none=>0)=p.size then _ else _)=_
  rw [List.getElem?_eq_getElem hi,h4]
  show(if b.data.length=p.size then _ else _)=_
  rw [if_pos h2,ZJ hr fun q hq=>h q (by simp [hq])]
theorem yD {l:List BlobP}:∀ {ps:List PartP},qL l ps=0->Have l ps
 | [],_=>fun p hp=>by cases hp
 | p::ps,h=>by
  rw [qL]at h
  cases hf:l.findIdx? (fun b=>b.dig==p.dig) with
  | none=>rw [hf]at h;cases h
  | some i =>
   rw [hf]at h
   obtain⟨hi,he,_⟩:=List.findIdx?_eq_some_iff_getElem.1 hf
   have h':(if (match l[i]? with | some b=>b.data.length | none=>0)=p.size then qL l ps else 4)=0:=h
   have h3:(if l[i].data.length=p.size then qL l ps else 4)=0:=by rw [List.getElem?_eq_getElem hi]at h';exact h'
   by_cases h2:l[i].data.length=p.size
   ·rw [if_pos h2]at h3
    intro q hq
    rcases List.mem_cons.1 hq with rfl | hq
    ·exact⟨l[i],List.getElem_mem hi,by simpa using he,h2⟩
    ·exact yD h3 q hq
   ·rw [if_neg h2]at h3;cases h3
def zH (s:StoP) (d:ac):StoP:= { s with aE:=putB s.aE d }
def xw (s:StoP) (k:ac) (ps:List PartP):StoP:= { s with aF:=x9 s.aF ⟨k,ps,0,s.aG+1⟩,aG:=s.aG+1 }
def kz (s:StoP) (i:Nat) (x:EntP):StoP:= { s with aF:=s.aF.set i { x with aK:=s.aG+1 },aG:=s.aG+1 }
def kg (s:StoP) (i:Nat) (b:BlobP) (n:Nat):StoP:= { s with aE:=s.aE.set i { b with aM:=n } }
def ZM (s:StoP) (i:Nat) (x:EntP) (n:Nat):StoP:= { s with aF:=s.aF.set i { x with aM:=n } }
theorem Ks {l:List BlobP} {b:BlobP} (h:b∈l):b∈putB l d:=by
 unfold putB;cases l.findIdx? (fun b=>b.dig==shaS d) with
 | none=>exact(q9 _ _).mem_iff.2 (List.mem_cons_of_mem _ h)
 | some i=>exact h
theorem Yp (h:GoodS s) (hd:d.length<=300) (hl:s.aE.length<24) (hr:usd (putB s.aE d)<=s.aH):GoodS (zH s d) :=
 ⟨Vl h.b hd hl,h.e,h.aH,hr,h.aG,fun x hx=>⟨(h.ent x hx).1,(h.ent x hx).2.mono fun b hb=>Ks hb⟩⟩
theorem J8 {l:List EntP} {x y:EntP} (h:y∈x9 l x):y∈l\/(y.key=x.key/\y.aL=x.aL/\y.aK=x.aK/\(y.aM=x.aM\/∃z∈l,z.key=x.key/\y.aM=z.aM)):=by
 unfold x9 at h;cases hf:l.findIdx? (fun y=>y.key==x.key) with
 | none =>
  rw [hf]at h;rcases List.mem_cons.1 ((q9 _ _).mem_iff.1 h) with h | h
  ·subst h;exact .inr ⟨rfl,rfl,rfl,.inl rfl⟩
  ·exact .inl h
 | some i =>
  rw [hf]at h;obtain⟨hi,he,_⟩:=List.findIdx?_eq_some_iff_getElem.1 hf;have h':y∈l.set i { x with aM:=(match l[i]? with | some y=>y.aM | none=>0) }:=h;rw [List.getElem?_eq_getElem hi]at h';rcases List.mem_or_eq_of_mem_set h' with h | h
  ·exact .inl h
  ·subst h;exact .inr ⟨rfl,rfl,rfl,.inr ⟨l[i],List.getElem_mem hi,by simpa using he,rfl⟩⟩
theorem jc {k:ac} {ps:List PartP} (h:GoodS s) (hk:hexC k=0) (hp:chk ps=0) (hh:Have s.aE ps) (hc:s.aG<1099511627776) (hl:s.aF.length<10):GoodS (xw s k ps):=by
 refine⟨h.b,ZZ h.e ⟨hk,hp,by show 0<=5;omega,by show s.aG+1<=_;omega⟩ hl,h.aH,h.used,by show s.aG+1<=_;omega,fun x hx=> ?_⟩;rcases J8 hx with h1 | ⟨h1,h2,h3,_⟩
 ·have:=h.ent x h1;exact⟨by show x.aK<=s.aG+1;omega,this.2⟩
 ·exact⟨by rw [h3];exact Nat.le_refl _,by rw [h2];exact hh⟩
theorem ZF {l:List EntP} {x:EntP} (h:GoodE l) (hi:i<l.length) (hk:x.key=l[i].key) (hx:GoodE1 x):GoodE (l.set i x) :=
 ⟨by rw [List.length_set];exact h.len,fun y hy=>(List.mem_or_eq_of_mem_set hy).elim (h.one y) (fun e=>e▸hx),Q0 h.ris hi hk⟩
theorem ZE (h:GoodS s) (hi:i<s.aF.length) (hc:s.aG<1099511627776):GoodS (kz s i s.aF[i]):=by
 have h1:=h.e.one _ (List.getElem_mem hi);have h2:=h.ent _ (List.getElem_mem hi);refine⟨h.b,ZF h.e hi rfl ⟨h1.1,h1.2.1,h1.2.2.1,by show s.aG+1<=_;omega⟩,h.aH,h.used,by show s.aG+1<=_;omega,fun x hx=> ?_⟩;rcases List.mem_or_eq_of_mem_set hx with h3 | h3
 ·have:=h.ent x h3;exact⟨by show x.aK<=s.aG+1;omega,this.2⟩
 ·subst h3;exact⟨Nat.le_refl _,h2.2⟩
theorem Qy (h:GoodS s) (hi:i<s.aF.length) (hn:n<=5):GoodS (ZM s i s.aF[i] n):=by
 have h1:=h.e.one _ (List.getElem_mem hi);have h2:=h.ent _ (List.getElem_mem hi);refine⟨h.b,ZF h.e hi rfl ⟨h1.1,h1.2.1,hn,h1.2.2.2⟩,h.aH,h.used,h.aG,fun x hx=> ?_⟩;rcases List.mem_or_eq_of_mem_set hx with h3 | h3
 ·exact h.ent x h3
 ·subst h3;exact h2
theorem Ji {l:List BlobP} {x:BlobP} (hr:RisesBy (·.dig) l) (hi:i<l.length) (hk:x.dig=l[i].dig):RisesBy (·.dig) (l.set i x):=by
 have h:(l.set i x).map (·.dig)=l.map (·.dig):=by
  rw [List.map_set,hk];apply List.ext_getElem?;intro k;rw [List.getElem?_set];split
  ·rename_i e;subst e;rw [List.length_map,if_pos hi,List.getElem?_map,List.getElem?_eq_getElem hi];rfl
  ·rfl
 have h1:Rises ((l.set i x).map (·.dig)):=by rw [h];exact hr.map
 exact List.pairwise_map.1 h1
theorem KB {β:Type} (f:α->β) (hi:i<l.length) (hk:f x=f l[i]):(l.set i x).map f=l.map f:=by
 rw [List.map_set,hk];apply List.ext_getElem?;intro k;rw [List.getElem?_set];split
 ·rename_i e;subst e;rw [List.length_map,if_pos hi,List.getElem?_map,List.getElem?_eq_getElem hi];rfl
 ·rfl
theorem VA {x:BlobP} (h:GoodS s) (hi:i<s.aE.length) (h1:x.dig=s.aE[i].dig) (h2:x.data=s.aE[i].data) (h3:x.aM<=5):GoodS { s with aE:=s.aE.set i x }:=by
 have g:=h.b.one _ (List.getElem_mem hi);refine⟨⟨by rw [List.length_set];exact h.b.len,fun y hy=>(List.mem_or_eq_of_mem_set hy).elim (h.b.one y) (fun e=>e▸⟨by rw [h1,h2];exact g.1,by rw [h2];exact g.2.1,h3⟩),Ji h.b.ris hi h1⟩,h.e,h.aH,?_,h.aG,fun y hy=>⟨(h.ent y hy).1,fun p hp=> ?_⟩⟩
 ·show usd (s.aE.set i x)<=_;unfold usd;rw [KB (fun b:BlobP=>b.data.length) hi (by rw [h2])];exact h.used
 ·obtain⟨b,hb,e1,e2⟩:=(h.ent y hy).2 p hp;obtain⟨k,hk,rfl⟩:=List.mem_iff_getElem.1 hb;by_cases e:k=i
  ·subst e;exact⟨x,List.mem_iff_getElem.2 ⟨k,by rw [List.length_set];exact hk,ws⟩,by rw [h1];exact e1,by rw [h2];exact e2⟩
  ·exact⟨_,List.mem_iff_getElem.2 ⟨k,by rw [List.length_set];exact hk,List.getElem_set_ne (fun h=>e h.symm) _⟩,e1,e2⟩
theorem un (h:GoodS s) (hi:i<s.aE.length) (hn:n<=5):GoodS (kg s i s.aE[i] n):=VA h hi rfl rfl hn
end Go.Proofs.YtcjndgldjhmbgaaGreat
