/- Lemmas, as stated. -/
import Derived.Laws.CopyOwn
import Derived.Test.YtcjmjaefcjcomaaGreatQB03
set_option linter.unusedVariables false
set_option linter.unusedSimpArgs false
set_option maxRecDepth 200000
set_option maxHeartbeats 2000000
open Go.Proofs.Tryz
open Go.Proofs.Tryz renaming prog->zZZ
open Go.Value renaming slice->aA,int->aB
open Go.Obj renaming cells->aE
open Option renaming none->aF,some->aG
namespace Go.Proofs.YtcjmjaefcjcomaaGreat
open Go.RowKit
variable {g:Nat} {e:TypeId} {W:World} {xs:ak}
theorem Ut (w:World):Calls zZZ 174 #[] w fun e w'=>e= .returned (aA (aG ⟨w.heap.size,0,aF⟩) 8 8)/\Rd w' 1 (aG ⟨w.heap.size,0,aF⟩) 8 (wds h0s)/\Below w.heap.size w w':=by
 go_enter func174,ntmps174;go_wp2_with fail;go_ret;exact⟨rfl,Rd.newN (w:=w) (e:=94) (size:=1) (m:=8) (wds h0s) ac,(Below.refl _ _).alloc ag _⟩
theorem JN:(zZZ.info? 123).map (·.size)=aG 64:=by kernel_rfl
theorem Arr.setRow (h:Arr W g e xs) (ys:ak):Arr (W.setRow g ys.toArray) g e ys:=setRow_heap W g _ _ _ _ h
theorem Arr.otherRow {g':Nat} (h:Arr W g e xs) (hne:g≠g') (ys:Array Value):Arr (W.setRow g' ys) g e xs:=(setRow_other W g' g ys hne).trans h
theorem jF (l:List W32):(wds l).toArray.all (·.oneCell')=true:=all_oneCell_toArray (Z8 l)
theorem Vs (w:World):Calls zZZ 187 #[] w fun e w'=>e= .returned (.agg (wds rks).toArray)/\Below w.heap.size w w':=by
 go_enter func187,ntmps187
 refine wO 123 ?_;intros;have q0:Arr (w.alloc (aE (wds (List.replicate 64 0)).toArray 123)) w.heap.size 123 (wds (List.replicate 64 0)):=Arr.new _ _ _;have b0:=(Below.refl _ w).alloc ag (aE (wds (List.replicate 64 0)).toArray 123);change wpList _ _ _ _ _ (w.alloc (aE (wds (List.replicate 64 0)).toArray 123));refine wpList_store_mid rfl 123 (.tmp 0) (.tmp 1) rfl w.heap.size 0 (wds rks).toArray ac ac (q0.thereN ac) ww (jF rks) ?_;have q1:=q0.sets (ys:=wds rks) ac;have b1:=Below.sets (Nat.le_refl w.heap.size) (wds rks) 0 _ b0;clear q0 b0;change wpList _ _ _ _ _ ((w.alloc (aE (wds (List.replicate 64 0)).toArray 123)).setCells w.heap.size 0 (wds rks));generalize (w.alloc (aE (wds (List.replicate 64 0)).toArray 123)).setCells w.heap.size 0 (wds rks)=w1 at *
 go_wp2_with fail;exact bodyPost_ret (results_cell_row rfl _ _ w.heap.size _ _ _ _ ac q1 underlying123 rfl ww) rfl ⟨rfl,b1⟩
theorem QJ (B:aj) (d:Nat) (b:List W32) (w:World) (hb:b.length=16) (hd:16<=d) (hr:Rd w 1 B 16 (wds b)) :
  Calls zZZ 188 #[aA B 16 d] w fun e w'=>e= .returned (.agg (wds (qy b 48)).toArray)/\Below w.heap.size w w':=by
 obtain⟨bb,ob,rfl,hbb,hcb⟩:=hr.2 wu;have HB:=sqH hb;have HCB:=sqH hcb;clear hb hcb;go_enter func188,ntmps188
 refine wO 123 ?_;intros;have q0:=(Arr.new w 123 (wds (List.replicate 64 0))).alloc (aE (wds (List.replicate 64 0)).toArray 123);have q1:=Arr.new (w.alloc (aE (wds (List.replicate 64 0)).toArray 123)) 123 (wds (List.replicate 64 0));have b1:=((Below.refl _ w).alloc ag (aE (wds (List.replicate 64 0)).toArray 123)).alloc ab (aE (wds (List.replicate 64 0)).toArray 123);have r1:=(hr.alloc (aE (wds (List.replicate 64 0)).toArray 123)).alloc (aE (wds (List.replicate 64 0)).toArray 123);change wpList _ _ _ _ _ ((w.alloc (aE (wds (List.replicate 64 0)).toArray 123)).alloc (aE (wds (List.replicate 64 0)).toArray 123));rw [World.size_alloc]at q1;generalize ((w.alloc (aE (wds (List.replicate 64 0)).toArray 123)).alloc (aE (wds (List.replicate 64 0)).toArray 123))=w1 at *
 generalize hg0:w.heap.size=g0 at *
 generalize hg1:g0+1=g1 at *
 have hbb':bb<g0:=hbb;have ne0:g0≠g1:=wu;have hge:w.heap.size<=g1:=wu;obtain⟨b',o',e',_,hcb'⟩:=r1.2 wu;cases e'
 refine wpList_copy_own rfl (.tmp 9) (.tmp 10) 96 96 rfl 94 underlying96 ww g1 0 64 64 ⟨bb,ob,aF⟩ 16 d ac ac _ _ q1 (wds b) (by rw [q8,HB.o];rfl) (fun j v hj=>by rw [Addr.add_mid];exact hcb' j v hj) (by rw [q8,HB.o];decide) (Z8 b) ?_;have q2:Arr (w1.setRow g1 (((wds (List.replicate 64 0)).toArray.toList.take 0)++(wds b++((wds (List.replicate 64 0)).toArray.toList.drop (0+(wds b).length)))).toArray) g1 123 (wds (qy b (16 - 16)++List.replicate (64 - 16) 0)):=by
  have h:=q1.setRow (((wds (List.replicate 64 0)).toArray.toList.take 0)++(wds b++((wds (List.replicate 64 0)).toArray.toList.drop (0+(wds b).length))));have e:wds (qy b (16 - 16)++List.replicate (64 - 16) 0)=(((wds (List.replicate 64 0)).toArray.toList.take 0)++(wds b++((wds (List.replicate 64 0)).toArray.toList.drop (0+(wds b).length)))):=by
   rw [q8,HB.o];simp only [Nat.sub_self,qy,wds,List.map_append];rfl
  rw [e];exact h
 have p0:=q0.otherRow ne0 (((wds (List.replicate 64 0)).toArray.toList.take 0)++(wds b++((wds (List.replicate 64 0)).toArray.toList.drop (0+(wds b).length)))).toArray;have b2:=below_setRow (g:=g1) b1 (show g0<=g1 by omega) (((wds (List.replicate 64 0)).toArray.toList.take 0)++(wds b++((wds (List.replicate 64 0)).toArray.toList.drop (0+(wds b).length)))).toArray;generalize w1.setRow g1 (((wds (List.replicate 64 0)).toArray.toList.take 0)++(wds b++((wds (List.replicate 64 0)).toArray.toList.drop (0+(wds b).length)))).toArray=w2 at *
 rw [q8,HB.o];have hWl:=HB.o;clear q0 q1 b1 r1 hcb' hr
 refine wO 123 ?_;intros;go_loopg [4] 48 (fun gn i wr=>∃t:Nat,gn=64 - t/\i= aB .i64 t/\16<=t/\t<=64/\Arr wr g0 123 (wds (List.replicate 64 0))/\Arr wr g1 123 (wds (qy b (t - 16)++List.replicate (64 - t) 0))/\Below g0 w wr)
 case atStart=>exact⟨16,rfl,rfl,wu,wu,p0,q2,b2⟩
 case round =>
  clear p0 q2 b2;obtain⟨t,hgt,rfl,ht0,ht,q0,q1,hbel⟩:=hrel;have HGT:=sqH hgt;clear hgt;by_cases hlt2:t<64
  ·have hLl:(qy b (t - 16)).length=t:=by rw [y8,hWl];omega
   have hnx:=jj _ t hLl ht0;have hss:qy b (t+1 - 16)=qy b (t - 16)++ [xm (qy b (t - 16))]:=by rw [show t+1 - 16=(t - 16)+1 by omega];rfl
   have HSS:=sqH hss;clear hss hWl;generalize qy b (t - 16)=L at *
   have hcl:∀j (hj:j<L.length),wr.cell? ⟨g1,j,aF⟩=aG (aB .u32 (wd L[j])):=fun j hj=>q1.cell (by rw [x8 _ _ (by rw [List.length_append];omega),List.getElem_append_left hj]);have c1:=hcl (t - 16) wu;have c2:=hcl (t - 15) wu;have c3:=hcl (t - 7) wu;have c4:=hcl (t - 2) wu;clear hcl;generalize L[t - 16]=x1 at *
   generalize L[t - 15]=x2 at *
   generalize L[t - 7]=x3 at *
   generalize L[t - 2]=x4 at *
   have HNX:=sqH hnx;have HLL:=sqH hLl;clear hnx hLl;have j1:((t:Int) - 16).toNat=t - 16:=wu;have j2:((t:Int) - 15).toNat=t - 15:=wu;have j3:((t:Int) - 7).toNat=t - 7:=wu;have j4:((t:Int) - 2).toNat=t - 2:=wu;have k1:(0:Int)<=(t:Int) - 16:=wu;have k2:(0:Int)<=(t:Int) - 15:=wu;have k3:(0:Int)<=(t:Int) - 7:=wu;have k4:(0:Int)<=(t:Int) - 2:=wu;have l1:(t:Int) - 16<64:=wu;have l2:(t:Int) - 15<64:=wu;have l3:(t:Int) - 7<64:=wu;have l4:(t:Int) - 2<64:=wu;have n1:(16:Int)<=(t:Int):=wu;have n2:(15:Int)<=(t:Int):=wu;have n3:(7:Int)<=(t:Int):=wu;have n4:(2:Int)<=(t:Int):=wu;have m1:IntKind.i64.wrap ((t:Int) - 16)=(t:Int) - 16:=by rw [IntKind.wrap_i64];omega
   have m2:IntKind.i64.wrap ((t:Int) - 15)=(t:Int) - 15:=by rw [IntKind.wrap_i64];omega
   have m3:IntKind.i64.wrap ((t:Int) - 7)=(t:Int) - 7:=by rw [IntKind.wrap_i64];omega
   have m4:IntKind.i64.wrap ((t:Int) - 2)=(t:Int) - 2:=by rw [IntKind.wrap_i64];omega
   have i4:(t:Int)<64:=wu;have i5:decide ((t:Int)<64)=true:=by simpa using i4
   refine wO 123 ?_;intros;refine(QV x2 2 2 rfl _ wu).mono ?_;rintro e_ w_ ⟨rfl,nk1,rfl⟩;dsimp only
   refine wO 123 ?_;intros;refine(QV x4 3 3 rfl _ wu).mono ?_;rintro e_ w_ ⟨rfl,nk2,rfl⟩;dsimp only
   refine wO 123 ?_;intros;have hb2:=zO hbel (nk1+nk2);have q0':=q0.drewN (nk1+nk2);have q1':=q1.drewN (nk1+nk2);have d1:(wr.drewN (nk1+nk2)).cell? ⟨g1,t - 16,aF⟩=_:=c1;have d3:(wr.drewN (nk1+nk2)).cell? ⟨g1,t - 7,aF⟩=_:=c3;clear c1 c2 c3 c4 q0 q1 hbel;generalize wr.drewN (nk1+nk2)=wz at *
   go_still_tail 15,ww
   change wpList _ _ _ _ _ wz.drew;simp only [Y9];rw [<-HNX.o];have hc5:∃v,wz.drew.cell? ⟨g1,t,aF⟩=aG v:=⟨_,q1'.cell (k:=t) (by rw [x8 _ _ (by rw [List.length_append,List.length_replicate];have:=HLL.o;omega)])⟩
   obtain⟨v5,hc5⟩:=hc5;have hf5:wz.drew.frozen? ⟨g1,t,aF⟩=false:=q1'.frozen t;have hs5:=q1'.set (k:=t) (by rw [q8,List.length_append,List.length_replicate];have:=HLL.o;omega) (aB .u32 (wd (xm L)));rw [uC,grow L t HLL.o wu,<-HSS.o]at hs5;have HS5:=sqH hs5;clear hs5 q1' j1 j2 j3 j4 m1 m2 m3 m4
   refine wO 123 ?_;intros;go_roundg (64 - (t+1))
   case measure=>exact wc HGT
   case rel=>exact⟨t+1,rfl,by go_num,wu,wu,q0'.other ne0 _,HS5.o,Below.setCell hb2.drew (show g0<=g1 by omega) _⟩
  ·obtain rfl:t=64:=by omega
   rw [List.replicate_zero,List.append_nil,show 64 - 16=48 from rfl]at q1;have hsl:(qy b 48).length=64:=by rw [y8,hWl]
   generalize hS:qy b 48=S at *
   have HS:=sqH hS;clear hS hWl
   refine wO 123 ?_;intros;have hi64:=JN;refine wpList_load_row rfl 123 (.tmp 3) rfl g1 ac _ _ _ _ q1 underlying123 rfl (by rw [hi64];simp [q8,hsl]) ?_;refine wpList_store_mid rfl 123 (.tmp 2) (.tmp 47) rfl g0 0 (wds S).toArray ac ac (q0.thereN (by simp [q8,hsl])) (by rw [hi64];simp [q8,hsl]) (jF S) ?_;have p0:=q0.sets (ys:=wds S) (by simp [q8,hsl]);have b2:=Below.sets (show g0<=g0 from Nat.le_refl _) (wds S) 0 _ hbel;change wpList _ _ _ _ _ (wr.setCells g0 0 (wds S));clear q0 q1 hbel;generalize wr.setCells g0 0 (wds S)=wz at *
   refine wO 123 ?_;intros;refine bodyPost_ret (results_cell_row rfl _ _ g0 _ _ _ _ ac p0 underlying123 rfl (by rw [hi64];simp [q8,hsl])) rfl ⟨?_,?_⟩
   ·rw [HS.o]
   ·rw [hg0];exact b2
theorem VW (x y z:W32) (w:World):Calls zZZ 190 #[aB .u32 (wd x),aB .u32 (wd y),aB .u32 (wd z)] w fun e w'=>e= .returned (aB .u32 (wd (JG x y z)))/\w'=w:=by
 go_enter func190,ntmps190;go_wp2_with fail;go_ret;rw [Xq];simp only [show(if IntKind.u32.signed=true then (-1:Int) else IntKind.u32.max)=IntKind.u32.max from if_neg aa,kU,kV,uR];exact⟨rfl,trivial⟩
theorem z3a (x y z:W32) (w:World):Calls zZZ 191 #[aB .u32 (wd x),aB .u32 (wd y),aB .u32 (wd z)] w fun e w'=>e= .returned (aB .u32 (wd (ZM x y z)))/\w'=w:=by
 go_enter func191,ntmps191;go_wp2_with fail;go_ret;rw [J9];simp only [kU,kV];exact⟨rfl,trivial⟩
theorem Vd {w:World} {base n:Nat} {v:Value} (h:w.ownsRow base e 1 v n xs) (h0:0<n):∃g cap rest,v= aA (aG ⟨g,0,aF⟩) n cap/\base<=g/\n<=cap/\cap<=maxLen/\Arr w g e (xs++rest):=by
 rcases h.2 with ⟨_,h1⟩ | ⟨g,cap,cur,hv,hb,hg,hnc,hcm,hcs,htake⟩
 ·omega
 ·refine⟨g,cap,cur.toList.drop n,hv,hb,hnc,hcm,?_⟩;rw [Nat.mul_one]at htake;unfold Arr;rw [<-htake,List.take_append_drop];simpa using hg
theorem Arr.rd {rest:ak} (h:Arr W g e (xs++rest)) (n:Nat) (hn:xs.length=n):Rd W 1 (aG ⟨g,0,aF⟩) n xs :=
 ⟨wu,fun _=>⟨g,0,rfl,h.lt,fun j u hj=>by
  rw [Nat.zero_add]
  exact h.cell (by rw [List.getElem?_append_left (List.getElem?_eq_some_iff.1 hj).1];exact hj)⟩⟩
theorem Jo (h b:List W32) (hh:h.length=8):List.zipWith (· + ·) h (jb (qy b 48) h 64)=xN h b:=by
 unfold xN;rw [List.zipWith_comm]
 congr 1
 funext a b
 exact BitVec.add_comm _ _
theorem z0u (A:aj) (c:Nat) (h:List W32) (B:aj) (d:Nat) (b:List W32) (w:World) (hh:h.length=8) (hc:8<=c) (hr:Rd w 1 A 8 (wds h)) (hb:b.length=16) (hd:16<=d) (hr':Rd w 1 B 16 (wds b)) :
  Calls zZZ 175 #[aA A 8 c,aA B 16 d] w fun e w'=>∃g' c',e= .returned (.tuple #[aA (aG ⟨g',0,aF⟩) 8 c',aB .i64 0])/\8<=c'/\Rd w' 1 (aG ⟨g',0,aF⟩) 8 (wds (xN h b))/\Below w.heap.size w w':=by
 have HHL:=sqH hh;have HBL:=sqH hb;clear hh hb;go_enter func175,ntmps175
 refine wO 123 ?_;intros;refine wZ (Vs _) fun w1 hb1=>?_;dsimp only
 refine wO 123 ?_;intros;refine wZ (QJ _ _ b _ HBL.o hd (hr'.below hb1)) fun w2 hb2=>?_;dsimp only;have hb3:=wm hb1 hb2;have hWl:(qy b 48).length=64:=by rw [y8,HBL.o]
 generalize hW:qy b 48=W at *
 have HW:=sqH hW;have HWL:=sqH hWl;clear hW hWl
 refine wO 123 ?_;intros;have q0:=(Arr.new w2 123 (wds (List.replicate 64 0))).alloc (aE (wds (List.replicate 64 0)).toArray 123);have q1:=Arr.new (w2.alloc (aE (wds (List.replicate 64 0)).toArray 123)) 123 (wds (List.replicate 64 0));have b1:=(hb3.alloc hb3.size (aE (wds (List.replicate 64 0)).toArray 123)).alloc (by have:=hb3.size;simp;omega) (aE (wds (List.replicate 64 0)).toArray 123);change wpList _ _ _ _ _ ((w2.alloc (aE (wds (List.replicate 64 0)).toArray 123)).alloc (aE (wds (List.replicate 64 0)).toArray 123));rw [World.size_alloc]at q1;have hsz:=hb3.size;generalize ((w2.alloc (aE (wds (List.replicate 64 0)).toArray 123)).alloc (aE (wds (List.replicate 64 0)).toArray 123))=w3 at *
 generalize hg0:w2.heap.size=g0 at *
 generalize hg1:g0+1=g1 at *
 have ne01:g0≠g1:=wu;refine wpList_store_mid rfl 123 (.tmp 6) (.tmp 25) rfl g0 0 (wds rks).toArray ac ac (q0.thereN ac) ww (jF rks) ?_;have p0:=q0.sets (ys:=wds rks) ac;have p1:=q1.otherSets (g':=g0) wu (wds rks) 0;have b2:=Below.sets (show w.heap.size<=g0 by omega) (wds rks) 0 _ b1;have hs1:=b1.size;change wpList _ _ _ _ _ (w3.setCells g0 0 (wds rks));clear q0 q1 b1;generalize w3.setCells g0 0 (wds rks)=w4 at *
 refine wpList_store_mid rfl 123 (.tmp 7) (.tmp 27) rfl g1 0 (wds W).toArray ac ac (p1.thereN (by simp [q8,HWL.o])) (by rw [JN];simp [q8,HWL.o]) (jF W) ?_;have q1:=p1.sets (ys:=wds W) (by simp [q8,HWL.o]);have q0:=p0.otherSets (g':=g1) wu (wds W) 0;have b3:=Below.sets (show w.heap.size<=g1 by omega) (wds W) 0 _ b2;change wpList _ _ _ _ _ (w4.setCells g1 0 (wds W));clear p0 p1 b2;generalize w4.setCells g1 0 (wds W)=w5 at *
 refine wO 123 ?_;intros;refine zG rfl (.const (aA aF 0 0)) (.tmp 28) rfl z1a ac (World.ownsRow_nil w5 w5.heap.size _ _) ac (hr.below b3) (Z8 _) wu ag ?_;intro v6 w6 ho6 hg6 _;have hb6:=zh (Below.refl _ _) (World.ownsRow_nil w5 w5.heap.size 94 1) ag hg6;rw [List.nil_append,Nat.zero_add]at ho6;obtain⟨gv,cap,rest,rfl,hgv,hcap,hcm,qv⟩:=Vd ho6 wu;have r0:=q0.below hb6;have r1:=q1.below hb6;have b6:=wm b3 hb6;have hlt0:=q0.lt;have hlt1:=q1.lt;have nev0:g0≠gv:=wu;have nev1:g1≠gv:=wu;have hvb:w.heap.size<=gv:=by have:=b3.size;omega
 have hcap1:¬cap=1:=wu;have hcmi:(cap:Int)<=9223372036854775807:=by unfold maxLen at hcm;omega
 have hcapi:(8:Int)<=(cap:Int):=wu;have hcap7i:(7:Int)<=(cap:Int):=wu;have hcap7:7<=cap:=wu;have rv:Arr w6 gv 94 (wds (jb W h 0)++rest):=qv;clear q0 q1 b3 hb6 hg6 ho6 qv hcm
 refine wO 123 ?_;intros;go_loopg [30] 64 (fun gn i wr=>∃t:Nat,gn=64 - t/\i= aB .i64 t/\t<=64/\Arr wr g0 123 (wds rks)/\Arr wr g1 123 (wds W)/\Arr wr gv 94 (wds (jb W h t)++rest)/\Below w.heap.size w wr)
 case atStart=>exact⟨0,rfl,rfl,wu,r0,r1,rv,b6⟩
 case round =>
  clear r0 r1 rv b6;obtain⟨t,hgt,rfl,ht,r0,r1,rv,hbel⟩:=hrel;have HGT:=sqH hgt;clear hgt;by_cases hlt:t<64
  ·obtain⟨v0,v1,v2,v3,v4,v5,v6,v7,kt,wt,hv,hkt,hwt,hnx⟩:=jc W h HHL.o t hlt HWL.o;rw [hv]at rv;have HNX:=sqH hnx;have hck:=r0.cell hkt;have hcw:=r1.cell hwt;clear hv hkt hwt hnx;have f0:=rv.c0;have f4:=rv.c4;have i1:(t:Int)<64:=wu
   have i2:=we t
   have i5:decide ((t:Int)<64)=true:=by simpa using i1
   refine wO 123 ?_;intros;refine(QV v4 1 1 rfl _ wu).mono ?_;rintro e_ w_ ⟨rfl,nk1,rfl⟩;dsimp only
   refine wO 123 ?_;intros;refine(QV v0 0 0 rfl _ wu).mono ?_;rintro e_ w_ ⟨rfl,nk2,rfl⟩;dsimp only
   refine wO 123 ?_;intros;have p0:=r0.drewN (nk1+nk2);have p1:=r1.drewN (nk1+nk2);have pv:=rv.drewN (nk1+nk2);have pb:=zO hbel (nk1+nk2);have dk:(wr.drewN (nk1+nk2)).cell? ⟨g0,t,aF⟩=_:=hck;have dw:(wr.drewN (nk1+nk2)).cell? ⟨g1,t,aF⟩=_:=hcw;clear r0 r1 rv hbel hck hcw f0 f4;generalize wr.drewN (nk1+nk2)=wz at *
   have f4:=pv.c4;have f5:=pv.c5;have f6:=pv.c6;have f7:=pv.c7;go_quiet ((go_at_call 190;exact Calls.quiet_of_same (VW _ _ _ _)));rw [z5f];have r0:=p0.drewN nq;have r1:=p1.drewN nq;have rv:=pv.drewN nq;have rb:=zO pb nq;clear p0 p1 pv pb dk dw f4 f5 f6 f7;generalize wz.drewN nq=wx at *
   obtain⟨f0,f1,f2⟩:=sqC3 rv;generalize hone:v7+yx v4 1+JG v4 v5 v6+kt+wt=one at *
   have HONE:=sqH hone;clear hone
   refine wO 123 ?_;intros;go_quiet ((go_at_call 191;exact Calls.quiet_of_same (z3a _ _ _ _)))
   first | rw [z2m] | rw [Y9]
   generalize htwo:yx v0 0+ZM v0 v1 v2=two at *
   have HTWO:=sqH htwo;clear htwo;have s0:=r0.drewN nq;have s1:=r1.drewN nq;have sv:=rv.drewN nq;have sb:=zO rb nq;clear r0 r1 rv rb f0 f1 f2;generalize wx.drewN nq=wv at *
   refine wO 123 ?_;intros;go_still_tail 4,ww
   change wpList _ _ _ _ _ wv.drew;refine wpList_copy_own rfl (.tmp 84) (.tmp 86) 96 96 rfl 94 underlying96 ww gv 1 7 (cap - 1) ⟨gv,0,aF⟩ 7 cap ac ac _ _ (sv.drew) (wds [v0,v1,v2,v3,v4,v5,v6]) ac (fun j v hj=>by rw [Addr.add_mid,Nat.zero_add];exact sv.drew.cell (by rw [show wds [v0,v1,v2,v3,v4,v5,v6,v7]++rest=wds [v0,v1,v2,v3,v4,v5,v6]++(wds [v7]++rest) from rfl,List.getElem?_append_left (List.getElem?_eq_some_iff.1 hj).1];exact hj)) (by simp [wds]<;>omega) (Z8 _) ?_;have t0:=(s0.drew).otherRow nev0 (((wds [v0,v1,v2,v3,v4,v5,v6,v7]++rest).toArray.toList.take 1)++(wds [v0,v1,v2,v3,v4,v5,v6]++((wds [v0,v1,v2,v3,v4,v5,v6,v7]++rest).toArray.toList.drop (1+(wds [v0,v1,v2,v3,v4,v5,v6]).length)))).toArray;have t1:=(s1.drew).otherRow nev1 (((wds [v0,v1,v2,v3,v4,v5,v6,v7]++rest).toArray.toList.take 1)++(wds [v0,v1,v2,v3,v4,v5,v6]++((wds [v0,v1,v2,v3,v4,v5,v6,v7]++rest).toArray.toList.drop (1+(wds [v0,v1,v2,v3,v4,v5,v6]).length)))).toArray;have tv:Arr (wv.drew.setRow gv (((wds [v0,v1,v2,v3,v4,v5,v6,v7]++rest).toArray.toList.take 1)++(wds [v0,v1,v2,v3,v4,v5,v6]++((wds [v0,v1,v2,v3,v4,v5,v6,v7]++rest).toArray.toList.drop (1+(wds [v0,v1,v2,v3,v4,v5,v6]).length)))).toArray) gv 94 (wds [v0,v0,v1,v2,v3,v4,v5,v6]++rest):=(sv.drew).setRow _;have tb:=below_setRow sb.drew hvb (((wds [v0,v1,v2,v3,v4,v5,v6,v7]++rest).toArray.toList.take 1)++(wds [v0,v1,v2,v3,v4,v5,v6]++((wds [v0,v1,v2,v3,v4,v5,v6,v7]++rest).toArray.toList.drop (1+(wds [v0,v1,v2,v3,v4,v5,v6]).length)))).toArray;clear s0 s1 sv sb;generalize wv.drew.setRow gv (((wds [v0,v1,v2,v3,v4,v5,v6,v7]++rest).toArray.toList.take 1)++(wds [v0,v1,v2,v3,v4,v5,v6]++((wds [v0,v1,v2,v3,v4,v5,v6,v7]++rest).toArray.toList.drop (1+(wds [v0,v1,v2,v3,v4,v5,v6]).length)))).toArray=wt at *
   have f4:=tv.c4;have f0:=tv.c0;have z:=tv.frozen
   refine wO 123 ?_;intros;have u3:=(tv.set (k:=4) (by simp [wds]) (aB .u32 (wd (v3+one)))).set (k:=0) (by simp [wds]) (aB .u32 (wd (one+two)));have hrn:jb W h (t+1)= [one+two,v0,v1,v2,v3+one,v4,v5,v6]:=by rw [HNX.o,<-HONE.o,<-HTWO.o];rfl
   simp only [z2m,Y9];go_roundg (64 - (t+1))
   case measure=>exact wc HGT
   case rel =>
    refine⟨t+1,rfl,by go_num,wu,(t0.other nev0 _).other nev0 _,(t1.other nev1 _).other nev1 _,?_,Below.setCell (Below.setCell tb hvb _) hvb _⟩;rw [hrn];exact u3
  ·obtain rfl:t=64:=by omega
   have hVl:(jb W h 64).length=8:=xJ W h HHL.o 64;have hst:=Jo h b HHL.o;rw [HW.o]at hst;generalize jb W h 64=V at *
   have HST:=sqH hst;have HVL:=sqH hVl;clear hst hVl r0 r1;have hrl:=hr.below hbel;obtain⟨bh,oh,rfl,hbh,_⟩:=hr.2 wu;have hbe:bh≠gv:=wu;refine wO 123 ?_;intros;have rv':Arr wr gv 94 (wds (uO V h 0)++rest):=by rw [ZU];exact rv
   rw [show((64:Nat):Int)=(64:Int) from rfl];clear rv;go_loopg [102] 8 (fun gn i wr=>∃t:Nat,gn=8 - t/\i= aB .i64 t/\t<=8/\Arr wr gv 94 (wds (uO V h t)++rest)/\Rd wr 1 (aG ⟨bh,oh,aF⟩) 8 (wds h)/\Below w.heap.size w wr)
   case atStart=>exact⟨0,rfl,rfl,wu,rv',hrl,hbel⟩
   case round =>
    clear rv' hrl hbel;obtain⟨t,hgt,rfl,ht,rv,hrl,hbel⟩:=hrel;have HGT:=sqH hgt;clear hgt;by_cases hlt4:t<8
    ·obtain⟨x,y,hx,hy,hnx⟩:=ZT V h t (by rw [HVL.o];exact hlt4) (by rw [HVL.o,HHL.o]);have hpl:(wds (uO V h t)).length=8:=by rw [q8,yS V h t (by rw [HVL.o,HHL.o]),HVL.o]
     have cx:=rv.cell (k:=t) (v:= aB .u32 (wd x)) (by rw [List.getElem?_append_left wu];exact hx);obtain⟨_,_,e',_,hcb'⟩:=hrl.2 wu;cases e'
     have cy:=hcb' t _ hy;have fx:=rv.frozen t;have hs:=rv.set (k:=t) (by rw [List.length_append,hpl];omega) (aB .u32 (wd (x+y)));rw [List.set_append_left _ _ wu,uC,hnx]at hs;have HS:=sqH hs;clear hnx hx hy hs hcb' hpl;have i1:(t:Int)<8:=wu;have i2:=we t
     have i5:decide ((t:Int)<8)=true:=by simpa using i1
     refine wO 123 ?_;intros;go_still_tail 10,ww
     change wpList _ _ _ _ _ wr.drew;simp only [z2m,Y9];have dx:wr.drew.cell? ⟨gv,t,aF⟩=aG (aB .u32 (wd x)):=cx;have gx:wr.drew.frozen? ⟨gv,t,aF⟩=false:=fx
     refine wO 123 ?_;intros;go_roundg (8 - (t+1))
     case measure=>exact wc HGT
     case rel=>exact⟨t+1,rfl,by go_num,wu,HS.o,hrl.drewR.other hbe _,Below.setCell hbel.drew hvb _⟩
    ·obtain rfl:t=8:=by omega
     have hpe:uO V h 8=xN h b:=by rw [Kn V h 8 (by rw [HVL.o];omega) (by rw [HVL.o,HHL.o]),HST.o]
     have hpl:(wds (uO V h 8)).length=8:=by rw [q8,yS V h 8 (by rw [HVL.o,HHL.o]),HVL.o]
     have hq:=rv.rd 8 hpl;rw [hpe]at hq;clear hpe hpl
     refine wO 123 ?_;intros;go_ret2;exact⟨gv,cap,rfl,hcap,hq,hbel⟩
theorem Jx (P:ai) (q k:Nat) (hP:P.length=64*q) (hk:k<q):(((ku P).drop (16*k)).take 16).length=16:=by
 have:=vO (16*q) P wu;rw [List.length_take,List.length_drop];omega
theorem Xa (A:aj) (n c:Nat) (l:ai) (w:World) (hl:l.length=n) (hn:n<=2000) (hc:n<=c) (hr:Rd w 1 A n (bys l)) :
  Calls zZZ 154 #[aA A n c] w fun e w'=>e= .returned (.tuple #[.string ⟨(shaS l).toArray⟩,aB .i64 0])/\Below w.heap.size w w':=by
 have hpl:=jk l;obtain⟨q,hq⟩:∃q,(qo l).length=64*q:=⟨(qo l).length / 64,wu⟩
 have hfin:shaS l=kH (wbs (vy h0s (ku (qo l)) q)):=by
  unfold shaS Jm;rw [hq,Nat.mul_div_cancel_left _ wu]
 have HFIN:=sqH hfin;have HPAD:=sqH (z3b A n c l w hl hn hc hr);clear hfin;generalize qo l=P at *
 have HQ:=sqH hq;have hq0:1<=q:=wu;have hqm:64*q<=2072:=wu;clear hq hpl hl;go_enter func154,ntmps154;go_wp2_with fail;refine HPAD.o.mono ?_;rintro e_ w1 ⟨A1,c1,rfl,ho1,hb1⟩;dsimp only;go_wp2_with fail;have hcap1:=ho1.cap;refine(Ux A1 P.length c1 P _ rfl (wc HQ) (wc HQ) hcap1 ho1.rd).mono ?_;rintro e_ w2 ⟨v2,rfl,ho2,hb2⟩;dsimp only;have hw4:P.length / 4=16*q:=by have:=HQ.o;omega
 rw [hw4]at ho2;obtain⟨gw,cw,rest,rfl,hgw,hcw,hcm,qw⟩:=Vd ho2 wu;have hrw:Rd w2 1 (aG ⟨gw,0,aF⟩) (16*q) (wds (ku P)):=qw.rd (16*q) (by rw [q8];exact vO (16*q) P (wc HQ));have hb12:=wm hb1 hb2;clear qw ho2 ho1 hb2 hw4;generalize hLW:16*q=lw at *
 have HLW:=sqH hLW;have hlw1:lw<=600:=wu;clear hLW;go_wp2_with fail;refine(Ut _).mono ?_;rintro e_ w3 ⟨rfl,hr3,hb3⟩;dsimp only;have hr3w:=hrw.below hb3;have hb13:=wm hb12 hb3;have hcwi:(lw:Int)<=(cw:Int):=wu;have hcmi:(cw:Int)<=9223372036854775807:=by unfold maxLen at hcm;omega
 clear hrw hb3 hb12 hcm;go_wp2_with fail;go_loopg [8,9] q (fun gn v i wr=>∃k A' c',gn=q - k/\i= aB .i64 ((16*k:Nat):Int)/\k<=q/\v= aA A' 8 c'/\8<=c'/\Rd wr 1 A' 8 (wds (vy h0s (ku P) k))/\Below w3.heap.size w3 wr)
 case atStart=>exact⟨0,_,8,rfl,rfl,wu,rfl,wu,hr3,Below.refl _ _⟩
 case round =>
  clear hr3;obtain⟨k,A',c',hgk,rfl,hk,rfl,hc',hrk,hbel⟩:=hrel;have HGK:=sqH hgk;clear hgk;by_cases hkq:k<q
  ·have hrw:=hr3w.below hbel;have hm16:16*k+16<=lw:=by have:=HLW.o;omega
   have hwl:=Jx P q k HQ.o hkq;have hchl:=kX h0s (ku P) rfl k;have hnx:vy h0s (ku P) (k+1)=xN (vy h0s (ku P) k) (((ku P).drop (16*k)).take 16):=rfl;obtain⟨HNX,HWL,HCH⟩:=sqJ3 hnx hwl hchl;have hcut:=(hrw.cutAt (k:=16*k) (c:=cw) wu hcw).pre (k:=16) wu;have hcut2:Rd wr 1 (if cw=16*k then aG ⟨gw,0,aF⟩ else aG ⟨gw,0+16*k,aF⟩) 16 (wds (((ku P).drop (16*k)).take 16)):=by
    have e:(List.drop (16*k) (wds (ku P))).take (16*1)=wds (((ku P).drop (16*k)).take 16):=by simp [wds]
    rw [e]at hcut;exact hcut
   clear hcut hnx hwl hchl hrw;generalize hm:16*k=m at *
   have HM:=sqH hm;clear hm;have i1:=we m
   have i2:(m:Int)+16<=(cw:Int):=wu;have i3:(m:Int)<(lw:Int):=wu;rw [if_neg wu,Nat.zero_add]at hcut2;have hd16:16<=cw - m:=wu;go_wp2_with fail;refine(z0u A' c' _ _ _ _ _ HCH.o hc' hrk HWL.o hd16 hcut2).mono ?_;rintro e_ w5 ⟨g5,c5,rfl,hc5,hr5,hb5⟩;dsimp only;have hb6:=wm hbel hb5;rw [<-HNX.o]at hr5;clear hrk hcut2 hbel hb5;go_wp2_with fail;go_roundg (q - (k+1))
   case measure=>exact wc HGK
   case rel=>exact⟨k+1,_,c5,rfl,by have:=HM.o;go_num,wu,rfl,hc5,hr5,hb6⟩
  ·obtain rfl:k=q:=by omega
   have hge:lw<=16*k:=by have:=HLW.o;omega
   generalize hm:16*k=m at *
   have hchl:=kX h0s (ku P) rfl k;have HCH:=sqH hchl;clear hm hchl;generalize vy h0s (ku P) k=H at *
   have hb7:=wm hb13 hbel;go_wp2_with fail;refine(VN A' 8 c' H _ HCH.o wu hc' hrk).mono ?_;rintro e_ w5 ⟨A5,c5,rfl,ho5,hb5⟩;dsimp only;have hb8:=wm hb7 hb5;have hcap5:=ho5.cap;go_wp2_with fail;refine wZ (Qo A5 _ c5 _ _ rfl (by rw [Z7,HCH.o];omega) hcap5 ho5.rd) fun w6 hb6=>?_;dsimp only;have hb9:=wm hb8 hb6;go_wp2_with fail;go_ret2;rw [HFIN.o];exact⟨rfl,hb9⟩
theorem xr (p:Int) (h0:0<=p) (h5:p<=5) (w:World):Calls Tryz.prog 133 #[.int .i64 p] w fun e w'=>e= .returned (.int .i64 0)/\w=w':=by
 have e0:decide (p<0)=false:=by simpa using h0
 have e1:decide (5<p)=false:=by simpa using h5
 go_enter Tryz.func133,Tryz.ntmps133;go_wp2_with fail;go_ret;exact⟨rfl,rfl⟩
def xI (d l:ai):Nat:=if hexC d≠0 then hexC d else if shaS l≠d then 9 else 0
theorem Up (s:ByteArray) (A:aj) (n c:Nat) (l:ai) (p:Int) (mk:Bool) (w:World) (hp0:0<=p) (hp5:p<=5) (hs:s.size<=140737488351232) (hl:l.length=n) (hn:n<=300) (hc:n<=c) (hr:Rd w 1 A n (bys l)) :
  Calls Tryz.prog 162 #[.agg #[.string s,.slice A n c,.int .i64 p,.bool mk]] w fun e w'=>e= .returned (.int .i64 (xI s.data.toList l))/\Below w.heap.size w w':=by
 have HC:=kG s;generalize hk:hexC s.data.toList=k at HC;obtain⟨HL,HK,HSZ⟩:=sqJ3 hl hk hs;obtain⟨D,hD⟩:=wY (⟨(shaS l).toArray⟩:ByteArray)
 have HS:=sqH (fun w' hr'=>hD▸Xa A n c l w' hl wu hc hr');have HD:=sqH hD;obtain⟨w1,hw1⟩:=wY (w.alloc (.cells #[.string s,.slice A n c,.int .i64 p,.bool mk] 55))
 have hb1:Below w.heap.size w w1:=by rw [hw1];exact(Below.refl _ _).alloc ag _
 have hs1:=hb1.size;have hA1:Arr w1 w.heap.size 55 [.string s,.slice A n c,.int .i64 p,.bool mk]:=by rw [hw1];exact Arr.new w _ _
 have hr1:Rd w1 1 A n (bys l):=by rw [hw1];exact hr.alloc _
 clear hl hk hD hs hr;go_enter Tryz.func162,Tryz.ntmps162;go_wp2_with fail;rw [<-hw1];obtain⟨g,hg⟩:=wY w.heap.size
 rw [<-hg]at hA1 ⊢
 clear hw1 hg;refine wZ (HC _ HSZ.o) fun w2 hb2=>?_;dsimp only;have hb12:=hb1.trans (hb2.mono hs1);have hA2:=hA1.below hb2;obtain⟨f0,f1⟩:=sqC2 hA2;by_cases k0:k=0
 ·have e0:((k:Int) != 0)=false:=by rw [bne_eq_false_iff_eq];omega
  have e1:decide ((300:Int)<(n:Int))=false:=by simp;omega
  have HK0:=sqH k0;clear k0;go_wp2_with fail;refine wZ (HS.o w2 (hr1.below hb2)) fun w3 hb3=>?_;dsimp only;have hA3:=hA2.below hb3;have hb13:=wm hb12 hb3;have g0:=hA3.c0;have g2:=hA3.c2;clear f0 f1;by_cases he:D=s
  ·have hfin:xI s.data.toList l=0:=by
    have:shaS l=s.data.toList:=by rw [<-he,HD.o]
    rw [xI,HK.o,if_neg (by simp [HK0.o]),if_neg (by simp [this])]
   have HF:=sqH hfin;have h1:(D.toList==s.toList)=true:=by simp [he]
   clear hfin he;go_wp2_with fail;refine(xr p hp0 hp5 _).mono ?_;rintro e_ _ ⟨rfl,rfl⟩;dsimp only;go_wp2_with fail;go_ret;exact⟨by rw [HF.o];rfl,hb13⟩
  ·have hfin:xI s.data.toList l=9:=by
    have:shaS l≠s.data.toList:=fun h=>he (by rw [HD.o,h]);rw [xI,HK.o,if_neg (by simp [HK0.o]),if_pos this]
   have HF:=sqH hfin;have h1:(D.toList==s.toList)=false:=by
    rw [beq_eq_false_iff_ne,ByteArray.toList_eq,ByteArray.toList_eq];intro h;apply he;cases D;cases s;simp only [ByteArray.mk.injEq];exact Array.toList_inj.1 h
   clear hfin he;go_wp2_with fail;go_ret;exact⟨by rw [HF.o];rfl,hb13⟩
 ·have e0:((k:Int) != 0)=true:=by rw [bne_iff_ne];omega
  have hfin:xI s.data.toList l=k:=by rw [xI,HK.o,if_pos k0]
  have HF:=sqH hfin;clear k0 hfin;go_wp2_with fail;go_ret;exact⟨by rw [HF.o];rfl,hb12⟩
end Go.Proofs.YtcjmjaefcjcomaaGreat
