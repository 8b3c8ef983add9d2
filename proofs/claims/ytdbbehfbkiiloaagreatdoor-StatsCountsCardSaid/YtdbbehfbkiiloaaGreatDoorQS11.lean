/- Lemmas of the proof. Conditions: as stated. -/
import Derived.Test.YtdbbehfbkiiloaaGreatDoorQS10
set_option linter.unusedVariables false
set_option linter.unusedSimpArgs false
set_option maxRecDepth 100000
set_option maxHeartbeats 4000000
namespace Go.Proofs.YtdbbehfbkiiloaaGreatDoor
open Go.RowKit
section
variable {P:Program} {w:World}
end
theorem Sl.other {w:World} {size n c g k:Nat} {A:Option Addr} {xs:List Value} (h:Sl w size A n c xs) (hne:∀a,A=some a→a.block≠g) (u:Value):Sl (w.setCell ⟨g,k,none⟩ u) size A n c xs :=
 h.keep (by simp [World.setCell]) fun b hb hl=>by
  obtain⟨a,ha,rfl⟩:=hl
  exact Below.heap_setCell w _ u _ (hne a ha)
structure Rdr (W:World) (g:Nat) (A:Option Addr) (c:Nat) (l:List UInt8) (e:Nat):Prop where
 arr:Arr W g 175 [.slice A l.length c,.int .i64 e]
 rd:Rd W 1 A l.length (bys l)
 cap:l.length≤c
 ne:∀b off,A=some ⟨b,off,none⟩→0<l.length→b≠g
 small:l.length≤2000
 cm:c≤maxLen
section
variable {W W':World} {g c e:Nat} {A:Option Addr} {l:List UInt8}
theorem qI {w w':World} (h:Below w.heap.size w w') (row:Option Nat):w.grownBy w' row:=⟨h.os,h.tape,h.output,h.size,fun k hk _=>h.block k hk⟩
theorem Rd.far {w w':World} {size n:Nat} {A:Option Addr} {xs:List Value} (h:Rd w size A n xs) (hg:w.grownBy w' (some g)) (hne:∀b off,A=some ⟨b,off,none⟩→0<n→b≠g):Rd w' size A n xs :=
 ⟨h.1,fun hn=>by
  obtain⟨b,off,e,hb,hc⟩:=h.2 hn
  have h1:=hne b off e hn
  exact⟨b,off,e,Nat.lt_of_lt_of_le hb hg.size,fun j u hu=>(World.cell?_of_block (hg.block b hb (by intro e';cases e';exact h1 rfl))).trans (hc j u hu)⟩⟩
theorem Rdr.below (h:Rdr W g A c l e) (hb:Below W.heap.size W W'):Rdr W' g A c l e:=⟨h.arr.below hb,h.rd.below hb,h.cap,h.ne,h.small,h.cm⟩
theorem Rdr.lt (h:Rdr W g A c l e):g<W.heap.size:=h.arr.lt
theorem Rdr.put (h:Rdr W g A c l e) {A':Option Addr} {c':Nat} {l':List UInt8} {W1:World} (hb:Below W.heap.size W W1) (ho:OwnB 5 W.heap.size W1 A' c' l') (hl:l'.length≤2000) (e':Nat) :
  Rdr ((W1.setCell ⟨g,0,none⟩ (.slice A' l'.length c')).setCell ⟨g,1,none⟩ (.int .i64 e')) g A' c' l' e'∧W.grownBy ((W1.setCell ⟨g,0,none⟩ (.slice A' l'.length c')).setCell ⟨g,1,none⟩ (.int .i64 e')) (some g):=by
 have ha:=((h.arr.below hb).set (k:=0) (by simp) (.slice A' l'.length c')).set (k:=1) (by simp) (.int .i64 e');have hg:=((qI hb (some g)).trans (zl W1 g 0 (.slice A' l'.length c'))).trans (zl _ g 1 (.int .i64 e'));have hne:∀b off,A'=some ⟨b,off,none⟩→0<l'.length→b≠g:=fun b off e _=>by
  have:=(ho.own.lt b (by rw [e];rfl)).1;have:=h.lt;omega
 refine⟨⟨ha,?_,ho.cap,hne,hl,?_⟩,hg⟩
 ·exact ho.rd.far ((zl W1 g 0 (.slice A' l'.length c')).trans (zl _ g 1 (.int .i64 e'))) hne
 ·rcases ho.own.2 with ⟨h1,_⟩ | ⟨_,cap,_,h1,_,_,_,h2,_⟩
  ·injection h1 with _ _ h3;subst h3;exact Nat.zero_le _
  ·injection h1 with _ _ h3;subst h3;exact h2
end
def yy (A A':Option Addr) (sz:Nat) (l':List UInt8):Prop:=∀b off,A'=some ⟨b,off,none⟩→0<l'.length→(∃off',A=some ⟨b,off',none⟩)∨sz≤b
theorem vW:∀(l:List UInt8) (i n:Nat),(kk i n l).2.2≠0→(kk i n l).1=0
 | [],i,n,_=>rfl
 | x::r,i,n,h=>by
  simp only [kk]at h ⊢
  split at h
  ·rename_i h1
   rw [if_pos h1]
   split at h
   ·rename_i h2;rw [if_pos h2]
   ·exact absurd rfl h
  ·rename_i h1
   rw [if_neg h1]
   split at h
   ·rename_i h2;rw [if_pos h2]
   ·rename_i h2;rw [if_neg h2];exact vW r _ _ h
theorem zT:∀(l:List UInt8) (i n:Nat),(kk i n l).2.1.length≤l.length
 | [],i,n=>Nat.le_refl _
 | x::r,i,n=>by
  simp only [kk]
  split
  ·split
   ·exact Nat.zero_le _
   ·simp only [List.length_cons];omega
  ·split
   ·exact Nat.zero_le _
   ·have:=zT r (i+1) (n+x.toNat % 128*128 ^ i);simp only [List.length_cons];omega
theorem k9:∀(l:List UInt8) (i n:Nat),(kk i n l).1≤4294967295
 | [],i,n=>by simp [kk]
 | x::r,i,n=>by
  simp only [kk]
  split
  ·split
   ·exact Nat.zero_le _
   ·dsimp only;omega
  ·split
   ·exact Nat.zero_le _
   ·exact k9 r _ _
theorem yl (l:List UInt8):(xE l).2.1.length≤l.length:=by
 have h:=zT l 0 0;unfold xE zc;generalize kk 0 0 l=x at *
 obtain⟨n,r,e⟩:=x;dsimp only at h ⊢
 split
 ·exact Nat.zero_le _
 ·split
  ·exact Nat.zero_le _
  ·split
   ·exact Nat.zero_le _
   ·simp only [List.length_drop];omega
def vS (l:List UInt8) (e:Nat):Nat×List UInt8×Nat:=if e≠0 then (0,l,e) else zc l
def ug (l:List UInt8) (e:Nat):List UInt8×List UInt8×Nat:=if e≠0 then ([],l,e) else xE l
def yZ (n:Nat) (l:List UInt8) (e:Nat):List UInt8×List UInt8×Nat:=if e≠0 then ([],l,e) else if l.length<n then ([],l,8) else (l.take n,l.drop n,0)
theorem xz {g c e:Nat} {A:Option Addr} {l:List UInt8} {w:World} (h:Rdr w g A c l e) :
  Calls Tryz.prog 122 #[.pointer (some ⟨g,0,none⟩)] w fun x w'=>∃A' c',x= .returned (.int .i64 ((vS l e).1:Nat))∧Rdr w' g A' c' (vS l e).2.1 (vS l e).2.2∧w.grownBy w' (some g)∧yy A A' w.heap.size (vS l e).2.1:=by
 obtain⟨f0,f1⟩:=sqC2 h.arr;by_cases e0:e=0
 ·have hfin:vS l e=zc l:=by rw [vS,if_neg (by simpa using e0)]
  rw [hfin];obtain⟨m,r,er,hrd⟩:∃m r er,zc l=(m,r,er):=⟨_,_,_,rfl⟩
  have hrl:=zT l 0 0;have HR:=sqH (fun w' hr=>zW (A:=A) (n:=l.length) (c:=c) (w:=w') (er:Int) rfl hrd rfl h.cap (by have:=h.small;omega) hr);rw [show kk 0 0 l=(m,r,er) from hrd]at hrl;rw [hrd];have hsm:=h.small;dsimp only at hrl ⊢
  have e1:((e:Int) != 0)=false:=by rw [bne_eq_false_iff_eq];omega
  clear e0 hfin hrd;go_enter Tryz.func122,Tryz.ntmps122;go_wp2_with fail;refine(HR.out w h.rd).mono ?_;rintro e_ w1 ⟨A1,c1,rfl,ho1,hb1⟩;dsimp only;have hA1:=h.arr.below hb1;obtain⟨k0,k1⟩:=sqC2 hA1;obtain⟨z0,z1⟩:=sqF2 hA1;have hA2:=hA1.set (k:=0) (by simp) (.slice A1 r.length c1);have k2:=hA2.cell (k:=1) rfl;have z2:=hA2.frozen 1;have hp:=h.put hb1 ho1 (by omega) er;clear f0 f1;go_wp2_with fail;go_ret;exact⟨A1,c1,rfl,hp.1,hp.2,fun b off e _=> .inr (ho1.own.lt b (by rw [e];rfl)).1⟩
 ·have hfin:vS l e=(0,l,e):=by rw [vS,if_pos e0]
  rw [hfin];have e1:((e:Int) != 0)=true:=by rw [bne_iff_ne];omega
  clear e0 hfin;go_enter Tryz.func122,Tryz.ntmps122;go_wp2_with fail;go_ret;exact⟨A,c,rfl,h,World.grownBy.refl _ _,fun b off e _=> .inl ⟨off,e⟩⟩
theorem Kv {g c e:Nat} {A:Option Addr} {l:List UInt8} {w:World} (h:Rdr w g A c l e) :
  Calls Tryz.prog 123 #[.pointer (some ⟨g,0,none⟩)] w fun x w'=>∃A' c',x= .returned (.string ⟨(ug l e).1.toArray⟩)∧Rdr w' g A' c' (ug l e).2.1 (ug l e).2.2∧w.grownBy w' (some g)∧yy A A' w.heap.size (ug l e).2.1:=by
 obtain⟨f0,f1⟩:=sqC2 h.arr;by_cases e0:e=0
 ·have hfin:ug l e=xE l:=by rw [ug,if_neg (by simpa using e0)]
  rw [hfin];obtain⟨m,r,er,hrd⟩:∃m r er,xE l=(m,r,er):=⟨_,_,_,rfl⟩
  have hrl:=yl l;have HR:=sqH (fun w' hr=>xQ (A:=A) (n:=l.length) (c:=c) (w:=w') (er:Int) rfl hrd rfl h.cap (by have:=h.small;omega) hr);rw [hrd]at hrl;rw [hrd];have hsm:=h.small;dsimp only at hrl ⊢
  have e1:((e:Int) != 0)=false:=by rw [bne_eq_false_iff_eq];omega
  clear e0 hfin hrd;go_enter Tryz.func123,Tryz.ntmps123;go_wp2_with fail;refine(HR.out w h.rd).mono ?_;rintro e_ w1 ⟨A1,c1,rfl,ho1,hb1⟩;dsimp only;have hA1:=h.arr.below hb1;obtain⟨k0,k1⟩:=sqC2 hA1;obtain⟨z0,z1⟩:=sqF2 hA1;have hA2:=hA1.set (k:=0) (by simp) (.slice A1 r.length c1);have k2:=hA2.cell (k:=1) rfl;have z2:=hA2.frozen 1;have hp:=h.put hb1 ho1 (by omega) er;clear f0 f1;go_wp2_with fail;go_ret;exact⟨A1,c1,rfl,hp.1,hp.2,fun b off e _=> .inr (ho1.own.lt b (by rw [e];rfl)).1⟩
 ·have hfin:ug l e=([],l,e):=by rw [ug,if_pos e0]
  rw [hfin];have e1:((e:Int) != 0)=true:=by rw [bne_iff_ne];omega
  clear e0 hfin;go_enter Tryz.func123,Tryz.ntmps123;go_wp2_with fail;go_ret;exact⟨A,c,rfl,h,World.grownBy.refl _ _,fun b off e _=> .inl ⟨off,e⟩⟩
theorem Ku {g c e:Nat} {A:Option Addr} {l:List UInt8} {w:World} (n:Nat) (N:Int) (hN:(n:Int)=N) (hn:n≤2000) (h:Rdr w g A c l e) :
  Calls Tryz.prog 125 #[.pointer (some ⟨g,0,none⟩),.int .i64 N] w fun x w'=>∃A1 c1 A' c',x= .returned (.slice A1 (yZ n l e).1.length c1)∧(yZ n l e).1.length≤c1∧Rd w' 1 A1 (yZ n l e).1.length (bys (yZ n l e).1)∧Rdr w' g A' c' (yZ n l e).2.1 (yZ n l e).2.2∧w.grownBy w' (some g)∧yy A A' w.heap.size (yZ n l e).2.1:=by
 subst hN;obtain⟨f0,f1⟩:=sqC2 h.arr;obtain⟨z0,z1⟩:=sqF2 h.arr;by_cases e0:e=0
 ·have e1:((e:Int)==0)=true:=by rw [beq_iff_eq];omega
  have e2:((e:Int) != 0)=false:=by rw [bne_eq_false_iff_eq];omega
  by_cases hlt:l.length<n
  ·have hfin:yZ n l e=([],l,8):=by rw [yZ,if_neg (by simpa using e0),if_pos hlt]
   rw [hfin];have e3:decide (l.length<n)=true:=by simpa using hlt
   have hA2:=h.arr.set (k:=1) (by simp) (.int .i64 8);obtain⟨k0,k1⟩:=sqC2 hA2;have hR:Rdr (w.setCell ⟨g,1,none⟩ (.int .i64 8)) g A c l 8:=⟨hA2,h.rd.far (zl w g 1 _) h.ne,h.cap,h.ne,h.small,h.cm⟩
   have hG:=zl w g 1 (.int .i64 8);have HR:=sqH hR;clear hfin e0 hlt hR;go_enter Tryz.func125,Tryz.ntmps125;go_wp2_with fail;go_ret;exact⟨none,0,A,c,rfl,Nat.zero_le _,Rd.nil_,HR.out,hG,fun b off e _=> .inl ⟨off,e⟩⟩
  ·have hfin:yZ n l e=(l.take n,l.drop n,0):=by rw [yZ,if_neg (by simpa using e0),if_neg hlt]
   rw [hfin];have e3:decide (l.length<n)=false:=by simpa using hlt
   have hle:(n:Int)≤(c:Int):=by have:=h.cap;omega
   have hle2:(n:Int)≤(l.length:Int):=by omega
   have hcm:(c:Int)≤9223372036854775807:=by have:=h.cm;unfold maxLen at this;omega
   have hll:(l.drop n).length=l.length - n:=List.length_drop;have htl:(l.take n).length=n:=by rw [List.length_take];omega
   have r1:=h.rd.pre (k:=n) (by omega);rw [Nat.mul_one,vH]at r1;have k0n:n≤l.length:=by omega
   have hcap:=h.cap;have hng:=h.ne;have r2:=h.rd.cut (k:=n) (cap:=c) k0n hcap;rw [Nat.mul_one,qD]at r2;obtain⟨A',hA'⟩:∃A',A'=(if c=n then A else A.map (·.add n)):=⟨_,rfl⟩
   rw [←hA']at r2;have hA2:=h.arr.set (k:=0) (by simp) (.slice A' (l.length - n) (c - n));have hG:=zl w g 0 (.slice A' (l.length - n) (c - n));have hmv:∀b off,A'=some ⟨b,off,none⟩→0<l.length - n→∃off',A=some ⟨b,off',none⟩:=fun b off e' h0=>by
    obtain⟨b2,o2,e2,_⟩:=h.rd.2 (show 0<l.length by omega);rw [e2]at hA';have:b=b2:=by
     rw [hA']at e';split at e'
     ·cases e';rfl
     ·simp only [Option.map_some,Option.some.injEq]at e';have:=congrArg Addr.block e';rw [ZO]at this;exact this.symm
    rw [this];exact⟨o2,e2⟩
   have hne':∀b off,A'=some ⟨b,off,none⟩→0<l.length - n→b≠g:=fun b off e' h0=>by
    obtain⟨o2,e2⟩:=hmv b off e' h0;exact hng b o2 e2 (by omega)
   have HM:=sqH (show yy A A' w.heap.size (l.drop n) from fun b off e' h0=> .inl (hmv b off e' (by rw [hll]at h0;exact h0)));have hR:Rdr (w.setCell ⟨g,0,none⟩ (.slice A' (l.length - n) (c - n))) g A' (c - n) (l.drop n) 0:=by
    refine⟨?_,?_,by rw [hll];omega,by rw [hll];exact hne',by rw [hll];have:=h.small;omega,by have:=h.cm;omega⟩
    ·rw [hll];have he0:(e:Int)=((0:Nat):Int):=by omega
     rw [he0]at hA2;exact hA2
    ·rw [hll];exact r2.far hG hne'
   have r1':=r1.far hG (fun b off e' h0=>hng b off e' (by omega));have HR:=sqH hR;have HA:=sqH hA';rw [htl];have hlt':¬n≤c→False:=fun h=>h (by omega);have hnc:n≤c:=by omega
   clear hfin e0 hlt hR hA' hne' r2 r1 hll htl hA2;go_enter Tryz.func125,Tryz.ntmps125
   repeat' (fail_if_success (first|at_builtin|at_make));first|go_values|go_skip|go_guarded|go_step|go_upon|go_back
   rw [←HA.out];go_ret;exact⟨A,c,A',c - n,rfl,hnc,r1',HR.out,hG,HM.out⟩
 ·have hfin:yZ n l e=([],l,e):=by rw [yZ,if_pos e0]
  rw [hfin];have e1:((e:Int)==0)=false:=by rw [beq_eq_false_iff_ne];omega
  have e2:((e:Int) != 0)=true:=by rw [bne_iff_ne];omega
  clear e0 hfin;go_enter Tryz.func125,Tryz.ntmps125;go_wp2_with fail;go_ret;exact⟨none,0,A,c,rfl,Nat.zero_le _,Rd.nil_,h,World.grownBy.refl _ _,fun b off e _=> .inl ⟨off,e⟩⟩
def xI (l:List UInt8):PartP×List UInt8×Nat :=
 let a:=ug l 0
 let b:=yZ 32 a.2.1 a.2.2
 let c:=vS b.2.1 b.2.2
 (⟨a.1,zX b.1,c.1⟩,c.2.1,c.2.2)
def zk:Nat→List PartP→List UInt8→Nat×List PartP×List UInt8
 | 0,out,l=>(0,out,l)
 | k+1,out,l=>if (xI l).2.2≠0 then ((xI l).2.2, [], []) else zk k (out++ [(xI l).1]) (xI l).2.1
def kC (b:List UInt8):List PartP×Nat :=
 if 2000<b.length then ([],1) else if [65,77,49].isPrefixOf b=false then ([],3) else
 if (zc (b.drop 3)).2.2≠0 then ([],(zc (b.drop 3)).2.2) else if 8<(zc (b.drop 3)).1 then ([],1) else
 if (zk (zc (b.drop 3)).1 [] (zc (b.drop 3)).2.1).1≠0 then ([],(zk (zc (b.drop 3)).1 [] (zc (b.drop 3)).2.1).1) else
 if 0<(zk (zc (b.drop 3)).1 [] (zc (b.drop 3)).2.1).2.2.length then ([],3) else
 if chk (zk (zc (b.drop 3)).1 [] (zc (b.drop 3)).2.1).2.1≠0 then ([],chk (zk (zc (b.drop 3)).1 [] (zc (b.drop 3)).2.1).2.1) else
 ((zk (zc (b.drop 3)).1 [] (zc (b.drop 3)).2.1).2.1,0)
theorem QI (A:Option Addr) (n c g:Nat) (l:List UInt8) (w:World) (hl:l.length=n) (hc:n≤c) (hr:Rd w 1 A n (bys l)) (h2:Rd w 1 (some ⟨g,0,none⟩) 3 (bys [65,77,49])) :
  Calls Tryz.prog 121 #[.slice A n c,.slice (some ⟨g,0,none⟩) 3 3] w fun e w'=>(∃A' c',e= .returned (.tuple #[.slice A' (if [65,77,49].isPrefixOf l then (l.drop 3).length else n) c',.bool ([65,77,49].isPrefixOf l)]) ∧
   ([65,77,49].isPrefixOf l=true→Rd w 1 A' (l.drop 3).length (bys (l.drop 3))∧(l.drop 3).length≤c'∧c'≤c∧yy A A' w.heap.size (l.drop 3)))∧w=w':=by
 rcases Nat.eq_zero_or_pos n with h0 | h0
 ·subst h0;obtain rfl:l= []:=List.eq_nil_of_length_eq_zero hl;refine(Tryz.bytes_CutPrefix_e1 A (some ⟨g,0,none⟩) c 3 3 (by omega) w).mono fun e w' h=>⟨⟨A,c,?_,fun h=>by simp at h⟩,h.2.symm⟩
  rw [h.1];rfl
 ·obtain⟨b,off,rfl,hb,hcell⟩:=hr.2 h0;obtain⟨b2,o2,e2,hb2,hcell2⟩:=h2.2 (by omega);cases e2
  refine(Tryz.bytes_CutPrefix b off n c g 0 3 3 (l.map fun x=>(x.toNat:Int)) [65,77,49] w (by simpa using hl) rfl hc (fun i hi=> ?_) (fun i hi=> ?_)).mono fun e w' h=>⟨?_,h.2.symm⟩
  ·refine hcell i _ ?_;have:i<l.length:=by omega
   simp [bys,this]
  ·refine hcell2 i _ ?_
   match i,hi with
   | 0,_=>rfl
   | 1,_=>rfl
   | 2,_=>rfl
  ·have hbo:Lib.bytesOf (l.map fun x=>(x.toNat:Int))=l:=by
    simp only [Lib.bytesOf,List.map_map]
    conv=>rhs;rw [←List.map_id l]
    exact List.map_congr_left fun a _=>by simp
   have hb3:Lib.bytesOf [65,77,49]= [65,77,49]:=rfl;obtain⟨h1,_⟩:=h;rw [Lib.bytesTrimPrefix,hbo,hb3,Lib.hasPrefix]at h1;by_cases hp: [65,77,49].isPrefixOf l=true
   ·rw [hp,if_pos rfl,Lib.sliceFrom]at h1;have h3:3≤l.length:=by
     have:=List.IsPrefix.length_le (List.isPrefixOf_iff_prefix.1 hp);simpa using this
    have hr':=hr.cutAt (k:=3) (c:=c) (by omega) hc;rw [qD]at hr';have hdl:(l.drop 3).length=n - 3:=by rw [List.length_drop,hl]
    refine⟨_,c - 3,?_,fun _=>⟨by rw [hdl];exact hr',by omega,by omega,?_⟩⟩
    ·rw [h1,hp,if_pos rfl,hdl];rfl
    ·intro b' o' e' _;split at e'
     ·cases e';exact .inl ⟨_,rfl⟩
     ·cases e';exact .inl ⟨_,rfl⟩
   ·have hp: [65,77,49].isPrefixOf l=false:=Bool.eq_false_iff.2 hp;rw [hp,if_neg (by decide)]at h1;refine⟨some ⟨b,off,none⟩,c,?_,fun h=>by rw [hp]at h;cases h⟩;rw [h1,hp];rfl
theorem Zq (l:List UInt8) (e:Nat):(ug l e).2.1.length≤l.length:=by
 unfold ug;split
 ·exact Nat.le_refl _
 ·exact yl l
theorem Zo (n:Nat) (l:List UInt8) (e:Nat):(yZ n l e).2.1.length≤l.length∧(yZ n l e).1.length≤l.length:=by
 unfold yZ;split
 ·exact⟨Nat.le_refl _,Nat.zero_le _⟩
 ·split
  ·exact⟨Nat.le_refl _,Nat.zero_le _⟩
  ·simp only [List.length_drop,List.length_take];omega
theorem Z1 (l:List UInt8) (e:Nat):(vS l e).2.1.length≤l.length∧(vS l e).1≤4294967295:=by
 unfold vS;split
 ·exact⟨Nat.le_refl _,Nat.zero_le _⟩
 ·exact⟨zT l 0 0,k9 l 0 0⟩
theorem Zp (l:List UInt8) (e:Nat):(ug l e).1.length≤l.length:=by
 unfold ug;split
 ·exact Nat.zero_le _
 ·have h:=zT l 0 0;unfold xE zc;generalize kk 0 0 l=x at *
  obtain⟨n,r,e⟩:=x;dsimp only at h ⊢
  split
  ·exact Nat.zero_le _
  ·split
   ·exact Nat.zero_le _
   ·split
    ·exact Nat.zero_le _
    ·simp only [List.length_take];omega
def Far (v:Value) (A:Option Addr) (l:List UInt8):Prop:=∀b off,A=some ⟨b,off,none⟩→0<l.length→v.ownBlock≠some b
theorem Far.moved {v:Value} {A A':Option Addr} {l l':List UInt8} {sz:Nat} (h:Far v A l) (hm:yy A A' sz l') (hl:l'.length≤l.length) (hv:∀k,v.ownBlock=some k→k<sz):Far v A' l':=fun b off e h0=>by
 rcases hm b off e h0 with ⟨o,ho⟩ | hb
 ·exact h b o ho (by omega)
 ·intro hk;have:=hv b hk;omega
theorem vd {w w':World} {g n:Nat} {v:Value} {e:TypeId} {size:Nat} {xs:List Value} (h:w.ownsRow (g+1) e size v n xs) (hg:w.grownBy w' (some g)):w'.ownsRow (g+1) e size v n xs :=
 h.kept hg (.inr fun he=>by have:=(h.lt g he).1;omega)
theorem Rdr.grown {W W':World} {g c e:Nat} {A:Option Addr} {l:List UInt8} {v:Value} (h:Rdr W g A c l e) (hg:W.grownBy W' v.ownBlock) (hv:v.ownBlock≠some g) (hf:Far v A l):Rdr W' g A c l e:=by
 refine⟨?_,⟨h.rd.1,fun hn=> ?_⟩,h.cap,h.ne,h.small,h.cm⟩
 ·exact(hg.block g h.lt (fun e=>hv e.symm)).trans h.arr
 ·obtain⟨b,off,e,hb,hc⟩:=h.rd.2 hn;have h1:=hf b off e hn;exact⟨b,off,e,Nat.lt_of_lt_of_le hb hg.size,fun j u hu=>(World.cell?_of_block (hg.block b hb (fun e=>h1 e.symm))).trans (hc j u hu)⟩
theorem qB {B g:Nat} {a w w':World} (h:Below B a w) (hg:w.grownBy w' (some g)) (hB:B≤g) (hs:B≤w.heap.size):Below B a w':=h.grown hg hs (fun k hk=>by cases hk;exact hB)
theorem uY (A:Option Addr) (n c:Nat) (l:List UInt8) (w:World) (hl:l.length=n) (hc:n≤c) (hm:c≤maxLen) (hr:Rd w 1 A n (bys l)) :
  Calls Tryz.prog 89 #[.slice A n c] w fun e w'=>∃v,e= .returned (.tuple #[v,.int .i64 ((kC l).2:Nat)])∧w'.ownsRow w.heap.size 77 3 v (kC l).1.length (pcs (kC l).1)∧Below w.heap.size w w':=by
 have HL:=sqH hl;by_cases hbig:2000<n
 ·have hfin:kC l=([],1):=by rw [kC,if_pos (by omega)]
  have hcm:n≤9223372036854775807:=by unfold maxLen at hm;omega
  rw [hfin];clear hfin hl;go_enter Tryz.func89,Tryz.ntmps89;go_wp2_with fail;go_ret2;exact⟨_,rfl,World.ownsRow_nil _ _ _ _,Below.refl _ _⟩
 have hfin1:kC l=if [65,77,49].isPrefixOf l=false then ([],3) else
   if (zc (l.drop 3)).2.2≠0 then ([],(zc (l.drop 3)).2.2) else if 8<(zc (l.drop 3)).1 then ([],1) else
   if (zk (zc (l.drop 3)).1 [] (zc (l.drop 3)).2.1).1≠0 then ([],(zk (zc (l.drop 3)).1 [] (zc (l.drop 3)).2.1).1) else
   if 0<(zk (zc (l.drop 3)).1 [] (zc (l.drop 3)).2.1).2.2.length then ([],3) else
   if chk (zk (zc (l.drop 3)).1 [] (zc (l.drop 3)).2.1).2.1≠0 then ([],chk (zk (zc (l.drop 3)).1 [] (zc (l.drop 3)).2.1).2.1) else
   ((zk (zc (l.drop 3)).1 [] (zc (l.drop 3)).2.1).2.1,0):=by rw [kC,if_neg (by omega)]
 generalize kC l=res at *
 have hb0:=(Below.refl w.heap.size w).alloc (Nat.le_refl _) (.cells #[.int .u8 65,.int .u8 77,.int .u8 49] 5 (3,4));have hr0:=hr.alloc (.cells #[.int .u8 65,.int .u8 77,.int .u8 49] 5 (3,4));have hq0:Rd (w.alloc (.cells #[.int .u8 65,.int .u8 77,.int .u8 49] 5 (3,4))) 1 (some ⟨w.heap.size,0,none⟩) 3 (bys [65,77,49]):=by
  refine⟨rfl,fun _=>⟨_,0,rfl,by simp,fun j u hu=> ?_⟩⟩;rw [←hu,Nat.zero_add];have h1:(w.alloc (.cells #[.int .u8 65,.int .u8 77,.int .u8 49] 5 (3,4))).heap[w.heap.size]?=some (.cells #[.int .u8 65,.int .u8 77,.int .u8 49] 5 (3,4)):=World.alloc_heap_new w _;simp only [World.cell?,h1,Option.isSome_none,Bool.false_eq_true,if_false];simp [bys]
 have hkc:=fun (w:World) (C:Array Value) (n c:Nat)=>Lib.run_convert_bytes_const (P:=Tryz.prog) w 50 5 C n c Tryz.underlying50 Tryz.underlying5;have HCP:=sqH (QI A n c w.heap.size l _ hl hc hr0 hq0);have HF1:=sqH hfin1;clear hfin1 hl hq0 hr0;generalize hpre: [65,77,49].isPrefixOf l=pre at HCP HF1;go_enter Tryz.func89,Tryz.ntmps89;go_wp2_with fail;refine HCP.out.mono ?_;rintro e_ w1 ⟨⟨A1,c1,rfl,hcut⟩,rfl⟩;dsimp only;cases pre with
 | false =>
  have hres:res=([],3):=by rw [HF1.out,if_pos rfl]
  have HR:=sqH hres;clear hres hpre;go_wp2_with fail;go_ret2;rw [HR.out];exact⟨_,rfl,World.ownsRow_nil _ _ _ _,hb0⟩
 | true =>
  obtain⟨hr1,hc1,hc1c,hm1⟩:=hcut rfl;have hdl:(l.drop 3).length≤2000:=by rw [List.length_drop,HL.out];omega
  simp only [if_true];have HF2:=sqH (show res=if (zc (l.drop 3)).2.2≠0 then ([],(zc (l.drop 3)).2.2) else if 8<(zc (l.drop 3)).1 then ([],1) else
   if (zk (zc (l.drop 3)).1 [] (zc (l.drop 3)).2.1).1≠0 then ([],(zk (zc (l.drop 3)).1 [] (zc (l.drop 3)).2.1).1) else
   if 0<(zk (zc (l.drop 3)).1 [] (zc (l.drop 3)).2.1).2.2.length then ([],3) else
   if chk (zk (zc (l.drop 3)).1 [] (zc (l.drop 3)).2.1).2.1≠0 then ([],chk (zk (zc (l.drop 3)).1 [] (zc (l.drop 3)).2.1).2.1) else
   ((zk (zc (l.drop 3)).1 [] (zc (l.drop 3)).2.1).2.1,0) from by rw [HF1.out,if_neg (by decide)])
  have HPRE:=sqH hpre;clear HF1 HCP hcut hpre;generalize l.drop 3=L at *
  generalize w.alloc (.cells #[.int .u8 65,.int .u8 77,.int .u8 49] 5 (3,4))=w1 at *
  obtain⟨g,hg⟩:∃g,g=w1.heap.size:=⟨_,rfl⟩
  obtain⟨w2,hw2⟩:∃w2,w2=w1.alloc (.cells #[.slice A1 L.length c1,.int .i64 0] 175):=⟨_,rfl⟩
  have hR2:Rdr w2 g A1 c1 L 0:=by
   rw [hw2,hg];exact⟨Arr.new w1 _ _,hr1.alloc _,hc1,fun b off e h0=>by
    obtain⟨_,_,e2,hb2,_⟩:=hr1.2 h0;rw [e]at e2;cases e2;omega,hdl,by omega⟩
  have hb2:Below w.heap.size w w2:=by rw [hw2];exact hb0.alloc hb0.size _
  have hgw:w.heap.size≤g:=by rw [hg];exact hb0.size
  have hg2:g<w2.heap.size:=hR2.lt;have HW2:=sqH hw2;have HG:=sqH hg;obtain⟨m,r,er,hrd⟩:∃m r er,zc L=(m,r,er):=⟨_,_,_,rfl⟩
  have hmz:=vW L 0 0;have hml:=zT L 0 0;have hmb:=k9 L 0 0;rw [show kk 0 0 L=(m,r,er) from hrd]at hmz hml hmb;rw [hrd]at HF2;have HN:=xz hR2;rw [vS,if_neg (by decide),hrd]at HN;dsimp only at HF2 HN hmz hml hmb;have HN':=sqH HN;clear hw2 hg hr1 hm1 hb0 hr HN hrd;go_wp2_with fail;rw [←HG.out,←HW2.out];refine(HN'.out).mono ?_;rintro e_ w3 ⟨A3,c3,rfl,hR3,hG3,hM3⟩;dsimp only;have hb3:=qB hb2 hG3 hgw hb2.size;have f1:=hR3.arr.cell (k:=1) rfl;by_cases her:er=0
  ·subst her;have HF3:=sqH (show res=if 8<m then ([],1) else if (zk m [] r).1≠0 then ([],(zk m [] r).1) else if 0<(zk m [] r).2.2.length then ([],3) else
    if chk (zk m [] r).2.1≠0 then ([],chk (zk m [] r).2.1) else ((zk m [] r).2.1,0) from by rw [HF2.out,if_neg (by decide)])
   clear HF2;rw [show((0:Nat):Int)=0 from rfl]at f1;by_cases h8:8<m
   ·have hres:res=([],1):=by rw [HF3.out,if_pos h8]
    have HR:=sqH hres;have e1:decide ((8:Int)<(m:Int))=true:=by simp;omega
    clear hres hmz;go_wp2_with fail;go_ret2;rw [HR.out];exact⟨_,rfl,World.ownsRow_nil _ _ _ _,hb3⟩
   ·have e1:decide ((8:Int)<(m:Int))=false:=by simp;omega
    have HF4:=sqH (show res=if (zk m [] r).1≠0 then ([],(zk m [] r).1) else if 0<(zk m [] r).2.2.length then ([],3) else
     if chk (zk m [] r).2.1≠0 then ([],chk (zk m [] r).2.1) else ((zk m [] r).2.1,0) from by rw [HF3.out,if_neg h8])
    have HM8:=sqH (show m≤8 by omega);clear HF3 h8 hmz;go_wp2_with fail;go_loopg [8,37] m (fun gn v i wr=>∃(k:Nat) (out:List PartP) (A:Option Addr) (c:Nat) (l':List UInt8),gn=m - k∧i= .int .i64 k∧k≤m∧out.length=k∧xP out∧Rdr wr g A c l' 0∧wr.ownsRow (g+1) 77 3 v k (pcs out)∧Far v A l'∧zk m [] r=zk (m - k) out l'∧Below w.heap.size w wr)
    case atStart=>exact⟨0, [],A3,c3,r,rfl,rfl,by omega,rfl,(fun p hp=>by cases hp),hR3,World.ownsRow_nil _ _ _ _,(fun b off _ _ h=>by cases h),rfl,hb3⟩
    case round =>
     clear hb3 hR3 hM3 hG3 f1;obtain⟨k,out,A,c,l',hgk,rfl,hk,hol,hpo,hR,ho,hfar,hch,hbel⟩:=hrel;have HGK:=sqH hgk;have HOL:=sqH hol;have HPO:=sqH hpo;have HCH:=sqH hch;have hm8:=HM8.out;have hgs:=hR.lt;clear hgk hol hpo hch;by_cases hlt:k<m
     ·have hi:decide ((k:Int)<(m:Int))=true:=by simpa using hlt
      have hi':decide (k<m)=true:=by simpa using hlt
      obtain⟨t,l1,e1,h1⟩:∃t l1 e1,ug l' 0=(t,l1,e1):=⟨_,_,_,rfl⟩
      obtain⟨d,l2,e2,h2⟩:∃d l2 e2,yZ 32 l1 e1=(d,l2,e2):=⟨_,_,_,rfl⟩
      obtain⟨z,l3,e3,h3⟩:∃z l3 e3,vS l2 e2=(z,l3,e3):=⟨_,_,_,rfl⟩
      have hs:xI l'=(⟨t,zX d,z⟩,l3,e3):=by unfold xI;rw [h1];dsimp only;rw [h2];dsimp only;rw [h3]
      have n1:=Zq l' 0;have n1':=Zp l' 0;have n2:=Zo 32 l1 e1;have n3:=Z1 l2 e2;rw [h1]at n1 n1';rw [h2]at n2;rw [h3]at n3;have HT1:=sqH (fun (w:World) (A:Option Addr) (c:Nat) (h:Rdr w g A c l' 0)=>(by have:=Kv h;rw [h1]at this;exact this:Calls Tryz.prog 123 #[.pointer (some ⟨g,0,none⟩)] w fun x w'=>∃A' c',x= .returned (.string ⟨t.toArray⟩)∧Rdr w' g A' c' l1 e1∧w.grownBy w' (some g)∧yy A A' w.heap.size l1));have HT2:=sqH (fun (w:World) (A:Option Addr) (c:Nat) (h:Rdr w g A c l1 e1)=>(by have:=Ku 32 32 rfl (by omega) h;rw [h2]at this;exact this:Calls Tryz.prog 125 #[.pointer (some ⟨g,0,none⟩),.int .i64 32] w fun x w'=>∃A1 c1 A' c',x= .returned (.slice A1 d.length c1)∧d.length≤c1∧Rd w' 1 A1 d.length (bys d)∧Rdr w' g A' c' l2 e2∧w.grownBy w' (some g)∧yy A A' w.heap.size l2));have HT3:=sqH (fun (w:World) (A:Option Addr) (c:Nat) (h:Rdr w g A c l2 e2)=>(by have:=xz h;rw [h3]at this;exact this:Calls Tryz.prog 122 #[.pointer (some ⟨g,0,none⟩)] w fun x w'=>∃A' c',x= .returned (.int .i64 (z:Nat))∧Rdr w' g A' c' l3 e3∧w.grownBy w' (some g)∧yy A A' w.heap.size l3));have hsm:=hR.small;have hstep:zk m [] r=if e3≠0 then (e3, [], []) else zk (m - (k+1)) (out++ [⟨t,zX d,z⟩]) l3:=by
       rw [HCH.out,show m - k=(m - (k+1))+1 by omega,zk,hs]
      have HST:=sqH hstep;have hpn:(⟨t,zX d,z⟩:PartP).name.length≤140737488351232∧(⟨t,zX d,z⟩:PartP).dig.length≤140737488351232∧((⟨t,zX d,z⟩:PartP).size:Int)≤9223372036854775807:=by
       refine⟨?_,?_,?_⟩
       ·show t.length≤_;dsimp only at n1';omega
       ·show(zX d).length≤_;rw [qh];dsimp only at n2 n1;omega
       ·show(z:Int)≤_;dsimp only at n3;omega
      have HPN:=sqH hpn;dsimp only at n1 n1' n2 n3;clear hs h1 h2 h3 hstep hpn HCH;have hvl:=fun k hk=>(ho.lt k hk).2;go_wp2_with fail;refine(HT1.out _ _ _ hR).mono ?_;rintro e_ w4 ⟨A4,c4,rfl,hR4,hG4,hM4⟩;dsimp only;have hb4:=qB hbel hG4 hgw hbel.size;have ho4:=vd ho hG4;have hf4:=hfar.moved hM4 n1 hvl;go_wp2_with fail;refine(HT2.out _ _ _ hR4).mono ?_;rintro e_ w5 ⟨Ad,cd,A5,c5,rfl,hcd,hrd,hR5,hG5,hM5⟩;dsimp only;have hb5:=qB hb4 hG5 hgw hb4.size;have ho5:=vd ho4 hG5;have hf5:=hf4.moved hM5 n2.1 (fun k hk=>(ho4.lt k hk).2);go_wp2_with fail;refine(jg Ad d.length cd d w5 rfl (by omega) hcd hrd).mono ?_;rintro e_ w6 ⟨rfl,hb6⟩;dsimp only;have hR6:=hR5.below hb6;have hb56:=hb5.trans (hb6.mono hb5.size);have ho6:=z6 ho5 hb6;go_wp2_with fail;refine(HT3.out _ _ _ hR6).mono ?_;rintro e_ w7 ⟨A7,c7,rfl,hR7,hG7,hM7⟩;dsimp only;have hb7:=qB hb56 hG7 hgw hb56.size;have ho7:=vd ho6 hG7;have hf7:=hf5.moved hM7 n3.1 (fun k hk=>Nat.lt_of_lt_of_le (ho5.lt k hk).2 hb6.size)
      repeat' (fail_if_success (first|at_builtin|at_make));first|go_values|go_skip|go_guarded|go_step|go_upon|go_back
      refine zd rfl (.tmp 39) (.tmp 48) rfl Qu (by rfl) ho7 (us:=pcs [⟨t,zX d,z⟩]) (m:=1) (by rfl) rfl (by intro u hu;exact Ko _ u hu) (by omega) (by have:=hR7.lt;omega) ?_;intro v8 w8 ho8 hg8 hv8;have hR8:=hR7.grown hg8 (fun h=>by have:=(ho7.lt g h).1;omega) hf7;have hb8:Below w.heap.size w w8:=hb7.grown hg8 hb7.size (fun k hk=>by have:=(ho7.lt k hk).1;omega);have hf8:Far v8 A7 l3:=fun b off e h0=>by
       rcases hv8 with h | ⟨g8,h,hge⟩
       ·rw [h];exact hf7 b off e h0
       ·rw [h];obtain⟨_,_,e2,hb2,_⟩:=hR7.rd.2 h0;rw [e]at e2;cases e2
        intro h;cases h;omega
      rw [←Z7]at ho8;have f2:=hR8.arr.cell (k:=1) rfl;clear hf7 ho7 hb7 hR7 ho6 hb56 hR6 hf5 ho5 hb5 hR5 hf4 ho4 hb4 hR4 hrd hM4 hM5 hM7 hG4 hG5 hG7 hvl hfar ho hR hbel hg8 hv8;by_cases h30:e3=0
      ·subst h30;rw [show((0:Nat):Int)=0 from rfl]at f2;have HSTT:=sqH (show zk m [] r=zk (m - (k+1)) (out++ [⟨t,zX d,z⟩]) l3 from by rw [HST.out,if_neg (by decide)]);go_wp2_with fail;go_roundg (m - (k+1))
       case measure=>have:=HGK.out;omega
       case rel =>
        refine⟨k+1,out++ [⟨t,zX d,z⟩],A7,c7,l3,rfl,by go_num,by omega,by rw [List.length_append,HOL.out];rfl,?_,hR8,ho8,hf8,HSTT.out,hb8⟩;intro p hp;rcases List.mem_append.1 hp with h | h
        ·exact HPO.out p h
        ·simp only [List.mem_cons,List.not_mem_nil,or_false]at h;subst h;exact HPN.out
      ·have e9:((e3:Int) != 0)=true:=by rw [bne_iff_ne];omega
       have hres:res=([],e3):=by rw [HF4.out,HST.out,if_pos h30];exact if_pos h30
       have HR:=sqH hres;clear hres h30;go_wp2_with fail;go_quiet (fail);have f3:(w8.drewN nq).cell? ⟨g,1,none⟩=some (.int .i64 e3):=f2;go_wp2_with fail;go_ret2;rw [HR.out];exact⟨_,rfl,World.ownsRow_nil _ _ _ _,zp hb8 _⟩
     ·obtain rfl:k=m:=by omega
      have hi:decide ((k:Int)<(k:Int))=false:=by simp
      have hd:zk k [] r=(0,out,l'):=by rw [HCH.out,Nat.sub_self,zk]
      have HF5:=sqH (show res=if 0<l'.length then ([],3) else if chk out≠0 then ([],chk out) else (out,0) from by rw [HF4.out,hd,if_neg (by simp)]);have f1:=hR.arr.cell (k:=1) rfl;have f0:=hR.arr.cell (k:=0) rfl;rw [show((0:Nat):Int)=0 from rfl]at f1;have hgb:w.heap.size≤g+1:=by omega
      clear hd HF4 HCH hfar;by_cases hr0:0<l'.length
      ·have hres:res=([],3):=by rw [HF5.out,if_pos hr0]
       have HR:=sqH hres;have e5:decide ((0:Int)<(l'.length:Int))=true:=decide_eq_true (by omega);have e5':decide (0<l'.length)=true:=decide_eq_true hr0;clear hres;go_wp2_with fail;go_ret2;rw [HR.out];exact⟨_,rfl,World.ownsRow_nil _ _ _ _,hbel⟩
      ·have HF6:=sqH (show res=if chk out≠0 then ([],chk out) else (out,0) from by rw [HF5.out,if_neg hr0]);have e5:decide ((0:Int)<(l'.length:Int))=false:=decide_eq_false (by omega);have e5':decide (0<l'.length)=false:=decide_eq_false hr0;obtain⟨Ao,co,rfl,hco,hro⟩:=Rd.of_own' ho;have HCK:=sqH (vt Ao k co out wr HOL.out hco (by omega) HPO.out hro);clear HF5;go_wp2_with fail;refine HCK.out.mono ?_;rintro e_ w9 ⟨rfl,hb9⟩;dsimp only;have hbf:=hbel.trans (hb9.mono hbel.size);have hof:=zg (z6 ho hb9) hgb;by_cases hck:chk out=0
       ·have hres:res=(out,0):=by rw [HF6.out,if_neg (by simpa using hck)]
        have HR:=sqH hres;have e6:((chk out:Int) != 0)=false:=by rw [bne_eq_false_iff_eq];omega
        clear hres hck;generalize chk out=ck at *
        go_wp2_with fail;go_ret2;rw [HR.out];refine⟨_,rfl,?_,hbf⟩;dsimp only;rw [HOL.out];exact hof
       ·have hres:res=([],chk out):=by rw [HF6.out,if_pos hck]
        have HR:=sqH hres;have e6:((chk out:Int) != 0)=true:=by rw [bne_iff_ne];omega
        clear hres hck;generalize chk out=ck at *
        go_wp2_with fail;go_ret2;rw [HR.out];exact⟨_,rfl,World.ownsRow_nil _ _ _ _,hbf⟩
  ·have hm0:m=0:=hmz her;subst hm0;have hres:res=([],er):=by rw [HF2.out,if_pos her]
   have HR:=sqH hres;have e1:((er:Int)==0)=false:=by rw [beq_eq_false_iff_ne];omega
   have e2:((er:Int) != 0)=true:=by rw [bne_iff_ne];omega
   clear hres her hmz;rw [show((0:Nat):Int)=0 from rfl];go_wp2_with fail;go_loopg [8,37] 0 (fun gn v i wr=>gn=0∧i= .int .i64 0∧v= .slice none 0 0∧Rdr wr g A3 c3 r er∧Below w.heap.size w wr)
   case atStart=>exact⟨rfl,rfl,rfl,hR3,hb3⟩
   case round =>
    obtain⟨_,rfl,rfl,hR4,hb4⟩:=hrel;have f2:=hR4.arr.cell (k:=1) rfl;go_wp2_with fail;go_quiet (fail);go_wp2_with fail;go_ret2;rw [HR.out];exact⟨_,rfl,World.ownsRow_nil _ _ _ _,zp hb4 _⟩
def Yj (p:PartP):Prop:=zy p.name=0∧hexC p.dig=0∧p.size≤300
theorem KZ (n:Int) (w:World):Calls Tryz.prog 58 #[.int .i64 n] w fun e w'=>e= .returned (.bool (decide (1≤n∧n≤1000)))∧w=w':=by
 by_cases h1:1≤n
 ·by_cases h2:n≤1000
  ·have e1:decide (1≤n)=true:=by simpa using h1
   have e2:decide (n≤1000)=true:=by simpa using h2
   have e3:decide (1≤n∧n≤1000)=true:=by simp [h1,h2]
   have H3:=sqH e3;clear e3;go_enter Tryz.func58,Tryz.ntmps58
   repeat' (fail_if_success (first|at_builtin|at_make));first|go_values|go_skip|go_guarded|go_step|go_upon|go_back
   go_ret;rw [H3.out];exact⟨rfl,rfl⟩
  ·have e1:decide (1≤n)=true:=by simpa using h1
   have e2:decide (n≤1000)=false:=by simpa using h2
   have e3:decide (1≤n∧n≤1000)=false:=by simp [h1,h2]
   have H3:=sqH e3;clear e3;go_enter Tryz.func58,Tryz.ntmps58
   repeat' (fail_if_success (first|at_builtin|at_make));first|go_values|go_skip|go_guarded|go_step|go_upon|go_back
   go_ret;rw [H3.out];exact⟨rfl,rfl⟩
 ·have e1:decide (1≤n)=false:=by simpa using h1
  have e3:decide (1≤n∧n≤1000)=false:=by simp [h1]
  have H3:=sqH e3;clear e3;go_enter Tryz.func58,Tryz.ntmps58
  repeat' (fail_if_success (first|at_builtin|at_make));first|go_values|go_skip|go_guarded|go_step|go_upon|go_back
  go_ret;rw [H3.out];exact⟨rfl,rfl⟩
theorem Y3:El Tryz.prog 44 3 1 8:=El.mk' (z:= .int .i64 0) Tryz.underlying44 (by kernel_rfl) rfl (by omega) (by omega)
theorem Kh (l:List Int):∀u∈ins l,u.oneCell'=true:=by
 intro u hu;simp only [ins,List.mem_map]at hu;obtain⟨_,_,rfl⟩:=hu;rfl
theorem xL (A:Option Addr) (c:Nat) (l:List Int) (x:Int) (w:World) (hn:l.length≤9223372036854775807) (hr:Rd w 1 A l.length (ins l)) :
  Calls Tryz.prog 59 #[.slice A l.length c,.int .i64 x] w fun e w'=>e= .returned (.bool (l.contains x))∧w=w':=by
 rcases Nat.eq_zero_or_pos l.length with h0 | h0
 ·obtain rfl:=List.eq_nil_of_length_eq_zero h0;exact(Tryz.slices_Contains_int_empty A c x w).mono fun e w' h=>⟨h.1,h.2.symm⟩
 ·obtain⟨b,off,rfl,_,hc⟩:=hr.2 h0;refine(Tryz.slices_Contains_int b off l.length c l x w (Nat.le_refl _) hn (fun j hj=>hc j _ ?_)).mono fun e w' h=>⟨?_,h.2.symm⟩
  ·rw [ins,List.getElem?_map,List.getElem?_eq_getElem hj,List.getD_eq_getElem?_getD,List.getElem?_eq_getElem hj];rfl
  ·rw [h.1,List.take_length]
theorem K4 (s:ByteArray) (ld:Int) (A:Option Addr) (c:Nat) (l:List Int) (w:World) (hn:l.length≤1000000) (hr:Rd w 1 A l.length (ins l)) :
  Calls Tryz.prog 57 #[.agg #[.string s,.int .i64 ld,.slice A l.length c]] w fun e w'=>∃v,e= .returned v∧w'.ownsRow w.heap.size 3 1 v (l.length+1) (ins (ld::l))∧Below w.heap.size w w':=by
 have hb1:=(Below.refl w.heap.size w).alloc (Nat.le_refl _) (.cells #[.string s,.int .i64 ld,.slice A l.length c] 46);have hr1:=hr.alloc (.cells #[.string s,.int .i64 ld,.slice A l.length c] 46);go_enter Tryz.func57,Tryz.ntmps57
 repeat' (fail_if_success (first|at_builtin|at_make));first|go_values|go_skip|go_guarded|go_step|go_upon|go_back
 have hs1:(w.alloc (.cells #[.string s,.int .i64 ld,.slice A l.length c] 46)).heap.size=w.heap.size+1:=World.size_alloc _ _;generalize w.alloc (.cells #[.string s,.int .i64 ld,.slice A l.length c] 46)=w1 at *
 rw [←hs1];have ho:(w1.alloc (.cells #[.int .i64 ld] 3)).ownsRow w.heap.size 3 1 (.slice (some ⟨w1.heap.size,0,none⟩) 1 1) 1 [.int .i64 ld] :=
  ⟨rfl,.inr ⟨w1.heap.size,1,#[.int .i64 ld],rfl,hb1.size,World.alloc_heap_new w1 _,Nat.le_refl _,by simp [maxLen],rfl,rfl⟩⟩
 have hb2:=hb1.alloc hb1.size (.cells #[.int .i64 ld] 3);have hr2:=hr1.alloc (.cells #[.int .i64 ld] 3);refine zu rfl (.tmp 5) (.tmp 7) rfl Y3 (by rfl) ho (by rfl) hr2 (Kh l) (by omega) hb2.size ?_;intro v3 w3 ho3 hg3 _;have hb3:=z7 hb2 ho (Nat.le_refl _) hg3;rw [Nat.add_comm 1 l.length]at ho3
 repeat' (fail_if_success (first|at_builtin|at_make));first|go_values|go_skip|go_guarded|go_step|go_upon|go_back
 go_ret;exact⟨_,rfl,ho3,hb3⟩
theorem ZC (s k:ByteArray) (ld:Int) (sl:Value) (gk:Nat) (w:World) (hk:w.cell? ⟨gk,0,none⟩=some (.string k)) (hg:gk<w.heap.size) :
  Calls Tryz.prog 98 #[.agg #[.string s,.int .i64 ld,sl],.pointer (some ⟨gk,0,none⟩)] w fun e w'=>e= .returned (.bool (s.toList==k.toList))∧Below w.heap.size w w':=by
 have hb1:=(Below.refl w.heap.size w).alloc (Nat.le_refl _) (.cells #[.string s,.int .i64 ld,sl] 46);have hk1:(w.alloc (.cells #[.string s,.int .i64 ld,sl] 46)).cell? ⟨gk,0,none⟩=some (.string k):=(World.cell?_alloc_lt w _ ⟨gk,0,none⟩ hg).trans hk;go_enter Tryz.func98,Tryz.ntmps98;go_wp2_with fail;go_ret;exact⟨rfl,hb1⟩
def fnd:Nat→List FlP→List UInt8→Option Nat
 | _, [],_=>none
 | i,p::r,k=>if p.key=k then some i else fnd (i+1) r k
theorem QP (A:Option Addr) (c:Nat) (fs:List FlP) (k:ByteArray) (gq:Nat) (w:World) (hn:fs.length≤1000000) (hf:Fls w A fs) (hk:w.cell? ⟨gq,0,none⟩=some (.string k)) (hg:gq<w.heap.size) :
  Calls Tryz.prog 97 #[.slice A fs.length c,.func (.func 98) #[] #[.pointer (some ⟨gq,0,none⟩)]] w fun e w' =>
   e= .returned (.int .i64 (match fnd 0 fs k.data.toList with | some i=>(i:Int) | none=> -1))∧Below w.heap.size w w':=by
 generalize hR:fnd 0 fs k.data.toList=R;have HR:=sqH hR;clear hR;go_enter Tryz.func97,Tryz.ntmps97
 repeat' (fail_if_success (first|at_builtin|at_make));first|go_values|go_skip|go_guarded|go_step|go_upon|go_back
 go_loopg [5,8] fs.length (fun gn u i wr=>∃j:Nat,gn=fs.length - j∧i= .int .i64 j∧j≤fs.length∧fnd 0 fs k.data.toList=fnd j (fs.drop j) k.data.toList∧Below w.heap.size w wr)
 case atStart=>exact⟨0,rfl,rfl,by omega,rfl,Below.refl _ _⟩
 case round =>
  obtain⟨j,hgk,rfl,hj,hfn,hbl⟩:=hrel;have HGK:=sqH hgk;clear hgk;by_cases hlt:j<fs.length
  ·have hcc:decide (j<fs.length)=true:=decide_eq_true hlt;obtain⟨b,off,B,cb,rfl,hbb,c0,c1,c2,_,_,_⟩:=(hf.below hbl).at_ j hlt;have hj0:(0:Int)≤(j:Int):=by omega
   have hj1:(j:Int)<(fs.length:Int):=by omega
   have hstep:fnd j (fs.drop j) k.data.toList=if fs[j].key=k.data.toList then some j else fnd (j+1) (fs.drop (j+1)) k.data.toList:=by
    rw [List.drop_eq_getElem_cons hlt,fnd]
   obtain⟨s,hs⟩:∃s:ByteArray,s=⟨fs[j].key.toArray⟩:=⟨_,rfl⟩
   have hsd:s.data.toList=fs[j].key:=by rw [hs]
   rw [←hs]at c0;rw [←hsd]at hstep;have HST:=sqH (hfn.trans hstep);generalize fs[j].lead=ld at *
   generalize fs[j].wait.length=wl at *
   have hkk:=(hbl.cell (p:=⟨gq,0,none⟩) hg).trans hk;have hgg:=Nat.lt_of_lt_of_le hg hbl.size;clear hfn hstep hs hsd
   repeat' (fail_if_success (first|at_builtin|at_make));first|go_values|go_skip|go_guarded|go_step|go_upon|go_back
   refine(ZC s k ld (.slice B wl cb) gq wr hkk hgg).mono ?_;rintro e_ w5 ⟨rfl,hb5⟩;dsimp only;have hb05:=hbl.trans (hb5.mono hbl.size);by_cases he:s.data.toList=k.data.toList
   ·have e1:(s.toList==k.toList)=true:=by rw [ByteArray.toList_eq,ByteArray.toList_eq,he,beq_self_eq_true]
    have HF:=sqH (show R=some j from by rw [←HR.out,HST.out,if_pos he]);rw [e1];clear he e1
    repeat' (fail_if_success (first|at_builtin|at_make));first|go_values|go_skip|go_guarded|go_step|go_upon|go_back
    go_ret;rw [HF.out];exact⟨rfl,hb05⟩
   ·have e1:(s.toList==k.toList)=false:=by rw [beq_eq_false_iff_ne,ByteArray.toList_eq,ByteArray.toList_eq];exact he
    have HF:=sqH (show fnd 0 fs k.data.toList=fnd (j+1) (fs.drop (j+1)) k.data.toList from by rw [HST.out,if_neg he]);rw [e1];clear he e1
    repeat' (fail_if_success (first|at_builtin|at_make));first|go_values|go_skip|go_guarded|go_step|go_upon|go_back
    go_roundg (fs.length - (j+1))
    case measure=>have:=HGK.out;omega
    case rel=>exact⟨j+1,rfl,by go_num,by omega,HF.out,hb05⟩
  ·obtain rfl:j=fs.length:=by omega
   have hcc:decide (fs.length<fs.length)=false:=by simp
   have HF:=sqH (show R=none from by rw [←HR.out,hfn,List.drop_length,fnd]);clear hfn
   repeat' (fail_if_success (first|at_builtin|at_make));first|go_values|go_skip|go_guarded|go_step|go_upon|go_back
   go_ret;rw [HF.out];exact⟨rfl,hbl⟩
theorem QL (A:Option Addr) (c:Nat) (fs:List FlP) (k:ByteArray) (w:World) (hn:fs.length≤1000000) (hf:Fls w A fs) :
  Calls Tryz.prog 56 #[.slice A fs.length c,.string k] w fun e w'=>e= .returned (.tuple (match fnd 0 fs k.data.toList with | some i=>#[.int .i64 i,.int .i64 0] | none=>#[.int .i64 0,.int .i64 5]))∧Below w.heap.size w w':=by
 obtain⟨w1,hw1⟩:∃w1,w1=w.alloc (.cells #[.string k] 9):=⟨_,rfl⟩
 have hb1:Below w.heap.size w w1:=by rw [hw1];exact(Below.refl _ _).alloc (Nat.le_refl _) _
 have hk1:w1.cell? ⟨w.heap.size,0,none⟩=some (.string k):=by rw [hw1];exact(Arr.new w 9 [.string k]).cell (k:=0) rfl
 have hg1:w.heap.size<w1.heap.size:=by rw [hw1];simp
 have HI:=sqH (QP A c fs k w.heap.size w1 hn (hf.below hb1) hk1 hg1);have HW:=sqH hw1;clear hw1 hk1 hf;cases hfn:fnd 0 fs k.data.toList with
 | none =>
  have hi:=HI.out;rw [hfn]at hi;dsimp only at hi;clear HI hfn;go_enter Tryz.func56,Tryz.ntmps56;go_wp2_with fail;rw [←HW.out];refine hi.mono ?_;rintro e_ w2 ⟨rfl,hb2⟩;dsimp only;go_wp2_with fail;go_ret2;exact⟨rfl,hb1.trans (hb2.mono hb1.size)⟩
 | some i =>
  have hi:=HI.out;rw [hfn]at hi;dsimp only at hi;have hneg:decide ((i:Int)<0)=false:=decide_eq_false (by omega);clear HI hfn;go_enter Tryz.func56,Tryz.ntmps56;go_wp2_with fail;rw [←HW.out];refine hi.mono ?_;rintro e_ w2 ⟨rfl,hb2⟩;dsimp only;go_wp2_with fail;go_ret2;exact⟨rfl,hb1.trans (hb2.mono hb1.size)⟩
def CrewOk (l:List Int):Prop:=∀j (h:j<l.length),(1≤l[j]∧l[j]≤1000)∧(l.take j).contains l[j]=false
structure GoodF (fs:List FlP):Prop where
 len:fs.length≤6
 key:∀j (h:j<fs.length),hexC fs[j].key=0∧fs[j].key.length≤1000
 one:∀j (h:j<fs.length),fnd 0 (fs.take j) fs[j].key=none
 few:∀j (h:j<fs.length),fs[j].wait.length≤5
 crew:∀j (h:j<fs.length),CrewOk (fs[j].lead::fs[j].wait)
theorem yc:∀(fs:List FlP) (As:List (Option Addr×Nat)) (k:Nat),As.length=fs.length →
  ((fs.zip As).flatMap fun x=>qG x.1 x.2.1 x.2.2).take (k*3)=((fs.take k).zip (As.take k)).flatMap fun x=>qG x.1 x.2.1 x.2.2
 | [], [],k,_=>by simp
 | f::fs,a::As,0,_=>by simp
 | f::fs,a::As,k+1,h=>by
  rw [List.zip_cons_cons,List.flatMap_cons,List.take_succ_cons,List.take_succ_cons,List.zip_cons_cons,List.flatMap_cons,
   ←yc fs As k (by simpa using h),List.take_append,List.take_of_length_le (by simp [qG];omega)]
  congr 2
  simp [qG];omega
theorem Fls.take {w:World} {A:Option Addr} {fs:List FlP} (h:Fls w A fs) (k:Nat) (hk:k≤fs.length):Fls w A (fs.take k):=by
 obtain⟨As,h1,h2,h3⟩:=h;refine⟨As.take k,by rw [List.length_take,List.length_take,h1],?_,fun j p a hp ha=> ?_⟩
 ·have:=h2.pre hk;rw [yc fs As k h1]at this;rw [List.length_take,Nat.min_eq_left hk];exact this
 ·rw [List.getElem?_take]at hp ha;split at hp
  ·rename_i hjk;rw [if_pos hjk]at ha;exact h3 j p a hp ha
  ·cases hp
theorem uZ (A:Option Addr) (c:Nat) (fs:List FlP) (w:World) (hG:GoodF fs) (hf:Fls w A fs) (hc:fs.length≤c) (hm:c≤maxLen) :
  Calls Tryz.prog 30 #[.slice A fs.length c] w fun e w'=>e= .returned (.int .i64 0)∧Below w.heap.size w w':=by
 have HG:=sqH hG;have hn6:=hG.len;have e6:decide ((6:Int)<(fs.length:Int))=false:=decide_eq_false (by omega);have e6':decide (6<fs.length)=false:=decide_eq_false (by omega);have hcm:(c:Int)≤9223372036854775807:=by unfold maxLen at hm;omega
 clear hG;go_enter Tryz.func30,Tryz.ntmps30;go_wp2_with fail;go_loopg [3,16,4] fs.length (fun gn u i v wr=>∃j:Nat,gn=fs.length - j∧i= .int .i64 j∧j≤fs.length∧Below w.heap.size w wr)
 case atStart=>exact⟨0,rfl,rfl,by omega,Below.refl _ _⟩
 case round =>
  obtain⟨j,hgk,rfl,hj,hbl⟩:=hrel;have HGK:=sqH hgk;clear hgk;by_cases hlt:j<fs.length
  ·have hcc:decide (j<fs.length)=true:=decide_eq_true hlt;have hfl:=hf.below hbl;obtain⟨b,off,B,cb,rfl,hbb,c0,c1,c2,hrw,hwc,hcbm⟩:=hfl.at_ j hlt;have hft:=hfl.take j (by omega);have hk:=HG.out.key j hlt;have h1:=HG.out.one j hlt;have hfw:=HG.out.few j hlt;have hcr:=HG.out.crew j hlt;have htl:(fs.take j).length=j:=by rw [List.length_take];omega
   obtain⟨s,hs⟩:∃s:ByteArray,s=⟨fs[j].key.toArray⟩:=⟨_,rfl⟩
   have hsd:s.data.toList=fs[j].key:=by rw [hs]
   have hss:s.size≤140737488351232:=by
    have h2:s.data.toList.length=s.size:=by rw [Array.length_toList];rfl
    rw [hsd]at h2;omega
   rw [←hs]at c0;rw [←hsd]at hk h1;generalize fs[j].lead=ld at *
   generalize fs[j].wait=wt at *
   have hj0:(0:Int)≤(j:Int):=by omega
   have hj1:(j:Int)<(fs.length:Int):=by omega
   have hjc:(j:Int)≤(c:Int):=by omega
   have HK:=sqH hk;have HT:=sqH htl;have H1:=sqH h1;have HCR:=sqH hcr;have hP:=Arr.new wr 46 [.string s,.int .i64 ld,.slice B wt.length cb];have hb1:=hbl.alloc hbl.size (.cells #[.string s,.int .i64 ld,.slice B wt.length cb] 46);have hft1:Fls (wr.alloc (.cells #[.string s,.int .i64 ld,.slice B wt.length cb] 46)) (some ⟨b,off,none⟩) (fs.take j):=hft.below ((Below.refl _ _).alloc (Nat.le_refl _) _);have hrw1:=hrw.alloc (.cells #[.string s,.int .i64 ld,.slice B wt.length cb] 46);have hP':Arr (wr.alloc (.cells #[.string s,.int .i64 ld,.slice B wt.length cb] 46)) wr.heap.size 46 [.string s,.int .i64 ld,.slice B wt.length cb]:=hP;clear hk h1 hcr hs hsd htl hft hrw hfl hP;go_wp2_with fail;generalize wr.alloc (.cells #[.string s,.int .i64 ld,.slice B wt.length cb] 46)=w1 at *
   generalize wr.heap.size=gp at *
   refine(jO 0 rfl HK.out.1 w1 hss).mono ?_;rintro e_ w2 ⟨rfl,hb2⟩;dsimp only;have hb12:=hb1.trans (hb2.mono hb1.size);have hP2:=hP'.below hb2;have hft2:=hft1.below hb2;have hrw2:=hrw1.below hb2;have f0:=hP2.cell (k:=0) rfl;have f2:=hP2.cell (k:=2) rfl;clear c0 c1 c2;go_wp2_with fail;refine wp_region_held_drew (S:=(fun w'=>w'.cell? ⟨gp,0,none⟩=some (.string s))) (by kernel_rfl) ?_ (fun hHeld=> ?_)
   ·exact(hP2.drew).cell (k:=0) rfl
   have hB:=(Below.refl w2.heap.size w2).drew;generalize w2.drew=wn0 at *
   refine sqTH 0 ?_;try simp only [sqP]
   refine sqTH 1 ?_;try simp only [sqP]
   refine sqTH 2 ?_;try simp only [sqP]
   refine sqTH 3 ?_;try simp only [sqP]
   refine sqTH 4 ?_;try simp only [sqP]
   refine wpAnyH_ready (rs:= [5]) (by kernel_rfl) (by simp) ?_;refine AllReadyH.cons (o:=_) rfl (fun K hK=> ?_) ?_
   ·
    have hfi:=QL (some ⟨b,off,none⟩) c (fs.take j) s wn0 (by rw [HT.out];omega) (hft2.below hB);rw [H1.out,HT.out]at hfi;go_simp;refine(hfi).mono ?_;rintro e5 w5 ⟨rfl,hb5⟩;dsimp only;refine qi hK ?_ (Below wn0.heap.size wn0) (fun W=>True) ?_ ?_ (fun wn1 hHeld hst hnew=> ?_)
    ·(exact((hP2.below hB).below hb5).cell (k:=0) rfl)
    ·(exact hb5)
    ·(trivial)
    have hB:=hB.trans (hst.mono hB.size);clear hst;clear hK K
    try simp only [sqP]
    refine sqTH 6 ?_;try simp only [sqP]
    refine sqTH 7 ?_;try simp only [sqP]
    refine sqTH 8 ?_;try simp only [sqP]
    refine sqTH 9 ?_;try simp only [sqP]
    refine sqTH 10 ?_;try simp only [sqP]
    refine wpAnyH_done (by kernel_rfl) ?_ _;clear hHeld;have hP5:=hP2.below hB;have hrw5:=hrw2.below hB;have hb15:=hb12.trans (hB.mono hb12.size);obtain⟨f0,f1,f2⟩:=sqC3 hP5;have e5:decide ((5:Int)<(wt.length:Int))=false:=decide_eq_false (by omega);have e5':decide (5<wt.length)=false:=decide_eq_false (by omega);clear hP2 hft2 hrw2 hb12 hB;dsimp only [Exit.then];go_wp2_with fail;refine(K4 s ld B cb wt wn1 (by omega) hrw5).mono ?_;rintro e_ w6 ⟨v6,rfl,ho6,hb6⟩;dsimp only;have hb16:=hb15.trans (hb6.mono hb15.size);obtain⟨A6,c6,rfl,hc6,hr6⟩:=Rd.of_own' ho6;have hl6:(ld::wt).length=wt.length+1:=rfl;obtain⟨l6,hl6e⟩:∃l6,l6=ld::wt:=⟨_,rfl⟩
    rw [←hl6e]at hr6 hl6;have HCR6:=sqH (show CrewOk l6 from by rw [hl6e];exact HCR.out);have hcm6:c6≤maxLen:=by
     rcases ho6.2 with ⟨h1,h2⟩ | ⟨_,cap,_,h1,_,_,_,h2,_⟩
     ·omega
     ·injection h1 with _ _ h3;subst h3;exact h2
    have hc63:(c6:Int)≤9223372036854775807:=by unfold maxLen at hcm6;omega
    obtain⟨m6,hm6⟩:∃m6,m6=wt.length+1:=⟨_,rfl⟩
    rw [←hm6]at hl6 hr6 hc6 ⊢
    have hm66:m6≤6:=by omega
    clear ho6 hl6e hP5 hrw5 f0 f1 f2 hm6;go_wp2_with fail;go_loopg [9,10,46] m6 (fun gn a b i wr=>∃q:Nat,gn=m6 - q∧i= .int .i64 q∧q≤m6∧Below w6.heap.size w6 wr)
    case atStart=>exact⟨0,rfl,rfl,by omega,Below.refl _ _⟩
    case round =>
     obtain⟨q,hgq,rfl,hq,hbq⟩:=hrel;have HGQ:=sqH hgq;clear hgq;have hb1q:=hb16.trans (hbq.mono hb16.size);by_cases hqt:q<m6
     ·have hqq:decide (q<m6)=true:=decide_eq_true hqt;have hql:q<l6.length:=by omega
      obtain⟨b6,off6,rfl,hbb6,hcell⟩:=(hr6.below hbq).2 (by omega);have cx:=hcell q (.int .i64 l6[q]) (by rw [ins,List.getElem?_map,List.getElem?_eq_getElem hql];rfl);obtain⟨hw1,hw2⟩:=HCR6.out q hql;have hrt:=(hr6.below hbq).pre (k:=q) (by omega);rw [Nat.mul_one,show(ins l6).take q=ins (l6.take q) by simp [ins]]at hrt;have htq:(l6.take q).length=q:=by rw [List.length_take];omega
      have hwho:=KZ l6[q] wr;rw [show decide (1≤l6[q]∧l6[q]≤1000)=true by simpa using hw1]at hwho;have hcon:=xL (some ⟨b6,off6,none⟩) c6 (l6.take q) l6[q] wr (by omega) (by rw [htq];exact hrt);rw [hw2,htq]at hcon;generalize l6[q]=z at *
      have HWH:=sqH hwho;have HCO:=sqH hcon;have hq0:(0:Int)≤(q:Int):=by omega
      have hq1:(q:Int)<(m6:Int):=by omega
      have hqc:(q:Int)≤(c6:Int):=by omega
      clear hcell hw1 hw2 hrt htq hwho hcon;go_wp2_with fail;refine HWH.out.mono ?_;rintro e_ _ ⟨rfl,rfl⟩;dsimp only;go_wp2_with fail;refine HCO.out.mono ?_;rintro e_ _ ⟨rfl,rfl⟩;dsimp only;go_wp2_with fail;go_roundg (m6 - (q+1))
      case measure=>have:=HGQ.out;omega
      case rel=>exact⟨q+1,rfl,by go_num,by omega,hbq⟩
     ·obtain rfl:q=m6:=by omega
      have hqq:decide (q<q)=false:=by simp
      go_wp2_with fail;go_roundg (fs.length - (j+1))
      case measure=>have:=HGK.out;omega
      case rel=>exact⟨j+1,rfl,by go_num,by omega,hb1q⟩
   exact AllReadyH.nil
  ·obtain rfl:j=fs.length:=by omega
   have hcc:decide (fs.length<fs.length)=false:=by simp
   go_wp2_with fail;go_ret;exact⟨rfl,hbl⟩
end Go.Proofs.YtdbbehfbkiiloaaGreatDoor
