/- Lemmas, as stated. -/
import Derived.Test.YtcjndgldjhmbgaaGreatQF02
set_option linter.unusedVariables false
set_option linter.unusedSimpArgs false
set_option maxRecDepth 100000
set_option maxHeartbeats 8000000
open Go.Proofs.Tryz
open Go.Proofs.Tryz renaming prog->zZZ
open Go.Value renaming slice->aw,int->ax,string->az
open Go.IntKind renaming i64->ay
open Go.Obj renaming cells->aA
open Option renaming none->aB,some->aC
namespace Go.Proofs.YtcjndgldjhmbgaaGreat
open Go.RowKit
variable {c e g n size:Nat} {v:Value} {w w':World} {b l l':ac} {A A':ae} {xs:af}
structure Rdr (W:World) (g:Nat) (A:ae) (c:Nat) (l:ac) (e:Nat):Prop where
 arr:Arr W g 186 [aw A l.length c,ax ay e]
 rd:Rd W 1 A l.length (bys l)
 cap:l.length<=c
 ne:∀b off,A=aC ⟨b,off,aB⟩->0<l.length->b≠g
 small:l.length<=2000
 cm:c<=maxLen
section
variable {W W':World} {g c e:Nat} {A:ae} {l:ac}
theorem q6 (h:Below w.heap.size w w') (row:Option Nat):w.grownBy w' row:=⟨h.os,h.tape,h.output,h.size,fun k hk _=>h.block k hk⟩
theorem Rd.far {A:ae} (h:Rd w size A n xs) (hg:w.grownBy w' (aC g)) (hne:∀b off,A=aC ⟨b,off,aB⟩->0<n->b≠g):Rd w' size A n xs :=
 ⟨h.1,fun hn=>by
  obtain⟨b,off,e,hb,hc⟩:=h.2 hn
  have h1:=hne b off e hn
  exact⟨b,off,e,Nat.lt_of_lt_of_le hb hg.size,fun j u hu=>(World.cell?_of_block (hg.block b hb (by intro e';cases e';exact h1 rfl))).trans (hc j u hu)⟩⟩
theorem Rdr.below (h:Rdr W g A c l e) (hb:Below W.heap.size W W'):Rdr W' g A c l e:=⟨h.arr.below hb,h.rd.below hb,h.cap,h.ne,h.small,h.cm⟩
theorem Rdr.lt (h:Rdr W g A c l e):g<W.heap.size:=h.arr.lt
theorem Rdr.put (h:Rdr W g A c l e) {c':Nat} {W1:World} (hb:Below W.heap.size W W1) (ho:OwnB 5 W.heap.size W1 A' c' l') (hl:l'.length<=2000) (e':Nat) :
  Rdr ((W1.setCell ⟨g,0,aB⟩ (aw A' l'.length c')).setCell ⟨g,1,aB⟩ (ax ay e')) g A' c' l' e'/\W.grownBy ((W1.setCell ⟨g,0,aB⟩ (aw A' l'.length c')).setCell ⟨g,1,aB⟩ (ax ay e')) (aC g):=by
 have ha:=((h.arr.below hb).set (k:=0) ws (aw A' l'.length c')).set (k:=1) ws (ax ay e');have hg:=((q6 hb (aC g)).trans (zT W1 g 0 (aw A' l'.length c'))).trans (zT _ g 1 (ax ay e'));have hne:∀b off,A'=aC ⟨b,off,aB⟩->0<l'.length->b≠g:=fun b off e _=>by
  have:=(ho.own.lt b (by rw [e];rfl)).1;have:=h.lt;omega
 refine⟨⟨ha,?_,ho.cap,hne,hl,?_⟩,hg⟩
 ·exact ho.rd.far ((zT W1 g 0 (aw A' l'.length c')).trans (zT _ g 1 (ax ay e'))) hne
 ·rcases ho.own.2 with ⟨h1,_⟩ | ⟨_,cap,_,h1,_,_,_,h2,_⟩
  ·injection h1 with _ _ h3;subst h3;exact Nat.zero_le _
  ·injection h1 with _ _ h3;subst h3;exact h2
end
def jF (A A':ae) (sz:Nat) (l':ac):Prop:=∀b off,A'=aC ⟨b,off,aB⟩->0<l'.length->(∃off',A=aC ⟨b,off',aB⟩)\/sz<=b
theorem Kv:∀(l:ac) (i n:Nat),(vu i n l).2.2≠0->(vu i n l).1=0
 | [],i,n,_=>rfl
 | x::r,i,n,h=>by
  simp only [vu]at h ⊢
  split at h
  ·rename_i h1
   rw [if_pos h1]
   split at h
   ·rename_i h2;rw [if_pos h2]
   ·exact absurd rfl h
  ·rename_i h1
   rw [if_neg h1]
   split at h
   ·rename_i h2;rw [if_pos h2]
   ·rename_i h2;rw [if_neg h2];exact Kv r _ _ h
theorem kX:∀(l:ac) (i n:Nat),(vu i n l).2.1.length<=l.length
 | [],i,n=>Nat.le_refl _
 | x::r,i,n=>by
  simp only [vu]
  split
  ·split
   ·exact Nat.zero_le _
   ·simp only [List.length_cons];omega
  ·split
   ·exact Nat.zero_le _
   ·have:=kX r (i+1) (n+x.toNat % 128*128 ^ i);simp only [List.length_cons];omega
theorem xX:∀(l:ac) (i n:Nat),(vu i n l).1<=4294967295
 | [],i,n=>by simp [vu]
 | x::r,i,n=>by
  simp only [vu]
  split
  ·split
   ·exact Nat.zero_le _
   ·dsimp only;omega
  ·split
   ·exact Nat.zero_le _
   ·exact xX r _ _
theorem jd (l:ac):(uP l).2.1.length<=l.length:=by
 have h:=kX l 0 0;unfold uP zB;generalize vu 0 0 l=x at *
 obtain⟨n,r,e⟩:=x;dsimp only at h ⊢
 split
 ·exact Nat.zero_le _
 ·split
  ·exact Nat.zero_le _
  ·split
   ·exact Nat.zero_le _
   ·simp only [List.length_drop];omega
def ZS (l:ac) (e:Nat):Nat×ac×Nat:=if e≠0 then (0,l,e) else zB l
def Q9 (l:ac) (e:Nat):ac×ac×Nat:=if e≠0 then ([],l,e) else uP l
def uQ (n:Nat) (l:ac) (e:Nat):ac×ac×Nat:=if e≠0 then ([],l,e) else if l.length<n then ([],l,8) else (l.take n,l.drop n,0)
theorem ZT (h:Rdr w g A c l e) :
  Calls zZZ 119 #[.pointer (aC ⟨g,0,aB⟩)] w fun x w'=>∃A' c',x= .returned (ax ay ((ZS l e).1:Nat))/\Rdr w' g A' c' (ZS l e).2.1 (ZS l e).2.2/\w.grownBy w' (aC g)/\jF A A' w.heap.size (ZS l e).2.1:=by
 obtain⟨f0,f1⟩:=sqC2 h.arr;by_cases e0:e=0
 ·have hfin:ZS l e=zB l:=by rw [ZS,if_neg (by simpa using e0)]
  rw [hfin];obtain⟨m,r,er,hrd⟩:∃m r er,zB l=(m,r,er):=⟨_,_,_,rfl⟩
  have hrl:=kX l 0 0;have HR:=sqH (fun w' hr=>ye (A:=A) (n:=l.length) (c:=c) (w:=w') (er:Int) rfl hrd rfl h.cap (by have:=h.small;omega) hr);rw [show vu 0 0 l=(m,r,er) from hrd]at hrl;rw [hrd];have hsm:=h.small;dsimp only at hrl ⊢
  have e1:((e:Int) != 0)=false:=by rw [bne_eq_false_iff_eq];omega
  clear e0 hfin hrd;go_enter func119,ntmps119;go_wp2_with fail;refine(HR.o w h.rd).mono ?_;rintro e_ w1 ⟨A1,c1,rfl,ho1,hb1⟩;dsimp only;have hA1:=h.arr.below hb1;obtain⟨k0,k1⟩:=sqC2 hA1;obtain⟨z0,z1⟩:=sqF2 hA1;have hA2:=hA1.set (k:=0) ws (aw A1 r.length c1);have k2:=hA2.c1;have z2:=hA2.frozen 1;have hp:=h.put hb1 ho1 wj er;clear f0 f1;go_wp2_with fail;go_ret;exact⟨A1,c1,rfl,hp.1,hp.2,fun b off e _=> .inr (ho1.own.lt b (by rw [e];rfl)).1⟩
 ·have hfin:ZS l e=(0,l,e):=by rw [ZS,if_pos e0]
  rw [hfin];have e1:((e:Int) != 0)=true:=by rw [bne_iff_ne];omega
  clear e0 hfin;go_enter func119,ntmps119;go_wp2_with fail;go_ret;exact⟨A,c,rfl,h,World.grownBy.refl _ _,fun b off e _=> .inl ⟨off,e⟩⟩
theorem z20 (h:Rdr w g A c l e) :
  Calls zZZ 120 #[.pointer (aC ⟨g,0,aB⟩)] w fun x w'=>∃A' c',x= .returned (az ⟨(Q9 l e).1.toArray⟩)/\Rdr w' g A' c' (Q9 l e).2.1 (Q9 l e).2.2/\w.grownBy w' (aC g)/\jF A A' w.heap.size (Q9 l e).2.1:=by
 obtain⟨f0,f1⟩:=sqC2 h.arr;by_cases e0:e=0
 ·have hfin:Q9 l e=uP l:=by rw [Q9,if_neg (by simpa using e0)]
  rw [hfin];obtain⟨m,r,er,hrd⟩:∃m r er,uP l=(m,r,er):=⟨_,_,_,rfl⟩
  have hrl:=jd l;have HR:=sqH (fun w' hr=>Qq (A:=A) (n:=l.length) (c:=c) (w:=w') (er:Int) rfl hrd rfl h.cap (by have:=h.small;omega) hr);rw [hrd]at hrl;rw [hrd];have hsm:=h.small;dsimp only at hrl ⊢
  have e1:((e:Int) != 0)=false:=by rw [bne_eq_false_iff_eq];omega
  clear e0 hfin hrd;go_enter func120,ntmps120;go_wp2_with fail;refine(HR.o w h.rd).mono ?_;rintro e_ w1 ⟨A1,c1,rfl,ho1,hb1⟩;dsimp only;have hA1:=h.arr.below hb1;obtain⟨k0,k1⟩:=sqC2 hA1;obtain⟨z0,z1⟩:=sqF2 hA1;have hA2:=hA1.set (k:=0) ws (aw A1 r.length c1);have k2:=hA2.c1;have z2:=hA2.frozen 1;have hp:=h.put hb1 ho1 wj er;clear f0 f1;go_wp2_with fail;go_ret;exact⟨A1,c1,rfl,hp.1,hp.2,fun b off e _=> .inr (ho1.own.lt b (by rw [e];rfl)).1⟩
 ·have hfin:Q9 l e=([],l,e):=by rw [Q9,if_pos e0]
  rw [hfin];have e1:((e:Int) != 0)=true:=by rw [bne_iff_ne];omega
  clear e0 hfin;go_enter func120,ntmps120;go_wp2_with fail;go_ret;exact⟨A,c,rfl,h,World.grownBy.refl _ _,fun b off e _=> .inl ⟨off,e⟩⟩
theorem z1z (n:Nat) (N:Int) (hN:(n:Int)=N) (hn:n<=2000) (h:Rdr w g A c l e) :
  Calls zZZ 121 #[.pointer (aC ⟨g,0,aB⟩),ax ay N] w fun x w'=>∃A1 c1 A' c',x= .returned (aw A1 (uQ n l e).1.length c1)/\(uQ n l e).1.length<=c1/\Rd w' 1 A1 (uQ n l e).1.length (bys (uQ n l e).1)/\Rdr w' g A' c' (uQ n l e).2.1 (uQ n l e).2.2/\w.grownBy w' (aC g)/\jF A A' w.heap.size (uQ n l e).2.1:=by
 subst hN;obtain⟨f0,f1⟩:=sqC2 h.arr;obtain⟨z0,z1⟩:=sqF2 h.arr;by_cases e0:e=0
 ·have e1:((e:Int)==0)=true:=by rw [beq_iff_eq];omega
  have e2:((e:Int) != 0)=false:=by rw [bne_eq_false_iff_eq];omega
  by_cases hlt:l.length<n
  ·have hfin:uQ n l e=([],l,8):=by rw [uQ,if_neg (by simpa using e0),if_pos hlt]
   rw [hfin];have e3:decide (l.length<n)=true:=by simpa using hlt
   have hA2:=h.arr.set (k:=1) ws (ax ay 8);obtain⟨k0,k1⟩:=sqC2 hA2;have hR:Rdr (w.setCell ⟨g,1,aB⟩ (ax ay 8)) g A c l 8:=⟨hA2,h.rd.far (zT w g 1 _) h.ne,h.cap,h.ne,h.small,h.cm⟩
   have hG:=zT w g 1 (ax ay 8);have HR:=sqH hR;clear hfin e0 hlt hR;go_enter func121,ntmps121;go_wp2_with fail;go_ret;exact⟨aB,0,A,c,rfl,Nat.zero_le _,Rd.nil_,HR.o,hG,fun b off e _=> .inl ⟨off,e⟩⟩
  ·have hfin:uQ n l e=(l.take n,l.drop n,0):=by rw [uQ,if_neg (by simpa using e0),if_neg hlt]
   rw [hfin];have e3:decide (l.length<n)=false:=by simpa using hlt
   have hle:(n:Int)<=(c:Int):=by have:=h.cap;omega
   have hle2:(n:Int)<=(l.length:Int):=wj;have hcm:(c:Int)<=9223372036854775807:=by have:=h.cm;unfold maxLen at this;omega
   have hll:(l.drop n).length=l.length - n:=List.length_drop;have htl:(l.take n).length=n:=by rw [List.length_take];omega
   have r1:=h.rd.pre (k:=n) wj;rw [Nat.mul_one,K5]at r1;have k0n:n<=l.length:=wj;have hcap:=h.cap;have hng:=h.ne;have r2:=h.rd.cut (k:=n) (cap:=c) k0n hcap;rw [Nat.mul_one,xl]at r2;obtain⟨A',hA'⟩:=wU ((if c=n then A else A.map (·.add n)))
   rw [<-hA']at r2;have hA2:=h.arr.set (k:=0) ws (aw A' (l.length - n) (c - n));have hG:=zT w g 0 (aw A' (l.length - n) (c - n));have hmv:∀b off,A'=aC ⟨b,off,aB⟩->0<l.length - n->∃off',A=aC ⟨b,off',aB⟩:=fun b off e' h0=>by
    obtain⟨b2,o2,e2,_⟩:=h.rd.2 (show 0<l.length by omega);rw [e2]at hA';have:b=b2:=by
     rw [hA']at e';split at e'
     ·cases e';rfl
     ·simp only [Option.map_some,Option.some.injEq]at e';have:=congrArg Addr.block e';rw [UC]at this;exact this.symm
    rw [this];exact⟨o2,e2⟩
   have hne':∀b off,A'=aC ⟨b,off,aB⟩->0<l.length - n->b≠g:=fun b off e' h0=>by
    obtain⟨o2,e2⟩:=hmv b off e' h0;exact hng b o2 e2 wj
   have HM:=sqH (show jF A A' w.heap.size (l.drop n) from fun b off e' h0=> .inl (hmv b off e' (by rw [hll]at h0;exact h0)));have hR:Rdr (w.setCell ⟨g,0,aB⟩ (aw A' (l.length - n) (c - n))) g A' (c - n) (l.drop n) 0:=by
    refine⟨?_,?_,by rw [hll];omega,by rw [hll];exact hne',by rw [hll];have:=h.small;omega,by have:=h.cm;omega⟩
    ·rw [hll];have he0:(e:Int)=((0:Nat):Int):=wj
     rw [he0]at hA2;exact hA2
    ·rw [hll];exact r2.far hG hne'
   have r1':=r1.far hG (fun b off e' h0=>hng b off e' wj);have HR:=sqH hR;have HA:=sqH hA';rw [htl];have hlt':¬n<=c->False:=fun h=>h wj;have hnc:n<=c:=wj;clear hfin e0 hlt hR hA' hne' r2 r1 hll htl hA2;go_enter func121,ntmps121
   refine wH ?_;intros;rw [<-HA.o];go_ret;exact⟨A,c,A',c - n,rfl,hnc,r1',HR.o,hG,HM.o⟩
 ·have hfin:uQ n l e=([],l,e):=by rw [uQ,if_pos e0]
  rw [hfin];have e1:((e:Int)==0)=false:=by rw [beq_eq_false_iff_ne];omega
  have e2:((e:Int) != 0)=true:=by rw [bne_iff_ne];omega
  clear e0 hfin;go_enter func121,ntmps121;go_wp2_with fail;go_ret;exact⟨aB,0,A,c,rfl,Nat.zero_le _,Rd.nil_,h,World.grownBy.refl _ _,fun b off e _=> .inl ⟨off,e⟩⟩
theorem Vp {t rest:ac} (h:uP b=(t,rest,0)):t.length<=2000/\b=txt t++rest:=by
 obtain⟨n,r,e,hn⟩:∃n r e,zB b=(n,r,e):=⟨_,_,_,rfl⟩
 rw [uP,hn]at h;dsimp only at h;by_cases he:e≠0
 ·rw [if_pos he]at h;simp only [Prod.mk.injEq]at h;exact absurd h.2.2 he
 ·rw [if_neg he]at h;have he:e=0:=by simpa using he
  by_cases h1:2000<n
  ·rw [if_pos h1]at h;simp at h
  ·rw [if_neg h1]at h;by_cases h2:r.length<n
   ·rw [if_pos h2]at h;simp at h
   ·rw [if_neg h2]at h;simp only [Prod.mk.injEq,and_true]at h;obtain⟨h3,h4⟩:=h;subst he;have hb:=(xx hn).2;have hl:t.length=n:=by rw [<-h3,List.length_take];omega
    refine⟨wj,?_⟩;rw [txt,hl,List.append_assoc,hb,<-h3,<-h4,List.take_append_drop]
def vw (l:ac):PartP×ac×Nat :=
 let a:=Q9 l 0
 let b:=uQ 32 a.2.1 a.2.2
 let c:=ZS b.2.1 b.2.2
 (⟨a.1,yb b.1,c.1⟩,c.2.1,c.2.2)
def zW:Nat->List PartP->List UInt8->Nat×List PartP×ac
 | 0,out,l=>(0,out,l)
 | k+1,out,l=>if (vw l).2.2≠0 then ((vw l).2.2, [], []) else zW k (out++ [(vw l).1]) (vw l).2.1
def kw (b:ac):List PartP×Nat :=
 if 2000<b.length then ([],1) else if [65,77,49].isPrefixOf b=false then ([],3) else
 if (zB (b.drop 3)).2.2≠0 then ([],(zB (b.drop 3)).2.2) else if 8<(zB (b.drop 3)).1 then ([],1) else
 if (zW (zB (b.drop 3)).1 [] (zB (b.drop 3)).2.1).1≠0 then ([],(zW (zB (b.drop 3)).1 [] (zB (b.drop 3)).2.1).1) else
 if 0<(zW (zB (b.drop 3)).1 [] (zB (b.drop 3)).2.1).2.2.length then ([],3) else
 if chk (zW (zB (b.drop 3)).1 [] (zB (b.drop 3)).2.1).2.1≠0 then ([],chk (zW (zB (b.drop 3)).1 [] (zB (b.drop 3)).2.1).2.1) else
 ((zW (zB (b.drop 3)).1 [] (zB (b.drop 3)).2.1).2.1,0)
theorem JX (A:ae) (n c g:Nat) (l:ac) (w:World) (hl:l.length=n) (hc:n<=c) (hr:Rd w 1 A n (bys l)) (h2:Rd w 1 (aC ⟨g,0,aB⟩) 3 (bys [65,77,49])) :
  Calls zZZ 118 #[aw A n c,aw (aC ⟨g,0,aB⟩) 3 3] w fun e w'=>(∃A' c',e= .returned (.tuple #[aw A' (if [65,77,49].isPrefixOf l then (l.drop 3).length else n) c',.bool ([65,77,49].isPrefixOf l)]) /\
   ([65,77,49].isPrefixOf l=true->Rd w 1 A' (l.drop 3).length (bys (l.drop 3))/\(l.drop 3).length<=c'/\c'<=c/\jF A A' w.heap.size (l.drop 3)))/\w=w':=by
 rcases Nat.eq_zero_or_pos n with h0 | h0
 ·subst h0;obtain rfl:l= []:=List.eq_nil_of_length_eq_zero hl;refine(Tryz.bytes_CutPrefix_e1 A (aC ⟨g,0,aB⟩) c 3 3 wj w).mono fun e w' h=>⟨⟨A,c,?_,fun h=>by simp at h⟩,h.2.symm⟩
  rw [h.1];rfl
 ·obtain⟨b,off,rfl,hb,hcell⟩:=hr.2 h0;obtain⟨b2,o2,e2,hb2,hcell2⟩:=h2.2 wj;cases e2
  refine(Tryz.bytes_CutPrefix b off n c g 0 3 3 (l.map fun x=>(x.toNat:Int)) [65,77,49] w (by simpa using hl) rfl hc (fun i hi=> ?_) (fun i hi=> ?_)).mono fun e w' h=>⟨?_,h.2.symm⟩
  ·refine hcell i _ ?_;have:i<l.length:=by omega
   simp [bys,this]
  ·refine hcell2 i _ ?_
   match i,hi with
   | 0,_=>rfl
   | 1,_=>rfl
   | 2,_=>rfl
  ·have hbo:Lib.bytesOf (l.map fun x=>(x.toNat:Int))=l:=by
    simp only [Lib.bytesOf,List.map_map]
    conv=>rhs;rw [<-List.map_id l]
    exact List.map_congr_left fun a _=>by simp
   have hb3:Lib.bytesOf [65,77,49]= [65,77,49]:=rfl;obtain⟨h1,_⟩:=h;rw [Lib.bytesTrimPrefix,hbo,hb3,Lib.hasPrefix]at h1;by_cases hp: [65,77,49].isPrefixOf l=true
   ·rw [hp,if_pos rfl,Lib.sliceFrom]at h1;have h3:3<=l.length:=by
     have:=List.IsPrefix.length_le (List.isPrefixOf_iff_prefix.1 hp);simpa using this
    have hr':=hr.cutAt (k:=3) (c:=c) wj hc;rw [xl]at hr';have hdl:(l.drop 3).length=n - 3:=by rw [List.length_drop,hl]
    refine⟨_,c - 3,?_,fun _=>⟨by rw [hdl];exact hr',wj,wj,?_⟩⟩
    ·rw [h1,hp,if_pos rfl,hdl];rfl
    ·intro b' o' e' _;split at e'
     ·cases e';exact .inl ⟨_,rfl⟩
     ·cases e';exact .inl ⟨_,rfl⟩
   ·have hp: [65,77,49].isPrefixOf l=false:=Bool.eq_false_iff.2 hp;rw [hp,if_neg wo]at h1;refine⟨aC ⟨b,off,aB⟩,c,?_,fun h=>by rw [hp]at h;cases h⟩;rw [h1,hp];rfl
theorem VM (l:ac) (e:Nat):(Q9 l e).2.1.length<=l.length:=by
 unfold Q9;split
 ·exact Nat.le_refl _
 ·exact jd l
theorem VI (n:Nat) (l:ac) (e:Nat):(uQ n l e).2.1.length<=l.length/\(uQ n l e).1.length<=l.length:=by
 unfold uQ;split
 ·exact⟨Nat.le_refl _,Nat.zero_le _⟩
 ·split
  ·exact⟨Nat.le_refl _,Nat.zero_le _⟩
  ·simp only [List.length_drop,List.length_take];omega
theorem Vc (l:ac) (e:Nat):(ZS l e).2.1.length<=l.length/\(ZS l e).1<=4294967295:=by
 unfold ZS;split
 ·exact⟨Nat.le_refl _,Nat.zero_le _⟩
 ·exact⟨kX l 0 0,xX l 0 0⟩
theorem VL (l:ac) (e:Nat):(Q9 l e).1.length<=l.length:=by
 unfold Q9;split
 ·exact Nat.zero_le _
 ·have h:=kX l 0 0;unfold uP zB;generalize vu 0 0 l=x at *
  obtain⟨n,r,e⟩:=x;dsimp only at h ⊢
  split
  ·exact Nat.zero_le _
  ·split
   ·exact Nat.zero_le _
   ·split
    ·exact Nat.zero_le _
    ·simp only [List.length_take];omega
def Far (v:Value) (A:ae) (l:ac):Prop:=∀b off,A=aC ⟨b,off,aB⟩->0<l.length->v.ownBlock≠aC b
theorem Far.moved {sz:Nat} (h:Far v A l) (hm:jF A A' sz l') (hl:l'.length<=l.length) (hv:∀k,v.ownBlock=aC k->k<sz):Far v A' l':=fun b off e h0=>by
 rcases hm b off e h0 with ⟨o,ho⟩ | hb
 ·exact h b o ho wj
 ·intro hk;have:=hv b hk;omega
theorem QF {e:TypeId} (h:w.ownsRow (g+1) e size v n xs) (hg:w.grownBy w' (aC g)):w'.ownsRow (g+1) e size v n xs :=
 h.kept hg (.inr fun he=>by have:=(h.lt g he).1;omega)
theorem Rdr.grown {W W':World} (h:Rdr W g A c l e) (hg:W.grownBy W' v.ownBlock) (hv:v.ownBlock≠aC g) (hf:Far v A l):Rdr W' g A c l e:=by
 refine⟨?_,⟨h.rd.1,fun hn=> ?_⟩,h.cap,h.ne,h.small,h.cm⟩
 ·exact(hg.block g h.lt (fun e=>hv e.symm)).trans h.arr
 ·obtain⟨b,off,e,hb,hc⟩:=h.rd.2 hn;have h1:=hf b off e hn;exact⟨b,off,e,Nat.lt_of_lt_of_le hb hg.size,fun j u hu=>(World.cell?_of_block (hg.block b hb (fun e=>h1 e.symm))).trans (hc j u hu)⟩
theorem yz {B:Nat} {a:World} (h:Below B a w) (hg:w.grownBy w' (aC g)) (hB:B<=g) (hs:B<=w.heap.size):Below B a w':=h.grown hg hs (fun k hk=>by cases hk;exact hB)
theorem YM (A:ae) (n c:Nat) (l:ac) (w:World) (hl:l.length=n) (hc:n<=c) (hm:c<=maxLen) (hr:Rd w 1 A n (bys l)) :
  Calls zZZ 73 #[aw A n c] w fun e w'=>∃v,e= .returned (.tuple #[v,ax ay ((kw l).2:Nat)])/\w'.ownsRow w.heap.size 51 3 v (kw l).1.length (pcs (kw l).1)/\Below w.heap.size w w':=by
 have HL:=sqH hl;by_cases hbig:2000<n
 ·have hfin:kw l=([],1):=by rw [kw,if_pos wj]
  have hcm:n<=9223372036854775807:=by unfold maxLen at hm;omega
  rw [hfin];clear hfin hl;go_enter func73,ntmps73;go_wp2_with fail;go_ret2;exact⟨_,rfl,World.ownsRow_nil _ _ _ _,Below.refl _ _⟩
 have hfin1:kw l=if [65,77,49].isPrefixOf l=false then ([],3) else
   if (zB (l.drop 3)).2.2≠0 then ([],(zB (l.drop 3)).2.2) else if 8<(zB (l.drop 3)).1 then ([],1) else
   if (zW (zB (l.drop 3)).1 [] (zB (l.drop 3)).2.1).1≠0 then ([],(zW (zB (l.drop 3)).1 [] (zB (l.drop 3)).2.1).1) else
   if 0<(zW (zB (l.drop 3)).1 [] (zB (l.drop 3)).2.1).2.2.length then ([],3) else
   if chk (zW (zB (l.drop 3)).1 [] (zB (l.drop 3)).2.1).2.1≠0 then ([],chk (zW (zB (l.drop 3)).1 [] (zB (l.drop 3)).2.1).2.1) else
   ((zW (zB (l.drop 3)).1 [] (zB (l.drop 3)).2.1).2.1,0):=by rw [kw,if_neg wj]
 generalize kw l=res at *
 have hb0:=wi w (aA #[ax .u8 65,ax .u8 77,ax .u8 49] 5 (3,4));have hr0:=hr.alloc (aA #[ax .u8 65,ax .u8 77,ax .u8 49] 5 (3,4));have hq0:Rd (w.alloc (aA #[ax .u8 65,ax .u8 77,ax .u8 49] 5 (3,4))) 1 (aC ⟨w.heap.size,0,aB⟩) 3 (bys [65,77,49]):=by
  refine⟨rfl,fun _=>⟨_,0,rfl,ws,fun j u hu=> ?_⟩⟩;rw [<-hu,Nat.zero_add];have h1:(w.alloc (aA #[ax .u8 65,ax .u8 77,ax .u8 49] 5 (3,4))).heap[w.heap.size]?=aC (aA #[ax .u8 65,ax .u8 77,ax .u8 49] 5 (3,4)):=World.alloc_heap_new w _;simp only [World.cell?,h1,Option.isSome_none,Bool.false_eq_true,if_false];simp [bys]
 have hkc:=fun (w:World) (C:Array Value) (n c:Nat)=>Lib.run_convert_bytes_const (P:=zZZ) w 44 5 C n c underlying44 underlying5;have HCP:=sqH (JX A n c w.heap.size l _ hl hc hr0 hq0);have HF1:=sqH hfin1;clear hfin1 hl hq0 hr0;generalize hpre: [65,77,49].isPrefixOf l=pre at HCP HF1;go_enter func73,ntmps73;go_wp2_with fail;refine HCP.o.mono ?_;rintro e_ w1 ⟨⟨A1,c1,rfl,hcut⟩,rfl⟩;dsimp only;cases pre with
 | false =>
  have hres:res=([],3):=by rw [HF1.o,if_pos rfl]
  have HR:=sqH hres;clear hres hpre;go_wp2_with fail;go_ret2;rw [HR.o];exact⟨_,rfl,World.ownsRow_nil _ _ _ _,hb0⟩
 | true =>
  obtain⟨hr1,hc1,hc1c,hm1⟩:=hcut rfl;have hdl:(l.drop 3).length<=2000:=by rw [List.length_drop,HL.o];omega
  simp only [if_true];have HF2:=sqH (show res=if (zB (l.drop 3)).2.2≠0 then ([],(zB (l.drop 3)).2.2) else if 8<(zB (l.drop 3)).1 then ([],1) else
   if (zW (zB (l.drop 3)).1 [] (zB (l.drop 3)).2.1).1≠0 then ([],(zW (zB (l.drop 3)).1 [] (zB (l.drop 3)).2.1).1) else
   if 0<(zW (zB (l.drop 3)).1 [] (zB (l.drop 3)).2.1).2.2.length then ([],3) else
   if chk (zW (zB (l.drop 3)).1 [] (zB (l.drop 3)).2.1).2.1≠0 then ([],chk (zW (zB (l.drop 3)).1 [] (zB (l.drop 3)).2.1).2.1) else
   ((zW (zB (l.drop 3)).1 [] (zB (l.drop 3)).2.1).2.1,0) from by rw [HF1.o,if_neg wo])
  have HPRE:=sqH hpre;clear HF1 HCP hcut hpre;generalize l.drop 3=L at *
  generalize w.alloc (aA #[ax .u8 65,ax .u8 77,ax .u8 49] 5 (3,4))=w1 at *
  obtain⟨g,hg⟩:=wU w1.heap.size
  obtain⟨w2,hw2⟩:=wU (w1.alloc (aA #[aw A1 L.length c1,ax ay 0] 186))
  have hR2:Rdr w2 g A1 c1 L 0:=by
   rw [hw2,hg];exact⟨Arr.new w1 _ _,hr1.alloc _,hc1,fun b off e h0=>by
    obtain⟨_,_,e2,hb2,_⟩:=hr1.2 h0;rw [e]at e2;cases e2;omega,hdl,wj⟩
  have hb2:Below w.heap.size w w2:=by rw [hw2];exact hb0.alloc hb0.size _
  have hgw:w.heap.size<=g:=by rw [hg];exact hb0.size
  have hg2:g<w2.heap.size:=hR2.lt;have HW2:=sqH hw2;have HG:=sqH hg;obtain⟨m,r,er,hrd⟩:∃m r er,zB L=(m,r,er):=⟨_,_,_,rfl⟩
  have hmz:=Kv L 0 0;have hml:=kX L 0 0;have hmb:=xX L 0 0;rw [show vu 0 0 L=(m,r,er) from hrd]at hmz hml hmb;rw [hrd]at HF2;have HN:=ZT hR2;rw [ZS,if_neg wo,hrd]at HN;dsimp only at HF2 HN hmz hml hmb;have HN':=sqH HN;clear hw2 hg hr1 hm1 hb0 hr HN hrd;go_wp2_with fail;rw [<-HG.o,<-HW2.o];refine(HN'.o).mono ?_;rintro e_ w3 ⟨A3,c3,rfl,hR3,hG3,hM3⟩;dsimp only;have hb3:=yz hb2 hG3 hgw hb2.size;have f1:=hR3.arr.c1;by_cases her:er=0
  ·subst her;have HF3:=sqH (show res=if 8<m then ([],1) else if (zW m [] r).1≠0 then ([],(zW m [] r).1) else if 0<(zW m [] r).2.2.length then ([],3) else
    if chk (zW m [] r).2.1≠0 then ([],chk (zW m [] r).2.1) else ((zW m [] r).2.1,0) from by rw [HF2.o,if_neg wo])
   clear HF2;rw [show((0:Nat):Int)=0 from rfl]at f1;by_cases h8:8<m
   ·have hres:res=([],1):=by rw [HF3.o,if_pos h8]
    have HR:=sqH hres;have e1:decide ((8:Int)<(m:Int))=true:=by simp;omega
    clear hres hmz;go_wp2_with fail;go_ret2;rw [HR.o];exact⟨_,rfl,World.ownsRow_nil _ _ _ _,hb3⟩
   ·have e1:decide ((8:Int)<(m:Int))=false:=by simp;omega
    have HF4:=sqH (show res=if (zW m [] r).1≠0 then ([],(zW m [] r).1) else if 0<(zW m [] r).2.2.length then ([],3) else
     if chk (zW m [] r).2.1≠0 then ([],chk (zW m [] r).2.1) else ((zW m [] r).2.1,0) from by rw [HF3.o,if_neg h8])
    have HM8:=sqH (show m<=8 by omega);clear HF3 h8 hmz;go_wp2_with fail;go_loopg [8,37] m (fun gn v i wr=>∃(k:Nat) (out:List PartP) (A:ae) (c:Nat) (l':ac),gn=m - k/\i= ax ay k/\k<=m/\out.length=k/\Qn out/\Rdr wr g A c l' 0/\wr.ownsRow (g+1) 51 3 v k (pcs out)/\Far v A l'/\zW m [] r=zW (m - k) out l'/\Below w.heap.size w wr)
    case atStart=>exact⟨0, [],A3,c3,r,rfl,rfl,wj,rfl,(fun p hp=>by cases hp),hR3,World.ownsRow_nil _ _ _ _,(fun b off _ _ h=>by cases h),rfl,hb3⟩
    case round =>
     clear hb3 hR3 hM3 hG3 f1;obtain⟨k,out,A,c,l',hgk,rfl,hk,hol,hpo,hR,ho,hfar,hch,hbel⟩:=hrel;obtain⟨HGK,HOL,HPO,HCH⟩:=sqJ4 hgk hol hpo hch;have hm8:=HM8.o;have hgs:=hR.lt;clear hgk hol hpo hch;by_cases hlt:k<m
     ·have hi:decide ((k:Int)<(m:Int))=true:=by simpa using hlt
      have hi':decide (k<m)=true:=by simpa using hlt
      obtain⟨t,l1,e1,h1⟩:∃t l1 e1,Q9 l' 0=(t,l1,e1):=⟨_,_,_,rfl⟩
      obtain⟨d,l2,e2,h2⟩:∃d l2 e2,uQ 32 l1 e1=(d,l2,e2):=⟨_,_,_,rfl⟩
      obtain⟨z,l3,e3,h3⟩:∃z l3 e3,ZS l2 e2=(z,l3,e3):=⟨_,_,_,rfl⟩
      have hs:vw l'=(⟨t,yb d,z⟩,l3,e3):=by unfold vw;rw [h1];dsimp only;rw [h2];dsimp only;rw [h3]
      have n1:=VM l' 0;have n1':=VL l' 0;have n2:=VI 32 l1 e1;have n3:=Vc l2 e2;rw [h1]at n1 n1';rw [h2]at n2;rw [h3]at n3;obtain⟨HT1,HT2,HT3⟩:=sqJ3 (fun (w:World) (A:ae) (c:Nat) (h:Rdr w g A c l' 0)=>(by have:=z20 h;rw [h1]at this;exact this:Calls zZZ 120 #[.pointer (aC ⟨g,0,aB⟩)] w fun x w'=>∃A' c',x= .returned (az ⟨t.toArray⟩)/\Rdr w' g A' c' l1 e1/\w.grownBy w' (aC g)/\jF A A' w.heap.size l1)) (fun (w:World) (A:ae) (c:Nat) (h:Rdr w g A c l1 e1)=>(by have:=z1z 32 32 rfl wj h;rw [h2]at this;exact this:Calls zZZ 121 #[.pointer (aC ⟨g,0,aB⟩),ax ay 32] w fun x w'=>∃A1 c1 A' c',x= .returned (aw A1 d.length c1)/\d.length<=c1/\Rd w' 1 A1 d.length (bys d)/\Rdr w' g A' c' l2 e2/\w.grownBy w' (aC g)/\jF A A' w.heap.size l2)) (fun (w:World) (A:ae) (c:Nat) (h:Rdr w g A c l2 e2)=>(by have:=ZT h;rw [h3]at this;exact this:Calls zZZ 119 #[.pointer (aC ⟨g,0,aB⟩)] w fun x w'=>∃A' c',x= .returned (ax ay (z:Nat))/\Rdr w' g A' c' l3 e3/\w.grownBy w' (aC g)/\jF A A' w.heap.size l3));have hsm:=hR.small;have hstep:zW m [] r=if e3≠0 then (e3, [], []) else zW (m - (k+1)) (out++ [⟨t,yb d,z⟩]) l3:=by
       rw [HCH.o,show m - k=(m - (k+1))+1 by omega,zW,hs]
      have HST:=sqH hstep;have hpn:(⟨t,yb d,z⟩:PartP).name.length<=140737488351232/\(⟨t,yb d,z⟩:PartP).dig.length<=140737488351232/\((⟨t,yb d,z⟩:PartP).size:Int)<=9223372036854775807:=by
       refine⟨?_,?_,?_⟩
       ·show t.length<=_;dsimp only at n1';omega
       ·show(yb d).length<=_;rw [yj];dsimp only at n2 n1;omega
       ·show(z:Int)<=_;dsimp only at n3;omega
      have HPN:=sqH hpn;dsimp only at n1 n1' n2 n3;clear hs h1 h2 h3 hstep hpn HCH;have hvl:=fun k hk=>(ho.lt k hk).2;go_wp2_with fail;refine(HT1.o _ _ _ hR).mono ?_;rintro e_ w4 ⟨A4,c4,rfl,hR4,hG4,hM4⟩;dsimp only;have hb4:=yz hbel hG4 hgw hbel.size;have ho4:=QF ho hG4;have hf4:=hfar.moved hM4 n1 hvl;go_wp2_with fail;refine(HT2.o _ _ _ hR4).mono ?_;rintro e_ w5 ⟨Ad,cd,A5,c5,rfl,hcd,hrd,hR5,hG5,hM5⟩;dsimp only;have hb5:=yz hb4 hG5 hgw hb4.size;have ho5:=QF ho4 hG5;have hf5:=hf4.moved hM5 n2.1 (fun k hk=>(ho4.lt k hk).2);go_wp2_with fail;refine wV (Xh Ad d.length cd d w5 rfl wj hcd hrd) fun w6 hb6=>?_;dsimp only;have hR6:=hR5.below hb6;have hb56:=wg hb5 hb6;have ho6:=zc ho5 hb6;go_wp2_with fail;refine(HT3.o _ _ _ hR6).mono ?_;rintro e_ w7 ⟨A7,c7,rfl,hR7,hG7,hM7⟩;dsimp only;have hb7:=yz hb56 hG7 hgw hb56.size;have ho7:=QF ho6 hG7;have hf7:=hf5.moved hM7 n3.1 (fun k hk=>Nat.lt_of_lt_of_le (ho5.lt k hk).2 hb6.size)
      refine wH ?_;intros;refine zg rfl (.tmp 39) (.tmp 48) rfl Xz wu ho7 (us:=pcs [⟨t,yb d,z⟩]) (m:=1) wu rfl (by intro u hu;exact jZ _ u hu) wj (by have:=hR7.lt;omega) ?_;intro v8 w8 ho8 hg8 hv8;have hR8:=hR7.grown hg8 (fun h=>by have:=(ho7.lt g h).1;omega) hf7;have hb8:Below w.heap.size w w8:=hb7.grown hg8 hb7.size (fun k hk=>by have:=(ho7.lt k hk).1;omega);have hf8:Far v8 A7 l3:=fun b off e h0=>by
       rcases hv8 with h | ⟨g8,h,hge⟩
       ·rw [h];exact hf7 b off e h0
       ·rw [h];obtain⟨_,_,e2,hb2,_⟩:=hR7.rd.2 h0;rw [e]at e2;cases e2
        intro h;cases h;omega
      rw [<-Vi]at ho8;have f2:=hR8.arr.c1;clear hf7 ho7 hb7 hR7 ho6 hb56 hR6 hf5 ho5 hb5 hR5 hf4 ho4 hb4 hR4 hrd hM4 hM5 hM7 hG4 hG5 hG7 hvl hfar ho hR hbel hg8 hv8;by_cases h30:e3=0
      ·subst h30;rw [show((0:Nat):Int)=0 from rfl]at f2;have HSTT:=sqH (show zW m [] r=zW (m - (k+1)) (out++ [⟨t,yb d,z⟩]) l3 from by rw [HST.o,if_neg wo]);go_wp2_with fail;go_roundg (m - (k+1))
       case measure=>exact wW HGK
       case rel =>
        refine⟨k+1,out++ [⟨t,yb d,z⟩],A7,c7,l3,rfl,by go_num,wj,by rw [List.length_append,HOL.o];rfl,?_,hR8,ho8,hf8,HSTT.o,hb8⟩;intro p hp;rcases List.mem_append.1 hp with h | h
        ·exact HPO.o p h
        ·simp only [List.mem_cons,List.not_mem_nil,or_false]at h;subst h;exact HPN.o
      ·have e9:((e3:Int) != 0)=true:=by rw [bne_iff_ne];omega
       have hres:res=([],e3):=by rw [HF4.o,HST.o,if_pos h30];exact if_pos h30
       have HR:=sqH hres;clear hres h30;go_wp2_with fail;go_quiet (fail);have f3:(w8.drewN nq).cell? ⟨g,1,aB⟩=aC (ax ay e3):=f2;go_wp2_with fail;go_ret2;rw [HR.o];exact⟨_,rfl,World.ownsRow_nil _ _ _ _,zN hb8 _⟩
     ·obtain rfl:k=m:=by omega
      have hi:decide ((k:Int)<(k:Int))=false:=ws;have hd:zW k [] r=(0,out,l'):=by rw [HCH.o,Nat.sub_self,zW]
      have HF5:=sqH (show res=if 0<l'.length then ([],3) else if chk out≠0 then ([],chk out) else (out,0) from by rw [HF4.o,hd,if_neg ws]);have f1:=hR.arr.c1;have f0:=hR.arr.c0;rw [show((0:Nat):Int)=0 from rfl]at f1;have hgb:w.heap.size<=g+1:=wj;clear hd HF4 HCH hfar;by_cases hr0:0<l'.length
      ·have hres:res=([],3):=by rw [HF5.o,if_pos hr0]
       have HR:=sqH hres;have e5:decide ((0:Int)<(l'.length:Int))=true:=decide_eq_true wj;have e5':decide (0<l'.length)=true:=decide_eq_true hr0;clear hres;go_wp2_with fail;go_ret2;rw [HR.o];exact⟨_,rfl,World.ownsRow_nil _ _ _ _,hbel⟩
      ·have HF6:=sqH (show res=if chk out≠0 then ([],chk out) else (out,0) from by rw [HF5.o,if_neg hr0]);have e5:decide ((0:Int)<(l'.length:Int))=false:=decide_eq_false wj;have e5':decide (0<l'.length)=false:=decide_eq_false hr0;obtain⟨Ao,co,rfl,hco,hro⟩:=Rd.of_own' ho;have HCK:=sqH (xg Ao k co out wr HOL.o hco wj HPO.o hro);clear HF5;go_wp2_with fail;refine wV HCK.o fun w9 hb9=>?_;dsimp only;have hbf:=wg hbel hb9;have hof:=zb (zc ho hb9) hgb;by_cases hck:chk out=0
       ·have hres:res=(out,0):=by rw [HF6.o,if_neg (by simpa using hck)]
        have HR:=sqH hres;have e6:((chk out:Int) != 0)=false:=by rw [bne_eq_false_iff_eq];omega
        clear hres hck;generalize chk out=ck at *
        go_wp2_with fail;go_ret2;rw [HR.o];refine⟨_,rfl,?_,hbf⟩;dsimp only;rw [HOL.o];exact hof
       ·have hres:res=([],chk out):=by rw [HF6.o,if_pos hck]
        have HR:=sqH hres;have e6:((chk out:Int) != 0)=true:=by rw [bne_iff_ne];omega
        clear hres hck;generalize chk out=ck at *
        go_wp2_with fail;go_ret2;rw [HR.o];exact⟨_,rfl,World.ownsRow_nil _ _ _ _,hbf⟩
  ·have hm0:m=0:=hmz her;subst hm0;have hres:res=([],er):=by rw [HF2.o,if_pos her]
   have HR:=sqH hres;have e1:((er:Int)==0)=false:=by rw [beq_eq_false_iff_ne];omega
   have e2:((er:Int) != 0)=true:=by rw [bne_iff_ne];omega
   clear hres her hmz;rw [show((0:Nat):Int)=0 from rfl];go_wp2_with fail;go_loopg [8,37] 0 (fun gn v i wr=>gn=0/\i= ax ay 0/\v= aw aB 0 0/\Rdr wr g A3 c3 r er/\Below w.heap.size w wr)
   case atStart=>exact⟨rfl,rfl,rfl,hR3,hb3⟩
   case round =>
    obtain⟨_,rfl,rfl,hR4,hb4⟩:=hrel;have f2:=hR4.arr.c1;go_wp2_with fail;go_quiet (fail);go_wp2_with fail;go_ret2;rw [HR.o];exact⟨_,rfl,World.ownsRow_nil _ _ _ _,zN hb4 _⟩
theorem z1f (l:ac) (h:l.length<=2000):xJ (yb l)=(l,0):=by
 have:=yj l;rw [xJ,if_neg wj,if_neg wj,va]
def z50 (p:PartP):Prop:=k6 p.name=0/\hexC p.dig=0/\p.size<=300
theorem z15 (x:List PartP):enc x= [65,77,49]++(num x.length++x.flatMap xM):=by rw [enc,List.append_assoc]
theorem VF {p:PartP} (h:vw l=(p,l',0)):l=xM p++l':=by
 obtain⟨t,l1,e1,h1⟩:∃t l1 e1,Q9 l 0=(t,l1,e1):=⟨_,_,_,rfl⟩
 obtain⟨d,l2,e2,h2⟩:∃d l2 e2,uQ 32 l1 e1=(d,l2,e2):=⟨_,_,_,rfl⟩
 obtain⟨z,l3,e3,h3⟩:∃z l3 e3,ZS l2 e2=(z,l3,e3):=⟨_,_,_,rfl⟩
 unfold vw at h;rw [h1]at h;dsimp only at h;rw [h2]at h;dsimp only at h;rw [h3]at h;dsimp only at h;simp only [Prod.mk.injEq]at h;obtain⟨rfl,rfl,rfl⟩:=h;have he2:e2=0:=by
  by_cases h0:e2=0
  ·exact h0
  ·rw [ZS,if_pos h0]at h3;simp only [Prod.mk.injEq]at h3;exact h3.2.2
 subst he2;have he1:e1=0:=by
  by_cases h0:e1=0
  ·exact h0
  ·rw [uQ,if_pos h0]at h2;simp only [Prod.mk.injEq]at h2;exact h2.2.2
 subst he1;rw [ZS,if_neg wo]at h3;rw [uQ,if_neg wo]at h2;rw [Q9,if_neg wo]at h1;have i1:=Vp h1;have i3:=xx h3;by_cases hlt:l1.length<32
 ·rw [if_pos hlt]at h2;simp at h2
 ·rw [if_neg hlt]at h2;simp only [Prod.mk.injEq,and_true]at h2;have hdl:d.length=32:=by rw [<-h2.1,List.length_take];omega
  show l=txt t++(xJ (yb d)).1++num z++l3;rw [z1f d wj,i1.2,List.append_assoc,List.append_assoc,<-i3.2,<-h2.1,<-h2.2,List.take_append_drop]
theorem Zy:∀(n:Nat) (out x:List PartP) (l l':ac),zW n out l=(0,x,l')->∃y,x=out++y/\y.length=n/\l=y.flatMap xM++l'
 | 0,out,x,l,l',h=>by
  simp only [zW,Prod.mk.injEq,true_and]at h
  exact⟨[],by rw [List.append_nil];exact h.1.symm,rfl,by rw [h.2];rfl⟩
 | n+1,out,x,l,l',h=>by
  rw [zW]at h
  by_cases h0:(vw l).2.2=0
  ·rw [if_neg (by simpa using h0)]at h
   obtain⟨y,h1,h2,h3⟩:=Zy n _ x _ l' h
   refine⟨(vw l).1::y,by rw [h1,List.append_assoc];rfl,by rw [List.length_cons,h2],?_⟩
   rw [List.flatMap_cons,List.append_assoc,<-h3]
   exact VF (by rw [<-h0])
  ·rw [if_pos h0]at h
   simp only [Prod.mk.injEq]at h
   exact absurd h.1 h0
theorem UK {x:List PartP} (h:kw b=(x,0)):enc x=b/\chk x=0:=by
 unfold kw at h;by_cases h1:2000<b.length
 ·rw [if_pos h1]at h;simp at h
 rw [if_neg h1]at h;by_cases h2: [65,77,49].isPrefixOf b=false
 ·rw [if_pos h2]at h;simp at h
 rw [if_neg h2]at h;obtain⟨m,r,er,hrd⟩:∃m r er,zB (b.drop 3)=(m,r,er):=⟨_,_,_,rfl⟩
 rw [hrd]at h;dsimp only at h;by_cases h3:er≠0
 ·rw [if_pos h3]at h;simp only [Prod.mk.injEq]at h;exact absurd h.2 h3
 rw [if_neg h3]at h;have h3:er=0:=by simpa using h3
 subst h3;by_cases h4:8<m
 ·rw [if_pos h4]at h;simp at h
 rw [if_neg h4]at h;obtain⟨e,y,l',hg⟩:∃e y l',zW m [] r=(e,y,l'):=⟨_,_,_,rfl⟩
 rw [hg]at h;dsimp only at h;by_cases h5:e≠0
 ·rw [if_pos h5]at h;simp only [Prod.mk.injEq]at h;exact absurd h.2 h5
 rw [if_neg h5]at h;have h5:e=0:=by simpa using h5
 subst h5;by_cases h6:0<l'.length
 ·rw [if_pos h6]at h;simp at h
 rw [if_neg h6]at h;by_cases h7:chk y≠0
 ·rw [if_pos h7]at h;simp only [Prod.mk.injEq]at h;exact absurd h.2 h7
 rw [if_neg h7]at h;simp only [Prod.mk.injEq,and_true]at h;subst h;have h7:chk y=0:=by simpa using h7
 have h6:l'= []:=List.eq_nil_of_length_eq_zero wj;obtain⟨y',e1,e2,e3⟩:=Zy m [] y r l' hg;rw [List.nil_append]at e1;subst e1;have hr:=(xx hrd).2;refine⟨?_,h7⟩;rw [z15,e2,show y.flatMap xM=r by rw [e3,h6,List.append_nil],<-hr];have hp: [65,77,49].isPrefixOf b=true:=by simpa using h2
 obtain⟨s,hs⟩:=List.isPrefixOf_iff_prefix.1 hp;rw [<-hs];rfl
theorem vx (A:ae) (c:Nat) (l:List BlobP) (w:World) (hl:l.length<=100000) (hd:∀b∈l,b.data.length<=1000000) (hA:Rw BlobS w A l) :
  Calls zZZ 100 #[aw A l.length c] w fun e w'=>∃g,e= .returned (aw (aC ⟨g,0,aB⟩) l.length l.length)/\RwX BlobS 88 w' w.heap.size (aw (aC ⟨g,0,aB⟩) l.length l.length) l (fun b=>b<w.heap.size)/\Below w.heap.size w w':=by
 have HD:=sqH hd;clear hd
 let S:=BlobS
 go_enter func100,ntmps100
 refine wH ?_;intros;refine ya rfl (.const (ax ay 0)) (.tmp 7) rfl ue l.length wu wu rfl wj ?_;intro w1 g ho1 hb1;have hx1:RwX BlobS 88 w1 w.heap.size (aw (aC ⟨g,0,aB⟩) 0 l.length) [] (fun b=>b<w.heap.size):=RwX.nil_ ho1;clear ho1;go_wp2_with fail;go_loopg [3,11] l.length (fun gn v i wr=>∃j:Nat,gn=l.length - j/\i= ax ay j/\j<=l.length/\v= aw (aC ⟨g,0,aB⟩) j l.length/\RwX BlobS 88 wr w.heap.size (aw (aC ⟨g,0,aB⟩) j l.length) (l.take j) (fun b=>b<w.heap.size)/\Below w.heap.size w wr)
 case atStart=>exact⟨0,rfl,rfl,wj,rfl,hx1,hb1⟩
 case round =>
  clear hx1 hb1;obtain⟨j,hgk,rfl,hj,rfl,hx,hbl⟩:=hrel;have HGK:=sqH hgk;clear hgk;by_cases hlt:j<l.length
  ·have hcc:decide (j<l.length)=true:=decide_eq_true hlt;obtain⟨b,off,B,cb,rfl,hbb,c0,c1,c2,c3,hs⟩:=(hA.below hbl).blob_at j hlt;have hj0:=wX j
   have hj1:(j:Int)<(l.length:Int):=wj;have HTK:=sqH (show l.take (j+1)=l.take j++ [l[j]] by rw [List.take_succ_eq_append_getElem hlt]);have hjl:(l.take j).length=j:=by rw [List.length_take];omega
   have HBD:=sqH (HD.o l[j] (List.getElem_mem hlt));generalize l[j]=x at *
   obtain⟨sx,hsx⟩:=wU (⟨x.dig.toArray⟩:ByteArray)
   rw [<-hsx]at c0;have HSX:=sqH hsx;clear hsx;have hX:Arr (wr.alloc (aA #[az sx,aw B x.data.length cb,ax ay x.aM,(.bool x.mark)] 88)) wr.heap.size 88 [az sx,aw B x.data.length cb,ax ay x.aM,(.bool x.mark)]:=Arr.new wr 88 _;have hba:=wi wr (aA #[az sx,aw B x.data.length cb,ax ay x.aM,(.bool x.mark)] 88);have hs2:=hs.below hba;have hbl2:=wg hbl hba;have hgw:wr.heap.size<(wr.alloc (aA #[az sx,aw B x.data.length cb,ax ay x.aM,(.bool x.mark)] 88)).heap.size:=ws;have x1:=hX.c1;have hxw:=hx.wider (N':=fun b=>b<w.heap.size\/b=wr.heap.size) (fun b hb=>hb.elim .inl (fun e=> .inr wj));have hx2:=hxw.below hba;have hsz:w.heap.size<=wr.heap.size:=hbl.size;have hgx:g<wr.heap.size:=(hx.rwo.blk rfl).2;clear hs hba hbl hx hxw;go_wp2_with fail;generalize wr.alloc (aA #[az sx,aw B x.data.length cb,ax ay x.aM,(.bool x.mark)] 88)=w2 at *
   generalize wr.heap.size=gx at *
   clear c0 c1 c2 c3 x1;have HCL:=sqH (yc B x.data.length cb x.data w2 rfl hs2.cap (wW HBD) hs2.rd);refine HCL.o.mono ?_;rintro e_ w3 ⟨v3,rfl,ho3,hb3⟩;dsimp only;obtain⟨A3,c3,rfl,hs3,hl3⟩:=vQ ho3;have hX3:=hX.below hb3;have hx3:=hx2.below hb3;have hbl3:=wg hbl2 hb3;have hx4:=(hx3.other (zT w3 gx 1 (aw A3 x.data.length c3)) (fun b e1 e2=>by cases e1;have e3:g=gx:=Option.some.inj e2;omega) (fun b e=> .inr (by cases e;rfl))).wider (N':=fun b=>b<w.heap.size) (fun b hb=> .inl (.inl hb));have hX4:=hX3.set (k:=1) ws (aw A3 x.data.length c3);have hs4:=hs3.other (g:=gx) (k:=1) (fun a ha=>by have:=hl3 a ha;omega) (aw A3 x.data.length c3);have hbl4:=hbl3.setCell (p:=⟨gx,1,aB⟩) hsz (aw A3 x.data.length c3);have f1:=hX3.frozen 1;have x1:=hX3.c1;obtain⟨z0,z1,z2,z3⟩:=sqC4 hX4;have hge3:∀a,A3=aC a->w.heap.size<=a.block/\a.block≠g:=fun a ha=>by have:=hl3 a ha;have:=hb3.size;omega
   clear hX hX3 ho3 hs3 hx2 hx3 hs2 hb3 hbl2 hbl3 hl3;obtain⟨xs,hxo,hop⟩:=hx4.open_;rw [hjl]at hxo hop;have HOP:=sqH hop;clear hop hX4
   refine wH ?_;intros;clear x1 f1 z0 z1 z2 z3;have hz34:(w3.setCell ⟨gx,1,aB⟩ (aw A3 x.data.length c3)).heap.size=w3.heap.size:=by simp [World.setCell]
   rw [<-hz34];clear hz34;generalize w3.setCell ⟨gx,1,aB⟩ (aw A3 x.data.length c3)=w4 at *
   have hw4:w.heap.size<=w4.heap.size:=hbl4.size;refine jA rfl (.tmp 19) (.tmp 21) rfl ue wu hxo (us:= [az sx,aw A3 x.data.length c3,ax ay x.aM,(.bool x.mark)]) wu rfl (by
    intro u hu;simp only [List.mem_cons,List.not_mem_nil,or_false]at hu;rcases hu with rfl | rfl | rfl | rfl<;>rfl) wj ?_
   intro w5 ho5 hg5;have hcs:S.R w4 x [az sx,aw A3 x.data.length c3,ax ay x.aM,(.bool x.mark)]:=⟨A3,c3,by rw [HSX.o];rfl,hs4⟩
   have hx5:=HOP.o x _ w4 w5 _ (Below.refl _ _) hcs (fun b hb ⟨a,n',c',hm,e⟩=>by
    simp only [List.mem_cons,List.not_mem_nil,or_false,Value.slice.injEq,reduceCtorEq,false_or]at hm;obtain⟨q1,q2⟩:=hge3 a hm.1.symm;rcases hb with hb | hb
    ·cases hb;exact q2 e
    ·omega) ho5 hg5 (.inl rfl)
   have hbl5:=hbl4.grown hg5 hw4 (fun k hk=>by cases hk;exact(hx5.rwo.blk rfl).1);clear hxo hx4 hs4 hbl4 ho5 hg5 hcs hge3;rw [<-HTK.o]at hx5;go_wp2_with fail;go_roundg (l.length - (j+1))
   case measure=>exact wW HGK
   case rel=>exact⟨j+1,rfl,by go_num,wj,rfl,hx5,hbl5⟩
  ·obtain rfl:j=l.length:=by omega
   have hcc:decide (l.length<l.length)=false:=ws;rw [List.take_length]at hx;go_wp2_with fail;go_ret;exact⟨g,rfl,hx,hbl⟩
theorem QW (A:ae) (c:Nat) (l:List EntP) (w:World) (hl:l.length<=100000) (hd:∀x∈l,x.aL.length<=1000000) (hA:Rw EntS w A l) :
  Calls zZZ 101 #[aw A l.length c] w fun e w'=>∃g,e= .returned (aw (aC ⟨g,0,aB⟩) l.length l.length)/\RwX EntS 109 w' w.heap.size (aw (aC ⟨g,0,aB⟩) l.length l.length) l (fun b=>b<w.heap.size)/\Below w.heap.size w w':=by
 have HD:=sqH hd;clear hd
 let S:=EntS
 go_enter func101,ntmps101
 refine wH ?_;intros;refine ya rfl (.const (ax ay 0)) (.tmp 7) rfl Xy l.length wu wu rfl wj ?_;intro w1 g ho1 hb1;have hx1:RwX EntS 109 w1 w.heap.size (aw (aC ⟨g,0,aB⟩) 0 l.length) [] (fun b=>b<w.heap.size):=RwX.nil_ ho1;clear ho1;go_wp2_with fail;go_loopg [3,11] l.length (fun gn v i wr=>∃j:Nat,gn=l.length - j/\i= ax ay j/\j<=l.length/\v= aw (aC ⟨g,0,aB⟩) j l.length/\RwX EntS 109 wr w.heap.size (aw (aC ⟨g,0,aB⟩) j l.length) (l.take j) (fun b=>b<w.heap.size)/\Below w.heap.size w wr)
 case atStart=>exact⟨0,rfl,rfl,wj,rfl,hx1,hb1⟩
 case round =>
  clear hx1 hb1;obtain⟨j,hgk,rfl,hj,rfl,hx,hbl⟩:=hrel;have HGK:=sqH hgk;clear hgk;by_cases hlt:j<l.length
  ·have hcc:decide (j<l.length)=true:=decide_eq_true hlt;obtain⟨b,off,B,cb,rfl,hbb,c0,c1,c2,c3,hs⟩:=(hA.below hbl).ent_at j hlt;have hj0:=wX j
   have hj1:(j:Int)<(l.length:Int):=wj;have HTK:=sqH (show l.take (j+1)=l.take j++ [l[j]] by rw [List.take_succ_eq_append_getElem hlt]);have hjl:(l.take j).length=j:=by rw [List.length_take];omega
   have HBD:=sqH (HD.o l[j] (List.getElem_mem hlt));generalize l[j]=x at *
   obtain⟨sx,hsx⟩:=wU (⟨x.key.toArray⟩:ByteArray)
   rw [<-hsx]at c0;have HSX:=sqH hsx;clear hsx;have hX:Arr (wr.alloc (aA #[az sx,aw B x.aL.length cb,ax ay x.aM,(ax ay x.aK)] 109)) wr.heap.size 109 [az sx,aw B x.aL.length cb,ax ay x.aM,(ax ay x.aK)]:=Arr.new wr 109 _;have hba:=wi wr (aA #[az sx,aw B x.aL.length cb,ax ay x.aM,(ax ay x.aK)] 109);have hs2:=hs.below hba;have hbl2:=wg hbl hba;have hgw:wr.heap.size<(wr.alloc (aA #[az sx,aw B x.aL.length cb,ax ay x.aM,(ax ay x.aK)] 109)).heap.size:=ws;have x1:=hX.c1;have hxw:=hx.wider (N':=fun b=>b<w.heap.size\/b=wr.heap.size) (fun b hb=>hb.elim .inl (fun e=> .inr wj));have hx2:=hxw.below hba;have hsz:w.heap.size<=wr.heap.size:=hbl.size;have hgx:g<wr.heap.size:=(hx.rwo.blk rfl).2;clear hs hba hbl hx hxw;go_wp2_with fail;generalize wr.alloc (aA #[az sx,aw B x.aL.length cb,ax ay x.aM,(ax ay x.aK)] 109)=w2 at *
   generalize wr.heap.size=gx at *
   clear c0 c1 c2 c3 x1;have HCL:=sqH (yy B x.aL.length cb (pcs x.aL) w2 (wW HBD) hs2.rd (jZ _));refine HCL.o.mono ?_;rintro e_ w3 ⟨v3,rfl,ho3,hb3⟩;dsimp only;obtain⟨A3,c3,rfl,hs3,hl3⟩:=vQ ho3;have hX3:=hX.below hb3;have hx3:=hx2.below hb3;have hbl3:=wg hbl2 hb3;have hx4:=(hx3.other (zT w3 gx 1 (aw A3 x.aL.length c3)) (fun b e1 e2=>by cases e1;have e3:g=gx:=Option.some.inj e2;omega) (fun b e=> .inr (by cases e;rfl))).wider (N':=fun b=>b<w.heap.size) (fun b hb=> .inl (.inl hb));have hX4:=hX3.set (k:=1) ws (aw A3 x.aL.length c3);have hs4:=hs3.other (g:=gx) (k:=1) (fun a ha=>by have:=hl3 a ha;omega) (aw A3 x.aL.length c3);have hbl4:=hbl3.setCell (p:=⟨gx,1,aB⟩) hsz (aw A3 x.aL.length c3);have f1:=hX3.frozen 1;have x1:=hX3.c1;obtain⟨z0,z1,z2,z3⟩:=sqC4 hX4;have hge3:∀a,A3=aC a->w.heap.size<=a.block/\a.block≠g:=fun a ha=>by have:=hl3 a ha;have:=hb3.size;omega
   clear hX hX3 ho3 hs3 hx2 hx3 hs2 hb3 hbl2 hbl3 hl3;obtain⟨xs,hxo,hop⟩:=hx4.open_;rw [hjl]at hxo hop;have HOP:=sqH hop;clear hop hX4
   refine wH ?_;intros;clear x1 f1 z0 z1 z2 z3;have hz34:(w3.setCell ⟨gx,1,aB⟩ (aw A3 x.aL.length c3)).heap.size=w3.heap.size:=by simp [World.setCell]
   rw [<-hz34];clear hz34;generalize w3.setCell ⟨gx,1,aB⟩ (aw A3 x.aL.length c3)=w4 at *
   have hw4:w.heap.size<=w4.heap.size:=hbl4.size;refine jA rfl (.tmp 19) (.tmp 21) rfl Xy wu hxo (us:= [az sx,aw A3 x.aL.length c3,ax ay x.aM,(ax ay x.aK)]) wu rfl (by
    intro u hu;simp only [List.mem_cons,List.not_mem_nil,or_false]at hu;rcases hu with rfl | rfl | rfl | rfl<;>rfl) wj ?_
   intro w5 ho5 hg5;have hcs:S.R w4 x [az sx,aw A3 x.aL.length c3,ax ay x.aM,(ax ay x.aK)]:=⟨A3,c3,by rw [HSX.o];rfl,hs4⟩
   have hx5:=HOP.o x _ w4 w5 _ (Below.refl _ _) hcs (fun b hb ⟨a,n',c',hm,e⟩=>by
    simp only [List.mem_cons,List.not_mem_nil,or_false,Value.slice.injEq,reduceCtorEq,false_or]at hm;obtain⟨q1,q2⟩:=hge3 a hm.1.symm;rcases hb with hb | hb
    ·cases hb;exact q2 e
    ·omega) ho5 hg5 (.inl rfl)
   have hbl5:=hbl4.grown hg5 hw4 (fun k hk=>by cases hk;exact(hx5.rwo.blk rfl).1);clear hxo hx4 hs4 hbl4 ho5 hg5 hcs hge3;rw [<-HTK.o]at hx5;go_wp2_with fail;go_roundg (l.length - (j+1))
   case measure=>exact wW HGK
   case rel=>exact⟨j+1,rfl,by go_num,wj,rfl,hx5,hbl5⟩
  ·obtain rfl:j=l.length:=by omega
   have hcc:decide (l.length<l.length)=false:=ws;rw [List.take_length]at hx;go_wp2_with fail;go_ret;exact⟨g,rfl,hx,hbl⟩
theorem Jn (s:ByteArray) (r:ac) (q:Nat) (w:World) (hs:s.size<=4000) (hq:s.size=2*q) (hun:xe s.data.toList=aC r) :
  Calls zZZ 81 #[az s] w fun e w'=>∃v,e= .returned v/\w'.ownsRow w.heap.size 5 1 v r.length (bys r)/\Below w.heap.size w w':=by
 have hsz:s.data.toList.length=s.size:=by rw [Array.length_toList];rfl
 have hq1:q*2<=s.size:=wj;have hq2:s.size<=q*2:=wj;have HZ:=sqH hsz;have HUN:=sqH hun;clear hq hsz hun;go_enter func81,ntmps81;go_wp2_with fail;go_loopg [3,4] s.size (fun gn v i wr=>∃(k:Nat) (acc:ac),gn=s.size - 2*k/\i= ax ay ((2*k:Nat):Int)/\k<=q/\acc.length=k/\xe s.data.toList=(xe (s.data.toList.drop (2*k))).map (acc++ ·) /\
  wr.ownsRow w.heap.size 5 1 v acc.length (bys acc)/\Below w.heap.size w wr)
 case atStart=>exact⟨0, [],rfl,rfl,wj,rfl,ws,World.ownsRow_nil _ _ _ _,Below.refl _ _⟩
 case round =>
  obtain⟨k,acc,hgk,rfl,hk,hacc,hun,hown,hbel⟩:=hrel;obtain⟨HGK0,HU,HA⟩:=sqJ3 hgk hun hacc;clear hun hacc hgk;have hsw:=hbel.size;generalize hm:2*k=m at *
  have HGK:=HGK0;have HM:=sqH hm;by_cases hlt:k<q
  ·have hm1:m+1<s.size:=wj
   have hm0:m<s.size:=wj;have hi0:=wX m
   have hi1:(m:Int)<(s.size:Int):=wj;have hi2:(m:Int)+1<(s.size:Int):=wj;have hi3:(0:Int)<=(m:Int)+1:=wj;have hw1:IntKind.i64.wrap ((m:Int)+1)=(m:Int)+1:=IntWalk.i64_in _ wj;have hw2:IntKind.i64.wrap ((m:Int)+2)=(m:Int)+2:=IntWalk.i64_in _ wj;have hn1:((m:Int)+1).toNat=m+1:=wj;have hd:s.data.toList.drop m=s[m]::s[m+1]::s.data.toList.drop (m+2):=by
    have hz:=HZ.o;rw [List.drop_eq_getElem_cons wj,List.drop_eq_getElem_cons (i:=m+1) wj];rfl
   have ra:=y9 s[m];have rb:=y9 s[m+1];have hbad:¬(val s[m]<0\/val s[m+1]<0):=fun hbad=>by
    have h:=HUN.o;rw [HU.o,hd,xe,if_pos hbad]at h;cases h
   have hstep:xe s.data.toList=(xe (s.data.toList.drop (m+2))).map ((acc++ [UInt8.ofNat (16*(val s[m]).toNat+(val s[m+1]).toNat)])++ ·):=by
    rw [HU.o,hd,xe,if_neg hbad,Option.map_map]
    congr 1;funext x;simp
   have HG:=sqH hstep;have hna:0<=val s[m]:=wj;have hnb:0<=val s[m+1]:=wj;have hmx1:max (0:Int) (val s[m])=val s[m]:=wj;have hmx2:max (0:Int) (val s[m+1])=val s[m+1]:=wj;have he1:bys [UInt8.ofNat (16*(val s[m]).toNat+(val s[m+1]).toNat)]= [ax .u8 (16*val s[m]+val s[m+1])]:=by
    simp only [bys,List.map_cons,List.map_nil,UInt8.toNat_ofNat']
    congr 2;omega
   have HE1:=sqH he1;have hw3:IntKind.i64.wrap (16*val s[m])=16*val s[m]:=IntWalk.i64_in _ wj;have hw4:IntKind.i64.wrap (16*val s[m]+val s[m+1])=16*val s[m]+val s[m+1]:=IntWalk.i64_in _ wj;have hw5:IntKind.u8.wrap (16*val s[m]+val s[m+1])=16*val s[m]+val s[m+1]:=by rw [IntKind.wrap_u8];omega
   have HOWN:=sqH hown;have HBEL:=sqH hbel;have hacl:=HA.o;clear hm hd hbad hstep hown hbel he1;go_wp2_with fail;refine wp_region_held_drew (S:=(fun _=>True)) wm ?_ (fun hHeld=> ?_)
   ·trivial
   have hB:=(Below.refl wr.heap.size wr).drew;generalize wr.drew=wn0 at *
   refine wpAnyH_take (i:=0) (oi:=_) (v:= ?_) rfl wm wm wm (fun _ _ _ h=>h) (Or.inl ⟨wu,?_⟩) (by assumption) ?_;rotate_left
   ·(intro w hSw;(try dsimp only [wC,wD,wF,wG] at hSw);go_simp;try (with_reducible rfl))
   try simp only [sqQ]
   refine wpAnyH_take (i:=1) (oi:=_) (v:= ?_) rfl wm wm wm (fun _ _ _ h=>h) (Or.inl ⟨wu,?_⟩) (by assumption) ?_;rotate_left
   ·(intro w hSw;(try dsimp only [wC,wD,wF,wG] at hSw);go_simp;try (with_reducible rfl))
   try simp only [sqQ]
   refine wpAnyH_take (i:=2) (oi:=_) (v:= ?_) rfl wm wm wm (fun _ _ _ h=>h) (Or.inl ⟨wu,?_⟩) (by assumption) ?_;rotate_left
   ·(intro w hSw;(try dsimp only [wC,wD,wF,wG] at hSw);go_simp;try (with_reducible rfl))
   try simp only [sqQ]
   refine wpAnyH_take (i:=3) (oi:=_) (v:= ?_) rfl wm wm wm (fun _ _ _ h=>h) (Or.inl ⟨wu,?_⟩) (by assumption) ?_;rotate_left
   ·(intro w hSw;(try dsimp only [wC,wD,wF,wG] at hSw);go_simp;try (with_reducible rfl))
   try simp only [sqQ]
   refine wpAnyH_take (i:=7) (oi:=_) (v:= ?_) rfl wm wm wm (fun _ _ _ h=>h) (Or.inl ⟨wu,?_⟩) (by assumption) ?_;rotate_left
   ·(intro w hSw;(try dsimp only [wC,wD,wF,wG] at hSw);go_simp;try (with_reducible rfl))
   try simp only [sqQ]
   refine wpAnyH_take (i:=8) (oi:=_) (v:= ?_) rfl wm wm wm (fun _ _ _ h=>h) (Or.inl ⟨wu,?_⟩) (by assumption) ?_;rotate_left
   ·(intro w hSw;(try dsimp only [wC,wD,wF,wG] at hSw);go_simp;try (with_reducible rfl))
   try simp only [sqQ]
   refine wpAnyH_take (i:=9) (oi:=_) (v:= ?_) rfl wm wm wm (fun _ _ _ h=>h) (Or.inl ⟨wu,?_⟩) (by assumption) ?_;rotate_left
   ·(intro w hSw;(try dsimp only [wC,wD,wF,wG] at hSw);go_simp;try (with_reducible rfl))
   try simp only [sqQ]
   refine wpAnyH_take (i:=10) (oi:=_) (v:= ?_) rfl wm wm wm (fun _ _ _ h=>h) (Or.inl ⟨wu,?_⟩) (by assumption) ?_;rotate_left
   ·(intro w hSw;(try dsimp only [wC,wD,wF,wG] at hSw);go_simp;try (with_reducible rfl))
   try simp only [sqQ]
   refine wQ 4 fun K hK=>?_;go_simp;refine(Uj _ _).mono ?_;rintro e6 w6 ⟨rfl,hw6⟩;replace hw6:=hw6.symm;subst hw6;dsimp only;refine ka hK ?_ (Below wn0.heap.size wn0) (fun W=>True) ?_ ?_ (fun wn1 hHeld hst hnew=> ?_)
   ·(trivial)
   ·(first | exact(Below.refl _ _).alloc ab _ | exact Below.refl _ _)
   ·(trivial)
   have hB:=wg hB hst;clear hst;clear hK K
   try simp only [sqQ]
   refine wpAnyH_take (i:=5) (oi:=_) (v:= ?_) rfl wm wm wm (fun _ _ _ h=>h) (Or.inl ⟨wu,?_⟩) (by assumption) ?_;rotate_left
   ·(intro w hSw;(try dsimp only [wC,wD,wF,wG] at hSw);go_simp;try (with_reducible rfl))
   try simp only [sqQ]
   refine wpAnyH_take (i:=6) (oi:=_) (v:= ?_) rfl wm wm wm (fun _ _ _ h=>h) (Or.inl ⟨wu,?_⟩) (by assumption) ?_;rotate_left
   ·(intro w hSw;(try dsimp only [wC,wD,wF,wG] at hSw);go_simp;try (with_reducible rfl))
   try simp only [sqQ]
   refine wQ 11 fun K hK=>?_;go_simp;refine(Uj _ _).mono ?_;rintro e6 w6 ⟨rfl,hw6⟩;replace hw6:=hw6.symm;subst hw6;dsimp only;refine ka hK ?_ (Below wn1.heap.size wn1) (fun W=>True) ?_ ?_ (fun wn2 hHeld hst hnew=> ?_)
   ·(trivial)
   ·(first | exact(Below.refl _ _).alloc ab _ | exact Below.refl _ _)
   ·(trivial)
   have hB:=wg hB hst;clear hst;clear hK K
   try simp only [sqQ]
   refine wpAnyH_take (i:=12) (oi:=_) (v:= ?_) rfl wm wm wm (fun _ _ _ h=>h) (Or.inl ⟨wu,?_⟩) (by assumption) ?_;rotate_left
   ·(intro w hSw;(try dsimp only [wC,wD,wF,wG] at hSw);go_simp;try (with_reducible rfl))
   try simp only [sqQ]
   refine wpAnyH_take (i:=13) (oi:=_) (v:= ?_) rfl wm wm wm (fun _ _ _ h=>h) (Or.inl ⟨wu,?_⟩) (by assumption) ?_;rotate_left
   ·(intro w hSw;(try dsimp only [wC,wD,wF,wG] at hSw);go_simp;try (with_reducible rfl))
   try simp only [sqQ]
   refine wpAnyH_take (i:=14) (oi:=_) (v:= ?_) rfl wm wm wm (fun _ _ _ h=>h) (Or.inl ⟨wu,?_⟩) (by assumption) ?_;rotate_left
   ·(intro w hSw;(try dsimp only [wC,wD,wF,wG] at hSw);go_simp;try (with_reducible rfl))
   try simp only [sqQ]
   refine wQ 15 fun K hK=>?_;go_simp;refine ka hK ?_ (Below wn2.heap.size wn2) (fun W=>Rd W 1 (aC ⟨wn2.heap.size,0,aB⟩) 1 (bys [UInt8.ofNat (16*(val s[m]).toNat+(val s[m+1]).toNat)])) ?_ ?_ (fun wn3 hHeld hst hnew=> ?_)
   ·(trivial)
   ·(first | exact(Below.refl _ _).alloc ab _ | exact Below.refl _ _)
   ·(rw [HE1.o];exact Rd.new1 _)
   have hB:=wg hB hst;have h15:=hnew;clear hst;clear hK K
   try simp only [sqQ]
   refine wQ 16 fun K hK=>?_;refine Z8 rfl (.tmp 12) (.tmp 27) rfl Zd wu (zc HOWN.o hB) wu h15 (xL _) wj (Nat.le_trans hsw hB.size) ?_;intro v7 w7 ho7 hg7 _;refine ka hK ?_ (fun W=>W.ownsRow w.heap.size 5 1 v7 (acc.length+1) (bys acc++bys [UInt8.ofNat (16*(val s[m]).toNat+(val s[m+1]).toNat)])) (Below w.heap.size w) ?_ ?_ (fun wn4 hHeld hF hG=> ?_)
   ·trivial
   ·exact ho7
   ·exact zj (HBEL.o.trans (hB.mono hsw)) (zc HOWN.o hB) ab hg7
   clear hK K
   try simp only [sqQ]
   refine wpAnyH_take (i:=17) (oi:=_) (v:= ?_) rfl wm wm wm (fun _ _ _ h=>h) (Or.inl ⟨wu,?_⟩) (by assumption) ?_;rotate_left
   ·(intro w hSw;(try dsimp only [wC,wD,wF,wG] at hSw);go_simp;try (with_reducible rfl))
   try simp only [sqQ]
   refine wpAnyH_done wm ?_ _;clear hHeld hB;go_wp2_with fail;go_roundg (s.size - (m+2))
   case measure=>exact wW HGK
   case rel =>
    refine⟨k+1,acc++ [UInt8.ofNat (16*(val s[m]).toNat+(val s[m+1]).toNat)],by rw [show 2*(k+1)=m+2 by have:=HM.o;omega],by have:=HM.o;go_num,wj,by rw [List.length_append];simp only [List.length_cons,List.length_nil];omega,by rw [show 2*(k+1)=m+2 by have:=HM.o;omega];exact HG.o,?_,hG⟩;rw [qY,List.length_append];exact hF
  ·have hkq:k=q:=wj
   have hfin:acc=r:=by
    have h:=HUN.o;rw [HU.o,List.drop_of_length_le (wW HZ),xe]at h;simpa using h
   have hmm:s.size<=m:=wj;have hmb:m<=5000:=wj;subst hfin;clear hkq hm;have hcc:decide ((m:Int)+1<(s.size:Int))=false:=decide_eq_false wj;have hw1:IntKind.i64.wrap ((m:Int)+1)=(m:Int)+1:=IntWalk.i64_in _ wj;go_wp2_with fail;go_ret;exact⟨_,rfl,hown,hbel⟩
theorem XA (x:List PartP) (k:Nat) (h:k<x.length):(x.take (k+1)).flatMap xM=(x.take k).flatMap xM++xM x[k]:=by
 rw [List.take_succ_eq_append_getElem h,List.flatMap_append,List.flatMap_cons,List.flatMap_nil,List.append_nil]
theorem UN (x:List PartP) (h:∀p∈x,z50 p) (k:Nat) (hx:x.length<=100):((x.take k).flatMap xM).length<=4800:=by
 have h1:=jS (x.take k) (fun p hp=>h p (List.mem_of_mem_take hp));rw [List.length_take]at h1;omega
theorem z22 {d:ac} (h:hexC d=0):xe d=aC (xJ d).1/\d.length=64:=by
 unfold hexC at h;by_cases h64:d.length=64
 ·rw [if_neg wj]at h;refine⟨?_,h64⟩;unfold xJ at h ⊢
  rw [if_neg wj,if_neg wj]at h ⊢
  cases hu:xe d with
  | none=>rw [hu]at h;cases h
  | some r=>rfl
 ·rw [if_pos h64]at h;cases h
theorem z3m (z:Nat):bits .or .u8 ((z:Int) % 128) 128=((UInt8.ofNat (z % 128+128)).toNat:Int):=by
 have key:∀a:Fin 128,bits .or .u8 (a.val:Int) 128=((UInt8.ofNat (a.val+128)).toNat:Int):=by decide +kernel
 have h:=key ⟨z % 128,wj⟩;have h2:(z:Int) % 128=((z % 128:Nat):Int):=wj;rw [h2];exact h
theorem Qm (A0:ae) (n c0:Nat) (x:List PartP) (w:World) (hl:x.length=n) (hn:n<=100) (hf:∀p∈x,z50 p) (hr:Rd w 3 A0 n (pcs x)) :
  Calls zZZ 42 #[aw A0 n c0] w fun e w'=>∃A c,e= .returned (aw A (enc x).length c)/\kN w' w.heap.size A c (enc x)/\Below w.heap.size w w':=by
 have HL:=sqH hl;have HF:=sqH hf;obtain⟨bn,hbn⟩:=wU (UInt8.ofNat n)
 have HEN:=sqH (show enc x= [65,77,49]++ [bn]++x.flatMap xM from by rw [enc,hl,kh wj,hbn]);have hkc:=fun (w:World) (C:Array Value) (n c:Nat)=>Lib.run_convert_bytes_const (P:=zZZ) w 44 5 C n c underlying44 underlying5;have hw8:IntKind.u8.wrap (n:Int)=(bn.toNat:Int):=by rw [hbn,IntKind.wrap_u8,UInt8.toNat_ofNat'];omega
 clear hl hf hbn;go_enter func42,ntmps42
 refine wH ?_;intros;have hz1:kN (w.alloc (aA #[ax .u8 65,ax .u8 77,ax .u8 49] 5 (3,4))) w.heap.size (aC ⟨w.heap.size,0,aB⟩) 3 [65,77,49] :=
  ⟨w.heap.size, [],(3,4),rfl,Nat.le_refl _,World.alloc_heap_new w _,rfl,by simp [maxLen],.inr ab⟩
 have hb1:=wi w (aA #[ax .u8 65,ax .u8 77,ax .u8 49] 5 (3,4));have hr1:=hr.alloc (aA #[ax .u8 65,ax .u8 77,ax .u8 49] 5 (3,4));have hs1:(w.alloc (aA #[ax .u8 65,ax .u8 77,ax .u8 49] 5 (3,4))).heap.size=w.heap.size+1:=World.size_alloc _ _;generalize w.alloc (aA #[ax .u8 65,ax .u8 77,ax .u8 49] 5 (3,4))=w1 at *
 have hz1':kN (w1.alloc (aA #[ax .u8 (bn.toNat:Int)] 5)) w.heap.size (aC ⟨w.heap.size,0,aB⟩) 3 [65,77,49]:=hz1.below ((Below.refl _ _).alloc ab _);have hb1':=hb1.alloc hb1.size (aA #[ax .u8 (bn.toNat:Int)] 5);have hsrc:Src zZZ (w1.alloc (aA #[ax .u8 (bn.toNat:Int)] 5)) 44 (aw (aC ⟨w1.heap.size,0,aB⟩) 1 1) 1 [bn]:=Src.sl underlying44 1 (Rd.new1 _);rw [<-hs1];refine vd rfl (.tmp 7) (.tmp 11) rfl wu hz1' rfl hsrc ws hb1'.size ?_;intro A2 c2 w2 hz2 hb2;have hb12:=hb1'.trans (hb2.mono ab);have hr2:Rd w2 3 A0 n (pcs x):=(hr.below hb12)
 have HR0:=sqH hr;clear hz1' hb1' hsrc hz1 hb1 hr1 hs1 hb2 hr2 hr hkc hw8;go_wp2_with fail;go_loopg [3,15,5] n (fun gn v i u wr=>∃(k:Nat) (A:ae) (c:Nat),gn=n - k/\i= ax ay k/\k<=n/\v= aw A ([65,77,49]++ [bn]++(x.take k).flatMap xM).length c/\kN wr w.heap.size A c ([65,77,49]++ [bn]++(x.take k).flatMap xM)/\Below w.heap.size w wr)
 case atStart=>exact⟨0,A2,c2,rfl,rfl,wj,rfl,hz2,hb12⟩
 case round =>
  clear hz2 hb12;obtain⟨k,A,c,hgk,rfl,hk,rfl,hZ,hbel⟩:=hrel;have HGK:=sqH hgk;clear hgk;by_cases hlt:k<n
  ·have hkl:k<x.length:=by have:=HL.o;omega
   have hstep:=XA x k hkl;have hfine:=HF.o x[k] (List.getElem_mem hkl);have hel:=UN x HF.o k (wW HL);have hat:=fun j (hj:j<3)=>yE x k j hkl hj;obtain⟨b,off,rfl,hbw',hcell⟩:=(HR0.o.below hbel).2 wj;generalize x[k]=p at *
   have c0:=hcell (k*3+0) _ (hat 0 wj);have c1:=hcell (k*3+1) _ (hat 1 wj);have c2:=hcell (k*3+2) _ (hat 2 wj);rw [Nat.add_zero]at c0;rw [show off+(k*3+1)=off+k*3+1 by omega]at c1;rw [show off+(k*3+2)=off+k*3+2 by omega]at c2;obtain⟨pn,pd,z⟩:=p;dsimp only [yv,List.getElem?_cons_zero,List.getElem?_cons_succ]at c0 c1 c2;obtain⟨s,hs⟩:=wU (⟨pn.toArray⟩:ByteArray)
   obtain⟨t,ht⟩:=wU (⟨pd.toArray⟩:ByteArray)
   rw [<-hs]at c0;rw [<-ht]at c1;have hsd:s.data.toList=pn:=by rw [hs]
   have htd:t.data.toList=pd:=by rw [ht]
   have hss:s.size=pn.length:=by rw [<-hsd,Array.length_toList];rfl
   have hts:t.size=pd.length:=by rw [<-htd,Array.length_toList];rfl
   have hn12:=xQ hfine.1;have hux:=z22 hfine.2.1;have hz300:=hfine.2.2;have HDLL:=(ZK hfine.2.1).2;dsimp only at hn12 hux hz300 HDLL;obtain⟨bs,hbs⟩:=wU (UInt8.ofNat s.size)
   have hwb:IntKind.u8.wrap (s.size:Int)=(bs.toNat:Int):=by rw [hbs,IntKind.wrap_u8,UInt8.toNat_ofNat'];omega
   have HSTEP:=sqH (show(x.take (k+1)).flatMap xM=(x.take k).flatMap xM++([bs]++s.data.toList++(xJ pd).1++num z) from by
    rw [hstep,xM,txt,hsd,hbs,hss,kh (n:=pn.length) wj])
   have HUX:=sqH (show xe t.data.toList=aC (xJ pd).1 from by rw [htd];exact hux.1);have hs12:s.size<=12:=wj;have ht64:t.size=64:=wj;have hk0:=wX k
   have hk1:(k:Int)<(n:Int):=wj;have hcc:decide (k<n)=true:=decide_eq_true hlt;have hal:([65,77,49]++ [bn]++(x.take k).flatMap xM).length<=4900:=by
    simp only [List.length_append,List.length_cons,List.length_nil];omega
   obtain⟨acc,hacc⟩:=wU ( [65,77,49]++ [bn]++(x.take k).flatMap xM)
   rw [<-hacc]at hZ hal ⊢
   have HACC:=sqH hacc;have hH0:=hux.1;have HDL:=sqH (show(xJ pd).1.length=32 from HDLL);generalize (xJ pd).1=dg at *
   clear hstep hfine hel hat hcell hs ht hsd htd hss hts hbs hacc hux hH0 HDLL;go_wp2_with fail;have hZ':kN (wr.alloc (aA #[az s,az t,ax ay z] 51)) w.heap.size A c acc:=hZ.below ((Below.refl _ _).alloc ab _);have hP:=Arr.new wr 51 [az s,az t,ax ay z];have hbw:=hbel.alloc hbel.size (aA #[az s,az t,ax ay z] 51);have hne:A≠aC ⟨wr.heap.size,0,aB⟩:=fun e=>by
    obtain⟨g,_,_,e',_,hg,_⟩:=hZ;rw [e]at e';cases e'
    have:=(Array.getElem?_eq_some_iff.1 hg).1;omega
   have hgw:w.heap.size<=wr.heap.size:=hbel.size;clear hZ hbel;have hZ:=hZ';clear hZ';have hP:Arr (wr.alloc (aA #[az s,az t,ax ay z] 51)) wr.heap.size 51 [az s,az t,ax ay z]:=hP;generalize wr.alloc (aA #[az s,az t,ax ay z] 51)=wa at *
   generalize wr.heap.size=gp at *
   clear c0 c1 c2;refine wp_region_held_drew (S:=(fun w'=>w'.cell? ⟨gp,0,aB⟩=aC (az s))) wm ?_ (fun hHeld=> ?_)
   ·exact(hP.drew).c0
   have hB:=(Below.refl wa.heap.size wa).drew;have hPn:=hP.drew;have hZn:kN wa.drew w.heap.size A c acc:=hZ;have hbn:=hbw.drew;clear hP hZ hbw;generalize wa.drew=wn0 at *
   refine wpAnyH_take (i:=0) (oi:=_) (v:= ?_) rfl wm wm wm (fun _ _ _ h=>h) (Or.inl ⟨wu,?_⟩) (by assumption) ?_;rotate_left
   ·(intro w hSw;(try dsimp only [wC,wD,wF,wG] at hSw);go_simp;try (with_reducible rfl))
   try simp only [sqQ]
   refine wpAnyH_take (i:=1) (oi:=_) (v:= ?_) rfl wm wm wm (fun _ _ _ h=>h) (Or.inl ⟨wu,?_⟩) (by assumption) ?_;rotate_left
   ·(intro w hSw;(try dsimp only [wC,wD,wF,wG] at hSw);go_simp;try (with_reducible rfl))
   try simp only [sqQ]
   refine wpAnyH_take (i:=2) (oi:=_) (v:= ?_) rfl wm wm wm (fun _ _ _ h=>h) (Or.inl ⟨wu,?_⟩) (by assumption) ?_;rotate_left
   ·(intro w hSw;(try dsimp only [wC,wD,wF,wG] at hSw);go_simp;try (with_reducible rfl))
   try simp only [sqQ]
   refine wpAnyH_take (i:=3) (oi:=_) (v:= ?_) rfl wm wm wm (fun _ _ _ h=>h) (Or.inl ⟨wu,?_⟩) (by assumption) ?_;rotate_left
   ·(intro w hSw;(try dsimp only [wC,wD,wF,wG] at hSw);go_simp;try (with_reducible rfl))
   try simp only [sqQ]
   refine wpAnyH_take (i:=4) (oi:=_) (v:= ?_) rfl wm wm wm (fun _ _ _ h=>h) (Or.inl ⟨wu,?_⟩) (by assumption) ?_;rotate_left
   ·(intro w hSw;(try dsimp only [wC,wD,wF,wG] at hSw);go_simp;try (with_reducible rfl))
   try simp only [sqQ]
   refine wpAnyH_take (i:=7) (oi:=_) (v:= ?_) rfl wm wm wm (fun _ _ _ h=>h) (Or.inl ⟨wu,?_⟩) (by assumption) ?_;rotate_left
   ·(intro w hSw;(try dsimp only [wC,wD,wF,wG] at hSw);go_simp;try (with_reducible rfl))
   try simp only [sqQ]
   refine wpAnyH_take (i:=8) (oi:=_) (v:= ?_) rfl wm wm wm (fun _ _ _ h=>h) (Or.inl ⟨wu,?_⟩) (by assumption) ?_;rotate_left
   ·(intro w hSw;(try dsimp only [wC,wD,wF,wG] at hSw);go_simp;try (with_reducible rfl))
   try simp only [sqQ]
   refine wQ 5 fun K hK=>?_;go_simp;refine ka hK ?_ (Below wn0.heap.size wn0) (fun W=>Arr W gp 51 [az s,az t,ax ay z]/\kN W w.heap.size A c acc/\Below w.heap.size w W/\Rd W 1 (aC ⟨wn0.heap.size,0,aB⟩) 1 (bys [bs])) ?_ ?_ (fun wn1 hHeld hst hnew=> ?_)
   ·(exact(hPn.alloc _).c0)
   ·(first | exact(Below.refl _ _).alloc ab _ | exact Below.refl _ _)
   ·(exact⟨hPn.alloc _,hZn.below ((Below.refl _ _).alloc ab _),hbn.alloc hbn.size _,Rd.new1 _⟩)
   have hB:=wg hB hst;clear hPn hZn hbn;obtain⟨hPn,hZn,hbn,h5⟩:=hnew;clear hst;clear hK K
   try simp only [sqQ]
   refine wQ 6 fun K hK=>?_;refine KD rfl (.tmp 19) (.tmp 24) rfl wu hZn rfl (Src.sl underlying44 1 h5) wj hbn.size ?_;intro A6 c6 w6 hz6 hb6 hg6 ha6;refine ka hK ?_ (fun W=>Arr W gp 51 [az s,az t,ax ay z]/\kN W w.heap.size A6 c6 (acc++ [bs])/\A6≠aC ⟨gp,0,aB⟩) (Below w.heap.size w) ?_ ?_ (fun wn2 hHeld hF hG=> ?_)
   ·exact(hPn.beside hg6 hne hZn.addr).c0
   ·refine⟨hPn.beside hg6 hne hZn.addr,hz6,fun e=> ?_⟩;rcases ha6 gp e with h | h
    ·exact hne h
    ·have:=hPn.lt;omega
   ·exact hbn.trans (hb6.mono ab)
   clear hPn hZn hbn hne hB;obtain⟨hPn,hZn,hne⟩:=hF;have hbn:=hG;clear hG;clear hK K
   try simp only [sqQ]
   refine wQ 9 fun K hK=>?_;refine KD rfl (.tmp 25) (.tmp 27) rfl wu hZn rfl (Src.str underlying9 s) (by rw [List.length_append];simp only [List.length_cons,List.length_nil];omega) hbn.size ?_;intro A9 c9 w9 hz9 hb9 hg9 ha9;refine ka hK ?_ (fun W=>Arr W gp 51 [az s,az t,ax ay z]/\kN W w.heap.size A9 c9 (acc++ [bs]++s.data.toList)/\A9≠aC ⟨gp,0,aB⟩) (Below w.heap.size w) ?_ ?_ (fun wn3 hHeld hF hG=> ?_)
   ·exact(hPn.beside hg9 hne hZn.addr).c0
   ·refine⟨hPn.beside hg9 hne hZn.addr,hz9,fun e=> ?_⟩;rcases ha9 gp e with h | h
    ·exact hne h
    ·have:=hPn.lt;omega
   ·exact hbn.trans (hb9.mono ab)
   clear hPn hZn hbn hne;obtain⟨hPn,hZn,hne⟩:=hF;have hbn:=hG;clear hG;generalize hacc2:acc++ [bs]++s.data.toList=acc2 at *
   have HA2:=sqH hacc2;clear hacc2;clear hK K
   try simp only [sqQ]
   refine wpAnyH_take (i:=10) (oi:=_) (v:= ?_) rfl wm wm wm (fun _ _ _ h=>h) (Or.inl ⟨wu,?_⟩) (by assumption) ?_;rotate_left
   ·(intro w hSw;(try dsimp only [wC,wD,wF,wG] at hSw);go_simp;try (with_reducible rfl))
   try simp only [sqQ]
   refine wpAnyH_done wm ?_ _;clear hHeld;have hal2:acc2.length<=5000:=by
    have h:=congrArg List.length HA2.o;have h2:s.data.toList.length=s.size:=by rw [Array.length_toList];rfl
    simp only [List.length_append,List.length_cons,List.length_nil,h2]at h;omega
   have f1:=hPn.c1;go_wp2_with fail;refine(Jn t dg 32 wn3 wj wj HUX.o).mono ?_;rintro e_ w4 ⟨v4,rfl,ho4,hb4⟩;dsimp only;have hb14:=wg hbn hb4;have hP4:=hPn.below hb4;have hZ4:=hZn.below hb4;obtain⟨A4,c4,rfl,hc4,hr4⟩:=Rd.of_own' ho4;have hdl:dg.length<=5000:=by have:=HDL.o;omega
   clear ho4 hPn hZn hbn hb4 f1
   refine wH ?_;intros;refine QS rfl (.tmp 29) (.tmp 32) rfl wu hZ4 rfl (Src.sl underlying44 c4 hr4) wj hb14.size ?_;intro A5 c5 w5 hz5 hb5 hg5 ha5;have hP5:=hP4.beside hg5 hne hZ4.addr;have hne5:A5≠aC ⟨gp,0,aB⟩:=fun e=>by
    rcases ha5 gp e with h | h
    ·exact hne h
    ·have:=hP4.lt;omega
   have hb15:=hb14.trans (hb5.mono ab);have hal3:(acc2++dg).length<=11000:=by rw [List.length_append];omega
   generalize hacc3:acc2++dg=acc3 at *
   have HA3:=sqH hacc3;have f2:=hP5.c2;clear hacc3 hZ4 hP4 hg5 ha5 hr4 hb5 hb14 hne;by_cases hbig:127<z
   ·have e1:decide ((127:Int)<(z:Int))=true:=decide_eq_true wj;obtain⟨b0,hb0⟩:=wU (UInt8.ofNat (z % 128+128))
    obtain⟨b1,hb1⟩:=wU (UInt8.ofNat (z / 128))
    have HNZ:=sqH (show num z= [b0,b1] from by rw [QC wj,kh (n:=z / 128) wj,hb0,hb1]);have q1:bits .or .u8 ((z:Int) % 128) 128=(b0.toNat:Int):=by
     rw [hb0];exact z3m z
    have q1':IntKind.u8.wrap ((z:Int) % 128)=(z:Int) % 128:=by rw [IntKind.wrap_u8];omega
    have q2:IntKind.u8.wrap ((z:Int) / 128)=(b1.toNat:Int):=by rw [hb1,IntKind.wrap_u8,UInt8.toNat_ofNat'];omega
    clear hb0 hb1 hbig
    refine wH ?_;intros;have hz5':kN (w5.alloc (aA #[ax .u8 (b0.toNat:Int),ax .u8 (b1.toNat:Int)] 5)) w.heap.size A5 c5 acc3:=hz5.below ((Below.refl _ _).alloc ab _);refine vd rfl (.tmp 37) (.tmp 47) rfl wu hz5' (k:= [b0,b1]) rfl (Src.sl underlying44 2 (Rd.newN (w:=w5) (e:=5) (size:=1) (m:=2) (bys [b0,b1]) rfl)) wj (Nat.le_trans hb15.size ws) ?_;intro A6 c6 w6 hz6 hb6;have hb16:=(hb15.alloc hb15.size (aA #[ax .u8 (b0.toNat:Int),ax .u8 (b1.toNat:Int)] 5)).trans (hb6.mono ab);have hacc4:acc3++ [b0,b1]= [65,77,49]++ [bn]++(x.take (k+1)).flatMap xM:=by
     rw [HSTEP.o,HNZ.o,<-HA3.o,<-HA2.o,HACC.o];simp only [List.append_assoc]
    rw [hacc4]at hz6 ⊢
    clear hacc4 hz5' hz5 hb15 hb6;generalize hX: [65,77,49]++ [bn]++(x.take (k+1)).flatMap xM=X4 at *
    go_wp2_with fail;go_roundg (n - (k+1))
    case measure=>exact wW HGK
    case rel=>exact⟨k+1,A6,c6,rfl,by go_num,wj,by rw [hX],by rw [hX];exact hz6,hb16⟩
   ·have e1:decide ((127:Int)<(z:Int))=false:=decide_eq_false wj;obtain⟨bz,hbz⟩:=wU (UInt8.ofNat z)
    have HNZ:=sqH (show num z= [bz] from by rw [kh wj,hbz]);have q2:IntKind.u8.wrap (z:Int)=(bz.toNat:Int):=by rw [hbz,IntKind.wrap_u8,UInt8.toNat_ofNat'];omega
    clear hbz hbig
    refine wH ?_;intros;have hz5':kN (w5.alloc (aA #[ax .u8 (bz.toNat:Int)] 5)) w.heap.size A5 c5 acc3:=hz5.below ((Below.refl _ _).alloc ab _);refine vd rfl (.tmp 49) (.tmp 53) rfl wu hz5' (k:= [bz]) rfl (Src.sl underlying44 1 (Rd.new1 _)) wj (Nat.le_trans hb15.size ws) ?_;intro A6 c6 w6 hz6 hb6;have hb16:=(hb15.alloc hb15.size (aA #[ax .u8 (bz.toNat:Int)] 5)).trans (hb6.mono ab);have hacc4:acc3++ [bz]= [65,77,49]++ [bn]++(x.take (k+1)).flatMap xM:=by
     rw [HSTEP.o,HNZ.o,<-HA3.o,<-HA2.o,HACC.o];simp only [List.append_assoc]
    rw [hacc4]at hz6 ⊢
    clear hacc4 hz5' hz5 hb15 hb6;generalize hX: [65,77,49]++ [bn]++(x.take (k+1)).flatMap xM=X4 at *
    go_wp2_with fail;go_roundg (n - (k+1))
    case measure=>exact wW HGK
    case rel=>exact⟨k+1,A6,c6,rfl,by go_num,wj,by rw [hX],by rw [hX];exact hz6,hb16⟩
  ·obtain rfl:k=n:=by omega
   have hcc:decide (k<k)=false:=ws;have hfin: [65,77,49]++ [bn]++(x.take k).flatMap xM=enc x:=by
    rw [HEN.o,List.take_of_length_le (wW HL)]
   rw [hfin]at hZ ⊢
   clear hfin;generalize hX:enc x=X4 at *
   go_wp2_with fail;go_ret;rw [hX];exact⟨A,c,rfl,hZ,hbel⟩
theorem z3b:El zZZ 28 9 1 16:=El.mk' (z:= az ByteArray.empty) underlying28 wm rfl wj wj
def dcs (l:List PartP):af:=l.map fun p=> az ⟨p.dig.toArray⟩
theorem Kb (l:List PartP) (k:Nat) (h:k<l.length):dcs (l.take (k+1))=dcs (l.take k)++ [az ⟨l[k].dig.toArray⟩]:=by
 rw [dcs,List.take_succ_eq_append_getElem h,List.map_append];rfl
theorem Zz:∀(n:Nat) (out:List PartP) (l:ac),(zW n out l).2.1.length<=out.length+n
 | 0,out,l=>Nat.le_refl _
 | n+1,out,l=>by
  rw [zW]
  split
  ·exact Nat.zero_le _
  ·have:=Zz n (out++ [(vw l).1]) (vw l).2.1
   rw [List.length_append]at this;simp only [List.length_cons,List.length_nil]at this;omega
theorem yJ (b:ac):(kw b).1.length<=8:=by
 have h0:=Zz (zB (b.drop 3)).1 [] (zB (b.drop 3)).2.1;simp only [List.length_nil,Nat.zero_add]at h0;unfold kw;split
 ·exact Nat.zero_le _
 ·split
  ·exact Nat.zero_le _
  ·split
   ·exact Nat.zero_le _
   ·split
    ·exact Nat.zero_le _
    ·split
     ·exact Nat.zero_le _
     ·split
      ·exact Nat.zero_le _
      ·split
       ·exact Nat.zero_le _
       ·dsimp only;omega
theorem vR (s:ByteArray) (A:ae) (n c:Nat) (l:ac) (pn:Int) (mk:Bool) (w:World) (hl:l.length=n) (hc:n<=c) (hm:c<=maxLen) (hr:Rd w 1 A n (bys l)) :
  Calls zZZ 85 #[.agg #[az s,aw A n c,ax ay pn,.bool mk]] w fun e w'=>∃v,e= .returned v/\w'.ownsRow w.heap.size 9 1 v (kw l).1.length (dcs (kw l).1)/\Below w.heap.size w w':=by
 have HD:=sqH (fun w' hr'=>YM A n c l w' hl hc hm hr');have hx8:=yJ l;generalize kw l=D at *
 obtain⟨x,er⟩:=D;dsimp only at HD hx8 ⊢
 obtain⟨w1,hw1⟩:=wU (w.alloc (aA #[az s,aw A n c,ax ay pn,.bool mk] 88))
 have hb1:Below w.heap.size w w1:=by rw [hw1];exact(Below.refl _ _).alloc ab _
 have hr1:Rd w1 1 A n (bys l):=by rw [hw1];exact hr.alloc _
 have HW:=sqH hw1;clear hw1 hl hr;go_enter func85,ntmps85;go_wp2_with fail;rw [<-HW.o];refine(HD.o w1 hr1).mono ?_;rintro e_ w2 ⟨v2,rfl,ho2,hb2⟩;dsimp only;have hb12:=wg hb1 hb2;obtain⟨A2,c2,rfl,hc2,hr2⟩:=Rd.of_own' ho2;have HR2:=sqH hr2;clear ho2 hr1;go_wp2_with fail;go_loopg [5,16,7] x.length (fun gn v i u wr=>∃k:Nat,gn=x.length - k/\i= ax ay k/\k<=x.length/\wr.ownsRow w2.heap.size 9 1 v k (dcs (x.take k))/\Below w2.heap.size w2 wr/\Below w.heap.size w wr)
 case atStart=>exact⟨0,rfl,rfl,wj,World.ownsRow_nil _ _ _ _,Below.refl _ _,hb12⟩
 case round =>
  obtain⟨k,hgk,rfl,hk,ho,hbl,hbel⟩:=hrel;have HGK:=sqH hgk;clear hgk;by_cases hlt:k<x.length
  ·have hstep:=Kb x k hlt;have hat:=fun j (hj:j<3)=>yE x k j hlt hj;obtain⟨b,off,rfl,hbw',hcell⟩:=(HR2.o.below hbl).2 wj;have c0:=hcell (k*3+0) _ (hat 0 wj);have c1:=hcell (k*3+1) _ (hat 1 wj);have c2:=hcell (k*3+2) _ (hat 2 wj);rw [Nat.add_zero]at c0;rw [show off+(k*3+1)=off+k*3+1 by omega]at c1;rw [show off+(k*3+2)=off+k*3+2 by omega]at c2
   try dsimp only [yv,List.getElem?_cons_zero,List.getElem?_cons_succ]at c0 c1 c2
   generalize (⟨x[k].name.toArray⟩:ByteArray)=s' at *
   generalize (⟨x[k].dig.toArray⟩:ByteArray)=t' at *
   generalize (x[k].size:Int)=z' at *
   have HST:=sqH hstep;have hk0:=wX k
   have hk1:(k:Int)<(x.length:Int):=wj;have hcc:decide (k<x.length)=true:=decide_eq_true hlt;clear hstep hat hcell
   refine wH ?_;intros;have hbl':=hbl.alloc hbl.size (aA #[az s',az t',ax ay z'] 51);have hbel':=hbel.alloc hbel.size (aA #[az s',az t',ax ay z'] 51);have ho':=ho.alloc (aA #[az s',az t',ax ay z'] 51);have hs1:(wr.alloc (aA #[az s',az t',ax ay z'] 51)).heap.size=wr.heap.size+1:=World.size_alloc _ _;generalize wr.alloc (aA #[az s',az t',ax ay z'] 51)=wb at *
   rw [<-hs1];clear hs1 ho hbl hbel c0 c1 c2;refine zg rfl (.tmp 20) (.tmp 23) rfl z3b wu ho' (us:= [az t']) (m:=1) wu rfl (by intro u hu;simp at hu;subst hu;rfl) wj hbl'.size ?_;intro v5 w5 ho5 hg5 hv5;rw [<-HST.o]at ho5;have hbl5:=zj hbl' ho' ab hg5;have hbel5:=wg hb12 hbl5;go_wp2_with fail;go_roundg (x.length - (k+1))
   case measure=>exact wW HGK
   case rel=>exact⟨k+1,rfl,by go_num,wj,ho5,hbl5,hbel5⟩
  ·obtain rfl:k=x.length:=by omega
   have hcc:decide (x.length<x.length)=false:=ws;rw [List.take_length]at ho;go_wp2_with fail;go_ret;exact⟨_,rfl,zb ho hb12.size,hbel⟩
theorem jx (n:Int) (w:World):Calls zZZ 93 #[ax ay n] w fun e w'=>e= .returned (.bool (decide (1<=n/\n<=1000)))/\w=w':=by
 by_cases h1:1<=n
 ·by_cases h2:n<=1000
  ·have e1:decide (1<=n)=true:=by simpa using h1
   have e2:decide (n<=1000)=true:=by simpa using h2
   have e3:decide (1<=n/\n<=1000)=true:=by simp [h1,h2]
   have H3:=sqH e3;clear e3;go_enter func93,ntmps93
   refine wH ?_;intros;go_ret;rw [H3.o];exact⟨rfl,rfl⟩
  ·have e1:decide (1<=n)=true:=by simpa using h1
   have e2:decide (n<=1000)=false:=by simpa using h2
   have e3:decide (1<=n/\n<=1000)=false:=by simp [h1,h2]
   have H3:=sqH e3;clear e3;go_enter func93,ntmps93
   refine wH ?_;intros;go_ret;rw [H3.o];exact⟨rfl,rfl⟩
 ·have e1:decide (1<=n)=false:=by simpa using h1
  have e3:decide (1<=n/\n<=1000)=false:=by simp [h1]
  have H3:=sqH e3;clear e3;go_enter func93,ntmps93
  refine wH ?_;intros;go_ret;rw [H3.o];exact⟨rfl,rfl⟩
theorem z13:El zZZ 46 3 1 8:=El.mk' (z:= ax ay 0) underlying46 wm rfl wj wj
theorem XX (l:List Int):∀u∈ins l,u.oneCell'=true:=by
 intro u hu;simp only [ins,List.mem_map]at hu;obtain⟨_,_,rfl⟩:=hu;rfl
theorem yd (A:ae) (c:Nat) (l:List Int) (x:Int) (w:World) (hn:l.length<=9223372036854775807) (hr:Rd w 1 A l.length (ins l)) :
  Calls zZZ 29 #[aw A l.length c,ax ay x] w fun e w'=>e= .returned (.bool (l.contains x))/\w=w':=by
 rcases Nat.eq_zero_or_pos l.length with h0 | h0
 ·obtain rfl:=List.eq_nil_of_length_eq_zero h0;exact(Tryz.slices_Contains_int_empty A c x w).mono fun e w' h=>⟨h.1,h.2.symm⟩
 ·obtain⟨b,off,rfl,_,hc⟩:=hr.2 h0;refine(Tryz.slices_Contains_int b off l.length c l x w ab hn (fun j hj=>hc j _ ?_)).mono fun e w' h=>⟨?_,h.2.symm⟩
  ·rw [ins,List.getElem?_map,List.getElem?_eq_getElem hj,List.getD_eq_getElem?_getD,List.getElem?_eq_getElem hj];rfl
  ·rw [h.1,List.take_length]
theorem ud (s:ByteArray) (ld:Int) (A:ae) (c:Nat) (l:List Int) (w:World) (hn:l.length<=1000000) (hr:Rd w 1 A l.length (ins l)) :
  Calls zZZ 92 #[.agg #[az s,ax ay ld,aw A l.length c]] w fun e w'=>∃v,e= .returned v/\w'.ownsRow w.heap.size 3 1 v (l.length+1) (ins (ld::l))/\Below w.heap.size w w':=by
 have hb1:=wi w (aA #[az s,ax ay ld,aw A l.length c] 95);have hr1:=hr.alloc (aA #[az s,ax ay ld,aw A l.length c] 95);go_enter func92,ntmps92
 refine wH ?_;intros;have hs1:(w.alloc (aA #[az s,ax ay ld,aw A l.length c] 95)).heap.size=w.heap.size+1:=World.size_alloc _ _;generalize w.alloc (aA #[az s,ax ay ld,aw A l.length c] 95)=w1 at *
 rw [<-hs1];have ho:(w1.alloc (aA #[ax ay ld] 3)).ownsRow w.heap.size 3 1 (aw (aC ⟨w1.heap.size,0,aB⟩) 1 1) 1 [ax ay ld] :=
  ⟨rfl,.inr ⟨w1.heap.size,1,#[ax ay ld],rfl,hb1.size,World.alloc_heap_new w1 _,Nat.le_refl _,by simp [maxLen],rfl,rfl⟩⟩
 have hb2:=hb1.alloc hb1.size (aA #[ax ay ld] 3);have hr2:=hr1.alloc (aA #[ax ay ld] 3);refine zK rfl (.tmp 5) (.tmp 7) rfl z13 wu ho wu hr2 (XX l) wj hb2.size ?_;intro v3 w3 ho3 hg3 _;have hb3:=zj hb2 ho ab hg3;rw [Nat.add_comm 1 l.length]at ho3
 refine wH ?_;intros;go_ret;exact⟨_,rfl,ho3,hb3⟩
theorem Uc (s k:ByteArray) (ld:Int) (sl:Value) (gk:Nat) (w:World) (hk:w.cell? ⟨gk,0,aB⟩=aC (az k)) (hg:gk<w.heap.size) :
  Calls zZZ 141 #[.agg #[az s,ax ay ld,sl],.pointer (aC ⟨gk,0,aB⟩)] w fun e w'=>e= .returned (.bool (s.toList==k.toList))/\Below w.heap.size w w':=by
 have hb1:=wi w (aA #[az s,ax ay ld,sl] 95);have hk1:(w.alloc (aA #[az s,ax ay ld,sl] 95)).cell? ⟨gk,0,aB⟩=aC (az k):=(World.cell?_alloc_lt w _ ⟨gk,0,aB⟩ hg).trans hk;go_enter func141,ntmps141;go_wp2_with fail;go_ret;exact⟨rfl,hb1⟩
def fnd:Nat->List FlP->List UInt8->Option Nat
 | _, [],_=>aB
 | i,p::r,k=>if p.key=k then aC i else fnd (i+1) r k
theorem z0b (A:ae) (c:Nat) (fs:List FlP) (k:ByteArray) (gq:Nat) (w:World) (hn:fs.length<=1000000) (hf:Fls w A fs) (hk:w.cell? ⟨gq,0,aB⟩=aC (az k)) (hg:gq<w.heap.size) :
  Calls zZZ 140 #[aw A fs.length c,.func (.func 141) #[] #[.pointer (aC ⟨gq,0,aB⟩)]] w fun e w' =>
   e= .returned (ax ay (match fnd 0 fs k.data.toList with | some i=>(i:Int) | none=> -1))/\Below w.heap.size w w':=by
 generalize hR:fnd 0 fs k.data.toList=R;have HR:=sqH hR;clear hR;go_enter func140,ntmps140
 refine wH ?_;intros;go_loopg [5,8] fs.length (fun gn u i wr=>∃j:Nat,gn=fs.length - j/\i= ax ay j/\j<=fs.length/\fnd 0 fs k.data.toList=fnd j (fs.drop j) k.data.toList/\Below w.heap.size w wr)
 case atStart=>exact⟨0,rfl,rfl,wj,rfl,Below.refl _ _⟩
 case round =>
  obtain⟨j,hgk,rfl,hj,hfn,hbl⟩:=hrel;have HGK:=sqH hgk;clear hgk;by_cases hlt:j<fs.length
  ·have hcc:decide (j<fs.length)=true:=decide_eq_true hlt;obtain⟨b,off,B,cb,rfl,hbb,c0,c1,c2,_,_,_⟩:=(hf.below hbl).at_ j hlt;have hj0:=wX j
   have hj1:(j:Int)<(fs.length:Int):=wj;have hstep:fnd j (fs.drop j) k.data.toList=if fs[j].key=k.data.toList then aC j else fnd (j+1) (fs.drop (j+1)) k.data.toList:=by
    rw [List.drop_eq_getElem_cons hlt,fnd]
   obtain⟨s,hs⟩:=wU (⟨fs[j].key.toArray⟩:ByteArray)
   have hsd:s.data.toList=fs[j].key:=by rw [hs]
   rw [<-hs]at c0;rw [<-hsd]at hstep;have HST:=sqH (hfn.trans hstep);generalize fs[j].lead=ld at *
   generalize fs[j].wait.length=wl at *
   have hkk:=(hbl.cell (p:=⟨gq,0,aB⟩) hg).trans hk;have hgg:=Nat.lt_of_lt_of_le hg hbl.size;clear hfn hstep hs hsd
   refine wH ?_;intros;refine wV (Uc s k ld (aw B wl cb) gq wr hkk hgg) fun w5 hb5=>?_;dsimp only;have hb05:=wg hbl hb5;by_cases he:s.data.toList=k.data.toList
   ·have e1:(s.toList==k.toList)=true:=by rw [ByteArray.toList_eq,ByteArray.toList_eq,he,beq_self_eq_true]
    have HF:=sqH (show R=aC j from by rw [<-HR.o,HST.o,if_pos he]);rw [e1];clear he e1
    refine wH ?_;intros;go_ret;rw [HF.o];exact⟨rfl,hb05⟩
   ·have e1:(s.toList==k.toList)=false:=by rw [beq_eq_false_iff_ne,ByteArray.toList_eq,ByteArray.toList_eq];exact he
    have HF:=sqH (show fnd 0 fs k.data.toList=fnd (j+1) (fs.drop (j+1)) k.data.toList from by rw [HST.o,if_neg he]);rw [e1];clear he e1
    refine wH ?_;intros;go_roundg (fs.length - (j+1))
    case measure=>exact wW HGK
    case rel=>exact⟨j+1,rfl,by go_num,wj,HF.o,hb05⟩
  ·obtain rfl:j=fs.length:=by omega
   have hcc:decide (fs.length<fs.length)=false:=ws;have HF:=sqH (show R=aB from by rw [<-HR.o,hfn,List.drop_length,fnd]);clear hfn
   refine wH ?_;intros;go_ret;rw [HF.o];exact⟨rfl,hbl⟩
theorem kK (A:ae) (c:Nat) (fs:List FlP) (k:ByteArray) (w:World) (hn:fs.length<=1000000) (hf:Fls w A fs) :
  Calls zZZ 91 #[aw A fs.length c,az k] w fun e w'=>e= .returned (.tuple (match fnd 0 fs k.data.toList with | some i=>#[ax ay i,ax ay 0] | none=>#[ax ay 0,ax ay 5]))/\Below w.heap.size w w':=by
 obtain⟨w1,hw1⟩:=wU (w.alloc (aA #[az k] 9))
 have hb1:Below w.heap.size w w1:=by rw [hw1];exact(Below.refl _ _).alloc ab _
 have hk1:w1.cell? ⟨w.heap.size,0,aB⟩=aC (az k):=by rw [hw1];exact(Arr.new w 9 [az k]).c0
 have hg1:w.heap.size<w1.heap.size:=by rw [hw1];simp
 have HI:=sqH (z0b A c fs k w.heap.size w1 hn (hf.below hb1) hk1 hg1);have HW:=sqH hw1;clear hw1 hk1 hf;cases hfn:fnd 0 fs k.data.toList with
 | none =>
  have hi:=HI.o;rw [hfn]at hi;dsimp only at hi;clear HI hfn;go_enter func91,ntmps91;go_wp2_with fail;rw [<-HW.o];refine wV hi fun w2 hb2=>?_;dsimp only;go_wp2_with fail;go_ret2;exact⟨rfl,wg hb1 hb2⟩
 | some i =>
  have hi:=HI.o;rw [hfn]at hi;dsimp only at hi;have hneg:decide ((i:Int)<0)=false:=decide_eq_false wj;clear HI hfn;go_enter func91,ntmps91;go_wp2_with fail;rw [<-HW.o];refine wV hi fun w2 hb2=>?_;dsimp only;go_wp2_with fail;go_ret2;exact⟨rfl,wg hb1 hb2⟩
def CrewOk (l:List Int):Prop:=∀j (h:j<l.length),(1<=l[j]/\l[j]<=1000)/\(l.take j).contains l[j]=false
structure GoodF (fs:List FlP):Prop where
 len:fs.length<=6
 key:∀j (h:j<fs.length),hexC fs[j].key=0/\fs[j].key.length<=1000
 one:∀j (h:j<fs.length),fnd 0 (fs.take j) fs[j].key=aB
 few:∀j (h:j<fs.length),fs[j].wait.length<=5
 crew:∀j (h:j<fs.length),CrewOk (fs[j].lead::fs[j].wait)
theorem uX:∀(fs:List FlP) (As:List (ae×Nat)) (k:Nat),As.length=fs.length ->
  ((fs.zip As).flatMap fun x=>qN x.1 x.2.1 x.2.2).take (k*3)=((fs.take k).zip (As.take k)).flatMap fun x=>qN x.1 x.2.1 x.2.2
 | [], [],k,_=>by simp
 | f::fs,a::As,0,_=>by simp
 | f::fs,a::As,k+1,h=>by
  rw [List.zip_cons_cons,List.flatMap_cons,List.take_succ_cons,List.take_succ_cons,List.zip_cons_cons,List.flatMap_cons,
   <-uX fs As k (by simpa using h),List.take_append,List.take_of_length_le (by simp [qN];omega)]
  congr 2
  simp [qN];omega
theorem Fls.take {fs:List FlP} (h:Fls w A fs) (k:Nat) (hk:k<=fs.length):Fls w A (fs.take k):=by
 obtain⟨As,h1,h2,h3⟩:=h;refine⟨As.take k,by rw [List.length_take,List.length_take,h1],?_,fun j p a hp ha=> ?_⟩
 ·have:=h2.pre hk;rw [uX fs As k h1]at this;rw [List.length_take,Nat.min_eq_left hk];exact this
 ·rw [List.getElem?_take]at hp ha;split at hp
  ·rename_i hjk;rw [if_pos hjk]at ha;exact h3 j p a hp ha
  ·cases hp
theorem ke (A:ae) (c:Nat) (fs:List FlP) (w:World) (hG:GoodF fs) (hf:Fls w A fs) (hc:fs.length<=c) (hm:c<=maxLen) :
  Calls zZZ 45 #[aw A fs.length c] w fun e w'=>e= .returned (ax ay 0)/\Below w.heap.size w w':=by
 have HG:=sqH hG;have hn6:=hG.len;have e6:decide ((6:Int)<(fs.length:Int))=false:=decide_eq_false wj;have e6':decide (6<fs.length)=false:=decide_eq_false wj;have hcm:(c:Int)<=9223372036854775807:=by unfold maxLen at hm;omega
 clear hG;go_enter func45,ntmps45;go_wp2_with fail;go_loopg [3,16,4] fs.length (fun gn u i v wr=>∃j:Nat,gn=fs.length - j/\i= ax ay j/\j<=fs.length/\Below w.heap.size w wr)
 case atStart=>exact⟨0,rfl,rfl,wj,Below.refl _ _⟩
 case round =>
  obtain⟨j,hgk,rfl,hj,hbl⟩:=hrel;have HGK:=sqH hgk;clear hgk;by_cases hlt:j<fs.length
  ·have hcc:decide (j<fs.length)=true:=decide_eq_true hlt;have hfl:=hf.below hbl;obtain⟨b,off,B,cb,rfl,hbb,c0,c1,c2,hrw,hwc,hcbm⟩:=hfl.at_ j hlt;have hft:=hfl.take j wj;have hk:=HG.o.key j hlt;have h1:=HG.o.one j hlt;have hfw:=HG.o.few j hlt;have hcr:=HG.o.crew j hlt;have htl:(fs.take j).length=j:=by rw [List.length_take];omega
   obtain⟨s,hs⟩:=wU (⟨fs[j].key.toArray⟩:ByteArray)
   have hsd:s.data.toList=fs[j].key:=by rw [hs]
   have hss:s.size<=140737488351232:=by
    have h2:s.data.toList.length=s.size:=by rw [Array.length_toList];rfl
    rw [hsd]at h2;omega
   rw [<-hs]at c0;rw [<-hsd]at hk h1;generalize fs[j].lead=ld at *
   generalize fs[j].wait=wt at *
   have hj0:=wX j
   have hj1:(j:Int)<(fs.length:Int):=wj;have hjc:(j:Int)<=(c:Int):=wj;obtain⟨HK,HT,H1,HCR⟩:=sqJ4 hk htl h1 hcr;have hP:=Arr.new wr 95 [az s,ax ay ld,aw B wt.length cb];have hb1:=hbl.alloc hbl.size (aA #[az s,ax ay ld,aw B wt.length cb] 95);have hft1:Fls (wr.alloc (aA #[az s,ax ay ld,aw B wt.length cb] 95)) (aC ⟨b,off,aB⟩) (fs.take j):=hft.below ((Below.refl _ _).alloc ab _);have hrw1:=hrw.alloc (aA #[az s,ax ay ld,aw B wt.length cb] 95);have hP':Arr (wr.alloc (aA #[az s,ax ay ld,aw B wt.length cb] 95)) wr.heap.size 95 [az s,ax ay ld,aw B wt.length cb]:=hP;clear hk h1 hcr hs hsd htl hft hrw hfl hP;go_wp2_with fail;generalize wr.alloc (aA #[az s,ax ay ld,aw B wt.length cb] 95)=w1 at *
   generalize wr.heap.size=gp at *
   refine wV (kB 0 rfl HK.o.1 w1 hss) fun w2 hb2=>?_;dsimp only;have hb12:=wg hb1 hb2;have hP2:=hP'.below hb2;have hft2:=hft1.below hb2;have hrw2:=hrw1.below hb2;have f0:=hP2.c0;have f2:=hP2.c2;clear c0 c1 c2;go_wp2_with fail;refine wp_region_held_drew (S:=(fun w'=>w'.cell? ⟨gp,0,aB⟩=aC (az s))) wm ?_ (fun hHeld=> ?_)
   ·exact(hP2.drew).c0
   have hB:=(Below.refl w2.heap.size w2).drew;generalize w2.drew=wn0 at *
   refine wM 0 ?_;refine wM 1 ?_;refine wM 2 ?_;refine wM 3 ?_;refine wM 4 ?_;refine wQ 5 fun K hK=>?_;have hfi:=kK (aC ⟨b,off,aB⟩) c (fs.take j) s wn0 (by rw [HT.o];omega) (hft2.below hB);rw [H1.o,HT.o]at hfi;go_simp;refine(hfi).mono ?_;rintro e5 w5 ⟨rfl,hb5⟩;dsimp only;refine ka hK ?_ (Below wn0.heap.size wn0) (fun W=>True) ?_ ?_ (fun wn1 hHeld hst hnew=> ?_)
   ·(exact((hP2.below hB).below hb5).c0)
   ·(exact hb5)
   ·(trivial)
   have hB:=wg hB hst;clear hst;clear hK K
   refine wM 6 ?_;refine wM 7 ?_;refine wM 8 ?_;refine wM 9 ?_;refine wM 10 ?_;refine wpAnyH_done wm ?_ _;clear hHeld;have hP5:=hP2.below hB;have hrw5:=hrw2.below hB;have hb15:=wg hb12 hB;obtain⟨f0,f1,f2⟩:=sqC3 hP5;have e5:decide ((5:Int)<(wt.length:Int))=false:=decide_eq_false wj;have e5':decide (5<wt.length)=false:=decide_eq_false wj;clear hP2 hft2 hrw2 hb12 hB;dsimp only [Exit.then];go_wp2_with fail;refine(ud s ld B cb wt wn1 wj hrw5).mono ?_;rintro e_ w6 ⟨v6,rfl,ho6,hb6⟩;dsimp only;have hb16:=wg hb15 hb6;obtain⟨A6,c6,rfl,hc6,hr6⟩:=Rd.of_own' ho6;have hl6:(ld::wt).length=wt.length+1:=rfl;obtain⟨l6,hl6e⟩:=wU (ld::wt)
   rw [<-hl6e]at hr6 hl6;have HCR6:=sqH (show CrewOk l6 from by rw [hl6e];exact HCR.o);have hcm6:c6<=maxLen:=by
    rcases ho6.2 with ⟨h1,h2⟩ | ⟨_,cap,_,h1,_,_,_,h2,_⟩
    ·omega
    ·injection h1 with _ _ h3;subst h3;exact h2
   have hc63:(c6:Int)<=9223372036854775807:=by unfold maxLen at hcm6;omega
   obtain⟨m6,hm6⟩:=wU (wt.length+1)
   rw [<-hm6]at hl6 hr6 hc6 ⊢
   have hm66:m6<=6:=wj;clear ho6 hl6e hP5 hrw5 f0 f1 f2 hm6;go_wp2_with fail;go_loopg [9,10,46] m6 (fun gn a b i wr=>∃q:Nat,gn=m6 - q/\i= ax ay q/\q<=m6/\Below w6.heap.size w6 wr)
   case atStart=>exact⟨0,rfl,rfl,wj,Below.refl _ _⟩
   case round =>
    obtain⟨q,hgq,rfl,hq,hbq⟩:=hrel;have HGQ:=sqH hgq;clear hgq;have hb1q:=wg hb16 hbq;by_cases hqt:q<m6
    ·have hqq:decide (q<m6)=true:=decide_eq_true hqt;have hql:q<l6.length:=wj
     obtain⟨b6,off6,rfl,hbb6,hcell⟩:=(hr6.below hbq).2 wj;have cx:=hcell q (ax ay l6[q]) (by rw [ins,List.getElem?_map,List.getElem?_eq_getElem hql];rfl);obtain⟨hw1,hw2⟩:=HCR6.o q hql;have hrt:=(hr6.below hbq).pre (k:=q) wj;rw [Nat.mul_one,show(ins l6).take q=ins (l6.take q) by simp [ins]]at hrt;have htq:(l6.take q).length=q:=by rw [List.length_take];omega
     have hwho:=jx l6[q] wr;rw [show decide (1<=l6[q]/\l6[q]<=1000)=true by simpa using hw1]at hwho;have hcon:=yd (aC ⟨b6,off6,aB⟩) c6 (l6.take q) l6[q] wr wj (by rw [htq];exact hrt);rw [hw2,htq]at hcon;generalize l6[q]=z at *
     have HWH:=sqH hwho;have HCO:=sqH hcon;have hq0:=wX q
     have hq1:(q:Int)<(m6:Int):=wj;have hqc:(q:Int)<=(c6:Int):=wj;clear hcell hw1 hw2 hrt htq hwho hcon;go_wp2_with fail;refine HWH.o.mono ?_;rintro e_ _ ⟨rfl,rfl⟩;dsimp only;go_wp2_with fail;refine HCO.o.mono ?_;rintro e_ _ ⟨rfl,rfl⟩;dsimp only;go_wp2_with fail;go_roundg (m6 - (q+1))
     case measure=>exact wW HGQ
     case rel=>exact⟨q+1,rfl,by go_num,wj,hbq⟩
    ·obtain rfl:q=m6:=by omega
     have hqq:decide (q<q)=false:=ws;go_wp2_with fail;go_roundg (fs.length - (j+1))
     case measure=>exact wW HGK
     case rel=>exact⟨j+1,rfl,by go_num,wj,hb1q⟩
  ·obtain rfl:j=fs.length:=by omega
   have hcc:decide (fs.length<fs.length)=false:=ws;go_wp2_with fail;go_ret;exact⟨rfl,hbl⟩
end Go.Proofs.YtcjndgldjhmbgaaGreat
