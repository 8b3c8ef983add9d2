/- Lemmas, as stated. -/
import Derived.Test.YtaboknhfiijipaaGreatQO07
set_option linter.unusedVariables false
set_option linter.unusedSimpArgs false
set_option maxRecDepth 100000
set_option maxHeartbeats 8000000
open Go.Proofs.Tryz
open Go.Proofs.Tryz renaming prog->zZZ
open Go.Value renaming slice->aA,int->aB,string->aD
open Go.IntKind renaming i64->aC
open Go.Obj renaming cells->aE
open Option renaming none->aF,some->aG
namespace Go.Proofs.YtaboknhfiijipaaGreat
open Go.RowKit
variable {c e g n size:Nat} {v:Value} {w w':World} {b l l':ai} {A A':aj} {xs:ak}
structure Rdr (W:World) (g:Nat) (A:aj) (c:Nat) (l:ai) (e:Nat):Prop where
 arr:Arr W g 180 [aA A l.length c,aB aC e]
 rd:Rd W 1 A l.length (bys l)
 cap:l.length<=c
 ne:∀b off,A=aG ⟨b,off,aF⟩->0<l.length->b≠g
 small:l.length<=2000
 cm:c<=maxLen
section
variable {W W':World} {g c e:Nat} {A:aj} {l:ai}
theorem zR (h:Below w.heap.size w w') (row:Option Nat):w.grownBy w' row:=⟨h.os,h.tape,h.output,h.size,fun k hk _=>h.block k hk⟩
theorem Rd.far {A:aj} (h:Rd w size A n xs) (hg:w.grownBy w' (aG g)) (hne:∀b off,A=aG ⟨b,off,aF⟩->0<n->b≠g):Rd w' size A n xs :=
 ⟨h.1,fun hn=>by
  obtain⟨b,off,e,hb,hc⟩:=h.2 hn
  have h1:=hne b off e hn
  exact⟨b,off,e,Nat.lt_of_lt_of_le hb hg.size,fun j u hu=>(World.cell?_of_block (hg.block b hb (by intro e';cases e';exact h1 rfl))).trans (hc j u hu)⟩⟩
theorem Rdr.below (h:Rdr W g A c l e) (hb:Below W.heap.size W W'):Rdr W' g A c l e:=⟨h.arr.below hb,h.rd.below hb,h.cap,h.ne,h.small,h.cm⟩
theorem Rdr.lt (h:Rdr W g A c l e):g<W.heap.size:=h.arr.lt
theorem Rdr.put (h:Rdr W g A c l e) {c':Nat} {W1:World} (hb:Below W.heap.size W W1) (ho:OwnB 5 W.heap.size W1 A' c' l') (hl:l'.length<=2000) (e':Nat) :
  Rdr ((W1.setCell ⟨g,0,aF⟩ (aA A' l'.length c')).setCell ⟨g,1,aF⟩ (aB aC e')) g A' c' l' e'/\W.grownBy ((W1.setCell ⟨g,0,aF⟩ (aA A' l'.length c')).setCell ⟨g,1,aF⟩ (aB aC e')) (aG g):=by
 have ha:=((h.arr.below hb).set (k:=0) ab (aA A' l'.length c')).set (k:=1) ab (aB aC e');have hg:=((zR hb (aG g)).trans (zU W1 g 0 (aA A' l'.length c'))).trans (zU _ g 1 (aB aC e'));have hne:∀b off,A'=aG ⟨b,off,aF⟩->0<l'.length->b≠g:=fun b off e _=>by
  have:=(ho.own.lt b (by rw [e];rfl)).1;have:=h.lt;omega
 refine⟨⟨ha,?_,ho.cap,hne,hl,?_⟩,hg⟩
 ·exact ho.rd.far ((zU W1 g 0 (aA A' l'.length c')).trans (zU _ g 1 (aB aC e'))) hne
 ·rcases ho.own.2 with ⟨h1,_⟩ | ⟨_,cap,_,h1,_,_,_,h2,_⟩
  ·injection h1 with _ _ h3;subst h3;exact Nat.zero_le _
  ·injection h1 with _ _ h3;subst h3;exact h2
end
def jq (A A':aj) (sz:Nat) (l':ai):Prop:=∀b off,A'=aG ⟨b,off,aF⟩->0<l'.length->(∃off',A=aG ⟨b,off',aF⟩)\/sz<=b
theorem QV:∀(l:ai) (i n:Nat),(vm i n l).2.2≠0->(vm i n l).1=0
 | [],i,n,_=>rfl
 | x::r,i,n,h=>by
  simp only [vm]at h ⊢
  split at h
  ·rename_i h1
   rw [if_pos h1]
   split at h
   ·rename_i h2;rw [if_pos h2]
   ·exact absurd rfl h
  ·rename_i h1
   rw [if_neg h1]
   split at h
   ·rename_i h2;rw [if_pos h2]
   ·rename_i h2;rw [if_neg h2];exact QV r _ _ h
theorem kS:∀(l:ai) (i n:Nat),(vm i n l).2.1.length<=l.length
 | [],i,n=>Nat.le_refl _
 | x::r,i,n=>by
  simp only [vm]
  split
  ·split
   ·exact Nat.zero_le _
   ·simp only [List.length_cons];omega
  ·split
   ·exact Nat.zero_le _
   ·have:=kS r (i+1) (n+x.toNat % 128*128 ^ i);simp only [List.length_cons];omega
theorem xW:∀(l:ai) (i n:Nat),(vm i n l).1<=4294967295
 | [],i,n=>by simp [vm]
 | x::r,i,n=>by
  simp only [vm]
  split
  ·split
   ·exact Nat.zero_le _
   ·dsimp only;omega
  ·split
   ·exact Nat.zero_le _
   ·exact xW r _ _
theorem j5 (l:ai):(uH l).2.1.length<=l.length:=by
 have h:=kS l 0 0;unfold uH zA;generalize vm 0 0 l=x at *
 obtain⟨n,r,e⟩:=x;dsimp only at h ⊢
 split
 ·exact Nat.zero_le _
 ·split
  ·exact Nat.zero_le _
  ·split
   ·exact Nat.zero_le _
   ·simp only [List.length_drop];omega
def Zt (l:ai) (e:Nat):Nat×ai×Nat:=if e≠0 then (0,l,e) else zA l
def ZJ (l:ai) (e:Nat):ai×ai×Nat:=if e≠0 then ([],l,e) else uH l
def uI (n:Nat) (l:ai) (e:Nat):ai×ai×Nat:=if e≠0 then ([],l,e) else if l.length<n then ([],l,8) else (l.take n,l.drop n,0)
theorem Zu (h:Rdr w g A c l e) :
  Calls zZZ 107 #[.pointer (aG ⟨g,0,aF⟩)] w fun x w'=>∃A' c',x= .returned (aB aC ((Zt l e).1:Nat))/\Rdr w' g A' c' (Zt l e).2.1 (Zt l e).2.2/\w.grownBy w' (aG g)/\jq A A' w.heap.size (Zt l e).2.1:=by
 obtain⟨f0,f1⟩:=sqC2 h.arr;by_cases e0:e=0
 ·have hfin:Zt l e=zA l:=by rw [Zt,if_neg (by simpa using e0)]
  rw [hfin];obtain⟨m,r,er,hrd⟩:∃m r er,zA l=(m,r,er):=⟨_,_,_,rfl⟩
  have hrl:=kS l 0 0;have HR:=sqH (fun w' hr=>y9 (A:=A) (n:=l.length) (c:=c) (w:=w') (er:Int) rfl hrd rfl h.cap (by have:=h.small;omega) hr);rw [show vm 0 0 l=(m,r,er) from hrd]at hrl;rw [hrd];have hsm:=h.small;dsimp only at hrl ⊢
  have e1:((e:Int) != 0)=false:=by rw [bne_eq_false_iff_eq];omega
  clear e0 hfin hrd;go_enter func107,ntmps107;go_wp2_with fail;refine(HR.o w h.rd).mono ?_;rintro e_ w1 ⟨A1,c1,rfl,ho1,hb1⟩;dsimp only;have hA1:=h.arr.below hb1;obtain⟨k0,k1⟩:=sqC2 hA1;obtain⟨z0,z1⟩:=sqF2 hA1;have hA2:=hA1.set (k:=0) ab (aA A1 r.length c1);have k2:=hA2.c1;have z2:=hA2.frozen 1;have hp:=h.put hb1 ho1 wu er;clear f0 f1;go_wp2_with fail;go_ret;exact⟨A1,c1,rfl,hp.1,hp.2,fun b off e _=> .inr (ho1.own.lt b (by rw [e];rfl)).1⟩
 ·have hfin:Zt l e=(0,l,e):=by rw [Zt,if_pos e0]
  rw [hfin];have e1:((e:Int) != 0)=true:=by rw [bne_iff_ne];omega
  clear e0 hfin;go_enter func107,ntmps107;go_wp2_with fail;go_ret;exact⟨A,c,rfl,h,World.grownBy.refl _ _,fun b off e _=> .inl ⟨off,e⟩⟩
theorem z10 (h:Rdr w g A c l e) :
  Calls zZZ 108 #[.pointer (aG ⟨g,0,aF⟩)] w fun x w'=>∃A' c',x= .returned (aD ⟨(ZJ l e).1.toArray⟩)/\Rdr w' g A' c' (ZJ l e).2.1 (ZJ l e).2.2/\w.grownBy w' (aG g)/\jq A A' w.heap.size (ZJ l e).2.1:=by
 obtain⟨f0,f1⟩:=sqC2 h.arr;by_cases e0:e=0
 ·have hfin:ZJ l e=uH l:=by rw [ZJ,if_neg (by simpa using e0)]
  rw [hfin];obtain⟨m,r,er,hrd⟩:∃m r er,uH l=(m,r,er):=⟨_,_,_,rfl⟩
  have hrl:=j5 l;have HR:=sqH (fun w' hr=>ZY (A:=A) (n:=l.length) (c:=c) (w:=w') (er:Int) rfl hrd rfl h.cap (by have:=h.small;omega) hr);rw [hrd]at hrl;rw [hrd];have hsm:=h.small;dsimp only at hrl ⊢
  have e1:((e:Int) != 0)=false:=by rw [bne_eq_false_iff_eq];omega
  clear e0 hfin hrd;go_enter func108,ntmps108;go_wp2_with fail;refine(HR.o w h.rd).mono ?_;rintro e_ w1 ⟨A1,c1,rfl,ho1,hb1⟩;dsimp only;have hA1:=h.arr.below hb1;obtain⟨k0,k1⟩:=sqC2 hA1;obtain⟨z0,z1⟩:=sqF2 hA1;have hA2:=hA1.set (k:=0) ab (aA A1 r.length c1);have k2:=hA2.c1;have z2:=hA2.frozen 1;have hp:=h.put hb1 ho1 wu er;clear f0 f1;go_wp2_with fail;go_ret;exact⟨A1,c1,rfl,hp.1,hp.2,fun b off e _=> .inr (ho1.own.lt b (by rw [e];rfl)).1⟩
 ·have hfin:ZJ l e=([],l,e):=by rw [ZJ,if_pos e0]
  rw [hfin];have e1:((e:Int) != 0)=true:=by rw [bne_iff_ne];omega
  clear e0 hfin;go_enter func108,ntmps108;go_wp2_with fail;go_ret;exact⟨A,c,rfl,h,World.grownBy.refl _ _,fun b off e _=> .inl ⟨off,e⟩⟩
theorem z0z (n:Nat) (N:Int) (hN:(n:Int)=N) (hn:n<=2000) (h:Rdr w g A c l e) :
  Calls zZZ 109 #[.pointer (aG ⟨g,0,aF⟩),aB aC N] w fun x w'=>∃A1 c1 A' c',x= .returned (aA A1 (uI n l e).1.length c1)/\(uI n l e).1.length<=c1/\Rd w' 1 A1 (uI n l e).1.length (bys (uI n l e).1)/\Rdr w' g A' c' (uI n l e).2.1 (uI n l e).2.2/\w.grownBy w' (aG g)/\jq A A' w.heap.size (uI n l e).2.1:=by
 subst hN;obtain⟨f0,f1⟩:=sqC2 h.arr;obtain⟨z0,z1⟩:=sqF2 h.arr;by_cases e0:e=0
 ·have e1:((e:Int)==0)=true:=by rw [beq_iff_eq];omega
  have e2:((e:Int) != 0)=false:=by rw [bne_eq_false_iff_eq];omega
  by_cases hlt:l.length<n
  ·have hfin:uI n l e=([],l,8):=by rw [uI,if_neg (by simpa using e0),if_pos hlt]
   rw [hfin];have e3:decide (l.length<n)=true:=by simpa using hlt
   have hA2:=h.arr.set (k:=1) ab (aB aC 8);obtain⟨k0,k1⟩:=sqC2 hA2;have hR:Rdr (w.setCell ⟨g,1,aF⟩ (aB aC 8)) g A c l 8:=⟨hA2,h.rd.far (zU w g 1 _) h.ne,h.cap,h.ne,h.small,h.cm⟩
   have hG:=zU w g 1 (aB aC 8);have HR:=sqH hR;clear hfin e0 hlt hR;go_enter func109,ntmps109;go_wp2_with fail;go_ret;exact⟨aF,0,A,c,rfl,Nat.zero_le _,Rd.nil_,HR.o,hG,fun b off e _=> .inl ⟨off,e⟩⟩
  ·have hfin:uI n l e=(l.take n,l.drop n,0):=by rw [uI,if_neg (by simpa using e0),if_neg hlt]
   rw [hfin];have e3:decide (l.length<n)=false:=by simpa using hlt
   have hle:(n:Int)<=(c:Int):=by have:=h.cap;omega
   have hle2:(n:Int)<=(l.length:Int):=wu;have hcm:(c:Int)<=9223372036854775807:=by have:=h.cm;unfold maxLen at this;omega
   have hll:(l.drop n).length=l.length - n:=List.length_drop;have htl:(l.take n).length=n:=by rw [List.length_take];omega
   have r1:=h.rd.pre (k:=n) wu;rw [Nat.mul_one,Qy]at r1;have k0n:n<=l.length:=wu;have hcap:=h.cap;have hng:=h.ne;have r2:=h.rd.cut (k:=n) (cap:=c) k0n hcap;rw [Nat.mul_one,xi]at r2;obtain⟨A',hA'⟩:=wY ((if c=n then A else A.map (·.add n)))
   rw [<-hA']at r2;have hA2:=h.arr.set (k:=0) ab (aA A' (l.length - n) (c - n));have hG:=zU w g 0 (aA A' (l.length - n) (c - n));have hmv:∀b off,A'=aG ⟨b,off,aF⟩->0<l.length - n->∃off',A=aG ⟨b,off',aF⟩:=fun b off e' h0=>by
    obtain⟨b2,o2,e2,_⟩:=h.rd.2 (show 0<l.length by omega);rw [e2]at hA';have:b=b2:=by
     rw [hA']at e';split at e'
     ·cases e';rfl
     ·simp only [Option.map_some,Option.some.injEq]at e';have:=congrArg Addr.block e';rw [VQ]at this;exact this.symm
    rw [this];exact⟨o2,e2⟩
   have hne':∀b off,A'=aG ⟨b,off,aF⟩->0<l.length - n->b≠g:=fun b off e' h0=>by
    obtain⟨o2,e2⟩:=hmv b off e' h0;exact hng b o2 e2 wu
   have HM:=sqH (show jq A A' w.heap.size (l.drop n) from fun b off e' h0=> .inl (hmv b off e' (by rw [hll]at h0;exact h0)));have hR:Rdr (w.setCell ⟨g,0,aF⟩ (aA A' (l.length - n) (c - n))) g A' (c - n) (l.drop n) 0:=by
    refine⟨?_,?_,by rw [hll];omega,by rw [hll];exact hne',by rw [hll];have:=h.small;omega,by have:=h.cm;omega⟩
    ·rw [hll];have he0:(e:Int)=((0:Nat):Int):=wu
     rw [he0]at hA2;exact hA2
    ·rw [hll];exact r2.far hG hne'
   have r1':=r1.far hG (fun b off e' h0=>hng b off e' wu);have HR:=sqH hR;have HA:=sqH hA';rw [htl];have hlt':¬n<=c->False:=fun h=>h wu;have hnc:n<=c:=wu;clear hfin e0 hlt hR hA' hne' r2 r1 hll htl hA2;go_enter func109,ntmps109
   refine wL ?_;intros;rw [<-HA.o];go_ret;exact⟨A,c,A',c - n,rfl,hnc,r1',HR.o,hG,HM.o⟩
 ·have hfin:uI n l e=([],l,e):=by rw [uI,if_pos e0]
  rw [hfin];have e1:((e:Int)==0)=false:=by rw [beq_eq_false_iff_ne];omega
  have e2:((e:Int) != 0)=true:=by rw [bne_iff_ne];omega
  clear e0 hfin;go_enter func109,ntmps109;go_wp2_with fail;go_ret;exact⟨aF,0,A,c,rfl,Nat.zero_le _,Rd.nil_,h,World.grownBy.refl _ _,fun b off e _=> .inl ⟨off,e⟩⟩
theorem XN {t rest:ai} (h:uH b=(t,rest,0)):t.length<=2000/\b=txt t++rest:=by
 obtain⟨n,r,e,hn⟩:∃n r e,zA b=(n,r,e):=⟨_,_,_,rfl⟩
 rw [uH,hn]at h;dsimp only at h;by_cases he:e≠0
 ·rw [if_pos he]at h;simp only [Prod.mk.injEq]at h;exact absurd h.2.2 he
 ·rw [if_neg he]at h;have he:e=0:=by simpa using he
  by_cases h1:2000<n
  ·rw [if_pos h1]at h;simp at h
  ·rw [if_neg h1]at h;by_cases h2:r.length<n
   ·rw [if_pos h2]at h;simp at h
   ·rw [if_neg h2]at h;simp only [Prod.mk.injEq,and_true]at h;obtain⟨h3,h4⟩:=h;subst he;have hb:=(xz hn).2;have hl:t.length=n:=by rw [<-h3,List.length_take];omega
    refine⟨wu,?_⟩;rw [txt,hl,List.append_assoc,hb,<-h3,<-h4,List.take_append_drop]
def vt (l:ai):PartP×ai×Nat :=
 let a:=ZJ l 0
 let b:=uI 32 a.2.1 a.2.2
 let c:=Zt b.2.1 b.2.2
 (⟨a.1,kY b.1,c.1⟩,c.2.1,c.2.2)
def zW:Nat->List PartP->List UInt8->Nat×List PartP×ai
 | 0,out,l=>(0,out,l)
 | k+1,out,l=>if (vt l).2.2≠0 then ((vt l).2.2, [], []) else zW k (out++ [(vt l).1]) (vt l).2.1
def kr (b:ai):List PartP×Nat :=
 if 2000<b.length then ([],1) else if [65,77,49].isPrefixOf b=false then ([],3) else
 if (zA (b.drop 3)).2.2≠0 then ([],(zA (b.drop 3)).2.2) else if 8<(zA (b.drop 3)).1 then ([],1) else
 if (zW (zA (b.drop 3)).1 [] (zA (b.drop 3)).2.1).1≠0 then ([],(zW (zA (b.drop 3)).1 [] (zA (b.drop 3)).2.1).1) else
 if 0<(zW (zA (b.drop 3)).1 [] (zA (b.drop 3)).2.1).2.2.length then ([],3) else
 if chk (zW (zA (b.drop 3)).1 [] (zA (b.drop 3)).2.1).2.1≠0 then ([],chk (zW (zA (b.drop 3)).1 [] (zA (b.drop 3)).2.1).2.1) else
 ((zW (zA (b.drop 3)).1 [] (zA (b.drop 3)).2.1).2.1,0)
theorem Jl (A:aj) (n c g:Nat) (l:ai) (w:World) (hl:l.length=n) (hc:n<=c) (hr:Rd w 1 A n (bys l)) (h2:Rd w 1 (aG ⟨g,0,aF⟩) 3 (bys [65,77,49])) :
  Calls zZZ 106 #[aA A n c,aA (aG ⟨g,0,aF⟩) 3 3] w fun e w'=>(∃A' c',e= .returned (.tuple #[aA A' (if [65,77,49].isPrefixOf l then (l.drop 3).length else n) c',.bool ([65,77,49].isPrefixOf l)]) /\
   ([65,77,49].isPrefixOf l=true->Rd w 1 A' (l.drop 3).length (bys (l.drop 3))/\(l.drop 3).length<=c'/\c'<=c/\jq A A' w.heap.size (l.drop 3)))/\w=w':=by
 rcases Nat.eq_zero_or_pos n with h0 | h0
 ·subst h0;obtain rfl:l= []:=List.eq_nil_of_length_eq_zero hl;refine(Tryz.bytes_CutPrefix_e1 A (aG ⟨g,0,aF⟩) c 3 3 wu w).mono fun e w' h=>⟨⟨A,c,?_,fun h=>by simp at h⟩,h.2.symm⟩
  rw [h.1];rfl
 ·obtain⟨b,off,rfl,hb,hcell⟩:=hr.2 h0;obtain⟨b2,o2,e2,hb2,hcell2⟩:=h2.2 wu;cases e2
  refine(Tryz.bytes_CutPrefix b off n c g 0 3 3 (l.map fun x=>(x.toNat:Int)) [65,77,49] w (by simpa using hl) rfl hc (fun i hi=> ?_) (fun i hi=> ?_)).mono fun e w' h=>⟨?_,h.2.symm⟩
  ·refine hcell i _ ?_;have:i<l.length:=by omega
   simp [bys,this]
  ·refine hcell2 i _ ?_
   match i,hi with
   | 0,_=>rfl
   | 1,_=>rfl
   | 2,_=>rfl
  ·have hbo:Lib.bytesOf (l.map fun x=>(x.toNat:Int))=l:=by
    simp only [Lib.bytesOf,List.map_map]
    conv=>rhs;rw [<-List.map_id l]
    exact List.map_congr_left fun a _=>by simp
   have hb3:Lib.bytesOf [65,77,49]= [65,77,49]:=rfl;obtain⟨h1,_⟩:=h;rw [Lib.bytesTrimPrefix,hbo,hb3,Lib.hasPrefix]at h1;by_cases hp: [65,77,49].isPrefixOf l=true
   ·rw [hp,if_pos rfl,Lib.sliceFrom]at h1;have h3:3<=l.length:=by
     have:=List.IsPrefix.length_le (List.isPrefixOf_iff_prefix.1 hp);simpa using this
    have hr':=hr.cutAt (k:=3) (c:=c) wu hc;rw [xi]at hr';have hdl:(l.drop 3).length=n - 3:=by rw [List.length_drop,hl]
    refine⟨_,c - 3,?_,fun _=>⟨by rw [hdl];exact hr',wu,wu,?_⟩⟩
    ·rw [h1,hp,if_pos rfl,hdl];rfl
    ·intro b' o' e' _;split at e'
     ·cases e';exact .inl ⟨_,rfl⟩
     ·cases e';exact .inl ⟨_,rfl⟩
   ·have hp: [65,77,49].isPrefixOf l=false:=Bool.eq_false_iff.2 hp;rw [hp,if_neg aa]at h1;refine⟨aG ⟨b,off,aF⟩,c,?_,fun h=>by rw [hp]at h;cases h⟩;rw [h1,hp];rfl
theorem V5 (l:ai) (e:Nat):(ZJ l e).2.1.length<=l.length:=by
 unfold ZJ;split
 ·exact Nat.le_refl _
 ·exact j5 l
theorem V2 (n:Nat) (l:ai) (e:Nat):(uI n l e).2.1.length<=l.length/\(uI n l e).1.length<=l.length:=by
 unfold uI;split
 ·exact⟨Nat.le_refl _,Nat.zero_le _⟩
 ·split
  ·exact⟨Nat.le_refl _,Nat.zero_le _⟩
  ·simp only [List.length_drop,List.length_take];omega
theorem Xy (l:ai) (e:Nat):(Zt l e).2.1.length<=l.length/\(Zt l e).1<=4294967295:=by
 unfold Zt;split
 ·exact⟨Nat.le_refl _,Nat.zero_le _⟩
 ·exact⟨kS l 0 0,xW l 0 0⟩
theorem V4 (l:ai) (e:Nat):(ZJ l e).1.length<=l.length:=by
 unfold ZJ;split
 ·exact Nat.zero_le _
 ·have h:=kS l 0 0;unfold uH zA;generalize vm 0 0 l=x at *
  obtain⟨n,r,e⟩:=x;dsimp only at h ⊢
  split
  ·exact Nat.zero_le _
  ·split
   ·exact Nat.zero_le _
   ·split
    ·exact Nat.zero_le _
    ·simp only [List.length_take];omega
def Far (v:Value) (A:aj) (l:ai):Prop:=∀b off,A=aG ⟨b,off,aF⟩->0<l.length->v.ownBlock≠aG b
theorem Far.moved {sz:Nat} (h:Far v A l) (hm:jq A A' sz l') (hl:l'.length<=l.length) (hv:∀k,v.ownBlock=aG k->k<sz):Far v A' l':=fun b off e h0=>by
 rcases hm b off e h0 with ⟨o,ho⟩ | hb
 ·exact h b o ho wu
 ·intro hk;have:=hv b hk;omega
theorem Qb {e:TypeId} (h:w.ownsRow (g+1) e size v n xs) (hg:w.grownBy w' (aG g)):w'.ownsRow (g+1) e size v n xs :=
 h.kept hg (.inr fun he=>by have:=(h.lt g he).1;omega)
theorem Rdr.grown {W W':World} (h:Rdr W g A c l e) (hg:W.grownBy W' v.ownBlock) (hv:v.ownBlock≠aG g) (hf:Far v A l):Rdr W' g A c l e:=by
 refine⟨?_,⟨h.rd.1,fun hn=> ?_⟩,h.cap,h.ne,h.small,h.cm⟩
 ·exact(hg.block g h.lt (fun e=>hv e.symm)).trans h.arr
 ·obtain⟨b,off,e,hb,hc⟩:=h.rd.2 hn;have h1:=hf b off e hn;exact⟨b,off,e,Nat.lt_of_lt_of_le hb hg.size,fun j u hu=>(World.cell?_of_block (hg.block b hb (fun e=>h1 e.symm))).trans (hc j u hu)⟩
theorem yt {B:Nat} {a:World} (h:Below B a w) (hg:w.grownBy w' (aG g)) (hB:B<=g) (hs:B<=w.heap.size):Below B a w':=h.grown hg hs (fun k hk=>by cases hk;exact hB)
theorem Y9 (A:aj) (n c:Nat) (l:ai) (w:World) (hl:l.length=n) (hc:n<=c) (hm:c<=maxLen) (hr:Rd w 1 A n (bys l)) :
  Calls zZZ 59 #[aA A n c] w fun e w'=>∃v,e= .returned (.tuple #[v,aB aC ((kr l).2:Nat)])/\w'.ownsRow w.heap.size 85 3 v (kr l).1.length (pcs (kr l).1)/\Below w.heap.size w w':=by
 have HL:=sqH hl;by_cases hbig:2000<n
 ·have hfin:kr l=([],1):=by rw [kr,if_pos wu]
  have hcm:n<=9223372036854775807:=by unfold maxLen at hm;omega
  rw [hfin];clear hfin hl;go_enter func59,ntmps59;go_wp2_with fail;go_ret2;exact⟨_,rfl,World.ownsRow_nil _ _ _ _,Below.refl _ _⟩
 have hfin1:kr l=if [65,77,49].isPrefixOf l=false then ([],3) else
   if (zA (l.drop 3)).2.2≠0 then ([],(zA (l.drop 3)).2.2) else if 8<(zA (l.drop 3)).1 then ([],1) else
   if (zW (zA (l.drop 3)).1 [] (zA (l.drop 3)).2.1).1≠0 then ([],(zW (zA (l.drop 3)).1 [] (zA (l.drop 3)).2.1).1) else
   if 0<(zW (zA (l.drop 3)).1 [] (zA (l.drop 3)).2.1).2.2.length then ([],3) else
   if chk (zW (zA (l.drop 3)).1 [] (zA (l.drop 3)).2.1).2.1≠0 then ([],chk (zW (zA (l.drop 3)).1 [] (zA (l.drop 3)).2.1).2.1) else
   ((zW (zA (l.drop 3)).1 [] (zA (l.drop 3)).2.1).2.1,0):=by rw [kr,if_neg wu]
 generalize kr l=res at *
 have hb0:=ws w (aE #[aB .u8 65,aB .u8 77,aB .u8 49] 5 (3,4));have hr0:=hr.alloc (aE #[aB .u8 65,aB .u8 77,aB .u8 49] 5 (3,4));have hq0:Rd (w.alloc (aE #[aB .u8 65,aB .u8 77,aB .u8 49] 5 (3,4))) 1 (aG ⟨w.heap.size,0,aF⟩) 3 (bys [65,77,49]):=by
  refine⟨rfl,fun _=>⟨_,0,rfl,ab,fun j u hu=> ?_⟩⟩;rw [<-hu,Nat.zero_add];have h1:(w.alloc (aE #[aB .u8 65,aB .u8 77,aB .u8 49] 5 (3,4))).heap[w.heap.size]?=aG (aE #[aB .u8 65,aB .u8 77,aB .u8 49] 5 (3,4)):=World.alloc_heap_new w _;simp only [World.cell?,h1,Option.isSome_none,Bool.false_eq_true,if_false];simp [bys]
 have hkc:=fun (w:World) (C:Array Value) (n c:Nat)=>Lib.run_convert_bytes_const (P:=zZZ) w 26 5 C n c underlying26 underlying5;have HCP:=sqH (Jl A n c w.heap.size l _ hl hc hr0 hq0);have HF1:=sqH hfin1;clear hfin1 hl hq0 hr0;generalize hpre: [65,77,49].isPrefixOf l=pre at HCP HF1;go_enter func59,ntmps59;go_wp2_with fail;refine HCP.o.mono ?_;rintro e_ w1 ⟨⟨A1,c1,rfl,hcut⟩,rfl⟩;dsimp only;cases pre with
 | false =>
  have hres:res=([],3):=by rw [HF1.o,if_pos rfl]
  have HR:=sqH hres;clear hres hpre;go_wp2_with fail;go_ret2;rw [HR.o];exact⟨_,rfl,World.ownsRow_nil _ _ _ _,hb0⟩
 | true =>
  obtain⟨hr1,hc1,hc1c,hm1⟩:=hcut rfl;have hdl:(l.drop 3).length<=2000:=by rw [List.length_drop,HL.o];omega
  simp only [if_true];have HF2:=sqH (show res=if (zA (l.drop 3)).2.2≠0 then ([],(zA (l.drop 3)).2.2) else if 8<(zA (l.drop 3)).1 then ([],1) else
   if (zW (zA (l.drop 3)).1 [] (zA (l.drop 3)).2.1).1≠0 then ([],(zW (zA (l.drop 3)).1 [] (zA (l.drop 3)).2.1).1) else
   if 0<(zW (zA (l.drop 3)).1 [] (zA (l.drop 3)).2.1).2.2.length then ([],3) else
   if chk (zW (zA (l.drop 3)).1 [] (zA (l.drop 3)).2.1).2.1≠0 then ([],chk (zW (zA (l.drop 3)).1 [] (zA (l.drop 3)).2.1).2.1) else
   ((zW (zA (l.drop 3)).1 [] (zA (l.drop 3)).2.1).2.1,0) from by rw [HF1.o,if_neg aa])
  have HPRE:=sqH hpre;clear HF1 HCP hcut hpre;generalize l.drop 3=L at *
  generalize w.alloc (aE #[aB .u8 65,aB .u8 77,aB .u8 49] 5 (3,4))=w1 at *
  obtain⟨g,hg⟩:=wY w1.heap.size
  obtain⟨w2,hw2⟩:=wY (w1.alloc (aE #[aA A1 L.length c1,aB aC 0] 180))
  have hR2:Rdr w2 g A1 c1 L 0:=by
   rw [hw2,hg];exact⟨Arr.new w1 _ _,hr1.alloc _,hc1,fun b off e h0=>by
    obtain⟨_,_,e2,hb2,_⟩:=hr1.2 h0;rw [e]at e2;cases e2;omega,hdl,wu⟩
  have hb2:Below w.heap.size w w2:=by rw [hw2];exact hb0.alloc hb0.size _
  have hgw:w.heap.size<=g:=by rw [hg];exact hb0.size
  have hg2:g<w2.heap.size:=hR2.lt;have HW2:=sqH hw2;have HG:=sqH hg;obtain⟨m,r,er,hrd⟩:∃m r er,zA L=(m,r,er):=⟨_,_,_,rfl⟩
  have hmz:=QV L 0 0;have hml:=kS L 0 0;have hmb:=xW L 0 0;rw [show vm 0 0 L=(m,r,er) from hrd]at hmz hml hmb;rw [hrd]at HF2;have HN:=Zu hR2;rw [Zt,if_neg aa,hrd]at HN;dsimp only at HF2 HN hmz hml hmb;have HN':=sqH HN;clear hw2 hg hr1 hm1 hb0 hr HN hrd;go_wp2_with fail;rw [<-HG.o,<-HW2.o];refine(HN'.o).mono ?_;rintro e_ w3 ⟨A3,c3,rfl,hR3,hG3,hM3⟩;dsimp only;have hb3:=yt hb2 hG3 hgw hb2.size;have f1:=hR3.arr.c1;by_cases her:er=0
  ·subst her;have HF3:=sqH (show res=if 8<m then ([],1) else if (zW m [] r).1≠0 then ([],(zW m [] r).1) else if 0<(zW m [] r).2.2.length then ([],3) else
    if chk (zW m [] r).2.1≠0 then ([],chk (zW m [] r).2.1) else ((zW m [] r).2.1,0) from by rw [HF2.o,if_neg aa])
   clear HF2;rw [show((0:Nat):Int)=0 from rfl]at f1;by_cases h8:8<m
   ·have hres:res=([],1):=by rw [HF3.o,if_pos h8]
    have HR:=sqH hres;have e1:decide ((8:Int)<(m:Int))=true:=by simp;omega
    clear hres hmz;go_wp2_with fail;go_ret2;rw [HR.o];exact⟨_,rfl,World.ownsRow_nil _ _ _ _,hb3⟩
   ·have e1:decide ((8:Int)<(m:Int))=false:=by simp;omega
    have HF4:=sqH (show res=if (zW m [] r).1≠0 then ([],(zW m [] r).1) else if 0<(zW m [] r).2.2.length then ([],3) else
     if chk (zW m [] r).2.1≠0 then ([],chk (zW m [] r).2.1) else ((zW m [] r).2.1,0) from by rw [HF3.o,if_neg h8])
    have HM8:=sqH (show m<=8 by omega);clear HF3 h8 hmz;go_wp2_with fail;go_loopg [8,37] m (fun gn v i wr=>∃(k:Nat) (out:List PartP) (A:aj) (c:Nat) (l':ai),gn=m - k/\i= aB aC k/\k<=m/\out.length=k/\ZV out/\Rdr wr g A c l' 0/\wr.ownsRow (g+1) 85 3 v k (pcs out)/\Far v A l'/\zW m [] r=zW (m - k) out l'/\Below w.heap.size w wr)
    case atStart=>exact⟨0, [],A3,c3,r,rfl,rfl,wu,rfl,(fun p hp=>by cases hp),hR3,World.ownsRow_nil _ _ _ _,(fun b off _ _ h=>by cases h),rfl,hb3⟩
    case round =>
     clear hb3 hR3 hM3 hG3 f1;obtain⟨k,out,A,c,l',hgk,rfl,hk,hol,hpo,hR,ho,hfar,hch,hbel⟩:=hrel;obtain⟨HGK,HOL,HPO,HCH⟩:=sqJ4 hgk hol hpo hch;have hm8:=HM8.o;have hgs:=hR.lt;clear hgk hol hpo hch;by_cases hlt:k<m
     ·have hi:decide ((k:Int)<(m:Int))=true:=by simpa using hlt
      have hi':decide (k<m)=true:=by simpa using hlt
      obtain⟨t,l1,e1,h1⟩:∃t l1 e1,ZJ l' 0=(t,l1,e1):=⟨_,_,_,rfl⟩
      obtain⟨d,l2,e2,h2⟩:∃d l2 e2,uI 32 l1 e1=(d,l2,e2):=⟨_,_,_,rfl⟩
      obtain⟨z,l3,e3,h3⟩:∃z l3 e3,Zt l2 e2=(z,l3,e3):=⟨_,_,_,rfl⟩
      have hs:vt l'=(⟨t,kY d,z⟩,l3,e3):=by unfold vt;rw [h1];dsimp only;rw [h2];dsimp only;rw [h3]
      have n1:=V5 l' 0;have n1':=V4 l' 0;have n2:=V2 32 l1 e1;have n3:=Xy l2 e2;rw [h1]at n1 n1';rw [h2]at n2;rw [h3]at n3;obtain⟨HT1,HT2,HT3⟩:=sqJ3 (fun (w:World) (A:aj) (c:Nat) (h:Rdr w g A c l' 0)=>(by have:=z10 h;rw [h1]at this;exact this:Calls zZZ 108 #[.pointer (aG ⟨g,0,aF⟩)] w fun x w'=>∃A' c',x= .returned (aD ⟨t.toArray⟩)/\Rdr w' g A' c' l1 e1/\w.grownBy w' (aG g)/\jq A A' w.heap.size l1)) (fun (w:World) (A:aj) (c:Nat) (h:Rdr w g A c l1 e1)=>(by have:=z0z 32 32 rfl wu h;rw [h2]at this;exact this:Calls zZZ 109 #[.pointer (aG ⟨g,0,aF⟩),aB aC 32] w fun x w'=>∃A1 c1 A' c',x= .returned (aA A1 d.length c1)/\d.length<=c1/\Rd w' 1 A1 d.length (bys d)/\Rdr w' g A' c' l2 e2/\w.grownBy w' (aG g)/\jq A A' w.heap.size l2)) (fun (w:World) (A:aj) (c:Nat) (h:Rdr w g A c l2 e2)=>(by have:=Zu h;rw [h3]at this;exact this:Calls zZZ 107 #[.pointer (aG ⟨g,0,aF⟩)] w fun x w'=>∃A' c',x= .returned (aB aC (z:Nat))/\Rdr w' g A' c' l3 e3/\w.grownBy w' (aG g)/\jq A A' w.heap.size l3));have hsm:=hR.small;have hstep:zW m [] r=if e3≠0 then (e3, [], []) else zW (m - (k+1)) (out++ [⟨t,kY d,z⟩]) l3:=by
       rw [HCH.o,show m - k=(m - (k+1))+1 by omega,zW,hs]
      have HST:=sqH hstep;have hpn:(⟨t,kY d,z⟩:PartP).name.length<=140737488351232/\(⟨t,kY d,z⟩:PartP).dig.length<=140737488351232/\((⟨t,kY d,z⟩:PartP).size:Int)<=9223372036854775807:=by
       refine⟨?_,?_,?_⟩
       ·show t.length<=_;dsimp only at n1';omega
       ·show(kY d).length<=_;rw [yf];dsimp only at n2 n1;omega
       ·show(z:Int)<=_;dsimp only at n3;omega
      have HPN:=sqH hpn;dsimp only at n1 n1' n2 n3;clear hs h1 h2 h3 hstep hpn HCH;have hvl:=fun k hk=>(ho.lt k hk).2;go_wp2_with fail;refine(HT1.o _ _ _ hR).mono ?_;rintro e_ w4 ⟨A4,c4,rfl,hR4,hG4,hM4⟩;dsimp only;have hb4:=yt hbel hG4 hgw hbel.size;have ho4:=Qb ho hG4;have hf4:=hfar.moved hM4 n1 hvl;go_wp2_with fail;refine(HT2.o _ _ _ hR4).mono ?_;rintro e_ w5 ⟨Ad,cd,A5,c5,rfl,hcd,hrd,hR5,hG5,hM5⟩;dsimp only;have hb5:=yt hb4 hG5 hgw hb4.size;have ho5:=Qb ho4 hG5;have hf5:=hf4.moved hM5 n2.1 (fun k hk=>(ho4.lt k hk).2);go_wp2_with fail;refine wZ (Yy Ad d.length cd d w5 rfl wu hcd hrd) fun w6 hb6=>?_;dsimp only;have hR6:=hR5.below hb6;have hb56:=wm hb5 hb6;have ho6:=zc ho5 hb6;go_wp2_with fail;refine(HT3.o _ _ _ hR6).mono ?_;rintro e_ w7 ⟨A7,c7,rfl,hR7,hG7,hM7⟩;dsimp only;have hb7:=yt hb56 hG7 hgw hb56.size;have ho7:=Qb ho6 hG7;have hf7:=hf5.moved hM7 n3.1 (fun k hk=>Nat.lt_of_lt_of_le (ho5.lt k hk).2 hb6.size)
      refine wL ?_;intros;refine zh rfl (.tmp 39) (.tmp 48) rfl YR ac ho7 (us:=pcs [⟨t,kY d,z⟩]) (m:=1) ac rfl (by intro u hu;exact jI _ u hu) wu (by have:=hR7.lt;omega) ?_;intro v8 w8 ho8 hg8 hv8;have hR8:=hR7.grown hg8 (fun h=>by have:=(ho7.lt g h).1;omega) hf7;have hb8:Below w.heap.size w w8:=hb7.grown hg8 hb7.size (fun k hk=>by have:=(ho7.lt k hk).1;omega);have hf8:Far v8 A7 l3:=fun b off e h0=>by
       rcases hv8 with h | ⟨g8,h,hge⟩
       ·rw [h];exact hf7 b off e h0
       ·rw [h];obtain⟨_,_,e2,hb2,_⟩:=hR7.rd.2 h0;rw [e]at e2;cases e2
        intro h;cases h;omega
      rw [<-XH]at ho8;have f2:=hR8.arr.c1;clear hf7 ho7 hb7 hR7 ho6 hb56 hR6 hf5 ho5 hb5 hR5 hf4 ho4 hb4 hR4 hrd hM4 hM5 hM7 hG4 hG5 hG7 hvl hfar ho hR hbel hg8 hv8;by_cases h30:e3=0
      ·subst h30;rw [show((0:Nat):Int)=0 from rfl]at f2;have HSTT:=sqH (show zW m [] r=zW (m - (k+1)) (out++ [⟨t,kY d,z⟩]) l3 from by rw [HST.o,if_neg aa]);go_wp2_with fail;go_roundg (m - (k+1))
       case measure=>exact wc HGK
       case rel =>
        refine⟨k+1,out++ [⟨t,kY d,z⟩],A7,c7,l3,rfl,by go_num,wu,by rw [List.length_append,HOL.o];rfl,?_,hR8,ho8,hf8,HSTT.o,hb8⟩;intro p hp;rcases List.mem_append.1 hp with h | h
        ·exact HPO.o p h
        ·simp only [List.mem_cons,List.not_mem_nil,or_false]at h;subst h;exact HPN.o
      ·have e9:((e3:Int) != 0)=true:=by rw [bne_iff_ne];omega
       have hres:res=([],e3):=by rw [HF4.o,HST.o,if_pos h30];exact if_pos h30
       have HR:=sqH hres;clear hres h30;go_wp2_with fail;go_quiet (fail);have f3:(w8.drewN nq).cell? ⟨g,1,aF⟩=aG (aB aC e3):=f2;go_wp2_with fail;go_ret2;rw [HR.o];exact⟨_,rfl,World.ownsRow_nil _ _ _ _,zY hb8 _⟩
     ·obtain rfl:k=m:=by omega
      have hi:decide ((k:Int)<(k:Int))=false:=ab;have hd:zW k [] r=(0,out,l'):=by rw [HCH.o,Nat.sub_self,zW]
      have HF5:=sqH (show res=if 0<l'.length then ([],3) else if chk out≠0 then ([],chk out) else (out,0) from by rw [HF4.o,hd,if_neg ab]);have f1:=hR.arr.c1;have f0:=hR.arr.c0;rw [show((0:Nat):Int)=0 from rfl]at f1;have hgb:w.heap.size<=g+1:=wu;clear hd HF4 HCH hfar;by_cases hr0:0<l'.length
      ·have hres:res=([],3):=by rw [HF5.o,if_pos hr0]
       have HR:=sqH hres;have e5:decide ((0:Int)<(l'.length:Int))=true:=decide_eq_true wu;have e5':decide (0<l'.length)=true:=decide_eq_true hr0;clear hres;go_wp2_with fail;go_ret2;rw [HR.o];exact⟨_,rfl,World.ownsRow_nil _ _ _ _,hbel⟩
      ·have HF6:=sqH (show res=if chk out≠0 then ([],chk out) else (out,0) from by rw [HF5.o,if_neg hr0]);have e5:decide ((0:Int)<(l'.length:Int))=false:=decide_eq_false wu;have e5':decide (0<l'.length)=false:=decide_eq_false hr0;obtain⟨Ao,co,rfl,hco,hro⟩:=Rd.of_own' ho;have HCK:=sqH (xf Ao k co out wr HOL.o hco wu HPO.o hro);clear HF5;go_wp2_with fail;refine wZ HCK.o fun w9 hb9=>?_;dsimp only;have hbf:=wm hbel hb9;have hof:=zb (zc ho hb9) hgb;by_cases hck:chk out=0
       ·have hres:res=(out,0):=by rw [HF6.o,if_neg (by simpa using hck)]
        have HR:=sqH hres;have e6:((chk out:Int) != 0)=false:=by rw [bne_eq_false_iff_eq];omega
        clear hres hck;generalize chk out=ck at *
        go_wp2_with fail;go_ret2;rw [HR.o];refine⟨_,rfl,?_,hbf⟩;dsimp only;rw [HOL.o];exact hof
       ·have hres:res=([],chk out):=by rw [HF6.o,if_pos hck]
        have HR:=sqH hres;have e6:((chk out:Int) != 0)=true:=by rw [bne_iff_ne];omega
        clear hres hck;generalize chk out=ck at *
        go_wp2_with fail;go_ret2;rw [HR.o];exact⟨_,rfl,World.ownsRow_nil _ _ _ _,hbf⟩
  ·have hm0:m=0:=hmz her;subst hm0;have hres:res=([],er):=by rw [HF2.o,if_pos her]
   have HR:=sqH hres;have e1:((er:Int)==0)=false:=by rw [beq_eq_false_iff_ne];omega
   have e2:((er:Int) != 0)=true:=by rw [bne_iff_ne];omega
   clear hres her hmz;rw [show((0:Nat):Int)=0 from rfl];go_wp2_with fail;go_loopg [8,37] 0 (fun gn v i wr=>gn=0/\i= aB aC 0/\v= aA aF 0 0/\Rdr wr g A3 c3 r er/\Below w.heap.size w wr)
   case atStart=>exact⟨rfl,rfl,rfl,hR3,hb3⟩
   case round =>
    obtain⟨_,rfl,rfl,hR4,hb4⟩:=hrel;have f2:=hR4.arr.c1;go_wp2_with fail;go_quiet (fail);go_wp2_with fail;go_ret2;rw [HR.o];exact⟨_,rfl,World.ownsRow_nil _ _ _ _,zY hb4 _⟩
theorem z0a (l:ai) (h:l.length<=2000):xJ (kY l)=(l,0):=by
 have:=yf l;rw [xJ,if_neg wu,if_neg wu,xX]
def z3w (p:PartP):Prop:=qY p.name=0/\hexC p.dig=0/\p.size<=300
theorem z00 (x:List PartP):enc x= [65,77,49]++(num x.length++x.flatMap xM):=by rw [enc,List.append_assoc]
theorem V0 {p:PartP} (h:vt l=(p,l',0)):l=xM p++l':=by
 obtain⟨t,l1,e1,h1⟩:∃t l1 e1,ZJ l 0=(t,l1,e1):=⟨_,_,_,rfl⟩
 obtain⟨d,l2,e2,h2⟩:∃d l2 e2,uI 32 l1 e1=(d,l2,e2):=⟨_,_,_,rfl⟩
 obtain⟨z,l3,e3,h3⟩:∃z l3 e3,Zt l2 e2=(z,l3,e3):=⟨_,_,_,rfl⟩
 unfold vt at h;rw [h1]at h;dsimp only at h;rw [h2]at h;dsimp only at h;rw [h3]at h;dsimp only at h;simp only [Prod.mk.injEq]at h;obtain⟨rfl,rfl,rfl⟩:=h;have he2:e2=0:=by
  by_cases h0:e2=0
  ·exact h0
  ·rw [Zt,if_pos h0]at h3;simp only [Prod.mk.injEq]at h3;exact h3.2.2
 subst he2;have he1:e1=0:=by
  by_cases h0:e1=0
  ·exact h0
  ·rw [uI,if_pos h0]at h2;simp only [Prod.mk.injEq]at h2;exact h2.2.2
 subst he1;rw [Zt,if_neg aa]at h3;rw [uI,if_neg aa]at h2;rw [ZJ,if_neg aa]at h1;have i1:=XN h1;have i3:=xz h3;by_cases hlt:l1.length<32
 ·rw [if_pos hlt]at h2;simp at h2
 ·rw [if_neg hlt]at h2;simp only [Prod.mk.injEq,and_true]at h2;have hdl:d.length=32:=by rw [<-h2.1,List.length_take];omega
  show l=txt t++(xJ (kY d)).1++num z++l3;rw [z0a d wu,i1.2,List.append_assoc,List.append_assoc,<-i3.2,<-h2.1,<-h2.2,List.take_append_drop]
theorem Z9:∀(n:Nat) (out x:List PartP) (l l':ai),zW n out l=(0,x,l')->∃y,x=out++y/\y.length=n/\l=y.flatMap xM++l'
 | 0,out,x,l,l',h=>by
  simp only [zW,Prod.mk.injEq,true_and]at h
  exact⟨[],by rw [List.append_nil];exact h.1.symm,rfl,by rw [h.2];rfl⟩
 | n+1,out,x,l,l',h=>by
  rw [zW]at h
  by_cases h0:(vt l).2.2=0
  ·rw [if_neg (by simpa using h0)]at h
   obtain⟨y,h1,h2,h3⟩:=Z9 n _ x _ l' h
   refine⟨(vt l).1::y,by rw [h1,List.append_assoc];rfl,by rw [List.length_cons,h2],?_⟩
   rw [List.flatMap_cons,List.append_assoc,<-h3]
   exact V0 (by rw [<-h0])
  ·rw [if_pos h0]at h
   simp only [Prod.mk.injEq]at h
   exact absurd h.1 h0
theorem VY {x:List PartP} (h:kr b=(x,0)):enc x=b/\chk x=0:=by
 unfold kr at h;by_cases h1:2000<b.length
 ·rw [if_pos h1]at h;simp at h
 rw [if_neg h1]at h;by_cases h2: [65,77,49].isPrefixOf b=false
 ·rw [if_pos h2]at h;simp at h
 rw [if_neg h2]at h;obtain⟨m,r,er,hrd⟩:∃m r er,zA (b.drop 3)=(m,r,er):=⟨_,_,_,rfl⟩
 rw [hrd]at h;dsimp only at h;by_cases h3:er≠0
 ·rw [if_pos h3]at h;simp only [Prod.mk.injEq]at h;exact absurd h.2 h3
 rw [if_neg h3]at h;have h3:er=0:=by simpa using h3
 subst h3;by_cases h4:8<m
 ·rw [if_pos h4]at h;simp at h
 rw [if_neg h4]at h;obtain⟨e,y,l',hg⟩:∃e y l',zW m [] r=(e,y,l'):=⟨_,_,_,rfl⟩
 rw [hg]at h;dsimp only at h;by_cases h5:e≠0
 ·rw [if_pos h5]at h;simp only [Prod.mk.injEq]at h;exact absurd h.2 h5
 rw [if_neg h5]at h;have h5:e=0:=by simpa using h5
 subst h5;by_cases h6:0<l'.length
 ·rw [if_pos h6]at h;simp at h
 rw [if_neg h6]at h;by_cases h7:chk y≠0
 ·rw [if_pos h7]at h;simp only [Prod.mk.injEq]at h;exact absurd h.2 h7
 rw [if_neg h7]at h;simp only [Prod.mk.injEq,and_true]at h;subst h;have h7:chk y=0:=by simpa using h7
 have h6:l'= []:=List.eq_nil_of_length_eq_zero wu;obtain⟨y',e1,e2,e3⟩:=Z9 m [] y r l' hg;rw [List.nil_append]at e1;subst e1;have hr:=(xz hrd).2;refine⟨?_,h7⟩;rw [z00,e2,show y.flatMap xM=r by rw [e3,h6,List.append_nil],<-hr];have hp: [65,77,49].isPrefixOf b=true:=by simpa using h2
 obtain⟨s,hs⟩:=List.isPrefixOf_iff_prefix.1 hp;rw [<-hs];rfl
theorem vu (A:aj) (c:Nat) (l:List BlobP) (w:World) (hl:l.length<=100000) (hd:∀b∈l,b.data.length<=1000000) (hA:Rw BlobS w A l) :
  Calls zZZ 74 #[aA A l.length c] w fun e w'=>∃g,e= .returned (aA (aG ⟨g,0,aF⟩) l.length l.length)/\RwX BlobS 76 w' w.heap.size (aA (aG ⟨g,0,aF⟩) l.length l.length) l (fun b=>b<w.heap.size)/\Below w.heap.size w w':=by
 have HD:=sqH hd;clear hd
 let S:=BlobS
 go_enter func74,ntmps74
 refine wL ?_;intros;refine kV rfl (.const (aB aC 0)) (.tmp 7) rfl vY l.length ac ac rfl wu ?_;intro w1 g ho1 hb1;have hx1:RwX BlobS 76 w1 w.heap.size (aA (aG ⟨g,0,aF⟩) 0 l.length) [] (fun b=>b<w.heap.size):=RwX.nil_ ho1;clear ho1;go_wp2_with fail;go_loopg [3,11] l.length (fun gn v i wr=>∃j:Nat,gn=l.length - j/\i= aB aC j/\j<=l.length/\v= aA (aG ⟨g,0,aF⟩) j l.length/\RwX BlobS 76 wr w.heap.size (aA (aG ⟨g,0,aF⟩) j l.length) (l.take j) (fun b=>b<w.heap.size)/\Below w.heap.size w wr)
 case atStart=>exact⟨0,rfl,rfl,wu,rfl,hx1,hb1⟩
 case round =>
  clear hx1 hb1;obtain⟨j,hgk,rfl,hj,rfl,hx,hbl⟩:=hrel;have HGK:=sqH hgk;clear hgk;by_cases hlt:j<l.length
  ·have hcc:decide (j<l.length)=true:=decide_eq_true hlt;obtain⟨b,off,B,cb,rfl,hbb,c0,c1,c2,c3,hs⟩:=(hA.below hbl).blob_at j hlt;have hj0:=we j
   have hj1:(j:Int)<(l.length:Int):=wu;have HTK:=sqH (show l.take (j+1)=l.take j++ [l[j]] by rw [List.take_succ_eq_append_getElem hlt]);have hjl:(l.take j).length=j:=by rw [List.length_take];omega
   have HBD:=sqH (HD.o l[j] (List.getElem_mem hlt));generalize l[j]=x at *
   obtain⟨sx,hsx⟩:=wY (⟨x.dig.toArray⟩:ByteArray)
   rw [<-hsx]at c0;have HSX:=sqH hsx;clear hsx;have hX:Arr (wr.alloc (aE #[aD sx,aA B x.data.length cb,aB aC x.aQ,(.bool x.mark)] 76)) wr.heap.size 76 [aD sx,aA B x.data.length cb,aB aC x.aQ,(.bool x.mark)]:=Arr.new wr 76 _;have hba:=ws wr (aE #[aD sx,aA B x.data.length cb,aB aC x.aQ,(.bool x.mark)] 76);have hs2:=hs.below hba;have hbl2:=wm hbl hba;have hgw:wr.heap.size<(wr.alloc (aE #[aD sx,aA B x.data.length cb,aB aC x.aQ,(.bool x.mark)] 76)).heap.size:=ab;have x1:=hX.c1;have hxw:=hx.wider (N':=fun b=>b<w.heap.size\/b=wr.heap.size) (fun b hb=>hb.elim .inl (fun e=> .inr wu));have hx2:=hxw.below hba;have hsz:w.heap.size<=wr.heap.size:=hbl.size;have hgx:g<wr.heap.size:=(hx.rwo.blk rfl).2;clear hs hba hbl hx hxw;go_wp2_with fail;generalize wr.alloc (aE #[aD sx,aA B x.data.length cb,aB aC x.aQ,(.bool x.mark)] 76)=w2 at *
   generalize wr.heap.size=gx at *
   clear c0 c1 c2 c3 x1;have HCL:=sqH (kZ B x.data.length cb x.data w2 rfl hs2.cap (wc HBD) hs2.rd);refine HCL.o.mono ?_;rintro e_ w3 ⟨v3,rfl,ho3,hb3⟩;dsimp only;obtain⟨A3,c3,rfl,hs3,hl3⟩:=vN ho3;have hX3:=hX.below hb3;have hx3:=hx2.below hb3;have hbl3:=wm hbl2 hb3;have hx4:=(hx3.other (zU w3 gx 1 (aA A3 x.data.length c3)) (fun b e1 e2=>by cases e1;have e3:g=gx:=Option.some.inj e2;omega) (fun b e=> .inr (by cases e;rfl))).wider (N':=fun b=>b<w.heap.size) (fun b hb=> .inl (.inl hb));have hX4:=hX3.set (k:=1) ab (aA A3 x.data.length c3);have hs4:=hs3.other (g:=gx) (k:=1) (fun a ha=>by have:=hl3 a ha;omega) (aA A3 x.data.length c3);have hbl4:=hbl3.setCell (p:=⟨gx,1,aF⟩) hsz (aA A3 x.data.length c3);have f1:=hX3.frozen 1;have x1:=hX3.c1;obtain⟨z0,z1,z2,z3⟩:=sqC4 hX4;have hge3:∀a,A3=aG a->w.heap.size<=a.block/\a.block≠g:=fun a ha=>by have:=hl3 a ha;have:=hb3.size;omega
   clear hX hX3 ho3 hs3 hx2 hx3 hs2 hb3 hbl2 hbl3 hl3;obtain⟨xs,hxo,hop⟩:=hx4.open_;rw [hjl]at hxo hop;have HOP:=sqH hop;clear hop hX4
   refine wL ?_;intros;clear x1 f1 z0 z1 z2 z3;have hz34:(w3.setCell ⟨gx,1,aF⟩ (aA A3 x.data.length c3)).heap.size=w3.heap.size:=by simp [World.setCell]
   rw [<-hz34];clear hz34;generalize w3.setCell ⟨gx,1,aF⟩ (aA A3 x.data.length c3)=w4 at *
   have hw4:w.heap.size<=w4.heap.size:=hbl4.size;refine jl rfl (.tmp 19) (.tmp 21) rfl vY ac hxo (us:= [aD sx,aA A3 x.data.length c3,aB aC x.aQ,(.bool x.mark)]) ac rfl (by
    intro u hu;simp only [List.mem_cons,List.not_mem_nil,or_false]at hu;rcases hu with rfl | rfl | rfl | rfl<;>rfl) wu ?_
   intro w5 ho5 hg5;have hcs:S.R w4 x [aD sx,aA A3 x.data.length c3,aB aC x.aQ,(.bool x.mark)]:=⟨A3,c3,by rw [HSX.o];rfl,hs4⟩
   have hx5:=HOP.o x _ w4 w5 _ (Below.refl _ _) hcs (fun b hb ⟨a,n',c',hm,e⟩=>by
    simp only [List.mem_cons,List.not_mem_nil,or_false,Value.slice.injEq,reduceCtorEq,false_or]at hm;obtain⟨q1,q2⟩:=hge3 a hm.1.symm;rcases hb with hb | hb
    ·cases hb;exact q2 e
    ·omega) ho5 hg5 (.inl rfl)
   have hbl5:=hbl4.grown hg5 hw4 (fun k hk=>by cases hk;exact(hx5.rwo.blk rfl).1);clear hxo hx4 hs4 hbl4 ho5 hg5 hcs hge3;rw [<-HTK.o]at hx5;go_wp2_with fail;go_roundg (l.length - (j+1))
   case measure=>exact wc HGK
   case rel=>exact⟨j+1,rfl,by go_num,wu,rfl,hx5,hbl5⟩
  ·obtain rfl:j=l.length:=by omega
   have hcc:decide (l.length<l.length)=false:=ab;rw [List.take_length]at hx;go_wp2_with fail;go_ret;exact⟨g,rfl,hx,hbl⟩
theorem Qp (A:aj) (c:Nat) (l:List EntP) (w:World) (hl:l.length<=100000) (hd:∀x∈l,x.aP.length<=1000000) (hA:Rw EntS w A l) :
  Calls zZZ 75 #[aA A l.length c] w fun e w'=>∃g,e= .returned (aA (aG ⟨g,0,aF⟩) l.length l.length)/\RwX EntS 100 w' w.heap.size (aA (aG ⟨g,0,aF⟩) l.length l.length) l (fun b=>b<w.heap.size)/\Below w.heap.size w w':=by
 have HD:=sqH hd;clear hd
 let S:=EntS
 go_enter func75,ntmps75
 refine wL ?_;intros;refine kV rfl (.const (aB aC 0)) (.tmp 7) rfl YQ l.length ac ac rfl wu ?_;intro w1 g ho1 hb1;have hx1:RwX EntS 100 w1 w.heap.size (aA (aG ⟨g,0,aF⟩) 0 l.length) [] (fun b=>b<w.heap.size):=RwX.nil_ ho1;clear ho1;go_wp2_with fail;go_loopg [3,11] l.length (fun gn v i wr=>∃j:Nat,gn=l.length - j/\i= aB aC j/\j<=l.length/\v= aA (aG ⟨g,0,aF⟩) j l.length/\RwX EntS 100 wr w.heap.size (aA (aG ⟨g,0,aF⟩) j l.length) (l.take j) (fun b=>b<w.heap.size)/\Below w.heap.size w wr)
 case atStart=>exact⟨0,rfl,rfl,wu,rfl,hx1,hb1⟩
 case round =>
  clear hx1 hb1;obtain⟨j,hgk,rfl,hj,rfl,hx,hbl⟩:=hrel;have HGK:=sqH hgk;clear hgk;by_cases hlt:j<l.length
  ·have hcc:decide (j<l.length)=true:=decide_eq_true hlt;obtain⟨b,off,B,cb,rfl,hbb,c0,c1,c2,c3,hs⟩:=(hA.below hbl).ent_at j hlt;have hj0:=we j
   have hj1:(j:Int)<(l.length:Int):=wu;have HTK:=sqH (show l.take (j+1)=l.take j++ [l[j]] by rw [List.take_succ_eq_append_getElem hlt]);have hjl:(l.take j).length=j:=by rw [List.length_take];omega
   have HBD:=sqH (HD.o l[j] (List.getElem_mem hlt));generalize l[j]=x at *
   obtain⟨sx,hsx⟩:=wY (⟨x.key.toArray⟩:ByteArray)
   rw [<-hsx]at c0;have HSX:=sqH hsx;clear hsx;have hX:Arr (wr.alloc (aE #[aD sx,aA B x.aP.length cb,aB aC x.aQ,(aB aC x.aO)] 100)) wr.heap.size 100 [aD sx,aA B x.aP.length cb,aB aC x.aQ,(aB aC x.aO)]:=Arr.new wr 100 _;have hba:=ws wr (aE #[aD sx,aA B x.aP.length cb,aB aC x.aQ,(aB aC x.aO)] 100);have hs2:=hs.below hba;have hbl2:=wm hbl hba;have hgw:wr.heap.size<(wr.alloc (aE #[aD sx,aA B x.aP.length cb,aB aC x.aQ,(aB aC x.aO)] 100)).heap.size:=ab;have x1:=hX.c1;have hxw:=hx.wider (N':=fun b=>b<w.heap.size\/b=wr.heap.size) (fun b hb=>hb.elim .inl (fun e=> .inr wu));have hx2:=hxw.below hba;have hsz:w.heap.size<=wr.heap.size:=hbl.size;have hgx:g<wr.heap.size:=(hx.rwo.blk rfl).2;clear hs hba hbl hx hxw;go_wp2_with fail;generalize wr.alloc (aE #[aD sx,aA B x.aP.length cb,aB aC x.aQ,(aB aC x.aO)] 100)=w2 at *
   generalize wr.heap.size=gx at *
   clear c0 c1 c2 c3 x1;have HCL:=sqH (yq B x.aP.length cb (pcs x.aP) w2 (wc HBD) hs2.rd (jI _));refine HCL.o.mono ?_;rintro e_ w3 ⟨v3,rfl,ho3,hb3⟩;dsimp only;obtain⟨A3,c3,rfl,hs3,hl3⟩:=vN ho3;have hX3:=hX.below hb3;have hx3:=hx2.below hb3;have hbl3:=wm hbl2 hb3;have hx4:=(hx3.other (zU w3 gx 1 (aA A3 x.aP.length c3)) (fun b e1 e2=>by cases e1;have e3:g=gx:=Option.some.inj e2;omega) (fun b e=> .inr (by cases e;rfl))).wider (N':=fun b=>b<w.heap.size) (fun b hb=> .inl (.inl hb));have hX4:=hX3.set (k:=1) ab (aA A3 x.aP.length c3);have hs4:=hs3.other (g:=gx) (k:=1) (fun a ha=>by have:=hl3 a ha;omega) (aA A3 x.aP.length c3);have hbl4:=hbl3.setCell (p:=⟨gx,1,aF⟩) hsz (aA A3 x.aP.length c3);have f1:=hX3.frozen 1;have x1:=hX3.c1;obtain⟨z0,z1,z2,z3⟩:=sqC4 hX4;have hge3:∀a,A3=aG a->w.heap.size<=a.block/\a.block≠g:=fun a ha=>by have:=hl3 a ha;have:=hb3.size;omega
   clear hX hX3 ho3 hs3 hx2 hx3 hs2 hb3 hbl2 hbl3 hl3;obtain⟨xs,hxo,hop⟩:=hx4.open_;rw [hjl]at hxo hop;have HOP:=sqH hop;clear hop hX4
   refine wL ?_;intros;clear x1 f1 z0 z1 z2 z3;have hz34:(w3.setCell ⟨gx,1,aF⟩ (aA A3 x.aP.length c3)).heap.size=w3.heap.size:=by simp [World.setCell]
   rw [<-hz34];clear hz34;generalize w3.setCell ⟨gx,1,aF⟩ (aA A3 x.aP.length c3)=w4 at *
   have hw4:w.heap.size<=w4.heap.size:=hbl4.size;refine jl rfl (.tmp 19) (.tmp 21) rfl YQ ac hxo (us:= [aD sx,aA A3 x.aP.length c3,aB aC x.aQ,(aB aC x.aO)]) ac rfl (by
    intro u hu;simp only [List.mem_cons,List.not_mem_nil,or_false]at hu;rcases hu with rfl | rfl | rfl | rfl<;>rfl) wu ?_
   intro w5 ho5 hg5;have hcs:S.R w4 x [aD sx,aA A3 x.aP.length c3,aB aC x.aQ,(aB aC x.aO)]:=⟨A3,c3,by rw [HSX.o];rfl,hs4⟩
   have hx5:=HOP.o x _ w4 w5 _ (Below.refl _ _) hcs (fun b hb ⟨a,n',c',hm,e⟩=>by
    simp only [List.mem_cons,List.not_mem_nil,or_false,Value.slice.injEq,reduceCtorEq,false_or]at hm;obtain⟨q1,q2⟩:=hge3 a hm.1.symm;rcases hb with hb | hb
    ·cases hb;exact q2 e
    ·omega) ho5 hg5 (.inl rfl)
   have hbl5:=hbl4.grown hg5 hw4 (fun k hk=>by cases hk;exact(hx5.rwo.blk rfl).1);clear hxo hx4 hs4 hbl4 ho5 hg5 hcs hge3;rw [<-HTK.o]at hx5;go_wp2_with fail;go_roundg (l.length - (j+1))
   case measure=>exact wc HGK
   case rel=>exact⟨j+1,rfl,by go_num,wu,rfl,hx5,hbl5⟩
  ·obtain rfl:j=l.length:=by omega
   have hcc:decide (l.length<l.length)=false:=ab;rw [List.take_length]at hx;go_wp2_with fail;go_ret;exact⟨g,rfl,hx,hbl⟩
theorem UF (s:ByteArray) (r:ai) (q:Nat) (w:World) (hs:s.size<=4000) (hq:s.size=2*q) (hun:xd s.data.toList=aG r) :
  Calls zZZ 65 #[aD s] w fun e w'=>∃v,e= .returned v/\w'.ownsRow w.heap.size 5 1 v r.length (bys r)/\Below w.heap.size w w':=by
 have hsz:s.data.toList.length=s.size:=by rw [Array.length_toList];rfl
 have hq1:q*2<=s.size:=wu;have hq2:s.size<=q*2:=wu;have HZ:=sqH hsz;have HUN:=sqH hun;clear hq hsz hun;go_enter func65,ntmps65;go_wp2_with fail;go_loopg [3,4] s.size (fun gn v i wr=>∃(k:Nat) (acc:ai),gn=s.size - 2*k/\i= aB aC ((2*k:Nat):Int)/\k<=q/\acc.length=k/\xd s.data.toList=(xd (s.data.toList.drop (2*k))).map (acc++ ·) /\
  wr.ownsRow w.heap.size 5 1 v acc.length (bys acc)/\Below w.heap.size w wr)
 case atStart=>exact⟨0, [],rfl,rfl,wu,rfl,ab,World.ownsRow_nil _ _ _ _,Below.refl _ _⟩
 case round =>
  obtain⟨k,acc,hgk,rfl,hk,hacc,hun,hown,hbel⟩:=hrel;obtain⟨HGK0,HU,HA⟩:=sqJ3 hgk hun hacc;clear hun hacc hgk;have hsw:=hbel.size;generalize hm:2*k=m at *
  have HGK:=HGK0;have HM:=sqH hm;by_cases hlt:k<q
  ·have hm1:m+1<s.size:=wu
   have hm0:m<s.size:=wu;have hi0:=we m
   have hi1:(m:Int)<(s.size:Int):=wu;have hi2:(m:Int)+1<(s.size:Int):=wu;have hi3:(0:Int)<=(m:Int)+1:=wu;have hw1:IntKind.i64.wrap ((m:Int)+1)=(m:Int)+1:=IntWalk.i64_in _ wu;have hw2:IntKind.i64.wrap ((m:Int)+2)=(m:Int)+2:=IntWalk.i64_in _ wu;have hn1:((m:Int)+1).toNat=m+1:=wu;have hd:s.data.toList.drop m=s[m]::s[m+1]::s.data.toList.drop (m+2):=by
    have hz:=HZ.o;rw [List.drop_eq_getElem_cons wu,List.drop_eq_getElem_cons (i:=m+1) wu];rfl
   have ra:=kU s[m];have rb:=kU s[m+1];have hbad:¬(val s[m]<0\/val s[m+1]<0):=fun hbad=>by
    have h:=HUN.o;rw [HU.o,hd,xd,if_pos hbad]at h;cases h
   have hstep:xd s.data.toList=(xd (s.data.toList.drop (m+2))).map ((acc++ [UInt8.ofNat (16*(val s[m]).toNat+(val s[m+1]).toNat)])++ ·):=by
    rw [HU.o,hd,xd,if_neg hbad,Option.map_map]
    congr 1;funext x;simp
   have HG:=sqH hstep;have hna:0<=val s[m]:=wu;have hnb:0<=val s[m+1]:=wu;have hmx1:max (0:Int) (val s[m])=val s[m]:=wu;have hmx2:max (0:Int) (val s[m+1])=val s[m+1]:=wu;have he1:bys [UInt8.ofNat (16*(val s[m]).toNat+(val s[m+1]).toNat)]= [aB .u8 (16*val s[m]+val s[m+1])]:=by
    simp only [bys,List.map_cons,List.map_nil,UInt8.toNat_ofNat']
    congr 2;omega
   have HE1:=sqH he1;have hw3:IntKind.i64.wrap (16*val s[m])=16*val s[m]:=IntWalk.i64_in _ wu;have hw4:IntKind.i64.wrap (16*val s[m]+val s[m+1])=16*val s[m]+val s[m+1]:=IntWalk.i64_in _ wu;have hw5:IntKind.u8.wrap (16*val s[m]+val s[m+1])=16*val s[m]+val s[m+1]:=by rw [IntKind.wrap_u8];omega
   have HOWN:=sqH hown;have HBEL:=sqH hbel;have hacl:=HA.o;clear hm hd hbad hstep hown hbel he1;go_wp2_with fail;refine wp_region_held_drew (S:=(fun _=>True)) ww ?_ (fun hHeld=> ?_)
   ·trivial
   have hB:=(Below.refl wr.heap.size wr).drew;generalize wr.drew=wn0 at *
   refine wpAnyH_take (i:=0) (oi:=_) (v:= ?_) rfl ww ww ww (fun _ _ _ h=>h) (Or.inl ⟨ac,?_⟩) (by assumption) ?_;rotate_left
   ·(intro w hSw;(try dsimp only [wH,wI,wJ,wK] at hSw);go_simp;try (with_reducible rfl))
   try simp only [sqQ]
   refine wpAnyH_take (i:=1) (oi:=_) (v:= ?_) rfl ww ww ww (fun _ _ _ h=>h) (Or.inl ⟨ac,?_⟩) (by assumption) ?_;rotate_left
   ·(intro w hSw;(try dsimp only [wH,wI,wJ,wK] at hSw);go_simp;try (with_reducible rfl))
   try simp only [sqQ]
   refine wpAnyH_take (i:=2) (oi:=_) (v:= ?_) rfl ww ww ww (fun _ _ _ h=>h) (Or.inl ⟨ac,?_⟩) (by assumption) ?_;rotate_left
   ·(intro w hSw;(try dsimp only [wH,wI,wJ,wK] at hSw);go_simp;try (with_reducible rfl))
   try simp only [sqQ]
   refine wpAnyH_take (i:=3) (oi:=_) (v:= ?_) rfl ww ww ww (fun _ _ _ h=>h) (Or.inl ⟨ac,?_⟩) (by assumption) ?_;rotate_left
   ·(intro w hSw;(try dsimp only [wH,wI,wJ,wK] at hSw);go_simp;try (with_reducible rfl))
   try simp only [sqQ]
   refine wpAnyH_take (i:=7) (oi:=_) (v:= ?_) rfl ww ww ww (fun _ _ _ h=>h) (Or.inl ⟨ac,?_⟩) (by assumption) ?_;rotate_left
   ·(intro w hSw;(try dsimp only [wH,wI,wJ,wK] at hSw);go_simp;try (with_reducible rfl))
   try simp only [sqQ]
   refine wpAnyH_take (i:=8) (oi:=_) (v:= ?_) rfl ww ww ww (fun _ _ _ h=>h) (Or.inl ⟨ac,?_⟩) (by assumption) ?_;rotate_left
   ·(intro w hSw;(try dsimp only [wH,wI,wJ,wK] at hSw);go_simp;try (with_reducible rfl))
   try simp only [sqQ]
   refine wpAnyH_take (i:=9) (oi:=_) (v:= ?_) rfl ww ww ww (fun _ _ _ h=>h) (Or.inl ⟨ac,?_⟩) (by assumption) ?_;rotate_left
   ·(intro w hSw;(try dsimp only [wH,wI,wJ,wK] at hSw);go_simp;try (with_reducible rfl))
   try simp only [sqQ]
   refine wpAnyH_take (i:=10) (oi:=_) (v:= ?_) rfl ww ww ww (fun _ _ _ h=>h) (Or.inl ⟨ac,?_⟩) (by assumption) ?_;rotate_left
   ·(intro w hSw;(try dsimp only [wH,wI,wJ,wK] at hSw);go_simp;try (with_reducible rfl))
   try simp only [sqQ]
   refine wU 4 fun K hK=>?_;go_simp;refine(Vz _ _).mono ?_;rintro e6 w6 ⟨rfl,hw6⟩;replace hw6:=hw6.symm;subst hw6;dsimp only;refine wF hK trivial (Below wn0.heap.size wn0) (by first | exact(Below.refl _ _).alloc ag _ | exact Below.refl _ _) fun wn1 hHeld hst=> ?_;have hB:=wm hB hst;clear hst;clear hK K
   try simp only [sqQ]
   refine wpAnyH_take (i:=5) (oi:=_) (v:= ?_) rfl ww ww ww (fun _ _ _ h=>h) (Or.inl ⟨ac,?_⟩) (by assumption) ?_;rotate_left
   ·(intro w hSw;(try dsimp only [wH,wI,wJ,wK] at hSw);go_simp;try (with_reducible rfl))
   try simp only [sqQ]
   refine wpAnyH_take (i:=6) (oi:=_) (v:= ?_) rfl ww ww ww (fun _ _ _ h=>h) (Or.inl ⟨ac,?_⟩) (by assumption) ?_;rotate_left
   ·(intro w hSw;(try dsimp only [wH,wI,wJ,wK] at hSw);go_simp;try (with_reducible rfl))
   try simp only [sqQ]
   refine wU 11 fun K hK=>?_;go_simp;refine(Vz _ _).mono ?_;rintro e6 w6 ⟨rfl,hw6⟩;replace hw6:=hw6.symm;subst hw6;dsimp only;refine wF hK trivial (Below wn1.heap.size wn1) (by first | exact(Below.refl _ _).alloc ag _ | exact Below.refl _ _) fun wn2 hHeld hst=> ?_;have hB:=wm hB hst;clear hst;clear hK K
   try simp only [sqQ]
   refine wpAnyH_take (i:=12) (oi:=_) (v:= ?_) rfl ww ww ww (fun _ _ _ h=>h) (Or.inl ⟨ac,?_⟩) (by assumption) ?_;rotate_left
   ·(intro w hSw;(try dsimp only [wH,wI,wJ,wK] at hSw);go_simp;try (with_reducible rfl))
   try simp only [sqQ]
   refine wpAnyH_take (i:=13) (oi:=_) (v:= ?_) rfl ww ww ww (fun _ _ _ h=>h) (Or.inl ⟨ac,?_⟩) (by assumption) ?_;rotate_left
   ·(intro w hSw;(try dsimp only [wH,wI,wJ,wK] at hSw);go_simp;try (with_reducible rfl))
   try simp only [sqQ]
   refine wpAnyH_take (i:=14) (oi:=_) (v:= ?_) rfl ww ww ww (fun _ _ _ h=>h) (Or.inl ⟨ac,?_⟩) (by assumption) ?_;rotate_left
   ·(intro w hSw;(try dsimp only [wH,wI,wJ,wK] at hSw);go_simp;try (with_reducible rfl))
   try simp only [sqQ]
   refine wU 15 fun K hK=>?_;go_simp;refine k5 hK trivial (Below wn2.heap.size wn2) (fun W=>Rd W 1 (aG ⟨wn2.heap.size,0,aF⟩) 1 (bys [UInt8.ofNat (16*(val s[m]).toNat+(val s[m+1]).toNat)])) (by first | exact(Below.refl _ _).alloc ag _ | exact Below.refl _ _) (by rw [HE1.o];exact Rd.new1 _) fun wn3 hHeld hst hnew=> ?_;have hB:=wm hB hst;have h15:=hnew;clear hst;clear hK K
   try simp only [sqQ]
   refine wU 16 fun K hK=>?_;refine uv rfl (.tmp 12) (.tmp 27) rfl jT ac (zc HOWN.o hB) ac h15 (xL _) wu (Nat.le_trans hsw hB.size) ?_;intro v7 w7 ho7 hg7 _;refine k5 hK ?_ (fun W=>W.ownsRow w.heap.size 5 1 v7 (acc.length+1) (bys acc++bys [UInt8.ofNat (16*(val s[m]).toNat+(val s[m+1]).toNat)])) (Below w.heap.size w) ?_ ?_ (fun wn4 hHeld hF hG=> ?_)
   ·trivial
   ·exact ho7
   ·exact zj (HBEL.o.trans (hB.mono hsw)) (zc HOWN.o hB) ag hg7
   clear hK K
   try simp only [sqQ]
   refine wpAnyH_take (i:=17) (oi:=_) (v:= ?_) rfl ww ww ww (fun _ _ _ h=>h) (Or.inl ⟨ac,?_⟩) (by assumption) ?_;rotate_left
   ·(intro w hSw;(try dsimp only [wH,wI,wJ,wK] at hSw);go_simp;try (with_reducible rfl))
   try simp only [sqQ]
   refine wpAnyH_done ww ?_ _;clear hHeld hB;go_wp2_with fail;go_roundg (s.size - (m+2))
   case measure=>exact wc HGK
   case rel =>
    refine⟨k+1,acc++ [UInt8.ofNat (16*(val s[m]).toNat+(val s[m+1]).toNat)],by rw [show 2*(k+1)=m+2 by have:=HM.o;omega],by have:=HM.o;go_num,wu,by rw [List.length_append];simp only [List.length_cons,List.length_nil];omega,by rw [show 2*(k+1)=m+2 by have:=HM.o;omega];exact HG.o,?_,hG⟩;rw [qV,List.length_append];exact hF
  ·have hkq:k=q:=wu
   have hfin:acc=r:=by
    have h:=HUN.o;rw [HU.o,List.drop_of_length_le (wc HZ),xd]at h;simpa using h
   have hmm:s.size<=m:=wu;have hmb:m<=5000:=wu;subst hfin;clear hkq hm;have hcc:decide ((m:Int)+1<(s.size:Int))=false:=decide_eq_false wu;have hw1:IntKind.i64.wrap ((m:Int)+1)=(m:Int)+1:=IntWalk.i64_in _ wu;go_wp2_with fail;go_ret;exact⟨_,rfl,hown,hbel⟩
theorem YS (x:List PartP) (k:Nat) (h:k<x.length):(x.take (k+1)).flatMap xM=(x.take k).flatMap xM++xM x[k]:=by
 rw [List.take_succ_eq_append_getElem h,List.flatMap_append,List.flatMap_cons,List.flatMap_nil,List.append_nil]
theorem U2 (x:List PartP) (h:∀p∈x,z3w p) (k:Nat) (hx:x.length<=100):((x.take k).flatMap xM).length<=4800:=by
 have h1:=jC (x.take k) (fun p hp=>h p (List.mem_of_mem_take hp));rw [List.length_take]at h1;omega
theorem z12 {d:ai} (h:hexC d=0):xd d=aG (xJ d).1/\d.length=64:=by
 unfold hexC at h;by_cases h64:d.length=64
 ·rw [if_neg wu]at h;refine⟨?_,h64⟩;unfold xJ at h ⊢
  rw [if_neg wu,if_neg wu]at h ⊢
  cases hu:xd d with
  | none=>rw [hu]at h;cases h
  | some r=>rfl
 ·rw [if_pos h64]at h;cases h
theorem z2f (z:Nat):bits .or .u8 ((z:Int) % 128) 128=((UInt8.ofNat (z % 128+128)).toNat:Int):=by
 have key:∀a:Fin 128,bits .or .u8 (a.val:Int) 128=((UInt8.ofNat (a.val+128)).toNat:Int):=by decide +kernel
 have h:=key ⟨z % 128,wu⟩;have h2:(z:Int) % 128=((z % 128:Nat):Int):=wu;rw [h2];exact h
theorem ZU (A0:aj) (n c0:Nat) (x:List PartP) (w:World) (hl:x.length=n) (hn:n<=100) (hf:∀p∈x,z3w p) (hr:Rd w 3 A0 n (pcs x)) :
  Calls zZZ 29 #[aA A0 n c0] w fun e w'=>∃A c,e= .returned (aA A (enc x).length c)/\kW w' w.heap.size A c (enc x)/\Below w.heap.size w w':=by
 have HL:=sqH hl;have HF:=sqH hf;obtain⟨bn,hbn⟩:=wY (UInt8.ofNat n)
 have HEN:=sqH (show enc x= [65,77,49]++ [bn]++x.flatMap xM from by rw [enc,hl,kf wu,hbn]);have hkc:=fun (w:World) (C:Array Value) (n c:Nat)=>Lib.run_convert_bytes_const (P:=zZZ) w 26 5 C n c underlying26 underlying5;have hw8:IntKind.u8.wrap (n:Int)=(bn.toNat:Int):=by rw [hbn,IntKind.wrap_u8,UInt8.toNat_ofNat'];omega
 clear hl hf hbn;go_enter func29,ntmps29
 refine wL ?_;intros;have hz1:kW (w.alloc (aE #[aB .u8 65,aB .u8 77,aB .u8 49] 5 (3,4))) w.heap.size (aG ⟨w.heap.size,0,aF⟩) 3 [65,77,49] :=
  ⟨w.heap.size, [],(3,4),rfl,Nat.le_refl _,World.alloc_heap_new w _,rfl,by simp [maxLen],.inr ag⟩
 have hb1:=ws w (aE #[aB .u8 65,aB .u8 77,aB .u8 49] 5 (3,4));have hr1:=hr.alloc (aE #[aB .u8 65,aB .u8 77,aB .u8 49] 5 (3,4));have hs1:(w.alloc (aE #[aB .u8 65,aB .u8 77,aB .u8 49] 5 (3,4))).heap.size=w.heap.size+1:=World.size_alloc _ _;generalize w.alloc (aE #[aB .u8 65,aB .u8 77,aB .u8 49] 5 (3,4))=w1 at *
 have hz1':kW (w1.alloc (aE #[aB .u8 (bn.toNat:Int)] 5)) w.heap.size (aG ⟨w.heap.size,0,aF⟩) 3 [65,77,49]:=hz1.below ((Below.refl _ _).alloc ag _);have hb1':=hb1.alloc hb1.size (aE #[aB .u8 (bn.toNat:Int)] 5);have hsrc:Src zZZ (w1.alloc (aE #[aB .u8 (bn.toNat:Int)] 5)) 26 (aA (aG ⟨w1.heap.size,0,aF⟩) 1 1) 1 [bn]:=Src.sl underlying26 1 (Rd.new1 _);rw [<-hs1];refine xY rfl (.tmp 7) (.tmp 11) rfl ac hz1' rfl hsrc ab hb1'.size ?_;intro A2 c2 w2 hz2 hb2;have hb12:=hb1'.trans (hb2.mono ag);have hr2:Rd w2 3 A0 n (pcs x):=(hr.below hb12)
 have HR0:=sqH hr;clear hz1' hb1' hsrc hz1 hb1 hr1 hs1 hb2 hr2 hr hkc hw8;go_wp2_with fail;go_loopg [3,15,5] n (fun gn v i u wr=>∃(k:Nat) (A:aj) (c:Nat),gn=n - k/\i= aB aC k/\k<=n/\v= aA A ([65,77,49]++ [bn]++(x.take k).flatMap xM).length c/\kW wr w.heap.size A c ([65,77,49]++ [bn]++(x.take k).flatMap xM)/\Below w.heap.size w wr)
 case atStart=>exact⟨0,A2,c2,rfl,rfl,wu,rfl,hz2,hb12⟩
 case round =>
  clear hz2 hb12;obtain⟨k,A,c,hgk,rfl,hk,rfl,hZ,hbel⟩:=hrel;have HGK:=sqH hgk;clear hgk;by_cases hlt:k<n
  ·have hkl:k<x.length:=by have:=HL.o;omega
   have hstep:=YS x k hkl;have hfine:=HF.o x[k] (List.getElem_mem hkl);have hel:=U2 x HF.o k (wc HL);have hat:=fun j (hj:j<3)=>vf x k j hkl hj;obtain⟨b,off,rfl,hbw',hcell⟩:=(HR0.o.below hbel).2 wu;generalize x[k]=p at *
   have c0:=hcell (k*3+0) _ (hat 0 wu);have c1:=hcell (k*3+1) _ (hat 1 wu);have c2:=hcell (k*3+2) _ (hat 2 wu);rw [Nat.add_zero]at c0;rw [show off+(k*3+1)=off+k*3+1 by omega]at c1;rw [show off+(k*3+2)=off+k*3+2 by omega]at c2;obtain⟨pn,pd,z⟩:=p;dsimp only [yL,List.getElem?_cons_zero,List.getElem?_cons_succ]at c0 c1 c2;obtain⟨s,hs⟩:=wY (⟨pn.toArray⟩:ByteArray)
   obtain⟨t,ht⟩:=wY (⟨pd.toArray⟩:ByteArray)
   rw [<-hs]at c0;rw [<-ht]at c1;have hsd:s.data.toList=pn:=by rw [hs]
   have htd:t.data.toList=pd:=by rw [ht]
   have hss:s.size=pn.length:=by rw [<-hsd,Array.length_toList];rfl
   have hts:t.size=pd.length:=by rw [<-htd,Array.length_toList];rfl
   have hn12:=xQ hfine.1;have hux:=z12 hfine.2.1;have hz300:=hfine.2.2;have HDLL:=(Zl hfine.2.1).2;dsimp only at hn12 hux hz300 HDLL;obtain⟨bs,hbs⟩:=wY (UInt8.ofNat s.size)
   have hwb:IntKind.u8.wrap (s.size:Int)=(bs.toNat:Int):=by rw [hbs,IntKind.wrap_u8,UInt8.toNat_ofNat'];omega
   have HSTEP:=sqH (show(x.take (k+1)).flatMap xM=(x.take k).flatMap xM++([bs]++s.data.toList++(xJ pd).1++num z) from by
    rw [hstep,xM,txt,hsd,hbs,hss,kf (n:=pn.length) wu])
   have HUX:=sqH (show xd t.data.toList=aG (xJ pd).1 from by rw [htd];exact hux.1);have hs12:s.size<=12:=wu;have ht64:t.size=64:=wu;have hk0:=we k
   have hk1:(k:Int)<(n:Int):=wu;have hcc:decide (k<n)=true:=decide_eq_true hlt;have hal:([65,77,49]++ [bn]++(x.take k).flatMap xM).length<=4900:=by
    simp only [List.length_append,List.length_cons,List.length_nil];omega
   obtain⟨acc,hacc⟩:=wY ( [65,77,49]++ [bn]++(x.take k).flatMap xM)
   rw [<-hacc]at hZ hal ⊢
   have HACC:=sqH hacc;have hH0:=hux.1;have HDL:=sqH (show(xJ pd).1.length=32 from HDLL);generalize (xJ pd).1=dg at *
   clear hstep hfine hel hat hcell hs ht hsd htd hss hts hbs hacc hux hH0 HDLL;go_wp2_with fail;have hZ':kW (wr.alloc (aE #[aD s,aD t,aB aC z] 85)) w.heap.size A c acc:=hZ.below ((Below.refl _ _).alloc ag _);have hP:=Arr.new wr 85 [aD s,aD t,aB aC z];have hbw:=hbel.alloc hbel.size (aE #[aD s,aD t,aB aC z] 85);have hne:A≠aG ⟨wr.heap.size,0,aF⟩:=fun e=>by
    obtain⟨g,_,_,e',_,hg,_⟩:=hZ;rw [e]at e';cases e'
    have:=(Array.getElem?_eq_some_iff.1 hg).1;omega
   have hgw:w.heap.size<=wr.heap.size:=hbel.size;clear hZ hbel;have hZ:=hZ';clear hZ';have hP:Arr (wr.alloc (aE #[aD s,aD t,aB aC z] 85)) wr.heap.size 85 [aD s,aD t,aB aC z]:=hP;generalize wr.alloc (aE #[aD s,aD t,aB aC z] 85)=wa at *
   generalize wr.heap.size=gp at *
   clear c0 c1 c2;refine wp_region_held_drew (S:=(fun w'=>w'.cell? ⟨gp,0,aF⟩=aG (aD s))) ww ?_ (fun hHeld=> ?_)
   ·exact(hP.drew).c0
   have hB:=(Below.refl wa.heap.size wa).drew;have hPn:=hP.drew;have hZn:kW wa.drew w.heap.size A c acc:=hZ;have hbn:=hbw.drew;clear hP hZ hbw;generalize wa.drew=wn0 at *
   refine wpAnyH_take (i:=0) (oi:=_) (v:= ?_) rfl ww ww ww (fun _ _ _ h=>h) (Or.inl ⟨ac,?_⟩) (by assumption) ?_;rotate_left
   ·(intro w hSw;(try dsimp only [wH,wI,wJ,wK] at hSw);go_simp;try (with_reducible rfl))
   try simp only [sqQ]
   refine wpAnyH_take (i:=1) (oi:=_) (v:= ?_) rfl ww ww ww (fun _ _ _ h=>h) (Or.inl ⟨ac,?_⟩) (by assumption) ?_;rotate_left
   ·(intro w hSw;(try dsimp only [wH,wI,wJ,wK] at hSw);go_simp;try (with_reducible rfl))
   try simp only [sqQ]
   refine wpAnyH_take (i:=2) (oi:=_) (v:= ?_) rfl ww ww ww (fun _ _ _ h=>h) (Or.inl ⟨ac,?_⟩) (by assumption) ?_;rotate_left
   ·(intro w hSw;(try dsimp only [wH,wI,wJ,wK] at hSw);go_simp;try (with_reducible rfl))
   try simp only [sqQ]
   refine wpAnyH_take (i:=3) (oi:=_) (v:= ?_) rfl ww ww ww (fun _ _ _ h=>h) (Or.inl ⟨ac,?_⟩) (by assumption) ?_;rotate_left
   ·(intro w hSw;(try dsimp only [wH,wI,wJ,wK] at hSw);go_simp;try (with_reducible rfl))
   try simp only [sqQ]
   refine wpAnyH_take (i:=4) (oi:=_) (v:= ?_) rfl ww ww ww (fun _ _ _ h=>h) (Or.inl ⟨ac,?_⟩) (by assumption) ?_;rotate_left
   ·(intro w hSw;(try dsimp only [wH,wI,wJ,wK] at hSw);go_simp;try (with_reducible rfl))
   try simp only [sqQ]
   refine wpAnyH_take (i:=7) (oi:=_) (v:= ?_) rfl ww ww ww (fun _ _ _ h=>h) (Or.inl ⟨ac,?_⟩) (by assumption) ?_;rotate_left
   ·(intro w hSw;(try dsimp only [wH,wI,wJ,wK] at hSw);go_simp;try (with_reducible rfl))
   try simp only [sqQ]
   refine wpAnyH_take (i:=8) (oi:=_) (v:= ?_) rfl ww ww ww (fun _ _ _ h=>h) (Or.inl ⟨ac,?_⟩) (by assumption) ?_;rotate_left
   ·(intro w hSw;(try dsimp only [wH,wI,wJ,wK] at hSw);go_simp;try (with_reducible rfl))
   try simp only [sqQ]
   refine wU 5 fun K hK=>?_;go_simp;refine k5 hK ((hPn.alloc _).c0) (Below wn0.heap.size wn0) (fun W=>Arr W gp 85 [aD s,aD t,aB aC z]/\kW W w.heap.size A c acc/\Below w.heap.size w W/\Rd W 1 (aG ⟨wn0.heap.size,0,aF⟩) 1 (bys [bs])) (by first | exact(Below.refl _ _).alloc ag _ | exact Below.refl _ _) ⟨hPn.alloc _,hZn.below ((Below.refl _ _).alloc ag _),hbn.alloc hbn.size _,Rd.new1 _⟩ fun wn1 hHeld hst hnew=> ?_;have hB:=wm hB hst;clear hPn hZn hbn;obtain⟨hPn,hZn,hbn,h5⟩:=hnew;clear hst;clear hK K
   try simp only [sqQ]
   refine wU 6 fun K hK=>?_;refine K2 rfl (.tmp 19) (.tmp 24) rfl ac hZn rfl (Src.sl underlying26 1 h5) wu hbn.size ?_;intro A6 c6 w6 hz6 hb6 hg6 ha6;refine k5 hK ?_ (fun W=>Arr W gp 85 [aD s,aD t,aB aC z]/\kW W w.heap.size A6 c6 (acc++ [bs])/\A6≠aG ⟨gp,0,aF⟩) (Below w.heap.size w) ?_ ?_ (fun wn2 hHeld hF hG=> ?_)
   ·exact(hPn.beside hg6 hne hZn.addr).c0
   ·refine⟨hPn.beside hg6 hne hZn.addr,hz6,fun e=> ?_⟩;rcases ha6 gp e with h | h
    ·exact hne h
    ·have:=hPn.lt;omega
   ·exact hbn.trans (hb6.mono ag)
   clear hPn hZn hbn hne hB;obtain⟨hPn,hZn,hne⟩:=hF;have hbn:=hG;clear hG;clear hK K
   try simp only [sqQ]
   refine wU 9 fun K hK=>?_;refine K2 rfl (.tmp 25) (.tmp 27) rfl ac hZn rfl (Src.str underlying9 s) (by rw [List.length_append];simp only [List.length_cons,List.length_nil];omega) hbn.size ?_;intro A9 c9 w9 hz9 hb9 hg9 ha9;refine k5 hK ?_ (fun W=>Arr W gp 85 [aD s,aD t,aB aC z]/\kW W w.heap.size A9 c9 (acc++ [bs]++s.data.toList)/\A9≠aG ⟨gp,0,aF⟩) (Below w.heap.size w) ?_ ?_ (fun wn3 hHeld hF hG=> ?_)
   ·exact(hPn.beside hg9 hne hZn.addr).c0
   ·refine⟨hPn.beside hg9 hne hZn.addr,hz9,fun e=> ?_⟩;rcases ha9 gp e with h | h
    ·exact hne h
    ·have:=hPn.lt;omega
   ·exact hbn.trans (hb9.mono ag)
   clear hPn hZn hbn hne;obtain⟨hPn,hZn,hne⟩:=hF;have hbn:=hG;clear hG;generalize hacc2:acc++ [bs]++s.data.toList=acc2 at *
   have HA2:=sqH hacc2;clear hacc2;clear hK K
   try simp only [sqQ]
   refine wpAnyH_take (i:=10) (oi:=_) (v:= ?_) rfl ww ww ww (fun _ _ _ h=>h) (Or.inl ⟨ac,?_⟩) (by assumption) ?_;rotate_left
   ·(intro w hSw;(try dsimp only [wH,wI,wJ,wK] at hSw);go_simp;try (with_reducible rfl))
   try simp only [sqQ]
   refine wpAnyH_done ww ?_ _;clear hHeld;have hal2:acc2.length<=5000:=by
    have h:=congrArg List.length HA2.o;have h2:s.data.toList.length=s.size:=by rw [Array.length_toList];rfl
    simp only [List.length_append,List.length_cons,List.length_nil,h2]at h;omega
   have f1:=hPn.c1;go_wp2_with fail;refine(UF t dg 32 wn3 wu wu HUX.o).mono ?_;rintro e_ w4 ⟨v4,rfl,ho4,hb4⟩;dsimp only;have hb14:=wm hbn hb4;have hP4:=hPn.below hb4;have hZ4:=hZn.below hb4;obtain⟨A4,c4,rfl,hc4,hr4⟩:=Rd.of_own' ho4;have hdl:dg.length<=5000:=by have:=HDL.o;omega
   clear ho4 hPn hZn hbn hb4 f1
   refine wL ?_;intros;refine Ql rfl (.tmp 29) (.tmp 32) rfl ac hZ4 rfl (Src.sl underlying26 c4 hr4) wu hb14.size ?_;intro A5 c5 w5 hz5 hb5 hg5 ha5;have hP5:=hP4.beside hg5 hne hZ4.addr;have hne5:A5≠aG ⟨gp,0,aF⟩:=fun e=>by
    rcases ha5 gp e with h | h
    ·exact hne h
    ·have:=hP4.lt;omega
   have hb15:=hb14.trans (hb5.mono ag);have hal3:(acc2++dg).length<=11000:=by rw [List.length_append];omega
   generalize hacc3:acc2++dg=acc3 at *
   have HA3:=sqH hacc3;have f2:=hP5.c2;clear hacc3 hZ4 hP4 hg5 ha5 hr4 hb5 hb14 hne;by_cases hbig:127<z
   ·have e1:decide ((127:Int)<(z:Int))=true:=decide_eq_true wu;obtain⟨b0,hb0⟩:=wY (UInt8.ofNat (z % 128+128))
    obtain⟨b1,hb1⟩:=wY (UInt8.ofNat (z / 128))
    have HNZ:=sqH (show num z= [b0,b1] from by rw [Q9 wu,kf (n:=z / 128) wu,hb0,hb1]);have q1:bits .or .u8 ((z:Int) % 128) 128=(b0.toNat:Int):=by
     rw [hb0];exact z2f z
    have q1':IntKind.u8.wrap ((z:Int) % 128)=(z:Int) % 128:=by rw [IntKind.wrap_u8];omega
    have q2:IntKind.u8.wrap ((z:Int) / 128)=(b1.toNat:Int):=by rw [hb1,IntKind.wrap_u8,UInt8.toNat_ofNat'];omega
    clear hb0 hb1 hbig
    refine wL ?_;intros;have hz5':kW (w5.alloc (aE #[aB .u8 (b0.toNat:Int),aB .u8 (b1.toNat:Int)] 5)) w.heap.size A5 c5 acc3:=hz5.below ((Below.refl _ _).alloc ag _);refine xY rfl (.tmp 37) (.tmp 47) rfl ac hz5' (k:= [b0,b1]) rfl (Src.sl underlying26 2 (Rd.newN (w:=w5) (e:=5) (size:=1) (m:=2) (bys [b0,b1]) rfl)) wu (Nat.le_trans hb15.size ab) ?_;intro A6 c6 w6 hz6 hb6;have hb16:=(hb15.alloc hb15.size (aE #[aB .u8 (b0.toNat:Int),aB .u8 (b1.toNat:Int)] 5)).trans (hb6.mono ag);have hacc4:acc3++ [b0,b1]= [65,77,49]++ [bn]++(x.take (k+1)).flatMap xM:=by
     rw [HSTEP.o,HNZ.o,<-HA3.o,<-HA2.o,HACC.o];simp only [List.append_assoc]
    rw [hacc4]at hz6 ⊢
    clear hacc4 hz5' hz5 hb15 hb6;generalize hX: [65,77,49]++ [bn]++(x.take (k+1)).flatMap xM=X4 at *
    go_wp2_with fail;go_roundg (n - (k+1))
    case measure=>exact wc HGK
    case rel=>exact⟨k+1,A6,c6,rfl,by go_num,wu,by rw [hX],by rw [hX];exact hz6,hb16⟩
   ·have e1:decide ((127:Int)<(z:Int))=false:=decide_eq_false wu;obtain⟨bz,hbz⟩:=wY (UInt8.ofNat z)
    have HNZ:=sqH (show num z= [bz] from by rw [kf wu,hbz]);have q2:IntKind.u8.wrap (z:Int)=(bz.toNat:Int):=by rw [hbz,IntKind.wrap_u8,UInt8.toNat_ofNat'];omega
    clear hbz hbig
    refine wL ?_;intros;have hz5':kW (w5.alloc (aE #[aB .u8 (bz.toNat:Int)] 5)) w.heap.size A5 c5 acc3:=hz5.below ((Below.refl _ _).alloc ag _);refine xY rfl (.tmp 49) (.tmp 53) rfl ac hz5' (k:= [bz]) rfl (Src.sl underlying26 1 (Rd.new1 _)) wu (Nat.le_trans hb15.size ab) ?_;intro A6 c6 w6 hz6 hb6;have hb16:=(hb15.alloc hb15.size (aE #[aB .u8 (bz.toNat:Int)] 5)).trans (hb6.mono ag);have hacc4:acc3++ [bz]= [65,77,49]++ [bn]++(x.take (k+1)).flatMap xM:=by
     rw [HSTEP.o,HNZ.o,<-HA3.o,<-HA2.o,HACC.o];simp only [List.append_assoc]
    rw [hacc4]at hz6 ⊢
    clear hacc4 hz5' hz5 hb15 hb6;generalize hX: [65,77,49]++ [bn]++(x.take (k+1)).flatMap xM=X4 at *
    go_wp2_with fail;go_roundg (n - (k+1))
    case measure=>exact wc HGK
    case rel=>exact⟨k+1,A6,c6,rfl,by go_num,wu,by rw [hX],by rw [hX];exact hz6,hb16⟩
  ·obtain rfl:k=n:=by omega
   have hcc:decide (k<k)=false:=ab;have hfin: [65,77,49]++ [bn]++(x.take k).flatMap xM=enc x:=by
    rw [HEN.o,List.take_of_length_le (wc HL)]
   rw [hfin]at hZ ⊢
   clear hfin;generalize hX:enc x=X4 at *
   go_wp2_with fail;go_ret;rw [hX];exact⟨A,c,rfl,hZ,hbel⟩
theorem z1z:El zZZ 35 9 1 16:=El.mk' (z:= aD ByteArray.empty) underlying35 ww rfl wu wu
def dcs (l:List PartP):ak:=l.map fun p=> aD ⟨p.dig.toArray⟩
theorem QD (l:List PartP) (k:Nat) (h:k<l.length):dcs (l.take (k+1))=dcs (l.take k)++ [aD ⟨l[k].dig.toArray⟩]:=by
 rw [dcs,List.take_succ_eq_append_getElem h,List.map_append];rfl
theorem Za:∀(n:Nat) (out:List PartP) (l:ai),(zW n out l).2.1.length<=out.length+n
 | 0,out,l=>Nat.le_refl _
 | n+1,out,l=>by
  rw [zW]
  split
  ·exact Nat.zero_le _
  ·have:=Za n (out++ [(vt l).1]) (vt l).2.1
   rw [List.length_append]at this;simp only [List.length_cons,List.length_nil]at this;omega
theorem yG (b:ai):(kr b).1.length<=8:=by
 have h0:=Za (zA (b.drop 3)).1 [] (zA (b.drop 3)).2.1;simp only [List.length_nil,Nat.zero_add]at h0;unfold kr;split
 ·exact Nat.zero_le _
 ·split
  ·exact Nat.zero_le _
  ·split
   ·exact Nat.zero_le _
   ·split
    ·exact Nat.zero_le _
    ·split
     ·exact Nat.zero_le _
     ·split
      ·exact Nat.zero_le _
      ·split
       ·exact Nat.zero_le _
       ·dsimp only;omega
theorem vO (s:ByteArray) (A:aj) (n c:Nat) (l:ai) (pn:Int) (mk:Bool) (w:World) (hl:l.length=n) (hc:n<=c) (hm:c<=maxLen) (hr:Rd w 1 A n (bys l)) :
  Calls zZZ 81 #[.agg #[aD s,aA A n c,aB aC pn,.bool mk]] w fun e w'=>∃v,e= .returned v/\w'.ownsRow w.heap.size 9 1 v (kr l).1.length (dcs (kr l).1)/\Below w.heap.size w w':=by
 have HD:=sqH (fun w' hr'=>Y9 A n c l w' hl hc hm hr');have hx8:=yG l;generalize kr l=D at *
 obtain⟨x,er⟩:=D;dsimp only at HD hx8 ⊢
 obtain⟨w1,hw1⟩:=wY (w.alloc (aE #[aD s,aA A n c,aB aC pn,.bool mk] 76))
 have hb1:Below w.heap.size w w1:=by rw [hw1];exact(Below.refl _ _).alloc ag _
 have hr1:Rd w1 1 A n (bys l):=by rw [hw1];exact hr.alloc _
 have HW:=sqH hw1;clear hw1 hl hr;go_enter func81,ntmps81;go_wp2_with fail;rw [<-HW.o];refine(HD.o w1 hr1).mono ?_;rintro e_ w2 ⟨v2,rfl,ho2,hb2⟩;dsimp only;have hb12:=wm hb1 hb2;obtain⟨A2,c2,rfl,hc2,hr2⟩:=Rd.of_own' ho2;have HR2:=sqH hr2;clear ho2 hr1;go_wp2_with fail;go_loopg [5,16,7] x.length (fun gn v i u wr=>∃k:Nat,gn=x.length - k/\i= aB aC k/\k<=x.length/\wr.ownsRow w2.heap.size 9 1 v k (dcs (x.take k))/\Below w2.heap.size w2 wr/\Below w.heap.size w wr)
 case atStart=>exact⟨0,rfl,rfl,wu,World.ownsRow_nil _ _ _ _,Below.refl _ _,hb12⟩
 case round =>
  obtain⟨k,hgk,rfl,hk,ho,hbl,hbel⟩:=hrel;have HGK:=sqH hgk;clear hgk;by_cases hlt:k<x.length
  ·have hstep:=QD x k hlt;have hat:=fun j (hj:j<3)=>vf x k j hlt hj;obtain⟨b,off,rfl,hbw',hcell⟩:=(HR2.o.below hbl).2 wu;have c0:=hcell (k*3+0) _ (hat 0 wu);have c1:=hcell (k*3+1) _ (hat 1 wu);have c2:=hcell (k*3+2) _ (hat 2 wu);rw [Nat.add_zero]at c0;rw [show off+(k*3+1)=off+k*3+1 by omega]at c1;rw [show off+(k*3+2)=off+k*3+2 by omega]at c2
   try dsimp only [yL,List.getElem?_cons_zero,List.getElem?_cons_succ]at c0 c1 c2
   generalize (⟨x[k].name.toArray⟩:ByteArray)=s' at *
   generalize (⟨x[k].dig.toArray⟩:ByteArray)=t' at *
   generalize (x[k].size:Int)=z' at *
   have HST:=sqH hstep;have hk0:=we k
   have hk1:(k:Int)<(x.length:Int):=wu;have hcc:decide (k<x.length)=true:=decide_eq_true hlt;clear hstep hat hcell
   refine wL ?_;intros;have hbl':=hbl.alloc hbl.size (aE #[aD s',aD t',aB aC z'] 85);have hbel':=hbel.alloc hbel.size (aE #[aD s',aD t',aB aC z'] 85);have ho':=ho.alloc (aE #[aD s',aD t',aB aC z'] 85);have hs1:(wr.alloc (aE #[aD s',aD t',aB aC z'] 85)).heap.size=wr.heap.size+1:=World.size_alloc _ _;generalize wr.alloc (aE #[aD s',aD t',aB aC z'] 85)=wb at *
   rw [<-hs1];clear hs1 ho hbl hbel c0 c1 c2;refine zh rfl (.tmp 20) (.tmp 23) rfl z1z ac ho' (us:= [aD t']) (m:=1) ac rfl (by intro u hu;simp at hu;subst hu;rfl) wu hbl'.size ?_;intro v5 w5 ho5 hg5 hv5;rw [<-HST.o]at ho5;have hbl5:=zj hbl' ho' ag hg5;have hbel5:=wm hb12 hbl5;go_wp2_with fail;go_roundg (x.length - (k+1))
   case measure=>exact wc HGK
   case rel=>exact⟨k+1,rfl,by go_num,wu,ho5,hbl5,hbel5⟩
  ·obtain rfl:k=x.length:=by omega
   have hcc:decide (x.length<x.length)=false:=ab;rw [List.take_length]at ho;go_wp2_with fail;go_ret;exact⟨_,rfl,zb ho hb12.size,hbel⟩
theorem ji (n:Int) (w:World):Calls zZZ 92 #[aB aC n] w fun e w'=>e= .returned (.bool (decide (1<=n/\n<=1000)))/\w=w':=by
 by_cases h1:1<=n
 ·by_cases h2:n<=1000
  ·have e1:decide (1<=n)=true:=by simpa using h1
   have e2:decide (n<=1000)=true:=by simpa using h2
   have e3:decide (1<=n/\n<=1000)=true:=by simp [h1,h2]
   have H3:=sqH e3;clear e3;go_enter func92,ntmps92
   refine wL ?_;intros;go_ret;rw [H3.o];exact⟨rfl,rfl⟩
  ·have e1:decide (1<=n)=true:=by simpa using h1
   have e2:decide (n<=1000)=false:=by simpa using h2
   have e3:decide (1<=n/\n<=1000)=false:=by simp [h1,h2]
   have H3:=sqH e3;clear e3;go_enter func92,ntmps92
   refine wL ?_;intros;go_ret;rw [H3.o];exact⟨rfl,rfl⟩
 ·have e1:decide (1<=n)=false:=by simpa using h1
  have e3:decide (1<=n/\n<=1000)=false:=by simp [h1]
  have H3:=sqH e3;clear e3;go_enter func92,ntmps92
  refine wL ?_;intros;go_ret;rw [H3.o];exact⟨rfl,rfl⟩
theorem U0:El zZZ 45 3 1 8:=El.mk' (z:= aB aC 0) underlying45 ww rfl wu wu
theorem Xi (l:List Int):∀u∈ins l,u.oneCell'=true:=by
 intro u hu;simp only [ins,List.mem_map]at hu;obtain⟨_,_,rfl⟩:=hu;rfl
theorem y8 (A:aj) (c:Nat) (l:List Int) (x:Int) (w:World) (hn:l.length<=9223372036854775807) (hr:Rd w 1 A l.length (ins l)) :
  Calls zZZ 12 #[aA A l.length c,aB aC x] w fun e w'=>e= .returned (.bool (l.contains x))/\w=w':=by
 rcases Nat.eq_zero_or_pos l.length with h0 | h0
 ·obtain rfl:=List.eq_nil_of_length_eq_zero h0;exact(Tryz.slices_Contains_int_empty A c x w).mono fun e w' h=>⟨h.1,h.2.symm⟩
 ·obtain⟨b,off,rfl,_,hc⟩:=hr.2 h0;refine(Tryz.slices_Contains_int b off l.length c l x w ag hn (fun j hj=>hc j _ ?_)).mono fun e w' h=>⟨?_,h.2.symm⟩
  ·rw [ins,List.getElem?_map,List.getElem?_eq_getElem hj,List.getD_eq_getElem?_getD,List.getElem?_eq_getElem hj];rfl
  ·rw [h.1,List.take_length]
theorem vX (s:ByteArray) (ld:Int) (A:aj) (c:Nat) (l:List Int) (w:World) (hn:l.length<=1000000) (hr:Rd w 1 A l.length (ins l)) :
  Calls zZZ 91 #[.agg #[aD s,aB aC ld,aA A l.length c]] w fun e w'=>∃v,e= .returned v/\w'.ownsRow w.heap.size 3 1 v (l.length+1) (ins (ld::l))/\Below w.heap.size w w':=by
 have hb1:=ws w (aE #[aD s,aB aC ld,aA A l.length c] 93);have hr1:=hr.alloc (aE #[aD s,aB aC ld,aA A l.length c] 93);go_enter func91,ntmps91
 refine wL ?_;intros;have hs1:(w.alloc (aE #[aD s,aB aC ld,aA A l.length c] 93)).heap.size=w.heap.size+1:=World.size_alloc _ _;generalize w.alloc (aE #[aD s,aB aC ld,aA A l.length c] 93)=w1 at *
 rw [<-hs1];have ho:(w1.alloc (aE #[aB aC ld] 3)).ownsRow w.heap.size 3 1 (aA (aG ⟨w1.heap.size,0,aF⟩) 1 1) 1 [aB aC ld] :=
  ⟨rfl,.inr ⟨w1.heap.size,1,#[aB aC ld],rfl,hb1.size,World.alloc_heap_new w1 _,Nat.le_refl _,by simp [maxLen],rfl,rfl⟩⟩
 have hb2:=hb1.alloc hb1.size (aE #[aB aC ld] 3);have hr2:=hr1.alloc (aE #[aB aC ld] 3);refine zM rfl (.tmp 5) (.tmp 7) rfl U0 ac ho ac hr2 (Xi l) wu hb2.size ?_;intro v3 w3 ho3 hg3 _;have hb3:=zj hb2 ho ag hg3;rw [Nat.add_comm 1 l.length]at ho3
 refine wL ?_;intros;go_ret;exact⟨_,rfl,ho3,hb3⟩
theorem Vs (s k:ByteArray) (ld:Int) (sl:Value) (gk:Nat) (w:World) (hk:w.cell? ⟨gk,0,aF⟩=aG (aD k)) (hg:gk<w.heap.size) :
  Calls zZZ 140 #[.agg #[aD s,aB aC ld,sl],.pointer (aG ⟨gk,0,aF⟩)] w fun e w'=>e= .returned (.bool (s.toList==k.toList))/\Below w.heap.size w w':=by
 have hb1:=ws w (aE #[aD s,aB aC ld,sl] 93);have hk1:(w.alloc (aE #[aD s,aB aC ld,sl] 93)).cell? ⟨gk,0,aF⟩=aG (aD k):=(World.cell?_alloc_lt w _ ⟨gk,0,aF⟩ hg).trans hk;go_enter func140,ntmps140;go_wp2_with fail;go_ret;exact⟨rfl,hb1⟩
def fnd:Nat->List FlP->List UInt8->Option Nat
 | _, [],_=>aF
 | i,p::r,k=>if p.key=k then aG i else fnd (i+1) r k
theorem Jx (A:aj) (c:Nat) (fs:List FlP) (k:ByteArray) (gq:Nat) (w:World) (hn:fs.length<=1000000) (hf:Fls w A fs) (hk:w.cell? ⟨gq,0,aF⟩=aG (aD k)) (hg:gq<w.heap.size) :
  Calls zZZ 139 #[aA A fs.length c,.func (.func 140) #[] #[.pointer (aG ⟨gq,0,aF⟩)]] w fun e w' =>
   e= .returned (aB aC (match fnd 0 fs k.data.toList with | some i=>(i:Int) | none=> -1))/\Below w.heap.size w w':=by
 generalize hR:fnd 0 fs k.data.toList=R;have HR:=sqH hR;clear hR;go_enter func139,ntmps139
 refine wL ?_;intros;go_loopg [5,8] fs.length (fun gn u i wr=>∃j:Nat,gn=fs.length - j/\i= aB aC j/\j<=fs.length/\fnd 0 fs k.data.toList=fnd j (fs.drop j) k.data.toList/\Below w.heap.size w wr)
 case atStart=>exact⟨0,rfl,rfl,wu,rfl,Below.refl _ _⟩
 case round =>
  obtain⟨j,hgk,rfl,hj,hfn,hbl⟩:=hrel;have HGK:=sqH hgk;clear hgk;by_cases hlt:j<fs.length
  ·have hcc:decide (j<fs.length)=true:=decide_eq_true hlt;obtain⟨b,off,B,cb,rfl,hbb,c0,c1,c2,_,_,_⟩:=(hf.below hbl).at_ j hlt;have hj0:=we j
   have hj1:(j:Int)<(fs.length:Int):=wu;have hstep:fnd j (fs.drop j) k.data.toList=if fs[j].key=k.data.toList then aG j else fnd (j+1) (fs.drop (j+1)) k.data.toList:=by
    rw [List.drop_eq_getElem_cons hlt,fnd]
   obtain⟨s,hs⟩:=wY (⟨fs[j].key.toArray⟩:ByteArray)
   have hsd:s.data.toList=fs[j].key:=by rw [hs]
   rw [<-hs]at c0;rw [<-hsd]at hstep;have HST:=sqH (hfn.trans hstep);generalize fs[j].lead=ld at *
   generalize fs[j].wait.length=wl at *
   have hkk:=(hbl.cell (p:=⟨gq,0,aF⟩) hg).trans hk;have hgg:=Nat.lt_of_lt_of_le hg hbl.size;clear hfn hstep hs hsd
   refine wL ?_;intros;refine wZ (Vs s k ld (aA B wl cb) gq wr hkk hgg) fun w5 hb5=>?_;dsimp only;have hb05:=wm hbl hb5;by_cases he:s.data.toList=k.data.toList
   ·have e1:(s.toList==k.toList)=true:=by rw [ByteArray.toList_eq,ByteArray.toList_eq,he,beq_self_eq_true]
    have HF:=sqH (show R=aG j from by rw [<-HR.o,HST.o,if_pos he]);rw [e1];clear he e1
    refine wL ?_;intros;go_ret;rw [HF.o];exact⟨rfl,hb05⟩
   ·have e1:(s.toList==k.toList)=false:=by rw [beq_eq_false_iff_ne,ByteArray.toList_eq,ByteArray.toList_eq];exact he
    have HF:=sqH (show fnd 0 fs k.data.toList=fnd (j+1) (fs.drop (j+1)) k.data.toList from by rw [HST.o,if_neg he]);rw [e1];clear he e1
    refine wL ?_;intros;go_roundg (fs.length - (j+1))
    case measure=>exact wc HGK
    case rel=>exact⟨j+1,rfl,by go_num,wu,HF.o,hb05⟩
  ·obtain rfl:j=fs.length:=by omega
   have hcc:decide (fs.length<fs.length)=false:=ab;have HF:=sqH (show R=aF from by rw [<-HR.o,hfn,List.drop_length,fnd]);clear hfn
   refine wL ?_;intros;go_ret;rw [HF.o];exact⟨rfl,hbl⟩
theorem kG (A:aj) (c:Nat) (fs:List FlP) (k:ByteArray) (w:World) (hn:fs.length<=1000000) (hf:Fls w A fs) :
  Calls zZZ 90 #[aA A fs.length c,aD k] w fun e w'=>e= .returned (.tuple (match fnd 0 fs k.data.toList with | some i=>#[aB aC i,aB aC 0] | none=>#[aB aC 0,aB aC 5]))/\Below w.heap.size w w':=by
 obtain⟨w1,hw1⟩:=wY (w.alloc (aE #[aD k] 9))
 have hb1:Below w.heap.size w w1:=by rw [hw1];exact(Below.refl _ _).alloc ag _
 have hk1:w1.cell? ⟨w.heap.size,0,aF⟩=aG (aD k):=by rw [hw1];exact(Arr.new w 9 [aD k]).c0
 have hg1:w.heap.size<w1.heap.size:=by rw [hw1];simp
 have HI:=sqH (Jx A c fs k w.heap.size w1 hn (hf.below hb1) hk1 hg1);have HW:=sqH hw1;clear hw1 hk1 hf;cases hfn:fnd 0 fs k.data.toList with
 | none =>
  have hi:=HI.o;rw [hfn]at hi;dsimp only at hi;clear HI hfn;go_enter func90,ntmps90;go_wp2_with fail;rw [<-HW.o];refine wZ hi fun w2 hb2=>?_;dsimp only;go_wp2_with fail;go_ret2;exact⟨rfl,wm hb1 hb2⟩
 | some i =>
  have hi:=HI.o;rw [hfn]at hi;dsimp only at hi;have hneg:decide ((i:Int)<0)=false:=decide_eq_false wu;clear HI hfn;go_enter func90,ntmps90;go_wp2_with fail;rw [<-HW.o];refine wZ hi fun w2 hb2=>?_;dsimp only;go_wp2_with fail;go_ret2;exact⟨rfl,wm hb1 hb2⟩
def CrewOk (l:List Int):Prop:=∀j (h:j<l.length),(1<=l[j]/\l[j]<=1000)/\(l.take j).contains l[j]=false
structure GoodF (fs:List FlP):Prop where
 len:fs.length<=6
 key:∀j (h:j<fs.length),hexC fs[j].key=0/\fs[j].key.length<=1000
 one:∀j (h:j<fs.length),fnd 0 (fs.take j) fs[j].key=aF
 few:∀j (h:j<fs.length),fs[j].wait.length<=5
 crew:∀j (h:j<fs.length),CrewOk (fs[j].lead::fs[j].wait)
theorem uP:∀(fs:List FlP) (As:List (aj×Nat)) (k:Nat),As.length=fs.length ->
  ((fs.zip As).flatMap fun x=>qM x.1 x.2.1 x.2.2).take (k*3)=((fs.take k).zip (As.take k)).flatMap fun x=>qM x.1 x.2.1 x.2.2
 | [], [],k,_=>by simp
 | f::fs,a::As,0,_=>by simp
 | f::fs,a::As,k+1,h=>by
  rw [List.zip_cons_cons,List.flatMap_cons,List.take_succ_cons,List.take_succ_cons,List.zip_cons_cons,List.flatMap_cons,
   <-uP fs As k (by simpa using h),List.take_append,List.take_of_length_le (by simp [qM];omega)]
  congr 2
  simp [qM];omega
theorem Fls.take {fs:List FlP} (h:Fls w A fs) (k:Nat) (hk:k<=fs.length):Fls w A (fs.take k):=by
 obtain⟨As,h1,h2,h3⟩:=h;refine⟨As.take k,by rw [List.length_take,List.length_take,h1],?_,fun j p a hp ha=> ?_⟩
 ·have:=h2.pre hk;rw [uP fs As k h1]at this;rw [List.length_take,Nat.min_eq_left hk];exact this
 ·rw [List.getElem?_take]at hp ha;split at hp
  ·rename_i hjk;rw [if_pos hjk]at ha;exact h3 j p a hp ha
  ·cases hp
theorem ka (A:aj) (c:Nat) (fs:List FlP) (w:World) (hG:GoodF fs) (hf:Fls w A fs) (hc:fs.length<=c) (hm:c<=maxLen) :
  Calls zZZ 39 #[aA A fs.length c] w fun e w'=>e= .returned (aB aC 0)/\Below w.heap.size w w':=by
 have HG:=sqH hG;have hn6:=hG.len;have e6:decide ((6:Int)<(fs.length:Int))=false:=decide_eq_false wu;have e6':decide (6<fs.length)=false:=decide_eq_false wu;have hcm:(c:Int)<=9223372036854775807:=by unfold maxLen at hm;omega
 clear hG;go_enter func39,ntmps39;go_wp2_with fail;go_loopg [3,16,4] fs.length (fun gn u i v wr=>∃j:Nat,gn=fs.length - j/\i= aB aC j/\j<=fs.length/\Below w.heap.size w wr)
 case atStart=>exact⟨0,rfl,rfl,wu,Below.refl _ _⟩
 case round =>
  obtain⟨j,hgk,rfl,hj,hbl⟩:=hrel;have HGK:=sqH hgk;clear hgk;by_cases hlt:j<fs.length
  ·have hcc:decide (j<fs.length)=true:=decide_eq_true hlt;have hfl:=hf.below hbl;obtain⟨b,off,B,cb,rfl,hbb,c0,c1,c2,hrw,hwc,hcbm⟩:=hfl.at_ j hlt;have hft:=hfl.take j wu;have hk:=HG.o.key j hlt;have h1:=HG.o.one j hlt;have hfw:=HG.o.few j hlt;have hcr:=HG.o.crew j hlt;have htl:(fs.take j).length=j:=by rw [List.length_take];omega
   obtain⟨s,hs⟩:=wY (⟨fs[j].key.toArray⟩:ByteArray)
   have hsd:s.data.toList=fs[j].key:=by rw [hs]
   have hss:s.size<=140737488351232:=by
    have h2:s.data.toList.length=s.size:=by rw [Array.length_toList];rfl
    rw [hsd]at h2;omega
   rw [<-hs]at c0;rw [<-hsd]at hk h1;generalize fs[j].lead=ld at *
   generalize fs[j].wait=wt at *
   have hj0:=we j
   have hj1:(j:Int)<(fs.length:Int):=wu;have hjc:(j:Int)<=(c:Int):=wu;obtain⟨HK,HT,H1,HCR⟩:=sqJ4 hk htl h1 hcr;have hP:=Arr.new wr 93 [aD s,aB aC ld,aA B wt.length cb];have hb1:=hbl.alloc hbl.size (aE #[aD s,aB aC ld,aA B wt.length cb] 93);have hft1:Fls (wr.alloc (aE #[aD s,aB aC ld,aA B wt.length cb] 93)) (aG ⟨b,off,aF⟩) (fs.take j):=hft.below ((Below.refl _ _).alloc ag _);have hrw1:=hrw.alloc (aE #[aD s,aB aC ld,aA B wt.length cb] 93);have hP':Arr (wr.alloc (aE #[aD s,aB aC ld,aA B wt.length cb] 93)) wr.heap.size 93 [aD s,aB aC ld,aA B wt.length cb]:=hP;clear hk h1 hcr hs hsd htl hft hrw hfl hP;go_wp2_with fail;generalize wr.alloc (aE #[aD s,aB aC ld,aA B wt.length cb] 93)=w1 at *
   generalize wr.heap.size=gp at *
   refine wZ (kz 0 rfl HK.o.1 w1 hss) fun w2 hb2=>?_;dsimp only;have hb12:=wm hb1 hb2;have hP2:=hP'.below hb2;have hft2:=hft1.below hb2;have hrw2:=hrw1.below hb2;have f0:=hP2.c0;have f2:=hP2.c2;clear c0 c1 c2;go_wp2_with fail;refine wp_region_held_drew (S:=(fun w'=>w'.cell? ⟨gp,0,aF⟩=aG (aD s))) ww ?_ (fun hHeld=> ?_)
   ·exact(hP2.drew).c0
   have hB:=(Below.refl w2.heap.size w2).drew;generalize w2.drew=wn0 at *
   refine wQ 0 ?_;refine wQ 1 ?_;refine wQ 2 ?_;refine wQ 3 ?_;refine wQ 4 ?_;refine wU 5 fun K hK=>?_;have hfi:=kG (aG ⟨b,off,aF⟩) c (fs.take j) s wn0 (by rw [HT.o];omega) (hft2.below hB);rw [H1.o,HT.o]at hfi;go_simp;refine(hfi).mono ?_;rintro e5 w5 ⟨rfl,hb5⟩;dsimp only;refine wF hK (((hP2.below hB).below hb5).c0) (Below wn0.heap.size wn0) hb5 fun wn1 hHeld hst=> ?_;have hB:=wm hB hst;clear hst;clear hK K
   refine wQ 6 ?_;refine wQ 7 ?_;refine wQ 8 ?_;refine wQ 9 ?_;refine wQ 10 ?_;refine wpAnyH_done ww ?_ _;clear hHeld;have hP5:=hP2.below hB;have hrw5:=hrw2.below hB;have hb15:=wm hb12 hB;obtain⟨f0,f1,f2⟩:=sqC3 hP5;have e5:decide ((5:Int)<(wt.length:Int))=false:=decide_eq_false wu;have e5':decide (5<wt.length)=false:=decide_eq_false wu;clear hP2 hft2 hrw2 hb12 hB;dsimp only [Exit.then];go_wp2_with fail;refine(vX s ld B cb wt wn1 wu hrw5).mono ?_;rintro e_ w6 ⟨v6,rfl,ho6,hb6⟩;dsimp only;have hb16:=wm hb15 hb6;obtain⟨A6,c6,rfl,hc6,hr6⟩:=Rd.of_own' ho6;have hl6:(ld::wt).length=wt.length+1:=rfl;obtain⟨l6,hl6e⟩:=wY (ld::wt)
   rw [<-hl6e]at hr6 hl6;have HCR6:=sqH (show CrewOk l6 from by rw [hl6e];exact HCR.o);have hcm6:c6<=maxLen:=by
    rcases ho6.2 with ⟨h1,h2⟩ | ⟨_,cap,_,h1,_,_,_,h2,_⟩
    ·omega
    ·injection h1 with _ _ h3;subst h3;exact h2
   have hc63:(c6:Int)<=9223372036854775807:=by unfold maxLen at hcm6;omega
   obtain⟨m6,hm6⟩:=wY (wt.length+1)
   rw [<-hm6]at hl6 hr6 hc6 ⊢
   have hm66:m6<=6:=wu;clear ho6 hl6e hP5 hrw5 f0 f1 f2 hm6;go_wp2_with fail;go_loopg [9,10,46] m6 (fun gn a b i wr=>∃q:Nat,gn=m6 - q/\i= aB aC q/\q<=m6/\Below w6.heap.size w6 wr)
   case atStart=>exact⟨0,rfl,rfl,wu,Below.refl _ _⟩
   case round =>
    obtain⟨q,hgq,rfl,hq,hbq⟩:=hrel;have HGQ:=sqH hgq;clear hgq;have hb1q:=wm hb16 hbq;by_cases hqt:q<m6
    ·have hqq:decide (q<m6)=true:=decide_eq_true hqt;have hql:q<l6.length:=wu
     obtain⟨b6,off6,rfl,hbb6,hcell⟩:=(hr6.below hbq).2 wu;have cx:=hcell q (aB aC l6[q]) (by rw [ins,List.getElem?_map,List.getElem?_eq_getElem hql];rfl);obtain⟨hw1,hw2⟩:=HCR6.o q hql;have hrt:=(hr6.below hbq).pre (k:=q) wu;rw [Nat.mul_one,show(ins l6).take q=ins (l6.take q) by simp [ins]]at hrt;have htq:(l6.take q).length=q:=by rw [List.length_take];omega
     have hwho:=ji l6[q] wr;rw [show decide (1<=l6[q]/\l6[q]<=1000)=true by simpa using hw1]at hwho;have hcon:=y8 (aG ⟨b6,off6,aF⟩) c6 (l6.take q) l6[q] wr wu (by rw [htq];exact hrt);rw [hw2,htq]at hcon;generalize l6[q]=z at *
     have HWH:=sqH hwho;have HCO:=sqH hcon;have hq0:=we q
     have hq1:(q:Int)<(m6:Int):=wu;have hqc:(q:Int)<=(c6:Int):=wu;clear hcell hw1 hw2 hrt htq hwho hcon;go_wp2_with fail;refine HWH.o.mono ?_;rintro e_ _ ⟨rfl,rfl⟩;dsimp only;go_wp2_with fail;refine HCO.o.mono ?_;rintro e_ _ ⟨rfl,rfl⟩;dsimp only;go_wp2_with fail;go_roundg (m6 - (q+1))
     case measure=>exact wc HGQ
     case rel=>exact⟨q+1,rfl,by go_num,wu,hbq⟩
    ·obtain rfl:q=m6:=by omega
     have hqq:decide (q<q)=false:=ab;go_wp2_with fail;go_roundg (fs.length - (j+1))
     case measure=>exact wc HGK
     case rel=>exact⟨j+1,rfl,by go_num,wu,hb1q⟩
  ·obtain rfl:j=fs.length:=by omega
   have hcc:decide (fs.length<fs.length)=false:=ab;go_wp2_with fail;go_ret;exact⟨rfl,hbl⟩
end Go.Proofs.YtaboknhfiijipaaGreat
