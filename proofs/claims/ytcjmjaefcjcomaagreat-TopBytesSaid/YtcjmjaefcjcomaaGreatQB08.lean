/- Lemmas, as stated. -/
import Derived.Test.YtcjmjaefcjcomaaGreatQB05
set_option linter.unusedVariables false
set_option linter.unusedSimpArgs false
set_option maxRecDepth 100000
set_option maxHeartbeats 4000000
open Go.Proofs.Tryz
open Go.Proofs.Tryz renaming prog->zZZ
open Go.Value renaming slice->aA,int->aB,string->aD
open Go.IntKind renaming i64->aC
open Go.Obj renaming cells->aE
open Option renaming none->aF,some->aG
namespace Go.Proofs.YtcjmjaefcjcomaaGreat
open Go.RowKit
variable {fs:List FlP} {x:List PartP} {base c e g n size:Nat} {v:Value} {w w':World} {b d l l':ai} {A A':aj} {xs:ak}
structure Rdr (W:World) (g:Nat) (A:aj) (c:Nat) (l:ai) (e:Nat):Prop where
 arr:Arr W g 114 [aA A l.length c,aB aC e]
 rd:Rd W 1 A l.length (bys l)
 cap:l.length<=c
 ne:∀b off,A=aG ⟨b,off,aF⟩->0<l.length->b≠g
 small:l.length<=2000
 cm:c<=maxLen
section
variable {W W':World} {g c e:Nat} {A:aj} {l:ai}
theorem zZ (h:Below w.heap.size w w') (row:Option Nat):w.grownBy w' row:=⟨h.os,h.tape,h.output,h.size,fun k hk _=>h.block k hk⟩
theorem Rd.far {A:aj} (h:Rd w size A n xs) (hg:w.grownBy w' (aG g)) (hne:∀b off,A=aG ⟨b,off,aF⟩->0<n->b≠g):Rd w' size A n xs :=
 ⟨h.1,fun hn=>by
  obtain⟨b,off,e,hb,hc⟩:=h.2 hn
  have h1:=hne b off e hn
  exact⟨b,off,e,Nat.lt_of_lt_of_le hb hg.size,fun j u hu=>(World.cell?_of_block (hg.block b hb (by intro e';cases e';exact h1 rfl))).trans (hc j u hu)⟩⟩
theorem Rdr.below (h:Rdr W g A c l e) (hb:Below W.heap.size W W'):Rdr W' g A c l e:=⟨h.arr.below hb,h.rd.below hb,h.cap,h.ne,h.small,h.cm⟩
theorem Rdr.lt (h:Rdr W g A c l e):g<W.heap.size:=h.arr.lt
theorem Rdr.put (h:Rdr W g A c l e) {c':Nat} {W1:World} (hb:Below W.heap.size W W1) (ho:OwnB 5 W.heap.size W1 A' c' l') (hl:l'.length<=2000) (e':Nat) :
  Rdr ((W1.setCell ⟨g,0,aF⟩ (aA A' l'.length c')).setCell ⟨g,1,aF⟩ (aB aC e')) g A' c' l' e'/\W.grownBy ((W1.setCell ⟨g,0,aF⟩ (aA A' l'.length c')).setCell ⟨g,1,aF⟩ (aB aC e')) (aG g):=by
 have ha:=((h.arr.below hb).set (k:=0) ab (aA A' l'.length c')).set (k:=1) ab (aB aC e');have hg:=((zZ hb (aG g)).trans (zF W1 g 0 (aA A' l'.length c'))).trans (zF _ g 1 (aB aC e'));have hne:∀b off,A'=aG ⟨b,off,aF⟩->0<l'.length->b≠g:=fun b off e _=>by
  have:=(ho.own.lt b (by rw [e];rfl)).1;have:=h.lt;omega
 refine⟨⟨ha,?_,ho.cap,hne,hl,?_⟩,hg⟩
 ·exact ho.rd.far ((zF W1 g 0 (aA A' l'.length c')).trans (zF _ g 1 (aB aC e'))) hne
 ·rcases ho.own.2 with ⟨h1,_⟩ | ⟨_,cap,_,h1,_,_,_,h2,_⟩
  ·injection h1 with _ _ h3;subst h3;exact Nat.zero_le _
  ·injection h1 with _ _ h3;subst h3;exact h2
end
def jz (A A':aj) (sz:Nat) (l':ai):Prop:=∀b off,A'=aG ⟨b,off,aF⟩->0<l'.length->(∃off',A=aG ⟨b,off',aF⟩)\/sz<=b
theorem Ks:∀(l:ai) (i n:Nat),(xG i n l).2.2≠0->(xG i n l).1=0
 | [],i,n,_=>rfl
 | x::r,i,n,h=>by
  simp only [xG]at h ⊢
  split at h
  ·rename_i h1
   rw [if_pos h1]
   split at h
   ·rename_i h2;rw [if_pos h2]
   ·exact absurd rfl h
  ·rename_i h1
   rw [if_neg h1]
   split at h
   ·rename_i h2;rw [if_pos h2]
   ·rename_i h2;rw [if_neg h2];exact Ks r _ _ h
theorem ki:∀(l:ai) (i n:Nat),(xG i n l).2.1.length<=l.length
 | [],i,n=>Nat.le_refl _
 | x::r,i,n=>by
  simp only [xG]
  split
  ·split
   ·exact Nat.zero_le _
   ·simp only [List.length_cons];omega
  ·split
   ·exact Nat.zero_le _
   ·have:=ki r (i+1) (n+x.toNat % 128*128 ^ i);simp only [List.length_cons];omega
theorem vh:∀(l:ai) (i n:Nat),(xG i n l).1<=4294967295
 | [],i,n=>by simp [xG]
 | x::r,i,n=>by
  simp only [xG]
  split
  ·split
   ·exact Nat.zero_le _
   ·dsimp only;omega
  ·split
   ·exact Nat.zero_le _
   ·exact vh r _ _
theorem vj (l:ai):(kM l).2.1.length<=l.length:=by
 have h:=ki l 0 0;unfold kM zm;generalize xG 0 0 l=x at *
 obtain⟨n,r,e⟩:=x;dsimp only at h ⊢
 split
 ·exact Nat.zero_le _
 ·split
  ·exact Nat.zero_le _
  ·split
   ·exact Nat.zero_le _
   ·simp only [List.length_drop];omega
def jU (l:ai) (e:Nat):Nat×ai×Nat:=if e≠0 then (0,l,e) else zm l
def Z6 (l:ai) (e:Nat):ai×ai×Nat:=if e≠0 then ([],l,e) else kM l
def uA (n:Nat) (l:ai) (e:Nat):ai×ai×Nat:=if e≠0 then ([],l,e) else if l.length<n then ([],l,8) else (l.take n,l.drop n,0)
theorem ZP (h:Rdr w g A c l e) :
  Calls zZZ 46 #[.pointer (aG ⟨g,0,aF⟩)] w fun x w'=>∃A' c',x= .returned (aB aC ((jU l e).1:Nat))/\Rdr w' g A' c' (jU l e).2.1 (jU l e).2.2/\w.grownBy w' (aG g)/\jz A A' w.heap.size (jU l e).2.1:=by
 obtain⟨f0,f1⟩:=sqC2 h.arr;by_cases e0:e=0
 ·have hfin:jU l e=zm l:=by rw [jU,if_neg (by simpa using e0)]
  rw [hfin];obtain⟨m,r,er,hrd⟩:∃m r er,zm l=(m,r,er):=⟨_,_,_,rfl⟩
  have hrl:=ki l 0 0;have HR:=sqH (fun w' hr=>qM (A:=A) (n:=l.length) (c:=c) (w:=w') (er:Int) rfl hrd rfl h.cap (by have:=h.small;omega) hr);rw [show xG 0 0 l=(m,r,er) from hrd]at hrl;rw [hrd];have hsm:=h.small;dsimp only at hrl ⊢
  have e1:((e:Int) != 0)=false:=by rw [bne_eq_false_iff_eq];omega
  clear e0 hfin hrd;go_enter func46,ntmps46;go_wp2_with fail;refine(HR.o w h.rd).mono ?_;rintro e_ w1 ⟨A1,c1,rfl,ho1,hb1⟩;dsimp only;have hA1:=h.arr.below hb1;obtain⟨k0,k1⟩:=sqC2 hA1;obtain⟨z0,z1⟩:=sqF2 hA1;have hA2:=hA1.set (k:=0) ab (aA A1 r.length c1);have k2:=hA2.c1;have z2:=hA2.frozen 1;have hp:=h.put hb1 ho1 wu er;clear f0 f1;go_wp2_with fail;go_ret;exact⟨A1,c1,rfl,hp.1,hp.2,fun b off e _=> .inr (ho1.own.lt b (by rw [e];rfl)).1⟩
 ·have hfin:jU l e=(0,l,e):=by rw [jU,if_pos e0]
  rw [hfin];have e1:((e:Int) != 0)=true:=by rw [bne_iff_ne];omega
  clear e0 hfin;go_enter func46,ntmps46;go_wp2_with fail;go_ret;exact⟨A,c,rfl,h,World.grownBy.refl _ _,fun b off e _=> .inl ⟨off,e⟩⟩
theorem z2d (h:Rdr w g A c l e) :
  Calls zZZ 47 #[.pointer (aG ⟨g,0,aF⟩)] w fun x w'=>∃A' c',x= .returned (aD ⟨(Z6 l e).1.toArray⟩)/\Rdr w' g A' c' (Z6 l e).2.1 (Z6 l e).2.2/\w.grownBy w' (aG g)/\jz A A' w.heap.size (Z6 l e).2.1:=by
 obtain⟨f0,f1⟩:=sqC2 h.arr;by_cases e0:e=0
 ·have hfin:Z6 l e=kM l:=by rw [Z6,if_neg (by simpa using e0)]
  rw [hfin];obtain⟨m,r,er,hrd⟩:∃m r er,kM l=(m,r,er):=⟨_,_,_,rfl⟩
  have hrl:=vj l;have HR:=sqH (fun w' hr=>vT (A:=A) (n:=l.length) (c:=c) (w:=w') (er:Int) rfl hrd rfl h.cap (by have:=h.small;omega) hr);rw [hrd]at hrl;rw [hrd];have hsm:=h.small;dsimp only at hrl ⊢
  have e1:((e:Int) != 0)=false:=by rw [bne_eq_false_iff_eq];omega
  clear e0 hfin hrd;go_enter func47,ntmps47;go_wp2_with fail;refine(HR.o w h.rd).mono ?_;rintro e_ w1 ⟨A1,c1,rfl,ho1,hb1⟩;dsimp only;have hA1:=h.arr.below hb1;obtain⟨k0,k1⟩:=sqC2 hA1;obtain⟨z0,z1⟩:=sqF2 hA1;have hA2:=hA1.set (k:=0) ab (aA A1 r.length c1);have k2:=hA2.c1;have z2:=hA2.frozen 1;have hp:=h.put hb1 ho1 wu er;clear f0 f1;go_wp2_with fail;go_ret;exact⟨A1,c1,rfl,hp.1,hp.2,fun b off e _=> .inr (ho1.own.lt b (by rw [e];rfl)).1⟩
 ·have hfin:Z6 l e=([],l,e):=by rw [Z6,if_pos e0]
  rw [hfin];have e1:((e:Int) != 0)=true:=by rw [bne_iff_ne];omega
  clear e0 hfin;go_enter func47,ntmps47;go_wp2_with fail;go_ret;exact⟨A,c,rfl,h,World.grownBy.refl _ _,fun b off e _=> .inl ⟨off,e⟩⟩
theorem z2c (n:Nat) (N:Int) (hN:(n:Int)=N) (hn:n<=2000) (h:Rdr w g A c l e) :
  Calls zZZ 48 #[.pointer (aG ⟨g,0,aF⟩),aB aC N] w fun x w'=>∃A1 c1 A' c',x= .returned (aA A1 (uA n l e).1.length c1)/\(uA n l e).1.length<=c1/\Rd w' 1 A1 (uA n l e).1.length (bys (uA n l e).1)/\Rdr w' g A' c' (uA n l e).2.1 (uA n l e).2.2/\w.grownBy w' (aG g)/\jz A A' w.heap.size (uA n l e).2.1:=by
 subst hN;obtain⟨f0,f1⟩:=sqC2 h.arr;obtain⟨z0,z1⟩:=sqF2 h.arr;by_cases e0:e=0
 ·have e1:((e:Int)==0)=true:=by rw [beq_iff_eq];omega
  have e2:((e:Int) != 0)=false:=by rw [bne_eq_false_iff_eq];omega
  by_cases hlt:l.length<n
  ·have hfin:uA n l e=([],l,8):=by rw [uA,if_neg (by simpa using e0),if_pos hlt]
   rw [hfin];have e3:decide (l.length<n)=true:=by simpa using hlt
   have hA2:=h.arr.set (k:=1) ab (aB aC 8);obtain⟨k0,k1⟩:=sqC2 hA2;have hR:Rdr (w.setCell ⟨g,1,aF⟩ (aB aC 8)) g A c l 8:=⟨hA2,h.rd.far (zF w g 1 _) h.ne,h.cap,h.ne,h.small,h.cm⟩
   have hG:=zF w g 1 (aB aC 8);have HR:=sqH hR;clear hfin e0 hlt hR;go_enter func48,ntmps48;go_wp2_with fail;go_ret;exact⟨aF,0,A,c,rfl,Nat.zero_le _,Rd.nil_,HR.o,hG,fun b off e _=> .inl ⟨off,e⟩⟩
  ·have hfin:uA n l e=(l.take n,l.drop n,0):=by rw [uA,if_neg (by simpa using e0),if_neg hlt]
   rw [hfin];have e3:decide (l.length<n)=false:=by simpa using hlt
   have hle:(n:Int)<=(c:Int):=by have:=h.cap;omega
   have hle2:(n:Int)<=(l.length:Int):=wu;have hcm:(c:Int)<=9223372036854775807:=by have:=h.cm;unfold maxLen at this;omega
   have hll:(l.drop n).length=l.length - n:=List.length_drop;have htl:(l.take n).length=n:=by rw [List.length_take];omega
   have r1:=h.rd.pre (k:=n) wu;rw [Nat.mul_one,jJ]at r1;have k0n:n<=l.length:=wu;have hcap:=h.cap;have hng:=h.ne;have r2:=h.rd.cut (k:=n) (cap:=c) k0n hcap;rw [Nat.mul_one,yM]at r2;obtain⟨A',hA'⟩:=wY ((if c=n then A else A.map (·.add n)))
   rw [<-hA']at r2;have hA2:=h.arr.set (k:=0) ab (aA A' (l.length - n) (c - n));have hG:=zF w g 0 (aA A' (l.length - n) (c - n));have hmv:∀b off,A'=aG ⟨b,off,aF⟩->0<l.length - n->∃off',A=aG ⟨b,off',aF⟩:=fun b off e' h0=>by
    obtain⟨b2,o2,e2,_⟩:=h.rd.2 (show 0<l.length by omega);rw [e2]at hA';have:b=b2:=by
     rw [hA']at e';split at e'
     ·cases e';rfl
     ·simp only [Option.map_some,Option.some.injEq]at e';have:=congrArg Addr.block e';rw [UA]at this;exact this.symm
    rw [this];exact⟨o2,e2⟩
   have hne':∀b off,A'=aG ⟨b,off,aF⟩->0<l.length - n->b≠g:=fun b off e' h0=>by
    obtain⟨o2,e2⟩:=hmv b off e' h0;exact hng b o2 e2 wu
   have HM:=sqH (show jz A A' w.heap.size (l.drop n) from fun b off e' h0=> .inl (hmv b off e' (by rw [hll]at h0;exact h0)));have hR:Rdr (w.setCell ⟨g,0,aF⟩ (aA A' (l.length - n) (c - n))) g A' (c - n) (l.drop n) 0:=by
    refine⟨?_,?_,by rw [hll];omega,by rw [hll];exact hne',by rw [hll];have:=h.small;omega,by have:=h.cm;omega⟩
    ·rw [hll];have he0:(e:Int)=((0:Nat):Int):=wu
     rw [he0]at hA2;exact hA2
    ·rw [hll];exact r2.far hG hne'
   have r1':=r1.far hG (fun b off e' h0=>hng b off e' wu);have HR:=sqH hR;have HA:=sqH hA';rw [htl];have hlt':¬n<=c->False:=fun h=>h wu;have hnc:n<=c:=wu;clear hfin e0 hlt hR hA' hne' r2 r1 hll htl hA2;go_enter func48,ntmps48
   refine wL ?_;intros;rw [<-HA.o];go_ret;exact⟨A,c,A',c - n,rfl,hnc,r1',HR.o,hG,HM.o⟩
 ·have hfin:uA n l e=([],l,e):=by rw [uA,if_pos e0]
  rw [hfin];have e1:((e:Int)==0)=false:=by rw [beq_eq_false_iff_ne];omega
  have e2:((e:Int) != 0)=true:=by rw [bne_iff_ne];omega
  clear e0 hfin;go_enter func48,ntmps48;go_wp2_with fail;go_ret;exact⟨aF,0,A,c,rfl,Nat.zero_le _,Rd.nil_,h,World.grownBy.refl _ _,fun b off e _=> .inl ⟨off,e⟩⟩
theorem ZW (t more:ai) (h:t.length<=2000):kM (txt t++more)=(t,more,0):=by
 have h1:=yH t.length (t++more) wu;rw [kM,txt,List.append_assoc,h1];simp only [ne_eq,not_true_eq_false,if_false];rw [if_neg wu,if_neg (by rw [List.length_append];omega)];simp
theorem Vo {t rest:ai} (h:kM b=(t,rest,0)):t.length<=2000/\b=txt t++rest:=by
 obtain⟨n,r,e,hn⟩:∃n r e,zm b=(n,r,e):=⟨_,_,_,rfl⟩
 rw [kM,hn]at h;dsimp only at h;by_cases he:e≠0
 ·rw [if_pos he]at h;simp only [Prod.mk.injEq]at h;exact absurd h.2.2 he
 ·rw [if_neg he]at h;have he:e=0:=by simpa using he
  by_cases h1:2000<n
  ·rw [if_pos h1]at h;simp at h
  ·rw [if_neg h1]at h;by_cases h2:r.length<n
   ·rw [if_pos h2]at h;simp at h
   ·rw [if_neg h2]at h;simp only [Prod.mk.injEq,and_true]at h;obtain⟨h3,h4⟩:=h;subst he;have hb:=(xH hn).2;have hl:t.length=n:=by rw [<-h3,List.length_take];omega
    refine⟨wu,?_⟩;rw [txt,hl,List.append_assoc,hb,<-h3,<-h4,List.take_append_drop]
def xM (l:ai):PartP×ai×Nat :=
 let a:=Z6 l 0
 let b:=uA 32 a.2.1 a.2.2
 let c:=jU b.2.1 b.2.2
 (⟨a.1,kH b.1,c.1⟩,c.2.1,c.2.2)
def zT:Nat->List PartP->List UInt8->Nat×List PartP×ai
 | 0,out,l=>(0,out,l)
 | k+1,out,l=>if (xM l).2.2≠0 then ((xM l).2.2, [], []) else zT k (out++ [(xM l).1]) (xM l).2.1
def qU (b:ai):List PartP×Nat :=
 if 2000<b.length then ([],1) else if [65,77,49].isPrefixOf b=false then ([],3) else
 if (zm (b.drop 3)).2.2≠0 then ([],(zm (b.drop 3)).2.2) else if 8<(zm (b.drop 3)).1 then ([],1) else
 if (zT (zm (b.drop 3)).1 [] (zm (b.drop 3)).2.1).1≠0 then ([],(zT (zm (b.drop 3)).1 [] (zm (b.drop 3)).2.1).1) else
 if 0<(zT (zm (b.drop 3)).1 [] (zm (b.drop 3)).2.1).2.2.length then ([],3) else
 if chk (zT (zm (b.drop 3)).1 [] (zm (b.drop 3)).2.1).2.1≠0 then ([],chk (zT (zm (b.drop 3)).1 [] (zm (b.drop 3)).2.1).2.1) else
 ((zT (zm (b.drop 3)).1 [] (zm (b.drop 3)).2.1).2.1,0)
theorem z04 (A:aj) (n c g:Nat) (l:ai) (w:World) (hl:l.length=n) (hc:n<=c) (hr:Rd w 1 A n (bys l)) (h2:Rd w 1 (aG ⟨g,0,aF⟩) 3 (bys [65,77,49])) :
  Calls zZZ 45 #[aA A n c,aA (aG ⟨g,0,aF⟩) 3 3] w fun e w'=>(∃A' c',e= .returned (.tuple #[aA A' (if [65,77,49].isPrefixOf l then (l.drop 3).length else n) c',.bool ([65,77,49].isPrefixOf l)]) /\
   ([65,77,49].isPrefixOf l=true->Rd w 1 A' (l.drop 3).length (bys (l.drop 3))/\(l.drop 3).length<=c'/\c'<=c/\jz A A' w.heap.size (l.drop 3)))/\w=w':=by
 rcases Nat.eq_zero_or_pos n with h0 | h0
 ·subst h0;obtain rfl:l= []:=List.eq_nil_of_length_eq_zero hl;refine(Tryz.bytes_CutPrefix_e1 A (aG ⟨g,0,aF⟩) c 3 3 wu w).mono fun e w' h=>⟨⟨A,c,?_,fun h=>by simp at h⟩,h.2.symm⟩
  rw [h.1];rfl
 ·obtain⟨b,off,rfl,hb,hcell⟩:=hr.2 h0;obtain⟨b2,o2,e2,hb2,hcell2⟩:=h2.2 wu;cases e2
  refine(Tryz.bytes_CutPrefix b off n c g 0 3 3 (l.map fun x=>(x.toNat:Int)) [65,77,49] w (by simpa using hl) rfl hc (fun i hi=> ?_) (fun i hi=> ?_)).mono fun e w' h=>⟨?_,h.2.symm⟩
  ·refine hcell i _ ?_;have:i<l.length:=by omega
   simp [bys,this]
  ·refine hcell2 i _ ?_
   match i,hi with
   | 0,_=>rfl
   | 1,_=>rfl
   | 2,_=>rfl
  ·have hbo:Lib.bytesOf (l.map fun x=>(x.toNat:Int))=l:=by
    simp only [Lib.bytesOf,List.map_map]
    conv=>rhs;rw [<-List.map_id l]
    exact List.map_congr_left fun a _=>by simp
   have hb3:Lib.bytesOf [65,77,49]= [65,77,49]:=rfl;obtain⟨h1,_⟩:=h;rw [Lib.bytesTrimPrefix,hbo,hb3,Lib.hasPrefix]at h1;by_cases hp: [65,77,49].isPrefixOf l=true
   ·rw [hp,if_pos rfl,Lib.sliceFrom]at h1;have h3:3<=l.length:=by
     have:=List.IsPrefix.length_le (List.isPrefixOf_iff_prefix.1 hp);simpa using this
    have hr':=hr.cutAt (k:=3) (c:=c) wu hc;rw [yM]at hr';have hdl:(l.drop 3).length=n - 3:=by rw [List.length_drop,hl]
    refine⟨_,c - 3,?_,fun _=>⟨by rw [hdl];exact hr',wu,wu,?_⟩⟩
    ·rw [h1,hp,if_pos rfl,hdl];rfl
    ·intro b' o' e' _;split at e'
     ·cases e';exact .inl ⟨_,rfl⟩
     ·cases e';exact .inl ⟨_,rfl⟩
   ·have hp: [65,77,49].isPrefixOf l=false:=Bool.eq_false_iff.2 hp;rw [hp,if_neg aa]at h1;refine⟨aG ⟨b,off,aF⟩,c,?_,fun h=>by rw [hp]at h;cases h⟩;rw [h1,hp];rfl
theorem VJ (l:ai) (e:Nat):(Z6 l e).2.1.length<=l.length:=by
 unfold Z6;split
 ·exact Nat.le_refl _
 ·exact vj l
theorem VH (n:Nat) (l:ai) (e:Nat):(uA n l e).2.1.length<=l.length/\(uA n l e).1.length<=l.length:=by
 unfold uA;split
 ·exact⟨Nat.le_refl _,Nat.zero_le _⟩
 ·split
  ·exact⟨Nat.le_refl _,Nat.zero_le _⟩
  ·simp only [List.length_drop,List.length_take];omega
theorem Va (l:ai) (e:Nat):(jU l e).2.1.length<=l.length/\(jU l e).1<=4294967295:=by
 unfold jU;split
 ·exact⟨Nat.le_refl _,Nat.zero_le _⟩
 ·exact⟨ki l 0 0,vh l 0 0⟩
theorem Q2 (l:ai) (e:Nat):(Z6 l e).1.length<=l.length:=by
 unfold Z6;split
 ·exact Nat.zero_le _
 ·have h:=ki l 0 0;unfold kM zm;generalize xG 0 0 l=x at *
  obtain⟨n,r,e⟩:=x;dsimp only at h ⊢
  split
  ·exact Nat.zero_le _
  ·split
   ·exact Nat.zero_le _
   ·split
    ·exact Nat.zero_le _
    ·simp only [List.length_take];omega
def Far (v:Value) (A:aj) (l:ai):Prop:=∀b off,A=aG ⟨b,off,aF⟩->0<l.length->v.ownBlock≠aG b
theorem Far.moved {sz:Nat} (h:Far v A l) (hm:jz A A' sz l') (hl:l'.length<=l.length) (hv:∀k,v.ownBlock=aG k->k<sz):Far v A' l':=fun b off e h0=>by
 rcases hm b off e h0 with ⟨o,ho⟩ | hb
 ·exact h b o ho wu
 ·intro hk;have:=hv b hk;omega
theorem QB {e:TypeId} (h:w.ownsRow (g+1) e size v n xs) (hg:w.grownBy w' (aG g)):w'.ownsRow (g+1) e size v n xs :=
 h.kept hg (.inr fun he=>by have:=(h.lt g he).1;omega)
theorem Rdr.grown {W W':World} (h:Rdr W g A c l e) (hg:W.grownBy W' v.ownBlock) (hv:v.ownBlock≠aG g) (hf:Far v A l):Rdr W' g A c l e:=by
 refine⟨?_,⟨h.rd.1,fun hn=> ?_⟩,h.cap,h.ne,h.small,h.cm⟩
 ·exact(hg.block g h.lt (fun e=>hv e.symm)).trans h.arr
 ·obtain⟨b,off,e,hb,hc⟩:=h.rd.2 hn;have h1:=hf b off e hn;exact⟨b,off,e,Nat.lt_of_lt_of_le hb hg.size,fun j u hu=>(World.cell?_of_block (hg.block b hb (fun e=>h1 e.symm))).trans (hc j u hu)⟩
theorem yB {B:Nat} {a:World} (h:Below B a w) (hg:w.grownBy w' (aG g)) (hB:B<=g) (hs:B<=w.heap.size):Below B a w':=h.grown hg hs (fun k hk=>by cases hk;exact hB)
theorem Ze (A:aj) (n c:Nat) (l:ai) (w:World) (hl:l.length=n) (hc:n<=c) (hm:c<=maxLen) (hr:Rd w 1 A n (bys l)) :
  Calls zZZ 28 #[aA A n c] w fun e w'=>∃v,e= .returned (.tuple #[v,aB aC ((qU l).2:Nat)])/\w'.ownsRow w.heap.size 85 3 v (qU l).1.length (pcs (qU l).1)/\Below w.heap.size w w':=by
 have HL:=sqH hl;by_cases hbig:2000<n
 ·have hfin:qU l=([],1):=by rw [qU,if_pos wu]
  have hcm:n<=9223372036854775807:=by unfold maxLen at hm;omega
  rw [hfin];clear hfin hl;go_enter func28,ntmps28;go_wp2_with fail;go_ret2;exact⟨_,rfl,World.ownsRow_nil _ _ _ _,Below.refl _ _⟩
 have hfin1:qU l=if [65,77,49].isPrefixOf l=false then ([],3) else
   if (zm (l.drop 3)).2.2≠0 then ([],(zm (l.drop 3)).2.2) else if 8<(zm (l.drop 3)).1 then ([],1) else
   if (zT (zm (l.drop 3)).1 [] (zm (l.drop 3)).2.1).1≠0 then ([],(zT (zm (l.drop 3)).1 [] (zm (l.drop 3)).2.1).1) else
   if 0<(zT (zm (l.drop 3)).1 [] (zm (l.drop 3)).2.1).2.2.length then ([],3) else
   if chk (zT (zm (l.drop 3)).1 [] (zm (l.drop 3)).2.1).2.1≠0 then ([],chk (zT (zm (l.drop 3)).1 [] (zm (l.drop 3)).2.1).2.1) else
   ((zT (zm (l.drop 3)).1 [] (zm (l.drop 3)).2.1).2.1,0):=by rw [qU,if_neg wu]
 generalize qU l=res at *
 have hb0:=ws w (aE #[aB .u8 65,aB .u8 77,aB .u8 49] 5 (3,4));have hr0:=hr.alloc (aE #[aB .u8 65,aB .u8 77,aB .u8 49] 5 (3,4));have hq0:Rd (w.alloc (aE #[aB .u8 65,aB .u8 77,aB .u8 49] 5 (3,4))) 1 (aG ⟨w.heap.size,0,aF⟩) 3 (bys [65,77,49]):=by
  refine⟨rfl,fun _=>⟨_,0,rfl,ab,fun j u hu=> ?_⟩⟩;rw [<-hu,Nat.zero_add];have h1:(w.alloc (aE #[aB .u8 65,aB .u8 77,aB .u8 49] 5 (3,4))).heap[w.heap.size]?=aG (aE #[aB .u8 65,aB .u8 77,aB .u8 49] 5 (3,4)):=World.alloc_heap_new w _;simp only [World.cell?,h1,Option.isSome_none,Bool.false_eq_true,if_false];simp [bys]
 have hkc:=fun (w:World) (C:Array Value) (n c:Nat)=>Lib.run_convert_bytes_const (P:=zZZ) w 25 5 C n c underlying25 underlying5;have HCP:=sqH (z04 A n c w.heap.size l _ hl hc hr0 hq0);have HF1:=sqH hfin1;clear hfin1 hl hq0 hr0;generalize hpre: [65,77,49].isPrefixOf l=pre at HCP HF1;go_enter func28,ntmps28;go_wp2_with fail;refine HCP.o.mono ?_;rintro e_ w1 ⟨⟨A1,c1,rfl,hcut⟩,rfl⟩;dsimp only;cases pre with
 | false =>
  have hres:res=([],3):=by rw [HF1.o,if_pos rfl]
  have HR:=sqH hres;clear hres hpre;go_wp2_with fail;go_ret2;rw [HR.o];exact⟨_,rfl,World.ownsRow_nil _ _ _ _,hb0⟩
 | true =>
  obtain⟨hr1,hc1,hc1c,hm1⟩:=hcut rfl;have hdl:(l.drop 3).length<=2000:=by rw [List.length_drop,HL.o];omega
  simp only [if_true];have HF2:=sqH (show res=if (zm (l.drop 3)).2.2≠0 then ([],(zm (l.drop 3)).2.2) else if 8<(zm (l.drop 3)).1 then ([],1) else
   if (zT (zm (l.drop 3)).1 [] (zm (l.drop 3)).2.1).1≠0 then ([],(zT (zm (l.drop 3)).1 [] (zm (l.drop 3)).2.1).1) else
   if 0<(zT (zm (l.drop 3)).1 [] (zm (l.drop 3)).2.1).2.2.length then ([],3) else
   if chk (zT (zm (l.drop 3)).1 [] (zm (l.drop 3)).2.1).2.1≠0 then ([],chk (zT (zm (l.drop 3)).1 [] (zm (l.drop 3)).2.1).2.1) else
   ((zT (zm (l.drop 3)).1 [] (zm (l.drop 3)).2.1).2.1,0) from by rw [HF1.o,if_neg aa])
  have HPRE:=sqH hpre;clear HF1 HCP hcut hpre;generalize l.drop 3=L at *
  generalize w.alloc (aE #[aB .u8 65,aB .u8 77,aB .u8 49] 5 (3,4))=w1 at *
  obtain⟨g,hg⟩:=wY w1.heap.size
  obtain⟨w2,hw2⟩:=wY (w1.alloc (aE #[aA A1 L.length c1,aB aC 0] 114))
  have hR2:Rdr w2 g A1 c1 L 0:=by
   rw [hw2,hg];exact⟨Arr.new w1 _ _,hr1.alloc _,hc1,fun b off e h0=>by
    obtain⟨_,_,e2,hb2,_⟩:=hr1.2 h0;rw [e]at e2;cases e2;omega,hdl,wu⟩
  have hb2:Below w.heap.size w w2:=by rw [hw2];exact hb0.alloc hb0.size _
  have hgw:w.heap.size<=g:=by rw [hg];exact hb0.size
  have hg2:g<w2.heap.size:=hR2.lt;have HW2:=sqH hw2;have HG:=sqH hg;obtain⟨m,r,er,hrd⟩:∃m r er,zm L=(m,r,er):=⟨_,_,_,rfl⟩
  have hmz:=Ks L 0 0;have hml:=ki L 0 0;have hmb:=vh L 0 0;rw [show xG 0 0 L=(m,r,er) from hrd]at hmz hml hmb;rw [hrd]at HF2;have HN:=ZP hR2;rw [jU,if_neg aa,hrd]at HN;dsimp only at HF2 HN hmz hml hmb;have HN':=sqH HN;clear hw2 hg hr1 hm1 hb0 hr HN hrd;go_wp2_with fail;rw [<-HG.o,<-HW2.o];refine(HN'.o).mono ?_;rintro e_ w3 ⟨A3,c3,rfl,hR3,hG3,hM3⟩;dsimp only;have hb3:=yB hb2 hG3 hgw hb2.size;have f1:=hR3.arr.c1;by_cases her:er=0
  ·subst her;have HF3:=sqH (show res=if 8<m then ([],1) else if (zT m [] r).1≠0 then ([],(zT m [] r).1) else if 0<(zT m [] r).2.2.length then ([],3) else
    if chk (zT m [] r).2.1≠0 then ([],chk (zT m [] r).2.1) else ((zT m [] r).2.1,0) from by rw [HF2.o,if_neg aa])
   clear HF2;rw [show((0:Nat):Int)=0 from rfl]at f1;by_cases h8:8<m
   ·have hres:res=([],1):=by rw [HF3.o,if_pos h8]
    have HR:=sqH hres;have e1:decide ((8:Int)<(m:Int))=true:=by simp;omega
    clear hres hmz;go_wp2_with fail;go_ret2;rw [HR.o];exact⟨_,rfl,World.ownsRow_nil _ _ _ _,hb3⟩
   ·have e1:decide ((8:Int)<(m:Int))=false:=by simp;omega
    have HF4:=sqH (show res=if (zT m [] r).1≠0 then ([],(zT m [] r).1) else if 0<(zT m [] r).2.2.length then ([],3) else
     if chk (zT m [] r).2.1≠0 then ([],chk (zT m [] r).2.1) else ((zT m [] r).2.1,0) from by rw [HF3.o,if_neg h8])
    have HM8:=sqH (show m<=8 by omega);clear HF3 h8 hmz;go_wp2_with fail;go_loopg [8,37] m (fun gn v i wr=>∃(k:Nat) (out:List PartP) (A:aj) (c:Nat) (l':ai),gn=m - k/\i= aB aC k/\k<=m/\out.length=k/\jA out/\Rdr wr g A c l' 0/\wr.ownsRow (g+1) 85 3 v k (pcs out)/\Far v A l'/\zT m [] r=zT (m - k) out l'/\Below w.heap.size w wr)
    case atStart=>exact⟨0, [],A3,c3,r,rfl,rfl,wu,rfl,(fun p hp=>by cases hp),hR3,World.ownsRow_nil _ _ _ _,(fun b off _ _ h=>by cases h),rfl,hb3⟩
    case round =>
     clear hb3 hR3 hM3 hG3 f1;obtain⟨k,out,A,c,l',hgk,rfl,hk,hol,hpo,hR,ho,hfar,hch,hbel⟩:=hrel;obtain⟨HGK,HOL,HPO,HCH⟩:=sqJ4 hgk hol hpo hch;have hm8:=HM8.o;have hgs:=hR.lt;clear hgk hol hpo hch;by_cases hlt:k<m
     ·have hi:decide ((k:Int)<(m:Int))=true:=by simpa using hlt
      have hi':decide (k<m)=true:=by simpa using hlt
      obtain⟨t,l1,e1,h1⟩:∃t l1 e1,Z6 l' 0=(t,l1,e1):=⟨_,_,_,rfl⟩
      obtain⟨d,l2,e2,h2⟩:∃d l2 e2,uA 32 l1 e1=(d,l2,e2):=⟨_,_,_,rfl⟩
      obtain⟨z,l3,e3,h3⟩:∃z l3 e3,jU l2 e2=(z,l3,e3):=⟨_,_,_,rfl⟩
      have hs:xM l'=(⟨t,kH d,z⟩,l3,e3):=by unfold xM;rw [h1];dsimp only;rw [h2];dsimp only;rw [h3]
      have n1:=VJ l' 0;have n1':=Q2 l' 0;have n2:=VH 32 l1 e1;have n3:=Va l2 e2;rw [h1]at n1 n1';rw [h2]at n2;rw [h3]at n3;obtain⟨HT1,HT2,HT3⟩:=sqJ3 (fun (w:World) (A:aj) (c:Nat) (h:Rdr w g A c l' 0)=>(by have:=z2d h;rw [h1]at this;exact this:Calls zZZ 47 #[.pointer (aG ⟨g,0,aF⟩)] w fun x w'=>∃A' c',x= .returned (aD ⟨t.toArray⟩)/\Rdr w' g A' c' l1 e1/\w.grownBy w' (aG g)/\jz A A' w.heap.size l1)) (fun (w:World) (A:aj) (c:Nat) (h:Rdr w g A c l1 e1)=>(by have:=z2c 32 32 rfl wu h;rw [h2]at this;exact this:Calls zZZ 48 #[.pointer (aG ⟨g,0,aF⟩),aB aC 32] w fun x w'=>∃A1 c1 A' c',x= .returned (aA A1 d.length c1)/\d.length<=c1/\Rd w' 1 A1 d.length (bys d)/\Rdr w' g A' c' l2 e2/\w.grownBy w' (aG g)/\jz A A' w.heap.size l2)) (fun (w:World) (A:aj) (c:Nat) (h:Rdr w g A c l2 e2)=>(by have:=ZP h;rw [h3]at this;exact this:Calls zZZ 46 #[.pointer (aG ⟨g,0,aF⟩)] w fun x w'=>∃A' c',x= .returned (aB aC (z:Nat))/\Rdr w' g A' c' l3 e3/\w.grownBy w' (aG g)/\jz A A' w.heap.size l3));have hsm:=hR.small;have hstep:zT m [] r=if e3≠0 then (e3, [], []) else zT (m - (k+1)) (out++ [⟨t,kH d,z⟩]) l3:=by
       rw [HCH.o,show m - k=(m - (k+1))+1 by omega,zT,hs]
      have HST:=sqH hstep;have hpn:(⟨t,kH d,z⟩:PartP).name.length<=140737488351232/\(⟨t,kH d,z⟩:PartP).dig.length<=140737488351232/\((⟨t,kH d,z⟩:PartP).size:Int)<=9223372036854775807:=by
       refine⟨?_,?_,?_⟩
       ·show t.length<=_;dsimp only at n1';omega
       ·show(kH d).length<=_;rw [yj];dsimp only at n2 n1;omega
       ·show(z:Int)<=_;dsimp only at n3;omega
      have HPN:=sqH hpn;dsimp only at n1 n1' n2 n3;clear hs h1 h2 h3 hstep hpn HCH;have hvl:=fun k hk=>(ho.lt k hk).2;go_wp2_with fail;refine(HT1.o _ _ _ hR).mono ?_;rintro e_ w4 ⟨A4,c4,rfl,hR4,hG4,hM4⟩;dsimp only;have hb4:=yB hbel hG4 hgw hbel.size;have ho4:=QB ho hG4;have hf4:=hfar.moved hM4 n1 hvl;go_wp2_with fail;refine(HT2.o _ _ _ hR4).mono ?_;rintro e_ w5 ⟨Ad,cd,A5,c5,rfl,hcd,hrd,hR5,hG5,hM5⟩;dsimp only;have hb5:=yB hb4 hG5 hgw hb4.size;have ho5:=QB ho4 hG5;have hf5:=hf4.moved hM5 n2.1 (fun k hk=>(ho4.lt k hk).2);go_wp2_with fail;refine wZ (Qo Ad d.length cd d w5 rfl wu hcd hrd) fun w6 hb6=>?_;dsimp only;have hR6:=hR5.below hb6;have hb56:=wm hb5 hb6;have ho6:=zc ho5 hb6;go_wp2_with fail;refine(HT3.o _ _ _ hR6).mono ?_;rintro e_ w7 ⟨A7,c7,rfl,hR7,hG7,hM7⟩;dsimp only;have hb7:=yB hb56 hG7 hgw hb56.size;have ho7:=QB ho6 hG7;have hf7:=hf5.moved hM7 n3.1 (fun k hk=>Nat.lt_of_lt_of_le (ho5.lt k hk).2 hb6.size)
      refine wL ?_;intros;refine zj rfl (.tmp 39) (.tmp 48) rfl Xz ac ho7 (us:=pcs [⟨t,kH d,z⟩]) (m:=1) ac rfl (by intro u hu;exact jX _ u hu) wu (by have:=hR7.lt;omega) ?_;intro v8 w8 ho8 hg8 hv8;have hR8:=hR7.grown hg8 (fun h=>by have:=(ho7.lt g h).1;omega) hf7;have hb8:Below w.heap.size w w8:=hb7.grown hg8 hb7.size (fun k hk=>by have:=(ho7.lt k hk).1;omega);have hf8:Far v8 A7 l3:=fun b off e h0=>by
       rcases hv8 with h | ⟨g8,h,hge⟩
       ·rw [h];exact hf7 b off e h0
       ·rw [h];obtain⟨_,_,e2,hb2,_⟩:=hR7.rd.2 h0;rw [e]at e2;cases e2
        intro h;cases h;omega
      rw [<-Vh]at ho8;have f2:=hR8.arr.c1;clear hf7 ho7 hb7 hR7 ho6 hb56 hR6 hf5 ho5 hb5 hR5 hf4 ho4 hb4 hR4 hrd hM4 hM5 hM7 hG4 hG5 hG7 hvl hfar ho hR hbel hg8 hv8;by_cases h30:e3=0
      ·subst h30;rw [show((0:Nat):Int)=0 from rfl]at f2;have HSTT:=sqH (show zT m [] r=zT (m - (k+1)) (out++ [⟨t,kH d,z⟩]) l3 from by rw [HST.o,if_neg aa]);go_wp2_with fail;go_roundg (m - (k+1))
       case measure=>exact wc HGK
       case rel =>
        refine⟨k+1,out++ [⟨t,kH d,z⟩],A7,c7,l3,rfl,by go_num,wu,by rw [List.length_append,HOL.o];rfl,?_,hR8,ho8,hf8,HSTT.o,hb8⟩;intro p hp;rcases List.mem_append.1 hp with h | h
        ·exact HPO.o p h
        ·simp only [List.mem_cons,List.not_mem_nil,or_false]at h;subst h;exact HPN.o
      ·have e9:((e3:Int) != 0)=true:=by rw [bne_iff_ne];omega
       have hres:res=([],e3):=by rw [HF4.o,HST.o,if_pos h30];exact if_pos h30
       have HR:=sqH hres;clear hres h30;go_wp2_with fail;go_quiet (fail);have f3:(w8.drewN nq).cell? ⟨g,1,aF⟩=aG (aB aC e3):=f2;go_wp2_with fail;go_ret2;rw [HR.o];exact⟨_,rfl,World.ownsRow_nil _ _ _ _,zO hb8 _⟩
     ·obtain rfl:k=m:=by omega
      have hi:decide ((k:Int)<(k:Int))=false:=ab;have hd:zT k [] r=(0,out,l'):=by rw [HCH.o,Nat.sub_self,zT]
      have HF5:=sqH (show res=if 0<l'.length then ([],3) else if chk out≠0 then ([],chk out) else (out,0) from by rw [HF4.o,hd,if_neg ab]);have f1:=hR.arr.c1;have f0:=hR.arr.c0;rw [show((0:Nat):Int)=0 from rfl]at f1;have hgb:w.heap.size<=g+1:=wu;clear hd HF4 HCH hfar;by_cases hr0:0<l'.length
      ·have hres:res=([],3):=by rw [HF5.o,if_pos hr0]
       have HR:=sqH hres;have e5:decide ((0:Int)<(l'.length:Int))=true:=decide_eq_true wu;have e5':decide (0<l'.length)=true:=decide_eq_true hr0;clear hres;go_wp2_with fail;go_ret2;rw [HR.o];exact⟨_,rfl,World.ownsRow_nil _ _ _ _,hbel⟩
      ·have HF6:=sqH (show res=if chk out≠0 then ([],chk out) else (out,0) from by rw [HF5.o,if_neg hr0]);have e5:decide ((0:Int)<(l'.length:Int))=false:=decide_eq_false wu;have e5':decide (0<l'.length)=false:=decide_eq_false hr0;obtain⟨Ao,co,rfl,hco,hro⟩:=Rd.of_own' ho;have HCK:=sqH (yK Ao k co out wr HOL.o hco wu HPO.o hro);clear HF5;go_wp2_with fail;refine wZ HCK.o fun w9 hb9=>?_;dsimp only;have hbf:=wm hbel hb9;have hof:=zb (zc ho hb9) hgb;by_cases hck:chk out=0
       ·have hres:res=(out,0):=by rw [HF6.o,if_neg (by simpa using hck)]
        have HR:=sqH hres;have e6:((chk out:Int) != 0)=false:=by rw [bne_eq_false_iff_eq];omega
        clear hres hck;generalize chk out=ck at *
        go_wp2_with fail;go_ret2;rw [HR.o];refine⟨_,rfl,?_,hbf⟩;dsimp only;rw [HOL.o];exact hof
       ·have hres:res=([],chk out):=by rw [HF6.o,if_pos hck]
        have HR:=sqH hres;have e6:((chk out:Int) != 0)=true:=by rw [bne_iff_ne];omega
        clear hres hck;generalize chk out=ck at *
        go_wp2_with fail;go_ret2;rw [HR.o];exact⟨_,rfl,World.ownsRow_nil _ _ _ _,hbf⟩
  ·have hm0:m=0:=hmz her;subst hm0;have hres:res=([],er):=by rw [HF2.o,if_pos her]
   have HR:=sqH hres;have e1:((er:Int)==0)=false:=by rw [beq_eq_false_iff_ne];omega
   have e2:((er:Int) != 0)=true:=by rw [bne_iff_ne];omega
   clear hres her hmz;rw [show((0:Nat):Int)=0 from rfl];go_wp2_with fail;go_loopg [8,37] 0 (fun gn v i wr=>gn=0/\i= aB aC 0/\v= aA aF 0 0/\Rdr wr g A3 c3 r er/\Below w.heap.size w wr)
   case atStart=>exact⟨rfl,rfl,rfl,hR3,hb3⟩
   case round =>
    obtain⟨_,rfl,rfl,hR4,hb4⟩:=hrel;have f2:=hR4.arr.c1;go_wp2_with fail;go_quiet (fail);go_wp2_with fail;go_ret2;rw [HR.o];exact⟨_,rfl,World.ownsRow_nil _ _ _ _,zO hb4 _⟩
theorem z1j (l:ai) (h:l.length<=2000):kr (kH l)=(l,0):=by
 have:=yj l;rw [kr,if_neg wu,if_neg wu,vk]
theorem ZI (h:(kr d).2=0):kH (kr d).1=d:=by
 unfold kr at h ⊢
 by_cases h1:4000<d.length
 ·rw [if_pos h1]at h;cases h
 ·rw [if_neg h1]at h ⊢
  by_cases h2:d.length % 2=1
  ·rw [if_pos h2]at h;cases h
  ·rw [if_neg h2]at h ⊢
   cases hu:xn d with
   | none=>rw [hu]at h;cases h
   | some r=>exact um d r hu
def z39 (p:PartP):Prop:=k6 p.name=0/\hexC p.dig=0/\p.size<=300
theorem VE (p:PartP) (more:ai) (h:z39 p):xM (kR p++more)=(p,more,0):=by
 have h1:=kB h.1;have h2:=kf h.2.1;have h3:=ZI h2.1;have e1:Z6 (kR p++more) 0=(p.name,(kr p.dig).1++(num p.size++more),0):=by
  rw [Z6,if_neg aa,kR,List.append_assoc,List.append_assoc,ZW _ _ wu]
 have e2:uA 32 ((kr p.dig).1++(num p.size++more)) 0=((kr p.dig).1,num p.size++more,0):=by
  rw [uA,if_neg aa,if_neg (by rw [List.length_append,h2.2];omega),<-h2.2,List.take_left,List.drop_left]
 have e3:jU (num p.size++more) 0=(p.size,more,0):=by
  rw [jU,if_neg aa,yH _ _ (by have:=h.2.2;omega)]
 unfold xM;rw [e1];dsimp only;rw [e2];dsimp only;rw [e3,h3]
theorem Zs:∀(x:List PartP) (out:List PartP) (more:ai),(∀p∈x,z39 p)->zT x.length out (x.flatMap kR++more)=(0,out++x,more)
 | [],out,more,_=>by simp [zT]
 | p::x,out,more,h=>by
  rw [List.length_cons,zT,List.flatMap_cons,List.append_assoc,VE p _ (h p ab)]
  dsimp only
  rw [if_neg aa,Zs x _ _ (fun q hq=>h q (by simp [hq])),List.append_assoc];rfl
theorem UF (h:chk x=0):∀p∈x,z39 p:=(zi h).2
theorem Qt (x:List PartP):enc x= [65,77,49]++(num x.length++x.flatMap kR):=by rw [enc,List.append_assoc]
theorem z1t (l:ai): [65,77,49].isPrefixOf ([65,77,49]++l)=true:=by simp [List.isPrefixOf]
theorem XC (x:List PartP) (h:chk x=0):(enc x).length<=388/\4<=(enc x).length:=by
 have h0:=zi h;have h1:=yP x h0.2;rw [xT x h0.1];omega
theorem Xu (x:List PartP) (more:ai) (h:chk x=0) (hm:more.length<=1000):qU (enc x++more)=if 0<more.length then ([],3) else (x,0):=by
 have h0:=zi h;have hle:=XC x h;have hd:(enc x++more).drop 3=num x.length++(x.flatMap kR++more):=by rw [Qt,List.append_assoc,List.append_assoc];rfl
 have hp: [65,77,49].isPrefixOf (enc x++more)=true:=by rw [Qt,List.append_assoc];exact z1t _
 rw [qU,if_neg (by rw [List.length_append];omega),hp,if_neg aa,hd,yH _ _ wu];dsimp only;rw [if_neg aa,if_neg wu,Zs x [] more (UF h)];dsimp only;rw [if_neg aa,List.nil_append,h];split
 ·rfl
 ·simp
theorem UJ (x:List PartP) (h:chk x=0):qU (enc x)=(x,0):=by
 have:=Xu x [] h ab
 rwa [List.append_nil]at this
theorem VF {p:PartP} (h:xM l=(p,l',0)):l=kR p++l':=by
 obtain⟨t,l1,e1,h1⟩:∃t l1 e1,Z6 l 0=(t,l1,e1):=⟨_,_,_,rfl⟩
 obtain⟨d,l2,e2,h2⟩:∃d l2 e2,uA 32 l1 e1=(d,l2,e2):=⟨_,_,_,rfl⟩
 obtain⟨z,l3,e3,h3⟩:∃z l3 e3,jU l2 e2=(z,l3,e3):=⟨_,_,_,rfl⟩
 unfold xM at h;rw [h1]at h;dsimp only at h;rw [h2]at h;dsimp only at h;rw [h3]at h;dsimp only at h;simp only [Prod.mk.injEq]at h;obtain⟨rfl,rfl,rfl⟩:=h;have he2:e2=0:=by
  by_cases h0:e2=0
  ·exact h0
  ·rw [jU,if_pos h0]at h3;simp only [Prod.mk.injEq]at h3;exact h3.2.2
 subst he2;have he1:e1=0:=by
  by_cases h0:e1=0
  ·exact h0
  ·rw [uA,if_pos h0]at h2;simp only [Prod.mk.injEq]at h2;exact h2.2.2
 subst he1;rw [jU,if_neg aa]at h3;rw [uA,if_neg aa]at h2;rw [Z6,if_neg aa]at h1;have i1:=Vo h1;have i3:=xH h3;by_cases hlt:l1.length<32
 ·rw [if_pos hlt]at h2;simp at h2
 ·rw [if_neg hlt]at h2;simp only [Prod.mk.injEq,and_true]at h2;have hdl:d.length=32:=by rw [<-h2.1,List.length_take];omega
  show l=txt t++(kr (kH d)).1++num z++l3;rw [z1j d wu,i1.2,List.append_assoc,List.append_assoc,<-i3.2,<-h2.1,<-h2.2,List.take_append_drop]
theorem Zt:∀(n:Nat) (out x:List PartP) (l l':ai),zT n out l=(0,x,l')->∃y,x=out++y/\y.length=n/\l=y.flatMap kR++l'
 | 0,out,x,l,l',h=>by
  simp only [zT,Prod.mk.injEq,true_and]at h
  exact⟨[],by rw [List.append_nil];exact h.1.symm,rfl,by rw [h.2];rfl⟩
 | n+1,out,x,l,l',h=>by
  rw [zT]at h
  by_cases h0:(xM l).2.2=0
  ·rw [if_neg (by simpa using h0)]at h
   obtain⟨y,h1,h2,h3⟩:=Zt n _ x _ l' h
   refine⟨(xM l).1::y,by rw [h1,List.append_assoc];rfl,by rw [List.length_cons,h2],?_⟩
   rw [List.flatMap_cons,List.append_assoc,<-h3]
   exact VF (by rw [<-h0])
  ·rw [if_pos h0]at h
   simp only [Prod.mk.injEq]at h
   exact absurd h.1 h0
theorem UK (h:qU b=(x,0)):enc x=b/\chk x=0:=by
 unfold qU at h;by_cases h1:2000<b.length
 ·rw [if_pos h1]at h;simp at h
 rw [if_neg h1]at h;by_cases h2: [65,77,49].isPrefixOf b=false
 ·rw [if_pos h2]at h;simp at h
 rw [if_neg h2]at h;obtain⟨m,r,er,hrd⟩:∃m r er,zm (b.drop 3)=(m,r,er):=⟨_,_,_,rfl⟩
 rw [hrd]at h;dsimp only at h;by_cases h3:er≠0
 ·rw [if_pos h3]at h;simp only [Prod.mk.injEq]at h;exact absurd h.2 h3
 rw [if_neg h3]at h;have h3:er=0:=by simpa using h3
 subst h3;by_cases h4:8<m
 ·rw [if_pos h4]at h;simp at h
 rw [if_neg h4]at h;obtain⟨e,y,l',hg⟩:∃e y l',zT m [] r=(e,y,l'):=⟨_,_,_,rfl⟩
 rw [hg]at h;dsimp only at h;by_cases h5:e≠0
 ·rw [if_pos h5]at h;simp only [Prod.mk.injEq]at h;exact absurd h.2 h5
 rw [if_neg h5]at h;have h5:e=0:=by simpa using h5
 subst h5;by_cases h6:0<l'.length
 ·rw [if_pos h6]at h;simp at h
 rw [if_neg h6]at h;by_cases h7:chk y≠0
 ·rw [if_pos h7]at h;simp only [Prod.mk.injEq]at h;exact absurd h.2 h7
 rw [if_neg h7]at h;simp only [Prod.mk.injEq,and_true]at h;subst h;have h7:chk y=0:=by simpa using h7
 have h6:l'= []:=List.eq_nil_of_length_eq_zero wu;obtain⟨y',e1,e2,e3⟩:=Zt m [] y r l' hg;rw [List.nil_append]at e1;subst e1;have hr:=(xH hrd).2;refine⟨?_,h7⟩;rw [Qt,e2,show y.flatMap kR=r by rw [e3,h6,List.append_nil],<-hr];have hp: [65,77,49].isPrefixOf b=true:=by simpa using h2
 obtain⟨s,hs⟩:=List.isPrefixOf_iff_prefix.1 hp;rw [<-hs];rfl
theorem z4h:El zZZ 42 90 3 48:=El.mk' (z:= .agg #[aD ByteArray.empty,aB aC 0,aA aF 0 0]) underlying42 ww rfl wu wu
theorem Zb (A:aj) (c:Nat) (l:List Int) (w:World) (hb:l.length<=1000000) (hr:Rd w 1 A l.length (ins l)) :
  Calls zZZ 128 #[aA A l.length c] w fun e w'=>∃v,e= .returned v/\w'.ownsRow w.heap.size 3 1 v l.length (ins l)/\Below w.heap.size w w':=by
 have heq:=fun W=>Lib.run_eql_slice_nil (P:=zZZ) W 80 3 A l.length c 0 0 underlying80;cases A with
 | none =>
  have h0:l.length=0:=by
   rcases Nat.eq_zero_or_pos l.length with h | h
   ·exact h
   ·obtain⟨_,_,h1,_⟩:=hr.2 h;cases h1
  obtain rfl:l= []:=List.eq_nil_of_length_eq_zero h0;have heq:=fun W=>Lib.run_eql_slice_nil (P:=zZZ) W 80 3 aF 0 c 0 0 underlying80;rw [List.length_nil];go_enter func128,ntmps128;go_wp2_with fail;go_ret;exact⟨_,rfl,World.ownsRow_nil _ _ _ _,Below.refl _ _⟩
 | some ad =>
  go_enter func128,ntmps128
  refine wL ?_;intros;refine zG rfl (.tmp 5) (.tmp 6) rfl z19 ac (World.ownsRow_made (size:=1) w #[] 0 ag (by simp [maxLen]) rfl) ac (hr.alloc _) (XV l) wu ab ?_;intro v1 w1 hown1 hg1 _;have hb1:=zh ((Below.refl _ _).alloc ag _) (World.ownsRow_made (size:=1) w #[] 0 ag (by simp [maxLen]) rfl) ag hg1;go_wp2_with fail;go_ret;exact⟨_,rfl,by simpa using hown1,hb1⟩
def ke (fs:List FlP) (As:List (aj×Nat)):ak:=(fs.zip As).flatMap fun x=>qP x.1 x.2.1 x.2.2
def blk (a:aj×Nat):Option Nat:=a.1.map (·.block)
theorem qC (a:aj×Nat) (n:Nat):(aA a.1 n a.2).ownBlock=blk a:=by
 obtain⟨A,c⟩:=a;cases A<;>rfl
def FlsO (w:World) (base:Nat) (v:Value) (fs:List FlP):Prop :=
 ∃(As:List (aj×Nat)),As.length=fs.length/\w.ownsRow base 90 3 v fs.length (ke fs As) /\
  (∀(k:Nat) (p:FlP) (a:aj×Nat),fs[k]?=aG p->As[k]?=aG a->w.ownsRow base 3 1 (aA a.1 p.wait.length a.2) p.wait.length (ins p.wait)/\∀g,blk a=aG g->v.ownBlock≠aG g) /\
  (∀(k j:Nat) (a b:aj×Nat),k<j->As[k]?=aG a->As[j]?=aG b->∀g,blk a=aG g->blk b≠aG g)
theorem z1q {e:TypeId} (h:w.ownsRow base e 1 (aA A n c) n xs):n<=c/\c<=maxLen:=by
 rcases h.2 with ⟨h1,h2⟩ | ⟨_,cap,_,h1,_,_,h2,h3,_⟩
 ·injection h1 with _ _ h3;subst h3;omega
 ·injection h1 with _ _ h4;subst h4;exact⟨h2,h3⟩
theorem FlsO.fls (h:FlsO w base v fs):∃A c,v= aA A fs.length c/\fs.length<=c/\Fls w A fs:=by
 obtain⟨As,h1,h2,h3,h4⟩:=h;obtain⟨A,c,rfl,hc,hr⟩:=Rd.of_own' h2;refine⟨A,c,rfl,hc,As,h1,hr,fun k p a hp ha=> ?_⟩;have ho:=(h3 k p a hp ha).1;exact⟨Rd.of_own ho,z1q ho⟩
theorem FlsO.nil_ (w:World) (base:Nat) (v:Value) (h:w.ownsRow base 90 3 v 0 []):FlsO w base v [] :=
 ⟨[],rfl,h,(fun k p a hp _=>by cases hp),(fun k j a b _ ha=>by cases ha)⟩
theorem FlsO.below (h:FlsO w base v fs) (hb:Below w.heap.size w w'):FlsO w' base v fs:=by
 obtain⟨As,h1,h2,h3,h4⟩:=h;exact⟨As,h1,zc h2 hb,(fun k p a hp ha=>⟨zc (h3 k p a hp ha).1 hb,(h3 k p a hp ha).2⟩),h4⟩
theorem FlsO.lower {b':Nat} (h:FlsO w base v fs) (hb:b'<=base):FlsO w b' v fs:=by
 obtain⟨As,h1,h2,h3,h4⟩:=h;exact⟨As,h1,zb h2 hb,(fun k p a hp ha=>⟨zb (h3 k p a hp ha).1 hb,(h3 k p a hp ha).2⟩),h4⟩
theorem vW:∀(fs:List FlP) (As:List (aj×Nat)) (p:FlP) (a:aj×Nat),As.length=fs.length->ke (fs++ [p]) (As++ [a])=ke fs As++qP p a.1 a.2
 | [], [],p,a,_=>by simp [ke]
 | f::fs,b::As,p,a,h=>by
  have ih:=vW fs As p a (by simpa using h)
  simp only [ke]at ih ⊢
  rw [List.cons_append,List.cons_append,List.zip_cons_cons,List.zip_cons_cons,List.flatMap_cons,List.flatMap_cons,ih,List.append_assoc]
theorem FlsO.snoc {v':Value} {p:FlP} {B:aj} {As:List (aj×Nat)} (h1:As.length=fs.length)
  (h3:∀(k:Nat) (p:FlP) (a:aj×Nat),fs[k]?=aG p->As[k]?=aG a->w.ownsRow base 3 1 (aA a.1 p.wait.length a.2) p.wait.length (ins p.wait)/\∀g,blk a=aG g->v.ownBlock≠aG g)
  (h4:∀(k j:Nat) (a b:aj×Nat),k<j->As[k]?=aG a->As[j]?=aG b->∀g,blk a=aG g->blk b≠aG g)
  (ho:w'.ownsRow base 90 3 v' (fs.length+1) (ke fs As++qP p B c))
  (hg:w.grownBy w' v.ownBlock) (hv:v'.ownBlock=v.ownBlock\/∃g,v'.ownBlock=aG g/\w.heap.size<=g)
  (hB:w.ownsRow base 3 1 (aA B p.wait.length c) p.wait.length (ins p.wait)) (hne:∀g,blk (B,c)=aG g->v.ownBlock≠aG g)
  (hfr:∀(k:Nat) (a:aj×Nat),As[k]?=aG a->∀g,blk a=aG g->blk (B,c)≠aG g):FlsO w' base v' (fs++ [p]):=by
 have keep:∀(a:aj×Nat) (l:List Int),w.ownsRow base 3 1 (aA a.1 l.length a.2) l.length (ins l)->(∀g,blk a=aG g->v.ownBlock≠aG g) ->
   w'.ownsRow base 3 1 (aA a.1 l.length a.2) l.length (ins l)/\∀g,blk a=aG g->v'.ownBlock≠aG g:=fun a l hr hn=>by
  refine⟨hr.kept hg ?_,fun g e=> ?_⟩
  ·rw [qC];cases hb:blk a with
   | none=>exact .inl rfl
   | some g=>exact .inr (fun h=>hn g hb h.symm)
  ·rcases hv with h | ⟨g',h,hge⟩
   ·rw [h];exact hn g e
   ·rw [h];have:=(hr.lt g (by rw [qC];exact e)).2;intro h';cases h';omega
 refine⟨As++ [(B,c)],by simp [h1],?_,fun k q a hq ha=> ?_,fun k j a b hkj ha hb g hag=> ?_⟩
 ·rw [vW fs As p (B,c) h1,List.length_append];exact ho
 ·by_cases hk:k<fs.length
  ·rw [List.getElem?_append_left hk]at hq;rw [List.getElem?_append_left wu]at ha;obtain⟨i1,i2⟩:=h3 k q a hq ha;exact keep a q.wait i1 i2
  ·rw [List.getElem?_append_right wu]at hq ha;have hk0:k - fs.length=0:=by
    have:=(List.getElem?_eq_some_iff.1 hq).1;simp at this;exact this
   rw [h1,hk0]at ha;rw [hk0]at hq;simp only [List.getElem?_cons_zero,Option.some.injEq]at hq ha;subst hq ha;exact keep (B,c) p.wait hB hne
 ·have hjl:=(List.getElem?_eq_some_iff.1 hb).1;rw [List.length_append]at hjl;simp only [List.length_cons,List.length_nil]at hjl;rw [List.getElem?_append_left wu]at ha;by_cases hj:j<As.length
  ·rw [List.getElem?_append_left hj]at hb;exact h4 k j a b hkj ha hb g hag
  ·rw [List.getElem?_append_right wu]at hb;have:j - As.length=0:=by omega
   rw [this]at hb;simp only [List.getElem?_cons_zero,Option.some.injEq]at hb;subst hb;exact hfr k a ha g hag
theorem kw (A:aj) (c:Nat) (fs:List FlP) (w:World) (hn:fs.length<=1000) (hw:∀p∈fs,p.wait.length<=1000) (hf:Fls w A fs) (hc:fs.length<=c) :
  Calls zZZ 91 #[aA A fs.length c] w fun e w'=>∃v,e= .returned v/\FlsO w' w.heap.size v fs/\Below w.heap.size w w':=by
 have HWT:=sqH hw;clear hw;go_enter func91,ntmps91
 refine wL ?_;intros;refine ya rfl _ _ rfl z4h fs.length rfl rfl wu wu ?_;intro w1 g1 hown1 hb1;have ho1:=FlsO.nil_ w1 w.heap.size _ hown1
 refine wL ?_;intros;go_loopg [3,11,5] fs.length (fun gn v i u wr=>∃k:Nat,gn=fs.length - k/\i= aB aC k/\k<=fs.length/\FlsO wr w.heap.size v (fs.take k)/\Below w.heap.size w wr)
 case atStart=>exact⟨0,rfl,rfl,wu,ho1,hb1⟩
 case round =>
  clear ho1 hown1 hb1;obtain⟨k,hgq,rfl,hk,ho,hbl⟩:=hrel;have HGK:=sqH hgq;clear hgq;by_cases hlt:k<fs.length
  ·have hcc:decide (k<fs.length)=true:=decide_eq_true hlt;obtain⟨b,off,B,cb,rfl,hbb,c0,c1,c2,hrw,hwc,hcbm⟩:=(hf.below hbl).at_ k hlt;have hwl:=HWT.o fs[k] (List.getElem_mem hlt);have HST:=sqH (show fs.take (k+1)=fs.take k++ [fs[k]] from List.take_succ_eq_append_getElem hlt);have htl:(fs.take k).length=k:=by rw [List.length_take];omega
   obtain⟨p,hp⟩:=wY (fs[k])
   rw [<-hp]at c0 c1 c2 hrw hwc hwl HST;obtain⟨s,hs⟩:=wY (⟨p.key.toArray⟩:ByteArray)
   rw [<-hs]at c0;have HS:=sqH hs;have HTL:=sqH htl;have hk0:=we k
   have hk1:(k:Int)<(fs.length:Int):=wu;obtain⟨ld,hld⟩:=wY p.lead
   rw [<-hld]at c1;have HLD:=sqH hld;have hP1:Arr (wr.alloc (aE #[aD s,aB aC ld,aA B p.wait.length cb] 90)) wr.heap.size 90 [aD s,aB aC ld,aA B p.wait.length cb]:=Arr.new wr _ _;have hbr1:=ws wr (aE #[aD s,aB aC ld,aA B p.wait.length cb] 90);have hs1:(wr.alloc (aE #[aD s,aB aC ld,aA B p.wait.length cb] 90)).heap.size=wr.heap.size+1:=World.size_alloc _ _;have hrw1:=hrw.alloc (aE #[aD s,aB aC ld,aA B p.wait.length cb] 90);clear hs hp hld htl hrw
   refine wL ?_;intros;generalize wr.alloc (aE #[aD s,aB aC ld,aA B p.wait.length cb] 90)=w1 at *
   obtain⟨gp,hgp⟩:=wY wr.heap.size
   rw [<-hgp]at hP1 ⊢
   have HGP:=sqH hgp;clear hgp c0 c1 c2;refine(Zb B cb p.wait w1 wu hrw1).mono ?_;rintro e_ w2 ⟨v2,rfl,ho2,hb2⟩;dsimp only;have hbr2:=wm hbr1 hb2;have hP2:=hP1.below hb2;have hrd2:∀b,v2.ownBlock=aG b->b≠gp:=fun b h=>by have:=(ho2.lt b h).1;have:=HGP.o;omega
   obtain⟨A2,c2,rfl,hc2,hr2⟩:=Rd.of_own' ho2;have hc2m:c2<=maxLen:=by
    rcases ho2.2 with ⟨h1,h2⟩ | ⟨_,cap,_,h1,_,_,_,h2,_⟩
    ·injection h1 with _ _ h3;subst h3;exact Nat.zero_le _
    ·injection h1 with _ _ h3;subst h3;exact h2
   have y2:=hP2.c2;have z2:=hP2.frozen 2;have hP3:=hP2.set (k:=2) ab (aA A2 p.wait.length c2);have hbr3:Below wr.heap.size wr (w2.setCell ⟨gp,2,aF⟩ (aA A2 p.wait.length c2)):=Below.setCell hbr2 (by show wr.heap.size<=gp;have:=HGP.o;omega) _;have hr3:Rd (w2.setCell ⟨gp,2,aF⟩ (aA A2 p.wait.length c2)) 1 A2 p.wait.length (ins p.wait):=by
    refine⟨hr2.1,fun h0=> ?_⟩;obtain⟨b',o',e',hb',hcc'⟩:=hr2.2 h0;have hn':=hrd2 b' (by rw [e'];rfl);subst e';exact(hr2.other hn' _).2 h0
   have hbelow2:True:=trivial;obtain⟨f0,f1,f2⟩:=sqC3 hP3;have hneA:∀b off,A2=aG ⟨b,off,aF⟩->0<p.wait.length->wr.heap.size<=b:=fun b off e _=>by
    have:=(ho2.lt b (by rw [e];rfl)).1;omega
   have ho22:=zd (k:=2) (u:= aA A2 p.wait.length c2) ho2 (fun h=>hrd2 gp h rfl);clear ho2 hr2 hrw1
   refine wL ?_;intros;have hsz:(w2.setCell ⟨gp,2,aF⟩ (aA A2 p.wait.length c2)).heap.size=w2.heap.size:=by simp [World.setCell]
   rw [<-hsz];obtain⟨w3,hw3⟩:=wY (w2.setCell ⟨gp,2,aF⟩ (aA A2 p.wait.length c2))
   rw [<-hw3]at hbr3 hr3 ho22 ⊢
   clear f0 f1 f2 y2 z2 hP3 hw3 hsz;obtain⟨As,j1,j2,j3,j4⟩:=ho;have i1:=j1;have i2:=zc j2 hbr3;have i3:=fun (k:Nat) (p:FlP) (a:aj×Nat) hp ha=>(⟨zc (j3 k p a hp ha).1 hbr3,(j3 k p a hp ha).2⟩:_/\_)
   have i4:=j4;have OLD:=sqH (show ∀k' a,As[k']?=aG a->∀g,blk a=aG g->g<wr.heap.size from fun k' a ha g hg=>by
    have hkl:=(List.getElem?_eq_some_iff.1 ha).1;have hq:(fs.take k)[k']?=aG ((fs.take k)[k']'(by omega)):=List.getElem?_eq_getElem _;exact((j3 k' _ a hq ha).1.lt g (by rw [qC];exact hg)).2)
   have hfc:qP p A2 c2= [aD s,aB aC ld,aA A2 p.wait.length c2]:=by rw [qP,<-HS.o,<-HLD.o]
   rw [HTL.o]at i2;refine zj rfl (.tmp 19) (.tmp 21) rfl z4h ac i2 (us:= [aD s,aB aC ld,aA A2 p.wait.length c2]) (m:=1) ac rfl (by intro u hu;simp at hu;rcases hu with rfl | rfl | rfl<;>rfl) wu (Nat.le_trans hbl.size hbr3.size) ?_;intro v5 w5 ho5 hg5 hv5;have hlt5:∀g',v5.ownBlock=aG g'->w.heap.size<=g':=fun g' h=>(ho5.lt g' h).1;have hbel5:Below w.heap.size w w5:=(wm hbl hbr3).grown hg5 (Nat.le_trans hbl.size hbr3.size) (fun k hk=>(i2.lt k hk).1);rw [<-hfc]at ho5;have hlow:w.heap.size<=w1.heap.size:=Nat.le_trans hbl.size hbr1.size;have ho6:=FlsO.snoc (p:=p) (B:=A2) (c:=c2) i1 i3 i4 (by rw [HTL.o];exact ho5) hg5 hv5 (zb ho22 hlow) (fun g h h'=>by
    have h1:=(ho22.lt g (by rw [qC (A2,c2)];exact h)).1;have:=(j2.lt g h').2;omega) (fun k' a ha g h h'=>by
    have h1:=(ho22.lt g (by rw [qC (A2,c2)];exact h')).1;have:=OLD.o k' a ha g h;omega)
   rw [<-HST.o]at ho6;clear i1 i2 i3 i4 j1 j2 j3 j4 ho22 ho5 hg5 hv5 hr3 hbr3 hlt5
   refine wL ?_;intros;go_roundg (fs.length - (k+1))
   case measure=>exact wc HGK
   case rel=>exact⟨k+1,rfl,by go_num,wu,ho6,hbel5⟩
  ·obtain rfl:k=fs.length:=by omega
   have hcc:decide (fs.length<fs.length)=false:=ab;rw [List.take_length]at ho;obtain⟨A5,c5,rfl,_,_⟩:=ho.fls
   refine wL ?_;intros;go_ret;exact⟨_,rfl,ho,hbl⟩
theorem Jp (s:ByteArray) (r:ai) (q:Nat) (w:World) (hs:s.size<=4000) (hq:s.size=2*q) (hun:xn s.data.toList=aG r) :
  Calls zZZ 38 #[aD s] w fun e w'=>∃v,e= .returned v/\w'.ownsRow w.heap.size 5 1 v r.length (bys r)/\Below w.heap.size w w':=by
 have hsz:s.data.toList.length=s.size:=by rw [Array.length_toList];rfl
 have hq1:q*2<=s.size:=wu;have hq2:s.size<=q*2:=wu;have HZ:=sqH hsz;have HUN:=sqH hun;clear hq hsz hun;go_enter func38,ntmps38;go_wp2_with fail;go_loopg [3,4] s.size (fun gn v i wr=>∃(k:Nat) (acc:ai),gn=s.size - 2*k/\i= aB aC ((2*k:Nat):Int)/\k<=q/\acc.length=k/\xn s.data.toList=(xn (s.data.toList.drop (2*k))).map (acc++ ·) /\
  wr.ownsRow w.heap.size 5 1 v acc.length (bys acc)/\Below w.heap.size w wr)
 case atStart=>exact⟨0, [],rfl,rfl,wu,rfl,ab,World.ownsRow_nil _ _ _ _,Below.refl _ _⟩
 case round =>
  obtain⟨k,acc,hgk,rfl,hk,hacc,hun,hown,hbel⟩:=hrel;obtain⟨HGK0,HU,HA⟩:=sqJ3 hgk hun hacc;clear hun hacc hgk;have hsw:=hbel.size;generalize hm:2*k=m at *
  have HGK:=HGK0;have HM:=sqH hm;by_cases hlt:k<q
  ·have hm1:m+1<s.size:=wu
   have hm0:m<s.size:=wu;have hi0:=we m
   have hi1:(m:Int)<(s.size:Int):=wu;have hi2:(m:Int)+1<(s.size:Int):=wu;have hi3:(0:Int)<=(m:Int)+1:=wu;have hw1:IntKind.i64.wrap ((m:Int)+1)=(m:Int)+1:=IntWalk.i64_in _ wu;have hw2:IntKind.i64.wrap ((m:Int)+2)=(m:Int)+2:=IntWalk.i64_in _ wu;have hn1:((m:Int)+1).toNat=m+1:=wu;have hd:s.data.toList.drop m=s[m]::s[m+1]::s.data.toList.drop (m+2):=by
    have hz:=HZ.o;rw [List.drop_eq_getElem_cons wu,List.drop_eq_getElem_cons (i:=m+1) wu];rfl
   have ra:=y9 s[m];have rb:=y9 s[m+1];have hbad:¬(val s[m]<0\/val s[m+1]<0):=fun hbad=>by
    have h:=HUN.o;rw [HU.o,hd,xn,if_pos hbad]at h;cases h
   have hstep:xn s.data.toList=(xn (s.data.toList.drop (m+2))).map ((acc++ [UInt8.ofNat (16*(val s[m]).toNat+(val s[m+1]).toNat)])++ ·):=by
    rw [HU.o,hd,xn,if_neg hbad,Option.map_map]
    congr 1;funext x;simp
   have HG:=sqH hstep;have hna:0<=val s[m]:=wu;have hnb:0<=val s[m+1]:=wu;have hmx1:max (0:Int) (val s[m])=val s[m]:=wu;have hmx2:max (0:Int) (val s[m+1])=val s[m+1]:=wu;have he1:bys [UInt8.ofNat (16*(val s[m]).toNat+(val s[m+1]).toNat)]= [aB .u8 (16*val s[m]+val s[m+1])]:=by
    simp only [bys,List.map_cons,List.map_nil,UInt8.toNat_ofNat']
    congr 2;omega
   have HE1:=sqH he1;have hw3:IntKind.i64.wrap (16*val s[m])=16*val s[m]:=IntWalk.i64_in _ wu;have hw4:IntKind.i64.wrap (16*val s[m]+val s[m+1])=16*val s[m]+val s[m+1]:=IntWalk.i64_in _ wu;have hw5:IntKind.u8.wrap (16*val s[m]+val s[m+1])=16*val s[m]+val s[m+1]:=by rw [IntKind.wrap_u8];omega
   have HOWN:=sqH hown;have HBEL:=sqH hbel;have hacl:=HA.o;clear hm hd hbad hstep hown hbel he1;go_wp2_with fail;refine wp_region_held_drew (S:=(fun _=>True)) ww ?_ (fun hHeld=> ?_)
   ·trivial
   have hB:=(Below.refl wr.heap.size wr).drew;generalize wr.drew=wn0 at *
   refine wpAnyH_take (i:=0) (oi:=_) (v:= ?_) rfl ww ww ww (fun _ _ _ h=>h) (Or.inl ⟨ac,?_⟩) (by assumption) ?_;rotate_left
   ·(intro w hSw;(try dsimp only [wH,wI,wJ,wK] at hSw);go_simp;try (with_reducible rfl))
   try simp only [sqQ]
   refine wpAnyH_take (i:=1) (oi:=_) (v:= ?_) rfl ww ww ww (fun _ _ _ h=>h) (Or.inl ⟨ac,?_⟩) (by assumption) ?_;rotate_left
   ·(intro w hSw;(try dsimp only [wH,wI,wJ,wK] at hSw);go_simp;try (with_reducible rfl))
   try simp only [sqQ]
   refine wpAnyH_take (i:=2) (oi:=_) (v:= ?_) rfl ww ww ww (fun _ _ _ h=>h) (Or.inl ⟨ac,?_⟩) (by assumption) ?_;rotate_left
   ·(intro w hSw;(try dsimp only [wH,wI,wJ,wK] at hSw);go_simp;try (with_reducible rfl))
   try simp only [sqQ]
   refine wpAnyH_take (i:=3) (oi:=_) (v:= ?_) rfl ww ww ww (fun _ _ _ h=>h) (Or.inl ⟨ac,?_⟩) (by assumption) ?_;rotate_left
   ·(intro w hSw;(try dsimp only [wH,wI,wJ,wK] at hSw);go_simp;try (with_reducible rfl))
   try simp only [sqQ]
   refine wpAnyH_take (i:=7) (oi:=_) (v:= ?_) rfl ww ww ww (fun _ _ _ h=>h) (Or.inl ⟨ac,?_⟩) (by assumption) ?_;rotate_left
   ·(intro w hSw;(try dsimp only [wH,wI,wJ,wK] at hSw);go_simp;try (with_reducible rfl))
   try simp only [sqQ]
   refine wpAnyH_take (i:=8) (oi:=_) (v:= ?_) rfl ww ww ww (fun _ _ _ h=>h) (Or.inl ⟨ac,?_⟩) (by assumption) ?_;rotate_left
   ·(intro w hSw;(try dsimp only [wH,wI,wJ,wK] at hSw);go_simp;try (with_reducible rfl))
   try simp only [sqQ]
   refine wpAnyH_take (i:=9) (oi:=_) (v:= ?_) rfl ww ww ww (fun _ _ _ h=>h) (Or.inl ⟨ac,?_⟩) (by assumption) ?_;rotate_left
   ·(intro w hSw;(try dsimp only [wH,wI,wJ,wK] at hSw);go_simp;try (with_reducible rfl))
   try simp only [sqQ]
   refine wpAnyH_take (i:=10) (oi:=_) (v:= ?_) rfl ww ww ww (fun _ _ _ h=>h) (Or.inl ⟨ac,?_⟩) (by assumption) ?_;rotate_left
   ·(intro w hSw;(try dsimp only [wH,wI,wJ,wK] at hSw);go_simp;try (with_reducible rfl))
   try simp only [sqQ]
   refine wU 4 fun K hK=>?_;go_simp;refine(Ui _ _).mono ?_;rintro e6 w6 ⟨rfl,hw6⟩;replace hw6:=hw6.symm;subst hw6;dsimp only;refine wF hK trivial (Below wn0.heap.size wn0) (by first | exact(Below.refl _ _).alloc ag _ | exact Below.refl _ _) fun wn1 hHeld hst=> ?_;have hB:=wm hB hst;clear hst;clear hK K
   try simp only [sqQ]
   refine wpAnyH_take (i:=5) (oi:=_) (v:= ?_) rfl ww ww ww (fun _ _ _ h=>h) (Or.inl ⟨ac,?_⟩) (by assumption) ?_;rotate_left
   ·(intro w hSw;(try dsimp only [wH,wI,wJ,wK] at hSw);go_simp;try (with_reducible rfl))
   try simp only [sqQ]
   refine wpAnyH_take (i:=6) (oi:=_) (v:= ?_) rfl ww ww ww (fun _ _ _ h=>h) (Or.inl ⟨ac,?_⟩) (by assumption) ?_;rotate_left
   ·(intro w hSw;(try dsimp only [wH,wI,wJ,wK] at hSw);go_simp;try (with_reducible rfl))
   try simp only [sqQ]
   refine wU 11 fun K hK=>?_;go_simp;refine(Ui _ _).mono ?_;rintro e6 w6 ⟨rfl,hw6⟩;replace hw6:=hw6.symm;subst hw6;dsimp only;refine wF hK trivial (Below wn1.heap.size wn1) (by first | exact(Below.refl _ _).alloc ag _ | exact Below.refl _ _) fun wn2 hHeld hst=> ?_;have hB:=wm hB hst;clear hst;clear hK K
   try simp only [sqQ]
   refine wpAnyH_take (i:=12) (oi:=_) (v:= ?_) rfl ww ww ww (fun _ _ _ h=>h) (Or.inl ⟨ac,?_⟩) (by assumption) ?_;rotate_left
   ·(intro w hSw;(try dsimp only [wH,wI,wJ,wK] at hSw);go_simp;try (with_reducible rfl))
   try simp only [sqQ]
   refine wpAnyH_take (i:=13) (oi:=_) (v:= ?_) rfl ww ww ww (fun _ _ _ h=>h) (Or.inl ⟨ac,?_⟩) (by assumption) ?_;rotate_left
   ·(intro w hSw;(try dsimp only [wH,wI,wJ,wK] at hSw);go_simp;try (with_reducible rfl))
   try simp only [sqQ]
   refine wpAnyH_take (i:=14) (oi:=_) (v:= ?_) rfl ww ww ww (fun _ _ _ h=>h) (Or.inl ⟨ac,?_⟩) (by assumption) ?_;rotate_left
   ·(intro w hSw;(try dsimp only [wH,wI,wJ,wK] at hSw);go_simp;try (with_reducible rfl))
   try simp only [sqQ]
   refine wU 15 fun K hK=>?_;go_simp;refine kn hK trivial (Below wn2.heap.size wn2) (fun W=>Rd W 1 (aG ⟨wn2.heap.size,0,aF⟩) 1 (bys [UInt8.ofNat (16*(val s[m]).toNat+(val s[m+1]).toNat)])) (by first | exact(Below.refl _ _).alloc ag _ | exact Below.refl _ _) (by rw [HE1.o];exact Rd.new1 _) fun wn3 hHeld hst hnew=> ?_;have hB:=wm hB hst;have h15:=hnew;clear hst;clear hK K
   try simp only [sqQ]
   refine wU 16 fun K hK=>?_;refine Z4 rfl (.tmp 12) (.tmp 27) rfl vu ac (zc HOWN.o hB) ac h15 (kC _) wu (Nat.le_trans hsw hB.size) ?_;intro v7 w7 ho7 hg7 _;refine kn hK ?_ (fun W=>W.ownsRow w.heap.size 5 1 v7 (acc.length+1) (bys acc++bys [UInt8.ofNat (16*(val s[m]).toNat+(val s[m+1]).toNat)])) (Below w.heap.size w) ?_ ?_ (fun wn4 hHeld hF hG=> ?_)
   ·trivial
   ·exact ho7
   ·exact zh (HBEL.o.trans (hB.mono hsw)) (zc HOWN.o hB) ag hg7
   clear hK K
   try simp only [sqQ]
   refine wpAnyH_take (i:=17) (oi:=_) (v:= ?_) rfl ww ww ww (fun _ _ _ h=>h) (Or.inl ⟨ac,?_⟩) (by assumption) ?_;rotate_left
   ·(intro w hSw;(try dsimp only [wH,wI,wJ,wK] at hSw);go_simp;try (with_reducible rfl))
   try simp only [sqQ]
   refine wpAnyH_done ww ?_ _;clear hHeld hB;go_wp2_with fail;go_roundg (s.size - (m+2))
   case measure=>exact wc HGK
   case rel =>
    refine⟨k+1,acc++ [UInt8.ofNat (16*(val s[m]).toNat+(val s[m+1]).toNat)],by rw [show 2*(k+1)=m+2 by have:=HM.o;omega],by have:=HM.o;go_num,wu,by rw [List.length_append];simp only [List.length_cons,List.length_nil];omega,by rw [show 2*(k+1)=m+2 by have:=HM.o;omega];exact HG.o,?_,hG⟩;rw [q6,List.length_append];exact hF
  ·have hkq:k=q:=wu
   have hfin:acc=r:=by
    have h:=HUN.o;rw [HU.o,List.drop_of_length_le (wc HZ),xn]at h;simpa using h
   have hmm:s.size<=m:=wu;have hmb:m<=5000:=wu;subst hfin;clear hkq hm;have hcc:decide ((m:Int)+1<(s.size:Int))=false:=decide_eq_false wu;have hw1:IntKind.i64.wrap ((m:Int)+1)=(m:Int)+1:=IntWalk.i64_in _ wu;go_wp2_with fail;go_ret;exact⟨_,rfl,hown,hbel⟩
theorem XA (x:List PartP) (k:Nat) (h:k<x.length):(x.take (k+1)).flatMap kR=(x.take k).flatMap kR++kR x[k]:=by
 rw [List.take_succ_eq_append_getElem h,List.flatMap_append,List.flatMap_cons,List.flatMap_nil,List.append_nil]
theorem UO (x:List PartP) (h:∀p∈x,z39 p) (k:Nat) (hx:x.length<=100):((x.take k).flatMap kR).length<=4800:=by
 have h1:=yP (x.take k) (fun p hp=>h p (List.mem_of_mem_take hp));rw [List.length_take]at h1;omega
theorem z2e (h:hexC d=0):xn d=aG (kr d).1/\d.length=64:=by
 unfold hexC at h;by_cases h64:d.length=64
 ·rw [if_neg wu]at h;refine⟨?_,h64⟩;unfold kr at h ⊢
  rw [if_neg wu,if_neg wu]at h ⊢
  cases hu:xn d with
  | none=>rw [hu]at h;cases h
  | some r=>rfl
 ·rw [if_pos h64]at h;cases h
theorem z3o (z:Nat):bits .or .u8 ((z:Int) % 128) 128=((UInt8.ofNat (z % 128+128)).toNat:Int):=by
 have key:∀a:Fin 128,bits .or .u8 (a.val:Int) 128=((UInt8.ofNat (a.val+128)).toNat:Int):=by decide +kernel
 have h:=key ⟨z % 128,wu⟩;have h2:(z:Int) % 128=((z % 128:Nat):Int):=wu;rw [h2];exact h
theorem Qi (A0:aj) (n c0:Nat) (x:List PartP) (w:World) (hl:x.length=n) (hn:n<=100) (hf:∀p∈x,z39 p) (hr:Rd w 3 A0 n (pcs x)) :
  Calls zZZ 13 #[aA A0 n c0] w fun e w'=>∃A c,e= .returned (aA A (enc x).length c)/\yb w' w.heap.size A c (enc x)/\Below w.heap.size w w':=by
 have HL:=sqH hl;have HF:=sqH hf;obtain⟨bn,hbn⟩:=wY (UInt8.ofNat n)
 have HEN:=sqH (show enc x= [65,77,49]++ [bn]++x.flatMap kR from by rw [enc,hl,qh wu,hbn]);have hkc:=fun (w:World) (C:Array Value) (n c:Nat)=>Lib.run_convert_bytes_const (P:=zZZ) w 25 5 C n c underlying25 underlying5;have hw8:IntKind.u8.wrap (n:Int)=(bn.toNat:Int):=by rw [hbn,IntKind.wrap_u8,UInt8.toNat_ofNat'];omega
 clear hl hf hbn;go_enter func13,ntmps13
 refine wL ?_;intros;have hz1:yb (w.alloc (aE #[aB .u8 65,aB .u8 77,aB .u8 49] 5 (3,4))) w.heap.size (aG ⟨w.heap.size,0,aF⟩) 3 [65,77,49] :=
  ⟨w.heap.size, [],(3,4),rfl,Nat.le_refl _,World.alloc_heap_new w _,rfl,by simp [maxLen],.inr ag⟩
 have hb1:=ws w (aE #[aB .u8 65,aB .u8 77,aB .u8 49] 5 (3,4));have hr1:=hr.alloc (aE #[aB .u8 65,aB .u8 77,aB .u8 49] 5 (3,4));have hs1:(w.alloc (aE #[aB .u8 65,aB .u8 77,aB .u8 49] 5 (3,4))).heap.size=w.heap.size+1:=World.size_alloc _ _;generalize w.alloc (aE #[aB .u8 65,aB .u8 77,aB .u8 49] 5 (3,4))=w1 at *
 have hz1':yb (w1.alloc (aE #[aB .u8 (bn.toNat:Int)] 5)) w.heap.size (aG ⟨w.heap.size,0,aF⟩) 3 [65,77,49]:=hz1.below ((Below.refl _ _).alloc ag _);have hb1':=hb1.alloc hb1.size (aE #[aB .u8 (bn.toNat:Int)] 5);have hsrc:Src zZZ (w1.alloc (aE #[aB .u8 (bn.toNat:Int)] 5)) 25 (aA (aG ⟨w1.heap.size,0,aF⟩) 1 1) 1 [bn]:=Src.sl underlying25 1 (Rd.new1 _);rw [<-hs1];refine vl rfl (.tmp 7) (.tmp 11) rfl ac hz1' rfl hsrc ab hb1'.size ?_;intro A2 c2 w2 hz2 hb2;have hb12:=hb1'.trans (hb2.mono ag);have hr2:Rd w2 3 A0 n (pcs x):=(hr.below hb12)
 have HR0:=sqH hr;clear hz1' hb1' hsrc hz1 hb1 hr1 hs1 hb2 hr2 hr hkc hw8;go_wp2_with fail;go_loopg [3,15,5] n (fun gn v i u wr=>∃(k:Nat) (A:aj) (c:Nat),gn=n - k/\i= aB aC k/\k<=n/\v= aA A ([65,77,49]++ [bn]++(x.take k).flatMap kR).length c/\yb wr w.heap.size A c ([65,77,49]++ [bn]++(x.take k).flatMap kR)/\Below w.heap.size w wr)
 case atStart=>exact⟨0,A2,c2,rfl,rfl,wu,rfl,hz2,hb12⟩
 case round =>
  clear hz2 hb12;obtain⟨k,A,c,hgk,rfl,hk,rfl,hZ,hbel⟩:=hrel;have HGK:=sqH hgk;clear hgk;by_cases hlt:k<n
  ·have hkl:k<x.length:=by have:=HL.o;omega
   have hstep:=XA x k hkl;have hfine:=HF.o x[k] (List.getElem_mem hkl);have hel:=UO x HF.o k (wc HL);have hat:=fun j (hj:j<3)=>yu x k j hkl hj;obtain⟨b,off,rfl,hbw',hcell⟩:=(HR0.o.below hbel).2 wu;generalize x[k]=p at *
   have c0:=hcell (k*3+0) _ (hat 0 wu);have c1:=hcell (k*3+1) _ (hat 1 wu);have c2:=hcell (k*3+2) _ (hat 2 wu);rw [Nat.add_zero]at c0;rw [show off+(k*3+1)=off+k*3+1 by omega]at c1;rw [show off+(k*3+2)=off+k*3+2 by omega]at c2;obtain⟨pn,pd,z⟩:=p;dsimp only [yn,List.getElem?_cons_zero,List.getElem?_cons_succ]at c0 c1 c2;obtain⟨s,hs⟩:=wY (⟨pn.toArray⟩:ByteArray)
   obtain⟨t,ht⟩:=wY (⟨pd.toArray⟩:ByteArray)
   rw [<-hs]at c0;rw [<-ht]at c1;have hsd:s.data.toList=pn:=by rw [hs]
   have htd:t.data.toList=pd:=by rw [ht]
   have hss:s.size=pn.length:=by rw [<-hsd,Array.length_toList];rfl
   have hts:t.size=pd.length:=by rw [<-htd,Array.length_toList];rfl
   have hn12:=kB hfine.1;have hux:=z2e hfine.2.1;have hz300:=hfine.2.2;have HDLL:=(kf hfine.2.1).2;dsimp only at hn12 hux hz300 HDLL;obtain⟨bs,hbs⟩:=wY (UInt8.ofNat s.size)
   have hwb:IntKind.u8.wrap (s.size:Int)=(bs.toNat:Int):=by rw [hbs,IntKind.wrap_u8,UInt8.toNat_ofNat'];omega
   have HSTEP:=sqH (show(x.take (k+1)).flatMap kR=(x.take k).flatMap kR++([bs]++s.data.toList++(kr pd).1++num z) from by
    rw [hstep,kR,txt,hsd,hbs,hss,qh (n:=pn.length) wu])
   have HUX:=sqH (show xn t.data.toList=aG (kr pd).1 from by rw [htd];exact hux.1);have hs12:s.size<=12:=wu;have ht64:t.size=64:=wu;have hk0:=we k
   have hk1:(k:Int)<(n:Int):=wu;have hcc:decide (k<n)=true:=decide_eq_true hlt;have hal:([65,77,49]++ [bn]++(x.take k).flatMap kR).length<=4900:=by
    simp only [List.length_append,List.length_cons,List.length_nil];omega
   obtain⟨acc,hacc⟩:=wY ( [65,77,49]++ [bn]++(x.take k).flatMap kR)
   rw [<-hacc]at hZ hal ⊢
   have HACC:=sqH hacc;have hH0:=hux.1;have HDL:=sqH (show(kr pd).1.length=32 from HDLL);generalize (kr pd).1=dg at *
   clear hstep hfine hel hat hcell hs ht hsd htd hss hts hbs hacc hux hH0 HDLL;go_wp2_with fail;have hZ':yb (wr.alloc (aE #[aD s,aD t,aB aC z] 85)) w.heap.size A c acc:=hZ.below ((Below.refl _ _).alloc ag _);have hP:=Arr.new wr 85 [aD s,aD t,aB aC z];have hbw:=hbel.alloc hbel.size (aE #[aD s,aD t,aB aC z] 85);have hne:A≠aG ⟨wr.heap.size,0,aF⟩:=fun e=>by
    obtain⟨g,_,_,e',_,hg,_⟩:=hZ;rw [e]at e';cases e'
    have:=(Array.getElem?_eq_some_iff.1 hg).1;omega
   have hgw:w.heap.size<=wr.heap.size:=hbel.size;clear hZ hbel;have hZ:=hZ';clear hZ';have hP:Arr (wr.alloc (aE #[aD s,aD t,aB aC z] 85)) wr.heap.size 85 [aD s,aD t,aB aC z]:=hP;generalize wr.alloc (aE #[aD s,aD t,aB aC z] 85)=wa at *
   generalize wr.heap.size=gp at *
   clear c0 c1 c2;refine wp_region_held_drew (S:=(fun w'=>w'.cell? ⟨gp,0,aF⟩=aG (aD s))) ww ?_ (fun hHeld=> ?_)
   ·exact(hP.drew).c0
   have hB:=(Below.refl wa.heap.size wa).drew;have hPn:=hP.drew;have hZn:yb wa.drew w.heap.size A c acc:=hZ;have hbn:=hbw.drew;clear hP hZ hbw;generalize wa.drew=wn0 at *
   refine wpAnyH_take (i:=0) (oi:=_) (v:= ?_) rfl ww ww ww (fun _ _ _ h=>h) (Or.inl ⟨ac,?_⟩) (by assumption) ?_;rotate_left
   ·(intro w hSw;(try dsimp only [wH,wI,wJ,wK] at hSw);go_simp;try (with_reducible rfl))
   try simp only [sqQ]
   refine wpAnyH_take (i:=1) (oi:=_) (v:= ?_) rfl ww ww ww (fun _ _ _ h=>h) (Or.inl ⟨ac,?_⟩) (by assumption) ?_;rotate_left
   ·(intro w hSw;(try dsimp only [wH,wI,wJ,wK] at hSw);go_simp;try (with_reducible rfl))
   try simp only [sqQ]
   refine wpAnyH_take (i:=2) (oi:=_) (v:= ?_) rfl ww ww ww (fun _ _ _ h=>h) (Or.inl ⟨ac,?_⟩) (by assumption) ?_;rotate_left
   ·(intro w hSw;(try dsimp only [wH,wI,wJ,wK] at hSw);go_simp;try (with_reducible rfl))
   try simp only [sqQ]
   refine wpAnyH_take (i:=3) (oi:=_) (v:= ?_) rfl ww ww ww (fun _ _ _ h=>h) (Or.inl ⟨ac,?_⟩) (by assumption) ?_;rotate_left
   ·(intro w hSw;(try dsimp only [wH,wI,wJ,wK] at hSw);go_simp;try (with_reducible rfl))
   try simp only [sqQ]
   refine wpAnyH_take (i:=4) (oi:=_) (v:= ?_) rfl ww ww ww (fun _ _ _ h=>h) (Or.inl ⟨ac,?_⟩) (by assumption) ?_;rotate_left
   ·(intro w hSw;(try dsimp only [wH,wI,wJ,wK] at hSw);go_simp;try (with_reducible rfl))
   try simp only [sqQ]
   refine wpAnyH_take (i:=7) (oi:=_) (v:= ?_) rfl ww ww ww (fun _ _ _ h=>h) (Or.inl ⟨ac,?_⟩) (by assumption) ?_;rotate_left
   ·(intro w hSw;(try dsimp only [wH,wI,wJ,wK] at hSw);go_simp;try (with_reducible rfl))
   try simp only [sqQ]
   refine wpAnyH_take (i:=8) (oi:=_) (v:= ?_) rfl ww ww ww (fun _ _ _ h=>h) (Or.inl ⟨ac,?_⟩) (by assumption) ?_;rotate_left
   ·(intro w hSw;(try dsimp only [wH,wI,wJ,wK] at hSw);go_simp;try (with_reducible rfl))
   try simp only [sqQ]
   refine wU 5 fun K hK=>?_;go_simp;refine kn hK ((hPn.alloc _).c0) (Below wn0.heap.size wn0) (fun W=>Arr W gp 85 [aD s,aD t,aB aC z]/\yb W w.heap.size A c acc/\Below w.heap.size w W/\Rd W 1 (aG ⟨wn0.heap.size,0,aF⟩) 1 (bys [bs])) (by first | exact(Below.refl _ _).alloc ag _ | exact Below.refl _ _) ⟨hPn.alloc _,hZn.below ((Below.refl _ _).alloc ag _),hbn.alloc hbn.size _,Rd.new1 _⟩ fun wn1 hHeld hst hnew=> ?_;have hB:=wm hB hst;clear hPn hZn hbn;obtain⟨hPn,hZn,hbn,h5⟩:=hnew;clear hst;clear hK K
   try simp only [sqQ]
   refine wU 6 fun K hK=>?_;refine KB rfl (.tmp 19) (.tmp 24) rfl ac hZn rfl (Src.sl underlying25 1 h5) wu hbn.size ?_;intro A6 c6 w6 hz6 hb6 hg6 ha6;refine kn hK ?_ (fun W=>Arr W gp 85 [aD s,aD t,aB aC z]/\yb W w.heap.size A6 c6 (acc++ [bs])/\A6≠aG ⟨gp,0,aF⟩) (Below w.heap.size w) ?_ ?_ (fun wn2 hHeld hF hG=> ?_)
   ·exact(hPn.beside hg6 hne hZn.addr).c0
   ·refine⟨hPn.beside hg6 hne hZn.addr,hz6,fun e=> ?_⟩;rcases ha6 gp e with h | h
    ·exact hne h
    ·have:=hPn.lt;omega
   ·exact hbn.trans (hb6.mono ag)
   clear hPn hZn hbn hne hB;obtain⟨hPn,hZn,hne⟩:=hF;have hbn:=hG;clear hG;clear hK K
   try simp only [sqQ]
   refine wU 9 fun K hK=>?_;refine KB rfl (.tmp 25) (.tmp 27) rfl ac hZn rfl (Src.str underlying9 s) (by rw [List.length_append];simp only [List.length_cons,List.length_nil];omega) hbn.size ?_;intro A9 c9 w9 hz9 hb9 hg9 ha9;refine kn hK ?_ (fun W=>Arr W gp 85 [aD s,aD t,aB aC z]/\yb W w.heap.size A9 c9 (acc++ [bs]++s.data.toList)/\A9≠aG ⟨gp,0,aF⟩) (Below w.heap.size w) ?_ ?_ (fun wn3 hHeld hF hG=> ?_)
   ·exact(hPn.beside hg9 hne hZn.addr).c0
   ·refine⟨hPn.beside hg9 hne hZn.addr,hz9,fun e=> ?_⟩;rcases ha9 gp e with h | h
    ·exact hne h
    ·have:=hPn.lt;omega
   ·exact hbn.trans (hb9.mono ag)
   clear hPn hZn hbn hne;obtain⟨hPn,hZn,hne⟩:=hF;have hbn:=hG;clear hG;generalize hacc2:acc++ [bs]++s.data.toList=acc2 at *
   have HA2:=sqH hacc2;clear hacc2;clear hK K
   try simp only [sqQ]
   refine wpAnyH_take (i:=10) (oi:=_) (v:= ?_) rfl ww ww ww (fun _ _ _ h=>h) (Or.inl ⟨ac,?_⟩) (by assumption) ?_;rotate_left
   ·(intro w hSw;(try dsimp only [wH,wI,wJ,wK] at hSw);go_simp;try (with_reducible rfl))
   try simp only [sqQ]
   refine wpAnyH_done ww ?_ _;clear hHeld;have hal2:acc2.length<=5000:=by
    have h:=congrArg List.length HA2.o;have h2:s.data.toList.length=s.size:=by rw [Array.length_toList];rfl
    simp only [List.length_append,List.length_cons,List.length_nil,h2]at h;omega
   have f1:=hPn.c1;go_wp2_with fail;refine(Jp t dg 32 wn3 wu wu HUX.o).mono ?_;rintro e_ w4 ⟨v4,rfl,ho4,hb4⟩;dsimp only;have hb14:=wm hbn hb4;have hP4:=hPn.below hb4;have hZ4:=hZn.below hb4;obtain⟨A4,c4,rfl,hc4,hr4⟩:=Rd.of_own' ho4;have hdl:dg.length<=5000:=by have:=HDL.o;omega
   clear ho4 hPn hZn hbn hb4 f1
   refine wL ?_;intros;refine QQ rfl (.tmp 29) (.tmp 32) rfl ac hZ4 rfl (Src.sl underlying25 c4 hr4) wu hb14.size ?_;intro A5 c5 w5 hz5 hb5 hg5 ha5;have hP5:=hP4.beside hg5 hne hZ4.addr;have hne5:A5≠aG ⟨gp,0,aF⟩:=fun e=>by
    rcases ha5 gp e with h | h
    ·exact hne h
    ·have:=hP4.lt;omega
   have hb15:=hb14.trans (hb5.mono ag);have hal3:(acc2++dg).length<=11000:=by rw [List.length_append];omega
   generalize hacc3:acc2++dg=acc3 at *
   have HA3:=sqH hacc3;have f2:=hP5.c2;clear hacc3 hZ4 hP4 hg5 ha5 hr4 hb5 hb14 hne;by_cases hbig:127<z
   ·have e1:decide ((127:Int)<(z:Int))=true:=decide_eq_true wu;obtain⟨b0,hb0⟩:=wY (UInt8.ofNat (z % 128+128))
    obtain⟨b1,hb1⟩:=wY (UInt8.ofNat (z / 128))
    have HNZ:=sqH (show num z= [b0,b1] from by rw [uu wu,qh (n:=z / 128) wu,hb0,hb1]);have q1:bits .or .u8 ((z:Int) % 128) 128=(b0.toNat:Int):=by
     rw [hb0];exact z3o z
    have q1':IntKind.u8.wrap ((z:Int) % 128)=(z:Int) % 128:=by rw [IntKind.wrap_u8];omega
    have q2:IntKind.u8.wrap ((z:Int) / 128)=(b1.toNat:Int):=by rw [hb1,IntKind.wrap_u8,UInt8.toNat_ofNat'];omega
    clear hb0 hb1 hbig
    refine wL ?_;intros;have hz5':yb (w5.alloc (aE #[aB .u8 (b0.toNat:Int),aB .u8 (b1.toNat:Int)] 5)) w.heap.size A5 c5 acc3:=hz5.below ((Below.refl _ _).alloc ag _);refine vl rfl (.tmp 37) (.tmp 47) rfl ac hz5' (k:= [b0,b1]) rfl (Src.sl underlying25 2 (Rd.newN (w:=w5) (e:=5) (size:=1) (m:=2) (bys [b0,b1]) rfl)) wu (Nat.le_trans hb15.size ab) ?_;intro A6 c6 w6 hz6 hb6;have hb16:=(hb15.alloc hb15.size (aE #[aB .u8 (b0.toNat:Int),aB .u8 (b1.toNat:Int)] 5)).trans (hb6.mono ag);have hacc4:acc3++ [b0,b1]= [65,77,49]++ [bn]++(x.take (k+1)).flatMap kR:=by
     rw [HSTEP.o,HNZ.o,<-HA3.o,<-HA2.o,HACC.o];simp only [List.append_assoc]
    rw [hacc4]at hz6 ⊢
    clear hacc4 hz5' hz5 hb15 hb6;generalize hX: [65,77,49]++ [bn]++(x.take (k+1)).flatMap kR=X4 at *
    go_wp2_with fail;go_roundg (n - (k+1))
    case measure=>exact wc HGK
    case rel=>exact⟨k+1,A6,c6,rfl,by go_num,wu,by rw [hX],by rw [hX];exact hz6,hb16⟩
   ·have e1:decide ((127:Int)<(z:Int))=false:=decide_eq_false wu;obtain⟨bz,hbz⟩:=wY (UInt8.ofNat z)
    have HNZ:=sqH (show num z= [bz] from by rw [qh wu,hbz]);have q2:IntKind.u8.wrap (z:Int)=(bz.toNat:Int):=by rw [hbz,IntKind.wrap_u8,UInt8.toNat_ofNat'];omega
    clear hbz hbig
    refine wL ?_;intros;have hz5':yb (w5.alloc (aE #[aB .u8 (bz.toNat:Int)] 5)) w.heap.size A5 c5 acc3:=hz5.below ((Below.refl _ _).alloc ag _);refine vl rfl (.tmp 49) (.tmp 53) rfl ac hz5' (k:= [bz]) rfl (Src.sl underlying25 1 (Rd.new1 _)) wu (Nat.le_trans hb15.size ab) ?_;intro A6 c6 w6 hz6 hb6;have hb16:=(hb15.alloc hb15.size (aE #[aB .u8 (bz.toNat:Int)] 5)).trans (hb6.mono ag);have hacc4:acc3++ [bz]= [65,77,49]++ [bn]++(x.take (k+1)).flatMap kR:=by
     rw [HSTEP.o,HNZ.o,<-HA3.o,<-HA2.o,HACC.o];simp only [List.append_assoc]
    rw [hacc4]at hz6 ⊢
    clear hacc4 hz5' hz5 hb15 hb6;generalize hX: [65,77,49]++ [bn]++(x.take (k+1)).flatMap kR=X4 at *
    go_wp2_with fail;go_roundg (n - (k+1))
    case measure=>exact wc HGK
    case rel=>exact⟨k+1,A6,c6,rfl,by go_num,wu,by rw [hX],by rw [hX];exact hz6,hb16⟩
  ·obtain rfl:k=n:=by omega
   have hcc:decide (k<k)=false:=ab;have hfin: [65,77,49]++ [bn]++(x.take k).flatMap kR=enc x:=by
    rw [HEN.o,List.take_of_length_le (wc HL)]
   rw [hfin]at hZ ⊢
   clear hfin;generalize hX:enc x=X4 at *
   go_wp2_with fail;go_ret;rw [hX];exact⟨A,c,rfl,hZ,hbel⟩
theorem z3e:El zZZ 39 9 1 16:=El.mk' (z:= aD ByteArray.empty) underlying39 ww rfl wu wu
def dcs (l:List PartP):ak:=l.map fun p=> aD ⟨p.dig.toArray⟩
theorem K9 (l:List PartP) (k:Nat) (h:k<l.length):dcs (l.take (k+1))=dcs (l.take k)++ [aD ⟨l[k].dig.toArray⟩]:=by
 rw [dcs,List.take_succ_eq_append_getElem h,List.map_append];rfl
theorem Zu:∀(n:Nat) (out:List PartP) (l:ai),(zT n out l).2.1.length<=out.length+n
 | 0,out,l=>Nat.le_refl _
 | n+1,out,l=>by
  rw [zT]
  split
  ·exact Nat.zero_le _
  ·have:=Zu n (out++ [(xM l).1]) (xM l).2.1
   rw [List.length_append]at this;simp only [List.length_cons,List.length_nil]at this;omega
theorem yO (b:ai):(qU b).1.length<=8:=by
 have h0:=Zu (zm (b.drop 3)).1 [] (zm (b.drop 3)).2.1;simp only [List.length_nil,Nat.zero_add]at h0;unfold qU;split
 ·exact Nat.zero_le _
 ·split
  ·exact Nat.zero_le _
  ·split
   ·exact Nat.zero_le _
   ·split
    ·exact Nat.zero_le _
    ·split
     ·exact Nat.zero_le _
     ·split
      ·exact Nat.zero_le _
      ·split
       ·exact Nat.zero_le _
       ·dsimp only;omega
theorem vS (s:ByteArray) (A:aj) (n c:Nat) (l:ai) (pn:Int) (mk:Bool) (w:World) (hl:l.length=n) (hc:n<=c) (hm:c<=maxLen) (hr:Rd w 1 A n (bys l)) :
  Calls zZZ 107 #[.agg #[aD s,aA A n c,aB aC pn,.bool mk]] w fun e w'=>∃v,e= .returned v/\w'.ownsRow w.heap.size 9 1 v (qU l).1.length (dcs (qU l).1)/\Below w.heap.size w w':=by
 have HD:=sqH (fun w' hr'=>Ze A n c l w' hl hc hm hr');have hx8:=yO l;generalize qU l=D at *
 obtain⟨x,er⟩:=D;dsimp only at HD hx8 ⊢
 obtain⟨w1,hw1⟩:=wY (w.alloc (aE #[aD s,aA A n c,aB aC pn,.bool mk] 55))
 have hb1:Below w.heap.size w w1:=by rw [hw1];exact(Below.refl _ _).alloc ag _
 have hr1:Rd w1 1 A n (bys l):=by rw [hw1];exact hr.alloc _
 have HW:=sqH hw1;clear hw1 hl hr;go_enter func107,ntmps107;go_wp2_with fail;rw [<-HW.o];refine(HD.o w1 hr1).mono ?_;rintro e_ w2 ⟨v2,rfl,ho2,hb2⟩;dsimp only;have hb12:=wm hb1 hb2;obtain⟨A2,c2,rfl,hc2,hr2⟩:=Rd.of_own' ho2;have HR2:=sqH hr2;clear ho2 hr1;go_wp2_with fail;go_loopg [5,16,7] x.length (fun gn v i u wr=>∃k:Nat,gn=x.length - k/\i= aB aC k/\k<=x.length/\wr.ownsRow w2.heap.size 9 1 v k (dcs (x.take k))/\Below w2.heap.size w2 wr/\Below w.heap.size w wr)
 case atStart=>exact⟨0,rfl,rfl,wu,World.ownsRow_nil _ _ _ _,Below.refl _ _,hb12⟩
 case round =>
  obtain⟨k,hgk,rfl,hk,ho,hbl,hbel⟩:=hrel;have HGK:=sqH hgk;clear hgk;by_cases hlt:k<x.length
  ·have hstep:=K9 x k hlt;have hat:=fun j (hj:j<3)=>yu x k j hlt hj;obtain⟨b,off,rfl,hbw',hcell⟩:=(HR2.o.below hbl).2 wu;have c0:=hcell (k*3+0) _ (hat 0 wu);have c1:=hcell (k*3+1) _ (hat 1 wu);have c2:=hcell (k*3+2) _ (hat 2 wu);rw [Nat.add_zero]at c0;rw [show off+(k*3+1)=off+k*3+1 by omega]at c1;rw [show off+(k*3+2)=off+k*3+2 by omega]at c2
   try dsimp only [yn,List.getElem?_cons_zero,List.getElem?_cons_succ]at c0 c1 c2
   generalize (⟨x[k].name.toArray⟩:ByteArray)=s' at *
   generalize (⟨x[k].dig.toArray⟩:ByteArray)=t' at *
   generalize (x[k].size:Int)=z' at *
   have HST:=sqH hstep;have hk0:=we k
   have hk1:(k:Int)<(x.length:Int):=wu;have hcc:decide (k<x.length)=true:=decide_eq_true hlt;clear hstep hat hcell
   refine wL ?_;intros;have hbl':=hbl.alloc hbl.size (aE #[aD s',aD t',aB aC z'] 85);have hbel':=hbel.alloc hbel.size (aE #[aD s',aD t',aB aC z'] 85);have ho':=ho.alloc (aE #[aD s',aD t',aB aC z'] 85);have hs1:(wr.alloc (aE #[aD s',aD t',aB aC z'] 85)).heap.size=wr.heap.size+1:=World.size_alloc _ _;generalize wr.alloc (aE #[aD s',aD t',aB aC z'] 85)=wb at *
   rw [<-hs1];clear hs1 ho hbl hbel c0 c1 c2;refine zj rfl (.tmp 20) (.tmp 23) rfl z3e ac ho' (us:= [aD t']) (m:=1) ac rfl (by intro u hu;simp at hu;subst hu;rfl) wu hbl'.size ?_;intro v5 w5 ho5 hg5 hv5;rw [<-HST.o]at ho5;have hbl5:=zh hbl' ho' ag hg5;have hbel5:=wm hb12 hbl5;go_wp2_with fail;go_roundg (x.length - (k+1))
   case measure=>exact wc HGK
   case rel=>exact⟨k+1,rfl,by go_num,wu,ho5,hbl5,hbel5⟩
  ·obtain rfl:k=x.length:=by omega
   have hcc:decide (x.length<x.length)=false:=ab;rw [List.take_length]at ho;go_wp2_with fail;go_ret;exact⟨_,rfl,zb ho hb12.size,hbel⟩
theorem uT (fs:List FlP) (As:List (aj×Nat)):∀u∈ke fs As,u.oneCell'=true:=by
 intro u hu;simp only [ke,List.mem_flatMap]at hu;obtain⟨x,_,hx⟩:=hu;simp only [qP,List.mem_cons,List.not_mem_nil,or_false]at hx;rcases hx with rfl | rfl | rfl<;>rfl
theorem YH (v:Value) (base:Nat) (fs:List FlP) (w:World) (hn:fs.length<=1000) (h0:0<fs.length) (hbs:base<=w.heap.size) (h:FlsO w base v fs) :
  Calls zZZ 144 #[v] w fun e w'=>∃v',e= .returned v'/\FlsO w' base v' fs/\Below w.heap.size w w':=by
 obtain⟨As,i1,i2,i3,i4⟩:=h;obtain⟨g,cap,cs,rfl,_,_,hcap,_,_,_⟩:=yt i2 h0;have hr:=Rd.of_own i2;obtain⟨I3,I4,I1⟩:=sqJ3 i3 i4 i1;have heq:=fun W=>Lib.run_eql_slice_nil (P:=zZZ) W 42 90 (aG ⟨g,0,aF⟩) fs.length cap 0 0 underlying42;clear i1 i2 i3 i4;go_enter func144,ntmps144
 refine wL ?_;intros;refine zG rfl (.tmp 5) (.tmp 6) rfl z4h ac (World.ownsRow_made (size:=3) w #[] 0 ag (by simp [maxLen]) rfl) ac (hr.alloc _) (uT fs As) wu ab ?_;intro v1 w1 hown1 hg1 _;have hb1:=zh ((Below.refl _ _).alloc ag _) (World.ownsRow_made (size:=3) w #[] 0 ag (by simp [maxLen]) rfl) ag hg1;rw [Nat.zero_add,List.nil_append]at hown1;go_wp2_with fail;go_ret;refine⟨_,rfl,⟨As,I1.o,zb hown1 hbs,(fun k p a hp ha=> ?_),I4.o⟩,hb1⟩;obtain⟨j1,_⟩:=I3.o k p a hp ha;exact⟨zc j1 hb1,fun g h h'=>by
  have:=(j1.lt g (by rw [qC];exact h)).2;have:=(hown1.lt g h').1;omega⟩
theorem Uk (A:aj) (c:Nat) (fs:List FlP) (k:ByteArray) (n:Int) (w:World) (hG:GoodF fs) (hf:Fls w A fs) (hc:fs.length<=c) (hm:c<=maxLen) (hk:hexC k.data.toList=0) (hks:k.size<=140737488351232) (hn1:1<=n) (hn2:n<=1000) (hfn:fnd 0 fs k.data.toList=aF) (h6:fs.length<6) :
  Calls zZZ 102 #[aA A fs.length c,aD k,aB aC n] w fun e w'=>∃v,e= .returned (.tuple #[v,.bool true,aB aC 0])/\FlsO w' w.heap.size v (fs++ [⟨k.data.toList,n, []⟩])/\Below w.heap.size w w':=by
 obtain⟨HCK,HHX,HWH⟩:=sqJ3 (fun w' hf'=>kb A c fs w' hG hf' hc hm) (fun w'=>kF (s:=k) 0 rfl hk w' hks) (fun w'=>jr n w');have hwd:decide (1<=n/\n<=1000)=true:=by simp [hn1,hn2]
 have HWD:=sqH hwd;have HCP:=sqH (fun w' hf'=>kw A c fs w' wu (fun p hp=>by
  obtain⟨j,hj,rfl⟩:=List.mem_iff_getElem.1 hp;have:=hG.few j hj;omega) hf' hc)
 have HFI:=sqH (fun w' hf'=>kP A c fs k w' wu hf');have HF:=sqH hfn;have e6:((fs.length:Int)==6)=false:=by rw [beq_eq_false_iff_ne];omega
 have e6':(fs.length==6)=false:=by rw [beq_eq_false_iff_ne];omega
 clear hG hk hwd hfn;go_enter func102,ntmps102
 refine wL ?_;intros;refine wZ (HCK.o w hf) fun w1 hb1=>?_;dsimp only;have hf1:=hf.below hb1
 refine wL ?_;intros;refine wZ (HHX.o w1) fun w2 hb2=>?_;dsimp only;have hb12:=wm hb1 hb2;have hf2:=hf1.below hb2
 refine wL ?_;intros;refine(HWH.o w2).mono ?_;rintro e_ _ ⟨rfl,rfl⟩;dsimp only;rw [HWD.o]
 refine wL ?_;intros;refine(HCP.o w2 hf2).mono ?_;rintro e_ w3 ⟨v3,rfl,ho3,hb3⟩;dsimp only;have hb13:=wm hb12 hb3;have hf3:=hf2.below hb3;have hfi:=HFI.o w3 hf3;rw [HF.o]at hfi;dsimp only at hfi;have HFF:=sqH hfi;clear hfi hf hf1 hf2
 refine wL ?_;intros;refine wZ HFF.o fun w4 hb4=>?_;dsimp only;have hb14:=wm hb13 hb4;have ho4:=ho3.below hb4;clear ho3 hf3
 refine wL ?_;intros;obtain⟨As,i1,i2,i3,i4⟩:=ho4;refine zj rfl (.tmp 46) (.tmp 50) rfl z4h ac i2 (us:= [aD k,aB aC n,aA aF 0 0]) (m:=1) ac rfl (by intro u hu;simp at hu;rcases hu with rfl | rfl | rfl<;>rfl) wu (Nat.le_trans hb3.size hb4.size) ?_;intro v5 w5 ho5 hg5 hv5;have hbel5:Below w.heap.size w w5:=hb14.grown hg5 hb14.size (fun k hk=>Nat.le_trans hb12.size (i2.lt k hk).1);have ho6:=FlsO.snoc (p:=⟨k.data.toList,n, []⟩) (B:=aF) (c:=0) i1 i3 i4 ho5 hg5 hv5 (World.ownsRow_nil _ _ _ _) (fun g h=>by cases h) (fun k' a _ g _ h=>by cases h);have ho6:=ho6.lower hb12.size;clear i1 i2 i3 i4 ho5 hg5 hv5;have hlen:(fs++ [(⟨k.data.toList,n, []⟩:FlP)]).length<=7:=by rw [List.length_append];simp only [List.length_cons,List.length_nil];omega
 have hpos:0<(fs++ [(⟨k.data.toList,n, []⟩:FlP)]).length:=by rw [List.length_append];simp
 generalize hgs:fs++ [(⟨k.data.toList,n, []⟩:FlP)]=gs at *
 have HGS:=sqH hgs;clear hgs
 refine wL ?_;intros;refine(YH _ _ gs w5 wu hpos hbel5.size ho6).mono ?_;rintro e_ w6 ⟨v6,rfl,ho8,hb6⟩;dsimp only;rw [<-HGS.o]at ho8
 refine wL ?_;intros;go_ret3;exact⟨v6,rfl,ho8,wm hbel5 hb6⟩
theorem YS (A:aj) (c:Nat) (fs:List FlP) (k:ByteArray) (n:Int) (w:World) (hG:GoodF fs) (hf:Fls w A fs) (hc:fs.length<=c) (hm:c<=maxLen) (hk:hexC k.data.toList=0) (hks:k.size<=140737488351232) (hn1:1<=n) (hn2:n<=1000) (hfn:fnd 0 fs k.data.toList=aF) (h6:fs.length=6) :
  Calls zZZ 102 #[aA A fs.length c,aD k,aB aC n] w fun e w'=>e= .returned (.tuple #[aA aF 0 0,.bool false,aB aC 7])/\Below w.heap.size w w':=by
 have e6:((fs.length:Int)==6)=true:=by rw [beq_iff_eq];omega
 have H6:=sqH h6;have h66:fs.length<=6:=wu;clear h6;obtain⟨HCK,HHX,HWH⟩:=sqJ3 (fun w' hf'=>kb A c fs w' hG hf' hc hm) (fun w'=>kF (s:=k) 0 rfl hk w' hks) (fun w'=>jr n w');have hwd:decide (1<=n/\n<=1000)=true:=by simp [hn1,hn2]
 have HWD:=sqH hwd;have HCP:=sqH (fun w' hf'=>kw A c fs w' wu (fun p hp=>by
  obtain⟨j,hj,rfl⟩:=List.mem_iff_getElem.1 hp;have:=hG.few j hj;omega) hf' hc)
 have HFI:=sqH (fun w' hf'=>kP A c fs k w' wu hf');have HF:=sqH hfn;clear hG hk hwd hfn;go_enter func102,ntmps102;go_wp2_with fail;refine wZ (HCK.o w hf) fun w1 hb1=>?_;dsimp only;have hf1:=hf.below hb1;go_wp2_with fail;refine wZ (HHX.o w1) fun w2 hb2=>?_;dsimp only;have hb12:=wm hb1 hb2;have hf2:=hf1.below hb2;go_wp2_with fail;refine(HWH.o w2).mono ?_;rintro e_ _ ⟨rfl,rfl⟩;dsimp only;rw [HWD.o];go_wp2_with fail;refine(HCP.o w2 hf2).mono ?_;rintro e_ w3 ⟨v3,rfl,ho3,hb3⟩;dsimp only;have hb13:=wm hb12 hb3;have hf3:=hf2.below hb3;have hfi:=HFI.o w3 hf3;rw [HF.o]at hfi;dsimp only at hfi;have HFF:=sqH hfi;clear hfi hf hf1 hf2;go_wp2_with fail;refine wZ HFF.o fun w4 hb4=>?_;dsimp only;have hb14:=wm hb13 hb4;go_wp2_with fail;go_ret3;exact⟨rfl,hb14⟩
theorem z0g (A:aj) (c:Nat) (fs:List FlP) (k:ByteArray) (n:Int) (i:Nat) (w:World) (hG:GoodF fs) (hf:Fls w A fs) (hc:fs.length<=c) (hm:c<=maxLen) (hk:hexC k.data.toList=0) (hks:k.size<=140737488351232) (hn1:1<=n) (hn2:n<=1000) (hfn:fnd 0 fs k.data.toList=aG i) (hi:i<fs.length) (hin:(fs[i].lead::fs[i].wait).contains n=true) :
  Calls zZZ 102 #[aA A fs.length c,aD k,aB aC n] w fun e w'=>e= .returned (.tuple #[aA aF 0 0,.bool false,aB aC 6])/\Below w.heap.size w w':=by
 have h66:fs.length<=6:=hG.len;have hfew:=hG.few i hi;have HIN:=sqH hin;have FF:=sqH hf;clear hin;obtain⟨HCK,HHX,HWH⟩:=sqJ3 (fun w' hf'=>kb A c fs w' hG hf' hc hm) (fun w'=>kF (s:=k) 0 rfl hk w' hks) (fun w'=>jr n w');have hwd:decide (1<=n/\n<=1000)=true:=by simp [hn1,hn2]
 have HWD:=sqH hwd;have HCP:=sqH (fun w' hf'=>kw A c fs w' wu (fun p hp=>by
  obtain⟨j,hj,rfl⟩:=List.mem_iff_getElem.1 hp;have:=hG.few j hj;omega) hf' hc)
 have HFI:=sqH (fun w' hf'=>kP A c fs k w' wu hf');have HF:=sqH hfn;clear hG hk hwd hfn;go_enter func102,ntmps102;go_wp2_with fail;refine wZ (HCK.o w hf) fun w1 hb1=>?_;dsimp only;have hf1:=hf.below hb1;go_wp2_with fail;refine wZ (HHX.o w1) fun w2 hb2=>?_;dsimp only;have hb12:=wm hb1 hb2;have hf2:=hf1.below hb2;go_wp2_with fail;refine(HWH.o w2).mono ?_;rintro e_ _ ⟨rfl,rfl⟩;dsimp only;rw [HWD.o];go_wp2_with fail;refine(HCP.o w2 hf2).mono ?_;rintro e_ w3 ⟨v3,rfl,ho3,hb3⟩;dsimp only;have hb13:=wm hb12 hb3;have hf3:=hf2.below hb3;have hfi:=HFI.o w3 hf3;rw [HF.o]at hfi;dsimp only at hfi;have HFF:=sqH hfi;clear hfi hf hf1 hf2;go_wp2_with fail;refine wZ HFF.o fun w4 hb4=>?_;dsimp only;have hb14:=wm hb13 hb4;obtain⟨b,off,B,cb,rfl,hbb,c0,c1,c2,hrw,hwc,hcbm⟩:=(FF.o.below hb14).at_ i hi;have i1:=we i
 have i2:(i:Int)<(fs.length:Int):=wu;obtain⟨s,hs⟩:=wY (⟨fs[i].key.toArray⟩:ByteArray)
 rw [<-hs]at c0;have HI2:=HIN.o;generalize fs[i].lead=ld at *
 generalize fs[i].wait=wt at *
 have HI3:=sqH HI2;clear HI2 HIN hs;go_wp2_with fail;refine(ud s ld B cb wt w4 wu hrw).mono ?_;rintro e_ w5 ⟨v5,rfl,ho5,hb5⟩;dsimp only;have hb15:=wm hb14 hb5;obtain⟨A5,c5,rfl,hc5,hr5⟩:=Rd.of_own' ho5;have hcon:=yc A5 c5 (ld::wt) n w5 (by simp only [List.length_cons];omega) hr5;rw [HI3.o]at hcon;simp only [List.length_cons]at hcon;have HCO:=sqH hcon;clear hcon ho5 hr5 c0 c1 c2;go_wp2_with fail;refine HCO.o.mono ?_;rintro e_ _ ⟨rfl,rfl⟩;dsimp only;go_wp2_with fail;go_ret3;exact⟨rfl,hb15⟩
theorem YT (A:aj) (c:Nat) (fs:List FlP) (k:ByteArray) (n:Int) (i:Nat) (w:World) (hG:GoodF fs) (hf:Fls w A fs) (hc:fs.length<=c) (hm:c<=maxLen) (hk:hexC k.data.toList=0) (hks:k.size<=140737488351232) (hn1:1<=n) (hn2:n<=1000) (hfn:fnd 0 fs k.data.toList=aG i) (hi:i<fs.length) (hin:(fs[i].lead::fs[i].wait).contains n=false) (h5:fs[i].wait.length=5) :
  Calls zZZ 102 #[aA A fs.length c,aD k,aB aC n] w fun e w'=>e= .returned (.tuple #[aA aF 0 0,.bool false,aB aC 7])/\Below w.heap.size w w':=by
 have h66:fs.length<=6:=hG.len;have hfew:=hG.few i hi;have H5:=sqH h5;clear h5;have HIN:=sqH hin;have FF:=sqH hf;clear hin;obtain⟨HCK,HHX,HWH⟩:=sqJ3 (fun w' hf'=>kb A c fs w' hG hf' hc hm) (fun w'=>kF (s:=k) 0 rfl hk w' hks) (fun w'=>jr n w');have hwd:decide (1<=n/\n<=1000)=true:=by simp [hn1,hn2]
 have HWD:=sqH hwd;have HCP:=sqH (fun w' hf'=>kw A c fs w' wu (fun p hp=>by
  obtain⟨j,hj,rfl⟩:=List.mem_iff_getElem.1 hp;have:=hG.few j hj;omega) hf' hc)
 have HFI:=sqH (fun w' hf'=>kP A c fs k w' wu hf');have HF:=sqH hfn;clear hG hk hwd hfn;go_enter func102,ntmps102;go_wp2_with fail;refine wZ (HCK.o w hf) fun w1 hb1=>?_;dsimp only;have hf1:=hf.below hb1;go_wp2_with fail;refine wZ (HHX.o w1) fun w2 hb2=>?_;dsimp only;have hb12:=wm hb1 hb2;have hf2:=hf1.below hb2;go_wp2_with fail;refine(HWH.o w2).mono ?_;rintro e_ _ ⟨rfl,rfl⟩;dsimp only;rw [HWD.o];go_wp2_with fail;refine(HCP.o w2 hf2).mono ?_;rintro e_ w3 ⟨v3,rfl,ho3,hb3⟩;dsimp only;have hb13:=wm hb12 hb3;have hf3:=hf2.below hb3;have hfi:=HFI.o w3 hf3;rw [HF.o]at hfi;dsimp only at hfi;have HFF:=sqH hfi;clear hfi hf hf1 hf2;go_wp2_with fail;refine wZ HFF.o fun w4 hb4=>?_;dsimp only;have hb14:=wm hb13 hb4;obtain⟨b,off,B,cb,rfl,hbb,c0,c1,c2,hrw,hwc,hcbm⟩:=(FF.o.below hb14).at_ i hi;have i1:=we i
 have i2:(i:Int)<(fs.length:Int):=wu;obtain⟨s,hs⟩:=wY (⟨fs[i].key.toArray⟩:ByteArray)
 rw [<-hs]at c0;have HI2:=HIN.o;generalize fs[i].lead=ld at *
 generalize fs[i].wait=wt at *
 have HI3:=sqH HI2;have H55:=H5.o;have e5:((wt.length:Int)==5)=true:=by rw [beq_iff_eq];omega
 have e5':(wt.length==5)=true:=by rw [beq_iff_eq];omega
 clear HI2 HIN hs H55;go_wp2_with fail;refine(ud s ld B cb wt w4 wu hrw).mono ?_;rintro e_ w5 ⟨v5,rfl,ho5,hb5⟩;dsimp only;have hb15:=wm hb14 hb5;obtain⟨A5,c5,rfl,hc5,hr5⟩:=Rd.of_own' ho5;have hcon:=yc A5 c5 (ld::wt) n w5 (by simp only [List.length_cons];omega) hr5;rw [HI3.o]at hcon;simp only [List.length_cons]at hcon;have HCO:=sqH hcon;have d2:=(hb5.cell (p:=⟨b,off+i*3+2,aF⟩) hbb).trans c2;clear hcon ho5 hr5 c0 c1 c2;go_wp2_with fail;refine HCO.o.mono ?_;rintro e_ _ ⟨rfl,rfl⟩;dsimp only;go_wp2_with fail;go_ret3;exact⟨rfl,hb15⟩
end Go.Proofs.YtcjmjaefcjcomaaGreat
