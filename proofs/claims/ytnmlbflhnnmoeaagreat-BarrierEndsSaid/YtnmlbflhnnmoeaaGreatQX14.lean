/- Lemmas of the proof. Conditions: as stated. -/
import Derived.Test.YtnmlbflhnnmoeaaGreatQX11
import Derived.Test.YtnmlbflhnnmoeaaGreatQX13
import Derived.ArgAppend
import Derived.Lib.SlBytesConst
set_option linter.unusedVariables false
set_option linter.unusedSimpArgs false
set_option maxRecDepth 100000
set_option maxHeartbeats 4000000
namespace Go.Proofs.YtnmlbflhnnmoeaaGreat
open Go.RowKit
def yv (p:PartP):List UInt8:=txt p.name++(kZ p.dig).1++num p.size
def enc (l:List PartP):List UInt8:= [65,77,49]++num l.length++l.flatMap yv
def z0c (W:World) (base:Nat) (v:Value) (X:List UInt8):Prop :=
 W.ownsRow base 5 1 v X.length (bys X)∨(∃g,v= .slice (some ⟨g,0,none⟩) X.length X.length∧Rd W 1 (some ⟨g,0,none⟩) X.length (bys X))
theorem z0c.below {W W':World} {base:Nat} {v:Value} {X:List UInt8} (h:z0c W base v X) (hb:Below W.heap.size W W'):z0c W' base v X :=
 h.imp (fun h=>z8 h hb) (fun ⟨g,e,h⟩=>⟨g,e,h.below hb⟩)
theorem z0c.lt {W:World} {base:Nat} {v:Value} {X:List UInt8} (h:z0c W base v X) (h0:0<X.length):∀k,v.ownBlock=some k→k<W.heap.size:=fun k hk=>by
 rcases h with h | ⟨g,rfl,hr⟩
 ·exact(h.lt k hk).2
 ·obtain⟨b,off,e,hb,_⟩:=hr.2 h0
  injection hk with hk;injection e with e;injection e with e1
  simp only at hk
  omega
theorem Vc:∀(l r:List UInt8),yA l=some r→l.length=2*r.length:=fun l r h=>by
 have:=vr l r h
 rw [←this,kv]
theorem vE {d:List UInt8} (h:hexC d=0):(kZ d).2=0∧(kZ d).1.length=32:=by
 unfold hexC at h;by_cases h64:d.length=64
 ·rw [if_neg (by omega)]at h;refine⟨h,?_⟩;unfold kZ at h ⊢
  rw [if_neg (by omega),if_neg (by omega)]at h ⊢
  cases hu:yA d with
  | none=>rw [hu]at h;cases h
  | some r=>have:=Vc d r hu;simp only [];omega
 ·rw [if_pos h64]at h;cases h
theorem ye {s:List UInt8} (h:qg s=0):1≤s.length∧s.length≤12:=by
 unfold qg at h;by_cases hb:s.length<1∨12<s.length
 ·rw [if_pos hb]at h;cases h
 ·omega
theorem uG:∀(l:List PartP) (q:Option (List UInt8)),kT q l=0→∀p∈l,qg p.name=0∧hexC p.dig=0∧p.size≤300
 | [],_,_,p,hp=>by cases hp
 | x::l,q,h,p,hp=>by
  rw [qP]at h
  by_cases h1:qg x.name=0
  ·rw [if_neg (fun e=>e h1)]at h
   have key:∀bb:Bool,(if bb=true then 6 else if hexC x.dig≠0 then hexC x.dig else if 300<x.size then 4 else kT (some x.name) l)=0→qg p.name=0∧hexC p.dig=0∧p.size≤300:=fun bb h=>by
    cases bb with
    | true=>rw [if_pos rfl]at h;exact absurd h (by decide)
    | false =>
     rw [if_neg (by decide)]at h
     by_cases h2:hexC x.dig=0
     ·rw [if_neg (fun e=>e h2)]at h
      by_cases h3:300<x.size
      ·rw [if_pos h3]at h;exact absurd h (by decide)
      ·rw [if_neg h3]at h
       rcases List.mem_cons.1 hp with rfl | hp
       ·exact⟨h1,h2,by omega⟩
       ·exact uG l _ h p hp
     ·rw [if_pos h2]at h;exact absurd h h2
   exact key _ h
  ·rw [if_pos h1]at h;exact absurd h h1
theorem zj {l:List PartP} (h:chk l=0):l.length≤8∧∀p∈l,qg p.name=0∧hexC p.dig=0∧p.size≤300:=by
 unfold chk at h;by_cases hb:8<l.length
 ·rw [if_pos hb]at h;cases h
 ·rw [if_neg hb]at h;exact⟨by omega,uG l none h⟩
theorem Vi {p:PartP} (h:qg p.name=0∧hexC p.dig=0∧p.size≤300):1≤(txt p.name).length∧(txt p.name).length≤14∧1≤(num p.size).length∧(num p.size).length≤2∧(yv p).length≤48:=by
 have h1:=ye h.1;have h2:=Jl p.name (by omega);have h3:=vE h.2.1;have h4:=YG p.size 1 (by omega);simp only [yv,List.length_append];omega
theorem vl (l:List PartP) (h:∀p∈l,qg p.name=0∧hexC p.dig=0∧p.size≤300):(l.flatMap yv).length≤48*l.length:=by
 induction l with
 | nil=>simp
 | cons x l ih =>
  have h1:=(Vi (h x (by simp))).2.2.2.2;have h2:=ih (fun p hp=>h p (by simp [hp]));simp only [List.flatMap_cons,List.length_append,List.length_cons];omega
theorem yg {q:Option (List UInt8)} {p:PartP} {r:List PartP} (h1:qg p.name=0) (h2:∀n,q=some n→leS p.name n=false) (h3:hexC p.dig=0) (h4:p.size≤300):kT q (p::r)=kT (some p.name) r:=by
 rw [qP,if_neg (fun e=>e h1)];cases q with
 | none=>simp only [];rw [if_neg (by decide),if_neg (fun e=>e h3),if_neg (by omega)]
 | some n=>simp only [h2 n rfl];rw [if_neg (by decide),if_neg (fun e=>e h3),if_neg (by omega)]
theorem Ys (l:List PartP) (h:l.length≤8):enc l= [65,77,49,UInt8.ofNat l.length]++l.flatMap yv:=by
 rw [enc,q9 (by omega)];simp
theorem xB (l:List PartP) (h:l.length≤8):(enc l).length=4+(l.flatMap yv).length:=by rw [Ys l h];simp;omega
structure Rdr (W:World) (g:Nat) (A:Option Addr) (c:Nat) (l:List UInt8) (e:Nat):Prop where
 arr:Arr W g 247 [.slice A l.length c,.int .i64 e]
 rd:Rd W 1 A l.length (bys l)
 cap:l.length≤c
 ne:∀b off,A=some ⟨b,off,none⟩→0<l.length→b≠g
 small:l.length≤2000
 cm:c≤maxLen
section
variable {W W':World} {g c e:Nat} {A:Option Addr} {l:List UInt8}
theorem yT {w w':World} (h:Below w.heap.size w w') (row:Option Nat):w.grownBy w' row:=⟨h.os,h.tape,h.output,h.size,fun k hk _=>h.block k hk⟩
theorem zv (w:World) (g k:Nat) (u:Value):w.grownBy (w.setCell ⟨g,k,none⟩ u) (some g) :=
 ⟨rfl,rfl,rfl,by simp [World.setCell],fun j _ hj=>Below.heap_setCell w _ u j (fun e=>hj (by rw [e]))⟩
theorem Rd.far {w w':World} {size n:Nat} {A:Option Addr} {xs:List Value} (h:Rd w size A n xs) (hg:w.grownBy w' (some g)) (hne:∀b off,A=some ⟨b,off,none⟩→0<n→b≠g):Rd w' size A n xs :=
 ⟨h.1,fun hn=>by
  obtain⟨b,off,e,hb,hc⟩:=h.2 hn
  have h1:=hne b off e hn
  exact⟨b,off,e,Nat.lt_of_lt_of_le hb hg.size,fun j u hu=>(World.cell?_of_block (hg.block b hb (by intro e';cases e';exact h1 rfl))).trans (hc j u hu)⟩⟩
theorem Rdr.below (h:Rdr W g A c l e) (hb:Below W.heap.size W W'):Rdr W' g A c l e:=⟨h.arr.below hb,h.rd.below hb,h.cap,h.ne,h.small,h.cm⟩
theorem Rdr.lt (h:Rdr W g A c l e):g<W.heap.size:=h.arr.lt
theorem Rdr.put (h:Rdr W g A c l e) {A':Option Addr} {c':Nat} {l':List UInt8} {W1:World} (hb:Below W.heap.size W W1) (ho:OwnB 5 W.heap.size W1 A' c' l') (hl:l'.length≤2000) (e':Nat) :
  Rdr ((W1.setCell ⟨g,0,none⟩ (.slice A' l'.length c')).setCell ⟨g,1,none⟩ (.int .i64 e')) g A' c' l' e'∧W.grownBy ((W1.setCell ⟨g,0,none⟩ (.slice A' l'.length c')).setCell ⟨g,1,none⟩ (.int .i64 e')) (some g):=by
 have ha:=((h.arr.below hb).set (k:=0) (by simp) (.slice A' l'.length c')).set (k:=1) (by simp) (.int .i64 e');have hg:=((yT hb (some g)).trans (zv W1 g 0 (.slice A' l'.length c'))).trans (zv _ g 1 (.int .i64 e'));have hne:∀b off,A'=some ⟨b,off,none⟩→0<l'.length→b≠g:=fun b off e _=>by
  have:=(ho.own.lt b (by rw [e];rfl)).1;have:=h.lt;omega
 refine⟨⟨ha,?_,ho.cap,hne,hl,?_⟩,hg⟩
 ·exact ho.rd.far ((zv W1 g 0 (.slice A' l'.length c')).trans (zv _ g 1 (.int .i64 e'))) hne
 ·rcases ho.own.2 with ⟨h1,_⟩ | ⟨_,cap,_,h1,_,_,_,h2,_⟩
  ·injection h1 with _ _ h3;subst h3;exact Nat.zero_le _
  ·injection h1 with _ _ h3;subst h3;exact h2
end
def jl (A A':Option Addr) (sz:Nat) (l':List UInt8):Prop:=∀b off,A'=some ⟨b,off,none⟩→0<l'.length→(∃off',A=some ⟨b,off',none⟩)∨sz≤b
theorem Qh:∀(l:List UInt8) (i n:Nat),(yW i n l).2.2≠0→(yW i n l).1=0
 | [],i,n,_=>rfl
 | x::r,i,n,h=>by
  simp only [yW]at h ⊢
  split at h
  ·rename_i h1
   rw [if_pos h1]
   split at h
   ·rename_i h2;rw [if_pos h2]
   ·exact absurd rfl h
  ·rename_i h1
   rw [if_neg h1]
   split at h
   ·rename_i h2;rw [if_pos h2]
   ·rename_i h2;rw [if_neg h2];exact Qh r _ _ h
theorem ka:∀(l:List UInt8) (i n:Nat),(yW i n l).2.1.length≤l.length
 | [],i,n=>Nat.le_refl _
 | x::r,i,n=>by
  simp only [yW]
  split
  ·split
   ·exact Nat.zero_le _
   ·simp only [List.length_cons];omega
  ·split
   ·exact Nat.zero_le _
   ·have:=ka r (i+1) (n+x.toNat % 128*128 ^ i);simp only [List.length_cons];omega
theorem xA:∀(l:List UInt8) (i n:Nat),(yW i n l).1≤4294967295
 | [],i,n=>by simp [yW]
 | x::r,i,n=>by
  simp only [yW]
  split
  ·split
   ·exact Nat.zero_le _
   ·dsimp only;omega
  ·split
   ·exact Nat.zero_le _
   ·exact xA r _ _
theorem uA (l:List UInt8):(xV l).2.1.length≤l.length:=by
 have h:=ka l 0 0;unfold xV zo;generalize yW 0 0 l=x at *
 obtain⟨n,r,e⟩:=x;dsimp only at h ⊢
 split
 ·exact Nat.zero_le _
 ·split
  ·exact Nat.zero_le _
  ·split
   ·exact Nat.zero_le _
   ·simp only [List.length_drop];omega
def uV (l:List UInt8) (e:Nat):Nat×List UInt8×Nat:=if e≠0 then (0,l,e) else zo l
def jz (l:List UInt8) (e:Nat):List UInt8×List UInt8×Nat:=if e≠0 then ([],l,e) else xV l
def vB (n:Nat) (l:List UInt8) (e:Nat):List UInt8×List UInt8×Nat:=if e≠0 then ([],l,e) else if l.length<n then ([],l,8) else (l.take n,l.drop n,0)
theorem Zh {g c e:Nat} {A:Option Addr} {l:List UInt8} {w:World} (h:Rdr w g A c l e) :
  Calls Tryz.prog 194 #[.pointer (some ⟨g,0,none⟩)] w fun x w'=>∃A' c',x= .returned (.int .i64 ((uV l e).1:Nat))∧Rdr w' g A' c' (uV l e).2.1 (uV l e).2.2∧w.grownBy w' (some g)∧jl A A' w.heap.size (uV l e).2.1:=by
 obtain⟨f0,f1⟩:=sqC2 h.arr;by_cases e0:e=0
 ·have hfin:uV l e=zo l:=by rw [uV,if_neg (by simpa using e0)]
  rw [hfin];obtain⟨m,r,er,hrd⟩:∃m r er,zo l=(m,r,er):=⟨_,_,_,rfl⟩
  have hrl:=ka l 0 0;have HR:=sqH (fun w' hr=>kz (A:=A) (n:=l.length) (c:=c) (w:=w') (er:Int) rfl hrd rfl h.cap (by have:=h.small;omega) hr);rw [show yW 0 0 l=(m,r,er) from hrd]at hrl;rw [hrd];have hsm:=h.small;dsimp only at hrl ⊢
  have e1:((e:Int)!=0)=false:=by rw [bne_eq_false_iff_eq];omega
  clear e0 hfin hrd;go_enter Tryz.func194,Tryz.ntmps194;go_wp2_with fail;refine(HR.out w h.rd).mono ?_;rintro e_ w1 ⟨A1,c1,rfl,ho1,hb1⟩;dsimp only;have hA1:=h.arr.below hb1;obtain⟨k0,k1⟩:=sqC2 hA1;obtain⟨z0,z1⟩:=sqF2 hA1;have hA2:=hA1.set (k:=0) (by simp) (.slice A1 r.length c1);have k2:=hA2.cell (k:=1) rfl;have z2:=hA2.frozen 1;have hp:=h.put hb1 ho1 (by omega) er;clear f0 f1;go_wp2_with fail;go_ret;exact⟨A1,c1,rfl,hp.1,hp.2,fun b off e _=> .inr (ho1.own.lt b (by rw [e];rfl)).1⟩
 ·have hfin:uV l e=(0,l,e):=by rw [uV,if_pos e0]
  rw [hfin];have e1:((e:Int)!=0)=true:=by rw [bne_iff_ne];omega
  clear e0 hfin;go_enter Tryz.func194,Tryz.ntmps194;go_wp2_with fail;go_ret;exact⟨A,c,rfl,h,World.grownBy.refl _ _,fun b off e _=> .inl ⟨off,e⟩⟩
theorem UV {g c e:Nat} {A:Option Addr} {l:List UInt8} {w:World} (h:Rdr w g A c l e) :
  Calls Tryz.prog 195 #[.pointer (some ⟨g,0,none⟩)] w fun x w'=>∃A' c',x= .returned (.string ⟨(jz l e).1.toArray⟩)∧Rdr w' g A' c' (jz l e).2.1 (jz l e).2.2∧w.grownBy w' (some g)∧jl A A' w.heap.size (jz l e).2.1:=by
 obtain⟨f0,f1⟩:=sqC2 h.arr;by_cases e0:e=0
 ·have hfin:jz l e=xV l:=by rw [jz,if_neg (by simpa using e0)]
  rw [hfin];obtain⟨m,r,er,hrd⟩:∃m r er,xV l=(m,r,er):=⟨_,_,_,rfl⟩
  have hrl:=uA l;have HR:=sqH (fun w' hr=>Zw (A:=A) (n:=l.length) (c:=c) (w:=w') (er:Int) rfl hrd rfl h.cap (by have:=h.small;omega) hr);rw [hrd]at hrl;rw [hrd];have hsm:=h.small;dsimp only at hrl ⊢
  have e1:((e:Int)!=0)=false:=by rw [bne_eq_false_iff_eq];omega
  clear e0 hfin hrd;go_enter Tryz.func195,Tryz.ntmps195;go_wp2_with fail;refine(HR.out w h.rd).mono ?_;rintro e_ w1 ⟨A1,c1,rfl,ho1,hb1⟩;dsimp only;have hA1:=h.arr.below hb1;obtain⟨k0,k1⟩:=sqC2 hA1;obtain⟨z0,z1⟩:=sqF2 hA1;have hA2:=hA1.set (k:=0) (by simp) (.slice A1 r.length c1);have k2:=hA2.cell (k:=1) rfl;have z2:=hA2.frozen 1;have hp:=h.put hb1 ho1 (by omega) er;clear f0 f1;go_wp2_with fail;go_ret;exact⟨A1,c1,rfl,hp.1,hp.2,fun b off e _=> .inr (ho1.own.lt b (by rw [e];rfl)).1⟩
 ·have hfin:jz l e=([],l,e):=by rw [jz,if_pos e0]
  rw [hfin];have e1:((e:Int)!=0)=true:=by rw [bne_iff_ne];omega
  clear e0 hfin;go_enter Tryz.func195,Tryz.ntmps195;go_wp2_with fail;go_ret;exact⟨A,c,rfl,h,World.grownBy.refl _ _,fun b off e _=> .inl ⟨off,e⟩⟩
theorem UE {g c e:Nat} {A:Option Addr} {l:List UInt8} {w:World} (n:Nat) (N:Int) (hN:(n:Int)=N) (hn:n≤2000) (h:Rdr w g A c l e) :
  Calls Tryz.prog 197 #[.pointer (some ⟨g,0,none⟩),.int .i64 N] w fun x w'=>∃A1 c1 A' c',x= .returned (.slice A1 (vB n l e).1.length c1)∧(vB n l e).1.length≤c1∧Rd w' 1 A1 (vB n l e).1.length (bys (vB n l e).1)∧Rdr w' g A' c' (vB n l e).2.1 (vB n l e).2.2∧w.grownBy w' (some g)∧jl A A' w.heap.size (vB n l e).2.1:=by
 subst hN;obtain⟨f0,f1⟩:=sqC2 h.arr;obtain⟨z0,z1⟩:=sqF2 h.arr;by_cases e0:e=0
 ·have e1:((e:Int)==0)=true:=by rw [beq_iff_eq];omega
  have e2:((e:Int)!=0)=false:=by rw [bne_eq_false_iff_eq];omega
  by_cases hlt:l.length<n
  ·have hfin:vB n l e=([],l,8):=by rw [vB,if_neg (by simpa using e0),if_pos hlt]
   rw [hfin];have e3:decide (l.length<n)=true:=by simpa using hlt
   have hA2:=h.arr.set (k:=1) (by simp) (.int .i64 8);obtain⟨k0,k1⟩:=sqC2 hA2;have hR:Rdr (w.setCell ⟨g,1,none⟩ (.int .i64 8)) g A c l 8:=⟨hA2,h.rd.far (zv w g 1 _) h.ne,h.cap,h.ne,h.small,h.cm⟩
   have hG:=zv w g 1 (.int .i64 8);have HR:=sqH hR;clear hfin e0 hlt hR;go_enter Tryz.func197,Tryz.ntmps197;go_wp2_with fail;go_ret;exact⟨none,0,A,c,rfl,Nat.zero_le _,Rd.nil_,HR.out,hG,fun b off e _=> .inl ⟨off,e⟩⟩
  ·have hfin:vB n l e=(l.take n,l.drop n,0):=by rw [vB,if_neg (by simpa using e0),if_neg hlt]
   rw [hfin];have e3:decide (l.length<n)=false:=by simpa using hlt
   have hle:(n:Int)≤(c:Int):=by have:=h.cap;omega
   have hle2:(n:Int)≤(l.length:Int):=by omega
   have hcm:(c:Int)≤9223372036854775807:=by have:=h.cm;unfold maxLen at this;omega
   have hll:(l.drop n).length=l.length - n:=List.length_drop;have htl:(l.take n).length=n:=by rw [List.length_take];omega
   have r1:=h.rd.pre (k:=n) (by omega);rw [Nat.mul_one,QA]at r1;have k0n:n≤l.length:=by omega
   have hcap:=h.cap;have hng:=h.ne;have r2:=h.rd.cut (k:=n) (cap:=c) k0n hcap;rw [Nat.mul_one,yR]at r2;obtain⟨A',hA'⟩:∃A',A'=(if c=n then A else A.map (·.add n)):=⟨_,rfl⟩
   rw [←hA']at r2;have hA2:=h.arr.set (k:=0) (by simp) (.slice A' (l.length - n) (c - n));have hG:=zv w g 0 (.slice A' (l.length - n) (c - n));have hmv:∀b off,A'=some ⟨b,off,none⟩→0<l.length - n→∃off',A=some ⟨b,off',none⟩:=fun b off e' h0=>by
    obtain⟨b2,o2,e2,_⟩:=h.rd.2 (show 0<l.length by omega);rw [e2]at hA';have:b=b2:=by
     rw [hA']at e';split at e'
     ·cases e';rfl
     ·simp only [Option.map_some,Option.some.injEq]at e';have:=congrArg Addr.block e';rw [VU]at this;exact this.symm
    rw [this];exact⟨o2,e2⟩
   have hne':∀b off,A'=some ⟨b,off,none⟩→0<l.length - n→b≠g:=fun b off e' h0=>by
    obtain⟨o2,e2⟩:=hmv b off e' h0;exact hng b o2 e2 (by omega)
   have HM:=sqH (show jl A A' w.heap.size (l.drop n) from fun b off e' h0=> .inl (hmv b off e' (by rw [hll]at h0;exact h0)));have hR:Rdr (w.setCell ⟨g,0,none⟩ (.slice A' (l.length - n) (c - n))) g A' (c - n) (l.drop n) 0:=by
    refine⟨?_,?_,by rw [hll];omega,by rw [hll];exact hne',by rw [hll];have:=h.small;omega,by have:=h.cm;omega⟩
    ·rw [hll];have he0:(e:Int)=((0:Nat):Int):=by omega
     rw [he0]at hA2;exact hA2
    ·rw [hll];exact r2.far hG hne'
   have r1':=r1.far hG (fun b off e' h0=>hng b off e' (by omega));have HR:=sqH hR;have HA:=sqH hA';rw [htl];have hlt':¬n≤c→False:=fun h=>h (by omega);have hnc:n≤c:=by omega
   clear hfin e0 hlt hR hA' hne' r2 r1 hll htl hA2;go_enter Tryz.func197,Tryz.ntmps197
   repeat' (fail_if_success (first|at_builtin|at_make));first|go_values|go_skip|go_guarded|go_step|go_upon|go_back
   rw [←HA.out];go_ret;exact⟨A,c,A',c - n,rfl,hnc,r1',HR.out,hG,HM.out⟩
 ·have hfin:vB n l e=([],l,e):=by rw [vB,if_pos e0]
  rw [hfin];have e1:((e:Int)==0)=false:=by rw [beq_eq_false_iff_ne];omega
  have e2:((e:Int)!=0)=true:=by rw [bne_iff_ne];omega
  clear e0 hfin;go_enter Tryz.func197,Tryz.ntmps197;go_wp2_with fail;go_ret;exact⟨none,0,A,c,rfl,Nat.zero_le _,Rd.nil_,h,World.grownBy.refl _ _,fun b off e _=> .inl ⟨off,e⟩⟩
theorem KD (t more:List UInt8) (h:t.length≤2000):xV (txt t++more)=(t,more,0):=by
 have h1:=vJ t.length (t++more) (by omega);rw [xV,txt,List.append_assoc,h1];simp only [ne_eq,not_true_eq_false,if_false];rw [if_neg (by omega),if_neg (by rw [List.length_append];omega)];simp
def yN (l:List UInt8):PartP×List UInt8×Nat :=
 let a:=jz l 0
 let b:=vB 32 a.2.1 a.2.2
 let c:=uV b.2.1 b.2.2
 (⟨a.1,kj b.1,c.1⟩,c.2.1,c.2.2)
def zD:Nat→List PartP→List UInt8→Nat×List PartP×List UInt8
 | 0,out,l=>(0,out,l)
 | k+1,out,l=>if (yN l).2.2≠0 then ((yN l).2.2, [], []) else zD k (out++ [(yN l).1]) (yN l).2.1
def qK (b:List UInt8):List PartP×Nat :=
 if 2000<b.length then ([],1) else if [65,77,49].isPrefixOf b=false then ([],3) else
 if (zo (b.drop 3)).2.2≠0 then ([],(zo (b.drop 3)).2.2) else if 8<(zo (b.drop 3)).1 then ([],1) else
 if (zD (zo (b.drop 3)).1 [] (zo (b.drop 3)).2.1).1≠0 then ([],(zD (zo (b.drop 3)).1 [] (zo (b.drop 3)).2.1).1) else
 if 0<(zD (zo (b.drop 3)).1 [] (zo (b.drop 3)).2.1).2.2.length then ([],3) else
 if chk (zD (zo (b.drop 3)).1 [] (zo (b.drop 3)).2.1).2.1≠0 then ([],chk (zD (zo (b.drop 3)).1 [] (zo (b.drop 3)).2.1).2.1) else
 ((zD (zo (b.drop 3)).1 [] (zo (b.drop 3)).2.1).2.1,0)
theorem J0 (A:Option Addr) (n c g:Nat) (l:List UInt8) (w:World) (hl:l.length=n) (hc:n≤c) (hr:Rd w 1 A n (bys l)) (h2:Rd w 1 (some ⟨g,0,none⟩) 3 (bys [65,77,49])) :
  Calls Tryz.prog 193 #[.slice A n c,.slice (some ⟨g,0,none⟩) 3 3] w fun e w'=>(∃A' c',e= .returned (.tuple #[.slice A' (if [65,77,49].isPrefixOf l then (l.drop 3).length else n) c',.bool ([65,77,49].isPrefixOf l)]) ∧
   ([65,77,49].isPrefixOf l=true→Rd w 1 A' (l.drop 3).length (bys (l.drop 3))∧(l.drop 3).length≤c'∧c'≤c∧jl A A' w.heap.size (l.drop 3)))∧w=w':=by
 rcases Nat.eq_zero_or_pos n with h0 | h0
 ·subst h0;obtain rfl:l= []:=List.eq_nil_of_length_eq_zero hl;refine(Tryz.bytes_CutPrefix_e1 A (some ⟨g,0,none⟩) c 3 3 (by omega) w).mono fun e w' h=>⟨⟨A,c,?_,fun h=>by simp at h⟩,h.2.symm⟩
  rw [h.1];rfl
 ·obtain⟨b,off,rfl,hb,hcell⟩:=hr.2 h0;obtain⟨b2,o2,e2,hb2,hcell2⟩:=h2.2 (by omega);cases e2
  refine(Tryz.bytes_CutPrefix b off n c g 0 3 3 (l.map fun x=>(x.toNat:Int)) [65,77,49] w (by simpa using hl) rfl hc (fun i hi=> ?_) (fun i hi=> ?_)).mono fun e w' h=>⟨?_,h.2.symm⟩
  ·refine hcell i _ ?_;have:i<l.length:=by omega
   simp [bys,this]
  ·refine hcell2 i _ ?_
   match i,hi with
   | 0,_=>rfl
   | 1,_=>rfl
   | 2,_=>rfl
  ·have hbo:Lib.bytesOf (l.map fun x=>(x.toNat:Int))=l:=by
    simp only [Lib.bytesOf,List.map_map]
    conv=>rhs;rw [←List.map_id l]
    exact List.map_congr_left fun a _=>by simp
   have hb3:Lib.bytesOf [65,77,49]= [65,77,49]:=rfl;obtain⟨h1,_⟩:=h;rw [Lib.bytesTrimPrefix,hbo,hb3,Lib.hasPrefix]at h1;by_cases hp: [65,77,49].isPrefixOf l=true
   ·rw [hp,if_pos rfl,Lib.sliceFrom]at h1;have h3:3≤l.length:=by
     have:=List.IsPrefix.length_le (List.isPrefixOf_iff_prefix.1 hp);simpa using this
    have hr':=hr.cutAt (k:=3) (c:=c) (by omega) hc;rw [yR]at hr';have hdl:(l.drop 3).length=n - 3:=by rw [List.length_drop,hl]
    refine⟨_,c - 3,?_,fun _=>⟨by rw [hdl];exact hr',by omega,by omega,?_⟩⟩
    ·rw [h1,hp,if_pos rfl,hdl];rfl
    ·intro b' o' e' _;split at e'
     ·cases e';exact .inl ⟨_,rfl⟩
     ·cases e';exact .inl ⟨_,rfl⟩
   ·have hp: [65,77,49].isPrefixOf l=false:=Bool.eq_false_iff.2 hp;rw [hp,if_neg (by decide)]at h1;refine⟨some ⟨b,off,none⟩,c,?_,fun h=>by rw [hp]at h;cases h⟩;rw [h1,hp];rfl
theorem Yt (l:List UInt8) (e:Nat):(jz l e).2.1.length≤l.length:=by
 unfold jz;split
 ·exact Nat.le_refl _
 ·exact uA l
theorem XP (n:Nat) (l:List UInt8) (e:Nat):(vB n l e).2.1.length≤l.length∧(vB n l e).1.length≤l.length:=by
 unfold vB;split
 ·exact⟨Nat.le_refl _,Nat.zero_le _⟩
 ·split
  ·exact⟨Nat.le_refl _,Nat.zero_le _⟩
  ·simp only [List.length_drop,List.length_take];omega
theorem Ym (l:List UInt8) (e:Nat):(uV l e).2.1.length≤l.length∧(uV l e).1≤4294967295:=by
 unfold uV;split
 ·exact⟨Nat.le_refl _,Nat.zero_le _⟩
 ·exact⟨ka l 0 0,xA l 0 0⟩
theorem YI (l:List UInt8) (e:Nat):(jz l e).1.length≤l.length:=by
 unfold jz;split
 ·exact Nat.zero_le _
 ·have h:=ka l 0 0;unfold xV zo;generalize yW 0 0 l=x at *
  obtain⟨n,r,e⟩:=x;dsimp only at h ⊢
  split
  ·exact Nat.zero_le _
  ·split
   ·exact Nat.zero_le _
   ·split
    ·exact Nat.zero_le _
    ·simp only [List.length_take];omega
def Far (v:Value) (A:Option Addr) (l:List UInt8):Prop:=∀b off,A=some ⟨b,off,none⟩→0<l.length→v.ownBlock≠some b
theorem Far.moved {v:Value} {A A':Option Addr} {l l':List UInt8} {sz:Nat} (h:Far v A l) (hm:jl A A' sz l') (hl:l'.length≤l.length) (hv:∀k,v.ownBlock=some k→k<sz):Far v A' l':=fun b off e h0=>by
 rcases hm b off e h0 with ⟨o,ho⟩ | hb
 ·exact h b o ho (by omega)
 ·intro hk;have:=hv b hk;omega
theorem ZT {w w':World} {g n:Nat} {v:Value} {e:TypeId} {size:Nat} {xs:List Value} (h:w.ownsRow (g+1) e size v n xs) (hg:w.grownBy w' (some g)):w'.ownsRow (g+1) e size v n xs :=
 h.kept hg (.inr fun he=>by have:=(h.lt g he).1;omega)
theorem Rdr.grown {W W':World} {g c e:Nat} {A:Option Addr} {l:List UInt8} {v:Value} (h:Rdr W g A c l e) (hg:W.grownBy W' v.ownBlock) (hv:v.ownBlock≠some g) (hf:Far v A l):Rdr W' g A c l e:=by
 refine⟨?_,⟨h.rd.1,fun hn=> ?_⟩,h.cap,h.ne,h.small,h.cm⟩
 ·exact(hg.block g h.lt (fun e=>hv e.symm)).trans h.arr
 ·obtain⟨b,off,e,hb,hc⟩:=h.rd.2 hn;have h1:=hf b off e hn;exact⟨b,off,e,Nat.lt_of_lt_of_le hb hg.size,fun j u hu=>(World.cell?_of_block (hg.block b hb (fun e=>h1 e.symm))).trans (hc j u hu)⟩
theorem xg {B g:Nat} {a w w':World} (h:Below B a w) (hg:w.grownBy w' (some g)) (hB:B≤g) (hs:B≤w.heap.size):Below B a w':=h.grown hg hs (fun k hk=>by cases hk;exact hB)
theorem Xu (A:Option Addr) (n c:Nat) (l:List UInt8) (w:World) (hl:l.length=n) (hc:n≤c) (hm:c≤maxLen) (hr:Rd w 1 A n (bys l)) :
  Calls Tryz.prog 130 #[.slice A n c] w fun e w'=>∃v,e= .returned (.tuple #[v,.int .i64 ((qK l).2:Nat)])∧w'.ownsRow w.heap.size 65 3 v (qK l).1.length (pcs (qK l).1)∧Below w.heap.size w w':=by
 have HL:=sqH hl;by_cases hbig:2000<n
 ·have hfin:qK l=([],1):=by rw [qK,if_pos (by omega)]
  have hcm:n≤9223372036854775807:=by unfold maxLen at hm;omega
  rw [hfin];clear hfin hl;go_enter Tryz.func130,Tryz.ntmps130;go_wp2_with fail;go_ret2;exact⟨_,rfl,World.ownsRow_nil _ _ _ _,Below.refl _ _⟩
 have hfin1:qK l=if [65,77,49].isPrefixOf l=false then ([],3) else
   if (zo (l.drop 3)).2.2≠0 then ([],(zo (l.drop 3)).2.2) else if 8<(zo (l.drop 3)).1 then ([],1) else
   if (zD (zo (l.drop 3)).1 [] (zo (l.drop 3)).2.1).1≠0 then ([],(zD (zo (l.drop 3)).1 [] (zo (l.drop 3)).2.1).1) else
   if 0<(zD (zo (l.drop 3)).1 [] (zo (l.drop 3)).2.1).2.2.length then ([],3) else
   if chk (zD (zo (l.drop 3)).1 [] (zo (l.drop 3)).2.1).2.1≠0 then ([],chk (zD (zo (l.drop 3)).1 [] (zo (l.drop 3)).2.1).2.1) else
   ((zD (zo (l.drop 3)).1 [] (zo (l.drop 3)).2.1).2.1,0):=by rw [qK,if_neg (by omega)]
 generalize qK l=res at *
 have hb0:=(Below.refl w.heap.size w).alloc (Nat.le_refl _) (.cells #[.int .u8 65,.int .u8 77,.int .u8 49] 5 (3,4));have hr0:=hr.alloc (.cells #[.int .u8 65,.int .u8 77,.int .u8 49] 5 (3,4));have hq0:Rd (w.alloc (.cells #[.int .u8 65,.int .u8 77,.int .u8 49] 5 (3,4))) 1 (some ⟨w.heap.size,0,none⟩) 3 (bys [65,77,49]):=by
  refine⟨rfl,fun _=>⟨_,0,rfl,by simp,fun j u hu=> ?_⟩⟩;rw [←hu,Nat.zero_add];have h1:(w.alloc (.cells #[.int .u8 65,.int .u8 77,.int .u8 49] 5 (3,4))).heap[w.heap.size]?=some (.cells #[.int .u8 65,.int .u8 77,.int .u8 49] 5 (3,4)):=World.alloc_heap_new w _;simp only [World.cell?,h1,Option.isSome_none,Bool.false_eq_true,if_false];simp [bys]
 have hkc:=fun (w:World) (C:Array Value) (n c:Nat)=>Lib.run_convert_bytes_const (P:=Tryz.prog) w 61 5 C n c Tryz.underlying61 Tryz.underlying5;have HCP:=sqH (J0 A n c w.heap.size l _ hl hc hr0 hq0);have HF1:=sqH hfin1;clear hfin1 hl hq0 hr0;generalize hpre: [65,77,49].isPrefixOf l=pre at HCP HF1;go_enter Tryz.func130,Tryz.ntmps130;go_wp2_with fail;refine HCP.out.mono ?_;rintro e_ w1 ⟨⟨A1,c1,rfl,hcut⟩,rfl⟩;dsimp only;cases pre with
 | false =>
  have hres:res=([],3):=by rw [HF1.out,if_pos rfl]
  have HR:=sqH hres;clear hres hpre;go_wp2_with fail;go_ret2;rw [HR.out];exact⟨_,rfl,World.ownsRow_nil _ _ _ _,hb0⟩
 | true =>
  obtain⟨hr1,hc1,hc1c,hm1⟩:=hcut rfl;have hdl:(l.drop 3).length≤2000:=by rw [List.length_drop,HL.out];omega
  simp only [if_true];have HF2:=sqH (show res=if (zo (l.drop 3)).2.2≠0 then ([],(zo (l.drop 3)).2.2) else if 8<(zo (l.drop 3)).1 then ([],1) else
   if (zD (zo (l.drop 3)).1 [] (zo (l.drop 3)).2.1).1≠0 then ([],(zD (zo (l.drop 3)).1 [] (zo (l.drop 3)).2.1).1) else
   if 0<(zD (zo (l.drop 3)).1 [] (zo (l.drop 3)).2.1).2.2.length then ([],3) else
   if chk (zD (zo (l.drop 3)).1 [] (zo (l.drop 3)).2.1).2.1≠0 then ([],chk (zD (zo (l.drop 3)).1 [] (zo (l.drop 3)).2.1).2.1) else
   ((zD (zo (l.drop 3)).1 [] (zo (l.drop 3)).2.1).2.1,0) from by rw [HF1.out,if_neg (by decide)])
  have HPRE:=sqH hpre;clear HF1 HCP hcut hpre;generalize l.drop 3=L at *
  generalize w.alloc (.cells #[.int .u8 65,.int .u8 77,.int .u8 49] 5 (3,4))=w1 at *
  obtain⟨g,hg⟩:∃g,g=w1.heap.size:=⟨_,rfl⟩
  obtain⟨w2,hw2⟩:∃w2,w2=w1.alloc (.cells #[.slice A1 L.length c1,.int .i64 0] 247):=⟨_,rfl⟩
  have hR2:Rdr w2 g A1 c1 L 0:=by
   rw [hw2,hg];exact⟨Arr.new w1 _ _,hr1.alloc _,hc1,fun b off e h0=>by
    obtain⟨_,_,e2,hb2,_⟩:=hr1.2 h0;rw [e]at e2;cases e2;omega,hdl,by omega⟩
  have hb2:Below w.heap.size w w2:=by rw [hw2];exact hb0.alloc hb0.size _
  have hgw:w.heap.size≤g:=by rw [hg];exact hb0.size
  have hg2:g<w2.heap.size:=hR2.lt;have HW2:=sqH hw2;have HG:=sqH hg;obtain⟨m,r,er,hrd⟩:∃m r er,zo L=(m,r,er):=⟨_,_,_,rfl⟩
  have hmz:=Qh L 0 0;have hml:=ka L 0 0;have hmb:=xA L 0 0;rw [show yW 0 0 L=(m,r,er) from hrd]at hmz hml hmb;rw [hrd]at HF2;have HN:=Zh hR2;rw [uV,if_neg (by decide),hrd]at HN;dsimp only at HF2 HN hmz hml hmb;have HN':=sqH HN;clear hw2 hg hr1 hm1 hb0 hr HN hrd;go_wp2_with fail;rw [←HG.out,←HW2.out];refine(HN'.out).mono ?_;rintro e_ w3 ⟨A3,c3,rfl,hR3,hG3,hM3⟩;dsimp only;have hb3:=xg hb2 hG3 hgw hb2.size;have f1:=hR3.arr.cell (k:=1) rfl;by_cases her:er=0
  ·subst her;have HF3:=sqH (show res=if 8<m then ([],1) else if (zD m [] r).1≠0 then ([],(zD m [] r).1) else if 0<(zD m [] r).2.2.length then ([],3) else
    if chk (zD m [] r).2.1≠0 then ([],chk (zD m [] r).2.1) else ((zD m [] r).2.1,0) from by rw [HF2.out,if_neg (by decide)])
   clear HF2;rw [show((0:Nat):Int)=0 from rfl]at f1;by_cases h8:8<m
   ·have hres:res=([],1):=by rw [HF3.out,if_pos h8]
    have HR:=sqH hres;have e1:decide ((8:Int)<(m:Int))=true:=by simp;omega
    clear hres hmz;go_wp2_with fail;go_ret2;rw [HR.out];exact⟨_,rfl,World.ownsRow_nil _ _ _ _,hb3⟩
   ·have e1:decide ((8:Int)<(m:Int))=false:=by simp;omega
    have HF4:=sqH (show res=if (zD m [] r).1≠0 then ([],(zD m [] r).1) else if 0<(zD m [] r).2.2.length then ([],3) else
     if chk (zD m [] r).2.1≠0 then ([],chk (zD m [] r).2.1) else ((zD m [] r).2.1,0) from by rw [HF3.out,if_neg h8])
    have HM8:=sqH (show m≤8 by omega);clear HF3 h8 hmz;go_wp2_with fail;go_loopg [8,37] m (fun gn v i wr=>∃(k:Nat) (out:List PartP) (A:Option Addr) (c:Nat) (l':List UInt8),gn=m - k∧i= .int .i64 k∧k≤m∧out.length=k∧Zx out∧Rdr wr g A c l' 0∧wr.ownsRow (g+1) 65 3 v k (pcs out)∧Far v A l'∧zD m [] r=zD (m - k) out l'∧Below w.heap.size w wr)
    case atStart=>exact⟨0, [],A3,c3,r,rfl,rfl,by omega,rfl,(fun p hp=>by cases hp),hR3,World.ownsRow_nil _ _ _ _,(fun b off _ _ h=>by cases h),rfl,hb3⟩
    case round =>
     clear hb3 hR3 hM3 hG3 f1;obtain⟨k,out,A,c,l',hgk,rfl,hk,hol,hpo,hR,ho,hfar,hch,hbel⟩:=hrel;have HGK:=sqH hgk;have HOL:=sqH hol;have HPO:=sqH hpo;have HCH:=sqH hch;have hm8:=HM8.out;have hgs:=hR.lt;clear hgk hol hpo hch;by_cases hlt:k<m
     ·have hi:decide ((k:Int)<(m:Int))=true:=by simpa using hlt
      have hi':decide (k<m)=true:=by simpa using hlt
      obtain⟨t,l1,e1,h1⟩:∃t l1 e1,jz l' 0=(t,l1,e1):=⟨_,_,_,rfl⟩
      obtain⟨d,l2,e2,h2⟩:∃d l2 e2,vB 32 l1 e1=(d,l2,e2):=⟨_,_,_,rfl⟩
      obtain⟨z,l3,e3,h3⟩:∃z l3 e3,uV l2 e2=(z,l3,e3):=⟨_,_,_,rfl⟩
      have hs:yN l'=(⟨t,kj d,z⟩,l3,e3):=by unfold yN;rw [h1];dsimp only;rw [h2];dsimp only;rw [h3]
      have n1:=Yt l' 0;have n1':=YI l' 0;have n2:=XP 32 l1 e1;have n3:=Ym l2 e2;rw [h1]at n1 n1';rw [h2]at n2;rw [h3]at n3;have HT1:=sqH (fun (w:World) (A:Option Addr) (c:Nat) (h:Rdr w g A c l' 0)=>(by have:=UV h;rw [h1]at this;exact this:Calls Tryz.prog 195 #[.pointer (some ⟨g,0,none⟩)] w fun x w'=>∃A' c',x= .returned (.string ⟨t.toArray⟩)∧Rdr w' g A' c' l1 e1∧w.grownBy w' (some g)∧jl A A' w.heap.size l1));have HT2:=sqH (fun (w:World) (A:Option Addr) (c:Nat) (h:Rdr w g A c l1 e1)=>(by have:=UE 32 32 rfl (by omega) h;rw [h2]at this;exact this:Calls Tryz.prog 197 #[.pointer (some ⟨g,0,none⟩),.int .i64 32] w fun x w'=>∃A1 c1 A' c',x= .returned (.slice A1 d.length c1)∧d.length≤c1∧Rd w' 1 A1 d.length (bys d)∧Rdr w' g A' c' l2 e2∧w.grownBy w' (some g)∧jl A A' w.heap.size l2));have HT3:=sqH (fun (w:World) (A:Option Addr) (c:Nat) (h:Rdr w g A c l2 e2)=>(by have:=Zh h;rw [h3]at this;exact this:Calls Tryz.prog 194 #[.pointer (some ⟨g,0,none⟩)] w fun x w'=>∃A' c',x= .returned (.int .i64 (z:Nat))∧Rdr w' g A' c' l3 e3∧w.grownBy w' (some g)∧jl A A' w.heap.size l3));have hsm:=hR.small;have hstep:zD m [] r=if e3≠0 then (e3, [], []) else zD (m - (k+1)) (out++ [⟨t,kj d,z⟩]) l3:=by
       rw [HCH.out,show m - k=(m - (k+1))+1 by omega,zD,hs]
      have HST:=sqH hstep;have hpn:(⟨t,kj d,z⟩:PartP).name.length≤140737488351232∧(⟨t,kj d,z⟩:PartP).dig.length≤140737488351232∧((⟨t,kj d,z⟩:PartP).size:Int)≤9223372036854775807:=by
       refine⟨?_,?_,?_⟩
       ·show t.length≤_;dsimp only at n1';omega
       ·show(kj d).length≤_;rw [kv];dsimp only at n2 n1;omega
       ·show(z:Int)≤_;dsimp only at n3;omega
      have HPN:=sqH hpn;dsimp only at n1 n1' n2 n3;clear hs h1 h2 h3 hstep hpn HCH;have hvl:=fun k hk=>(ho.lt k hk).2;go_wp2_with fail;refine(HT1.out _ _ _ hR).mono ?_;rintro e_ w4 ⟨A4,c4,rfl,hR4,hG4,hM4⟩;dsimp only;have hb4:=xg hbel hG4 hgw hbel.size;have ho4:=ZT ho hG4;have hf4:=hfar.moved hM4 n1 hvl;go_wp2_with fail;refine(HT2.out _ _ _ hR4).mono ?_;rintro e_ w5 ⟨Ad,cd,A5,c5,rfl,hcd,hrd,hR5,hG5,hM5⟩;dsimp only;have hb5:=xg hb4 hG5 hgw hb4.size;have ho5:=ZT ho4 hG5;have hf5:=hf4.moved hM5 n2.1 (fun k hk=>(ho4.lt k hk).2);go_wp2_with fail;refine(Ky Ad d.length cd d w5 rfl (by omega) hcd hrd).mono ?_;rintro e_ w6 ⟨rfl,hb6⟩;dsimp only;have hR6:=hR5.below hb6;have hb56:=hb5.trans (hb6.mono hb5.size);have ho6:=z8 ho5 hb6;go_wp2_with fail;refine(HT3.out _ _ _ hR6).mono ?_;rintro e_ w7 ⟨A7,c7,rfl,hR7,hG7,hM7⟩;dsimp only;have hb7:=xg hb56 hG7 hgw hb56.size;have ho7:=ZT ho6 hG7;have hf7:=hf5.moved hM7 n3.1 (fun k hk=>Nat.lt_of_lt_of_le (ho5.lt k hk).2 hb6.size)
      repeat' (fail_if_success (first|at_builtin|at_make));first|go_values|go_skip|go_guarded|go_step|go_upon|go_back
      refine zn rfl (.tmp 39) (.tmp 48) rfl YJ (by rfl) ho7 (us:=pcs [⟨t,kj d,z⟩]) (m:=1) (by rfl) rfl (by intro u hu;exact Zn _ u hu) (by omega) (by have:=hR7.lt;omega) ?_;intro v8 w8 ho8 hg8 hv8;have hR8:=hR7.grown hg8 (fun h=>by have:=(ho7.lt g h).1;omega) hf7;have hb8:Below w.heap.size w w8:=hb7.grown hg8 hb7.size (fun k hk=>by have:=(ho7.lt k hk).1;omega);have hf8:Far v8 A7 l3:=fun b off e h0=>by
       rcases hv8 with h | ⟨g8,h,hge⟩
       ·rw [h];exact hf7 b off e h0
       ·rw [h];obtain⟨_,_,e2,hb2,_⟩:=hR7.rd.2 h0;rw [e]at e2;cases e2
        intro h;cases h;omega
      rw [←KC]at ho8;have f2:=hR8.arr.cell (k:=1) rfl;clear hf7 ho7 hb7 hR7 ho6 hb56 hR6 hf5 ho5 hb5 hR5 hf4 ho4 hb4 hR4 hrd hM4 hM5 hM7 hG4 hG5 hG7 hvl hfar ho hR hbel hg8 hv8;by_cases h30:e3=0
      ·subst h30;rw [show((0:Nat):Int)=0 from rfl]at f2;have HSTT:=sqH (show zD m [] r=zD (m - (k+1)) (out++ [⟨t,kj d,z⟩]) l3 from by rw [HST.out,if_neg (by decide)]);go_wp2_with fail;go_roundg (m - (k+1))
       case measure=>have:=HGK.out;omega
       case rel =>
        refine⟨k+1,out++ [⟨t,kj d,z⟩],A7,c7,l3,rfl,by go_num,by omega,by rw [List.length_append,HOL.out];rfl,?_,hR8,ho8,hf8,HSTT.out,hb8⟩;intro p hp;rcases List.mem_append.1 hp with h | h
        ·exact HPO.out p h
        ·simp only [List.mem_cons,List.not_mem_nil,or_false]at h;subst h;exact HPN.out
      ·have e9:((e3:Int)!=0)=true:=by rw [bne_iff_ne];omega
       have hres:res=([],e3):=by rw [HF4.out,HST.out,if_pos h30];exact if_pos h30
       have HR:=sqH hres;clear hres h30;go_wp2_with fail;go_quiet (fail);have f3:(w8.drewN nq).cell? ⟨g,1,none⟩=some (.int .i64 e3):=f2;go_wp2_with fail;go_ret2;rw [HR.out];exact⟨_,rfl,World.ownsRow_nil _ _ _ _,zG hb8 _⟩
     ·obtain rfl:k=m:=by omega
      have hi:decide ((k:Int)<(k:Int))=false:=by simp
      have hd:zD k [] r=(0,out,l'):=by rw [HCH.out,Nat.sub_self,zD]
      have HF5:=sqH (show res=if 0<l'.length then ([],3) else if chk out≠0 then ([],chk out) else (out,0) from by rw [HF4.out,hd,if_neg (by simp)]);have f1:=hR.arr.cell (k:=1) rfl;have f0:=hR.arr.cell (k:=0) rfl;rw [show((0:Nat):Int)=0 from rfl]at f1;have hgb:w.heap.size≤g+1:=by omega
      clear hd HF4 HCH hfar;by_cases hr0:0<l'.length
      ·have hres:res=([],3):=by rw [HF5.out,if_pos hr0]
       have HR:=sqH hres;have e5:decide ((0:Int)<(l'.length:Int))=true:=decide_eq_true (by omega);have e5':decide (0<l'.length)=true:=decide_eq_true hr0;clear hres;go_wp2_with fail;go_ret2;rw [HR.out];exact⟨_,rfl,World.ownsRow_nil _ _ _ _,hbel⟩
      ·have HF6:=sqH (show res=if chk out≠0 then ([],chk out) else (out,0) from by rw [HF5.out,if_neg hr0]);have e5:decide ((0:Int)<(l'.length:Int))=false:=decide_eq_false (by omega);have e5':decide (0<l'.length)=false:=decide_eq_false hr0;obtain⟨Ao,co,rfl,hco,hro⟩:=Rd.of_own' ho;have HCK:=sqH (jd Ao k co out wr HOL.out hco (by omega) HPO.out hro);clear HF5;go_wp2_with fail;refine HCK.out.mono ?_;rintro e_ w9 ⟨rfl,hb9⟩;dsimp only;have hbf:=hbel.trans (hb9.mono hbel.size);have hof:=ze (z8 ho hb9) hgb;by_cases hck:chk out=0
       ·have hres:res=(out,0):=by rw [HF6.out,if_neg (by simpa using hck)]
        have HR:=sqH hres;have e6:((chk out:Int)!=0)=false:=by rw [bne_eq_false_iff_eq];omega
        clear hres hck;generalize chk out=ck at *
        go_wp2_with fail;go_ret2;rw [HR.out];refine⟨_,rfl,?_,hbf⟩;dsimp only;rw [HOL.out];exact hof
       ·have hres:res=([],chk out):=by rw [HF6.out,if_pos hck]
        have HR:=sqH hres;have e6:((chk out:Int)!=0)=true:=by rw [bne_iff_ne];omega
        clear hres hck;generalize chk out=ck at *
        go_wp2_with fail;go_ret2;rw [HR.out];exact⟨_,rfl,World.ownsRow_nil _ _ _ _,hbf⟩
  ·have hm0:m=0:=hmz her;subst hm0;have hres:res=([],er):=by rw [HF2.out,if_pos her]
   have HR:=sqH hres;have e1:((er:Int)==0)=false:=by rw [beq_eq_false_iff_ne];omega
   have e2:((er:Int)!=0)=true:=by rw [bne_iff_ne];omega
   clear hres her hmz;rw [show((0:Nat):Int)=0 from rfl];go_wp2_with fail;go_loopg [8,37] 0 (fun gn v i wr=>gn=0∧i= .int .i64 0∧v= .slice none 0 0∧Rdr wr g A3 c3 r er∧Below w.heap.size w wr)
   case atStart=>exact⟨rfl,rfl,rfl,hR3,hb3⟩
   case round =>
    obtain⟨_,rfl,rfl,hR4,hb4⟩:=hrel;have f2:=hR4.arr.cell (k:=1) rfl;go_wp2_with fail;go_quiet (fail);go_wp2_with fail;go_ret2;rw [HR.out];exact⟨_,rfl,World.ownsRow_nil _ _ _ _,zG hb4 _⟩
theorem Xq {d:List UInt8} (h:(kZ d).2=0):kj (kZ d).1=d:=by
 unfold kZ at h ⊢
 by_cases h1:4000<d.length
 ·rw [if_pos h1]at h;cases h
 ·rw [if_neg h1]at h ⊢
  by_cases h2:d.length % 2=1
  ·rw [if_pos h2]at h;cases h
  ·rw [if_neg h2]at h ⊢
   cases hu:yA d with
   | none=>rw [hu]at h;cases h
   | some r=>exact vr d r hu
def JF (p:PartP):Prop:=qg p.name=0∧hexC p.dig=0∧p.size≤300
theorem Xr (p:PartP) (more:List UInt8) (h:JF p):yN (yv p++more)=(p,more,0):=by
 have h1:=ye h.1;have h2:=vE h.2.1;have h3:=Xq h2.1;have e1:jz (yv p++more) 0=(p.name,(kZ p.dig).1++(num p.size++more),0):=by
  rw [jz,if_neg (by decide),yv,List.append_assoc,List.append_assoc,KD _ _ (by omega)]
 have e2:vB 32 ((kZ p.dig).1++(num p.size++more)) 0=((kZ p.dig).1,num p.size++more,0):=by
  rw [vB,if_neg (by decide),if_neg (by rw [List.length_append,h2.2];omega),←h2.2,List.take_left,List.drop_left]
 have e3:uV (num p.size++more) 0=(p.size,more,0):=by
  rw [uV,if_neg (by decide),vJ _ _ (by have:=h.2.2;omega)]
 unfold yN;rw [e1];dsimp only;rw [e2];dsimp only;rw [e3,h3]
theorem jV:∀(x:List PartP) (out:List PartP) (more:List UInt8),(∀p∈x,JF p)→zD x.length out (x.flatMap yv++more)=(0,out++x,more)
 | [],out,more,_=>by simp [zD]
 | p::x,out,more,h=>by
  rw [List.length_cons,zD,List.flatMap_cons,List.append_assoc,Xr p _ (h p (by simp))]
  dsimp only
  rw [if_neg (by decide),jV x _ _ (fun q hq=>h q (by simp [hq])),List.append_assoc];rfl
theorem V5 {x:List PartP} (h:chk x=0):∀p∈x,JF p:=(zj h).2
theorem ZG (x:List PartP):enc x= [65,77,49]++(num x.length++x.flatMap yv):=by rw [enc,List.append_assoc]
theorem J2 (l:List UInt8): [65,77,49].isPrefixOf ([65,77,49]++l)=true:=by simp [List.isPrefixOf]
theorem z04 (x:List PartP) (h:chk x=0):(enc x).length≤388∧4≤(enc x).length:=by
 have h0:=zj h;have h1:=vl x h0.2;rw [xB x h0.1];omega
theorem YK (x:List PartP) (more:List UInt8) (h:chk x=0) (hm:more.length≤1000):qK (enc x++more)=if 0<more.length then ([],3) else (x,0):=by
 have h0:=zj h;have hle:=z04 x h;have hd:(enc x++more).drop 3=num x.length++(x.flatMap yv++more):=by rw [ZG,List.append_assoc,List.append_assoc];rfl
 have hp: [65,77,49].isPrefixOf (enc x++more)=true:=by rw [ZG,List.append_assoc];exact J2 _
 rw [qK,if_neg (by rw [List.length_append];omega),hp,if_neg (by decide),hd,vJ _ _ (by omega)];dsimp only;rw [if_neg (by decide),if_neg (by omega),jV x [] more (V5 h)];dsimp only;rw [if_neg (by decide),List.nil_append,h];split
 ·rfl
 ·simp
theorem Q1 (x:List PartP) (h:chk x=0):qK (enc x)=(x,0):=by
 have:=YK x [] h (by simp)
 rwa [List.append_nil]at this
theorem xK (A:Option Addr) (n c:Nat) (xs:List Value) (w:World) (hb:n*40≤140737488355328) (hr:Rd w 3 A n xs) (h1:∀u∈xs,u.oneCell'=true) :
  Calls Tryz.prog 103 #[.slice A n c] w fun e w'=>∃v,e= .returned v∧w'.ownsRow w.heap.size 65 3 v n xs∧Below w.heap.size w w':=by
 have heq:=fun W=>Lib.run_eql_slice_nil (P:=Tryz.prog) W 47 65 A n c 0 0 Tryz.underlying47;cases A with
 | none =>
  obtain rfl:n=0:=by
   rcases Nat.eq_zero_or_pos n with h | h
   ·exact h
   ·obtain⟨_,_,h1,_⟩:=hr.2 h;cases h1
  obtain rfl:xs= []:=List.eq_nil_of_length_eq_zero (by simpa using hr.1);go_enter Tryz.func103,Tryz.ntmps103;go_wp2_with fail;go_ret;exact⟨_,rfl,World.ownsRow_nil _ _ _ _,Below.refl _ _⟩
 | some ad =>
  go_enter Tryz.func103,Tryz.ntmps103
  repeat' (fail_if_success (first|at_builtin|at_make));first|go_values|go_skip|go_guarded|go_step|go_upon|go_back
  refine zI rfl (.tmp 5) (.tmp 6) rfl YJ (by rfl) (World.ownsRow_made (size:=3) w #[] 0 (Nat.le_refl _) (by simp [maxLen]) rfl) (by rfl) (hr.alloc _) h1 (by omega) (by simp) ?_;intro v1 w1 hown1 hg1 _;have hb1:=zi ((Below.refl _ _).alloc (Nat.le_refl _) _) (World.ownsRow_made (size:=3) w #[] 0 (Nat.le_refl _) (by simp [maxLen]) rfl) (Nat.le_refl _) hg1;go_wp2_with fail;go_ret;exact⟨_,rfl,by simpa using hown1,hb1⟩
end Go.Proofs.YtnmlbflhnnmoeaaGreat
