/- Lemmas of the proof. Conditions: as stated. -/
import Derived.Test.YtdbbehfbkiiloaaGreatDoorQS06
import Derived.Lib.AppendStr
set_option linter.unusedVariables false
set_option linter.unusedSimpArgs false
set_option maxRecDepth 100000
namespace Go.Proofs.YtdbbehfbkiiloaaGreatDoor
open Go.RowKit
theorem OwnB.lower {e:TypeId} {base b':Nat} {w:World} {A:Option Addr} {c:Nat} {l:List UInt8} (h:OwnB e base w A c l) (hb:b'≤base):OwnB e b' w A c l:=⟨zg h.own hb,h.cap⟩
def txt (l:List UInt8):List UInt8:=num l.length++l
theorem Kw (l:List UInt8) (h:l.length≤2000):l.length+1≤(txt l).length∧(txt l).length≤l.length+2:=by
 have:=Z2 l.length 1 (by omega);simp only [txt,List.length_append];omega
def xE (b:List UInt8):List UInt8×List UInt8×Nat :=
 match zc b with
 | (n,rest,e)=>if e≠0 then ([], [],e) else if 2000<n then ([], [],1) else if rest.length<n then ([], [],8) else (rest.take n,rest.drop n,0)
theorem xQ {A:Option Addr} {n c:Nat} {l:List UInt8} {w:World} {t rest:List UInt8} {er:Nat} (E:Int) (hE:er=E) (hrd:xE l=(t,rest,er)) (hl:l.length=n) (hc:n≤c) (hm:n≤140737488353280) (hr:Rd w 1 A n (bys l)) :
  Calls Tryz.prog 141 #[.slice A n c] w fun e w'=>∃A' c',e= .returned (.tuple #[.string ⟨t.toArray⟩,.slice A' rest.length c',.int .i64 E]) ∧
   OwnB 5 w.heap.size w' A' c' rest∧Below w.heap.size w w':=by
 subst hE;obtain⟨m,rs,en,hn⟩:∃m rs en,zc l=(m,rs,en):=⟨_,_,_,rfl⟩
 rw [xE,hn]at hrd;dsimp only at hrd;by_cases h0:en=0
 ·subst h0;rw [if_neg (by omega)]at hrd;have hinv:=Ze hn;have hrl:rs.length≤n:=by rw [←hl,hinv.2];simp
  have hmb:=hinv.1;have HR:=sqH (zW 0 rfl hn hl hc hm hr);clear hn hinv;by_cases h1:2000<m
  ·rw [if_pos h1]at hrd;cases hrd
   go_enter Tryz.func141,Tryz.ntmps141
   repeat' (fail_if_success (first|at_builtin|at_make));first|go_values|go_skip|go_guarded|go_step|go_upon|go_back
   refine HR.out.mono ?_;rintro e_ w1 ⟨A1,c1,rfl,ho1,hb1⟩;dsimp only
   repeat' (fail_if_success (first|at_builtin|at_make));first|go_values|go_skip|go_guarded|go_step|go_upon|go_back
   go_ret3;exact⟨none,0,rfl,OwnB.nil_ _ _ _,hb1⟩
  ·rw [if_neg h1]at hrd;by_cases h2:rs.length<m
   ·rw [if_pos h2]at hrd;cases hrd
    go_enter Tryz.func141,Tryz.ntmps141
    repeat' (fail_if_success (first|at_builtin|at_make));first|go_values|go_skip|go_guarded|go_step|go_upon|go_back
    refine HR.out.mono ?_;rintro e_ w1 ⟨A1,c1,rfl,ho1,hb1⟩;dsimp only
    repeat' (fail_if_success (first|at_builtin|at_make));first|go_values|go_skip|go_guarded|go_step|go_upon|go_back
    go_ret3;exact⟨none,0,rfl,OwnB.nil_ _ _ _,hb1⟩
   ·rw [if_neg h2]at hrd;simp only [Prod.mk.injEq]at hrd;obtain⟨h11,h12,h13⟩:=hrd;subst h11 h12 h13;have hm0:(0:Int)≤(m:Int):=by omega
    have hm1:(m:Int)≤(rs.length:Int):=by omega
    have hle:m≤rs.length:=by omega
    go_enter Tryz.func141,Tryz.ntmps141
    repeat' (fail_if_success (first|at_builtin|at_make));first|go_values|go_skip|go_guarded|go_step|go_upon|go_back
    refine HR.out.mono ?_;rintro e_ w1 ⟨A1,c1,rfl,ho1,hb1⟩;dsimp only;have hc1:=ho1.cap;have hlt:(rs.take m).length=m:=by rw [List.length_take];omega
    have hQ:=fun (w2:World) (hb:Below w1.heap.size w1 w2)=>by
     have h:=(ho1.rd.below hb).pre (k:=m) hle;rw [Nat.mul_one,vH]at h;exact vk (P:=Tryz.prog) (c:=c1) (src:=50) (dst:=9) Tryz.underlying50 Tryz.underlying5 Tryz.underlying9 hlt h
    have Q:=sqH hQ;clear hQ hlt;have HB:=sqH (Below.refl w1.heap.size w1).drew;have hld:(rs.drop m).length=rs.length - m:=by rw [List.length_drop]
    have HL:=sqH hld;clear hld;rcases ho1.own.2 with ⟨hv,hz⟩ | ⟨g,_,_,hv,_⟩
    ·injection hv with hv1 hv2 hv3;subst hv1 hv3;have hm2:rs.length=0:=by omega
     have hm3:m=0:=by omega
     subst hm3;obtain rfl:=List.length_eq_zero_iff.1 hm2;clear hv2 hz hm2
     repeat' (fail_if_success (first|at_builtin|at_make));first|go_values|go_skip|go_guarded|go_step|go_upon|go_back
     go_region_held3 (fun w'=>(convert 50 9 (.slice none 0 0)).run Tryz.prog w'= .ok (.string ⟨#[]⟩) w')
      (first | exact Q.out _ (by first | exact HB.out | exact HB.out.trans (hb5.mono HB.out.size)))
      (first | (go_at_call 161;refine(kn none 0 0 [] _ rfl (Nat.le_refl _) (by omega) Rd.nil_).mono ?_;rintro e5 w5 ⟨v5,rfl,ho5,hb5⟩))
     repeat' (fail_if_success (first|at_builtin|at_make));first|go_values|go_skip|go_guarded|go_step|go_upon|go_back
     go_ret3;obtain⟨A6,c6,rfl,ho6⟩:=OwnB.of (l:= []) rfl ho5;exact⟨A6,c6,rfl,ho6.lower (Nat.le_trans hb1.size HB.out.size),hb1.trans ((HB.out.trans (hb5.mono HB.out.size)).mono hb1.size)⟩
    ·injection hv with hv1 hv2 hv3;subst hv1;clear hv2 hv3;have hr5:=ho1.rd.cutAt (c:=c1) hle hc1;rw [qD,Nat.zero_add]at hr5;have hm4:(m:Int)≤(c1:Int):=by omega
     have HC:=sqH (kn _ _ (c1 - m) _ w1.drew HL.out (by omega) (by omega) (hr5.below HB.out));clear hr5
     repeat' (fail_if_success (first|at_builtin|at_make));first|go_values|go_skip|go_guarded|go_step|go_upon|go_back
     go_region_held3 (fun w'=>(convert 50 9 (.slice (some ⟨g,0,none⟩) m c1)).run Tryz.prog w'= .ok (.string ⟨(rs.take m).toArray⟩) w')
      (first | exact Q.out _ (by first | exact HB.out | exact HB.out.trans (hb5.mono HB.out.size)))
      (first | (go_at_call 161;refine(HC.out).mono ?_;rintro e5 w5 ⟨v5,rfl,ho5,hb5⟩;dsimp only))
     dsimp only [Exit.then]
     repeat' (fail_if_success (first|at_builtin|at_make));first|go_values|go_skip|go_guarded|go_step|go_upon|go_back
     go_ret3;obtain⟨A6,c6,rfl,ho6⟩:=OwnB.of HL.out ho5;exact⟨A6,c6,by simp,ho6.lower (Nat.le_trans hb1.size HB.out.size),hb1.trans ((HB.out.trans (hb5.mono HB.out.size)).mono hb1.size)⟩
 ·rw [if_pos (by omega)]at hrd;simp only [Prod.mk.injEq]at hrd;obtain⟨h11,h12,h13⟩:=hrd;subst h11 h12 h13;have HR:=sqH (zW _ rfl hn hl hc hm hr);have he1:((en:Int) != 0)=true:=by rw [bne_iff_ne];omega
  clear hn;go_enter Tryz.func141,Tryz.ntmps141
  repeat' (fail_if_success (first|at_builtin|at_make));first|go_values|go_skip|go_guarded|go_step|go_upon|go_back
  refine HR.out.mono ?_;rintro e_ w1 ⟨A1,c1,rfl,ho1,hb1⟩;dsimp only
  repeat' (fail_if_success (first|at_builtin|at_make));first|go_values|go_skip|go_guarded|go_step|go_upon|go_back
  go_ret3;exact⟨none,0,rfl,OwnB.nil_ _ _ _,hb1⟩
theorem ui:∀n,n<16→val (dig n)=n:=by
 have key:∀n:Fin 16,val (dig n.val)=(n.val:Int):=by decide +kernel
 exact fun n h=>key ⟨n,h⟩
theorem yr:∀l:List UInt8,qA (zX l)=some l
 | []=>rfl
 | x::l=>by
  have hx:=x.toNat_lt
  have h1:=ui (x.toNat / 16) (by omega)
  have h2:=ui (x.toNat % 16) (by omega)
  show qA (dig (x.toNat / 16)::dig (x.toNat % 16)::zX l)=_
  rw [qA,if_neg (by omega),yr l,h1,h2]
  simp only [Option.map_some,Option.some.injEq,List.cons.injEq,and_true,Int.toNat_natCast]
  rw [Nat.div_add_mod];exact UInt8.ofNat_toNat
theorem uG (l:List UInt8) (h:l.length≤2000):kj (zX l)=(l,0):=by
 have:=qh l;rw [kj,if_neg (by omega),if_neg (by omega),yr]
theorem jS (l:List UInt8):hexC (zX l)=if l.length=32 then 0 else 1:=by
 have:=qh l;unfold hexC;by_cases h:l.length=32
 ·rw [if_neg (by omega),uG l (by omega),if_pos h]
 ·rw [if_pos (by omega),if_neg h]
theorem zD (l:List UInt8):hexC (shaS l)=0:=by
 have:=xG l;rw [shaS,jS,if_pos (by rw [yT,this])]
theorem jO {s:ByteArray} {r:Nat} (E:Int) (hE:r=E) (h:hexC s.data.toList=r) (w:World) (hs:s.size≤140737488351232) :
  Calls Tryz.prog 55 #[.string s] w fun e w'=>e= .returned (.int .i64 E)∧Below w.heap.size w w':=by
 subst hE;have:=qc s w hs;rw [h]at this;exact this
section
variable {W:World} {g:Nat} {e:TypeId} {fz:Nat×Nat}
theorem KL {xs:List Value} {k:Nat} (h:W.heap[g]?=some (.cells xs.toArray e fz)) (hk:k<xs.length) (u:Value):(W.setCell ⟨g,k,none⟩ u).heap[g]?=some (.cells (xs.set k u).toArray e fz):=by
 obtain⟨hlt,hk'⟩:=Array.getElem?_eq_some_iff.1 h;show(W.heap.modify g _)[g]?=_;rw [Array.getElem?_eq_getElem (by rw [Array.size_modify];exact hlt),Array.getElem_modify_self,hk'];simp
theorem jL (rs:List Value):∀(ys xs zs:List Value) (W:World),W.heap[g]?=some (.cells (zs++(xs++rs)).toArray e fz)→ys.length=xs.length→(W.setCells g zs.length ys).heap[g]?=some (.cells (zs++(ys++rs)).toArray e fz)
 | [], [],zs,W,h,_=>h
 | y::ys,x::xs,zs,W,h,hl=>by
  have h1:=KL h (k:=zs.length) (by simp) y
  rw [List.set_append_right _ _ (Nat.le_refl _),Nat.sub_self,List.cons_append,List.set_cons_zero]at h1
  have h2:=jL rs ys xs (zs++ [y]) _ (by simpa using h1) (by simpa using hl)
  rw [List.append_assoc]at h2
  simp only [List.length_append,List.length_cons,List.length_nil,Nat.zero_add]at h2
  exact h2
theorem xY {xs:List Value} {k:Nat} {v:Value} (h:W.heap[g]?=some (.cells xs.toArray e fz)) (hk:xs[k]?=some v):W.cell? ⟨g,k,none⟩=some v:=by
 simp [World.cell?,h,hk]
theorem KK {xs:List Value} {k:Nat} (h:W.heap[g]?=some (.cells xs.toArray e fz)) (hf:fz.2≤fz.1∨k<fz.1):W.frozen? ⟨g,k,none⟩=false:=by
 obtain⟨lo,hi⟩:=fz;simp only [World.frozen?,h,Bool.and_eq_false_iff,decide_eq_false_iff_not];simp only at hf;omega
end
def zY (w:World) (base:Nat) (A:Option Addr) (c:Nat) (l:List UInt8):Prop :=
 ∃g rest fz,A=some ⟨g,0,none⟩∧base≤g∧w.heap[g]?=some (.cells (bys l++rest).toArray 5 fz)∧l.length+rest.length=c∧c≤maxLen∧(fz.2≤fz.1∨c≤fz.1)
section
variable {w w':World} {base c:Nat} {A:Option Addr} {l:List UInt8}
theorem zY.rd (h:zY w base A c l):Rd w 1 A l.length (bys l):=by
 obtain⟨g,rest,fz,rfl,hb,hg,hl,hm,hf⟩:=h;refine⟨by rw [zB,Nat.mul_one],fun _=>⟨g,0,rfl,(Array.getElem?_eq_some_iff.1 hg).1,fun j u hu=> ?_⟩⟩;rw [Nat.zero_add];refine xY hg ?_;rw [List.getElem?_append_left (List.getElem?_eq_some_iff.1 hu).1];exact hu
theorem zY.cap (h:zY w base A c l):l.length≤c∧c≤maxLen:=by
 obtain⟨g,rest,fz,rfl,hb,hg,hl,hm,hf⟩:=h;exact⟨by omega,hm⟩
theorem zY.below (h:zY w base A c l) (hb:Below w.heap.size w w'):zY w' base A c l:=by
 obtain⟨g,rest,fz,e,h1,hg,h2⟩:=h;exact⟨g,rest,fz,e,h1,(hb.block g (Array.getElem?_eq_some_iff.1 hg).1).trans hg,h2⟩
theorem zY.lower {b':Nat} (h:zY w base A c l) (hb:b'≤base):zY w b' A c l:=by
 obtain⟨g,rest,fz,e,h1,h2⟩:=h;exact⟨g,rest,fz,e,Nat.le_trans hb h1,h2⟩
end
theorem KJ (s:ByteArray) (w:World) (hs:s.size≤maxLen) :
  ∃w',(convert 9 50 (.string s)).run Tryz.prog w= .ok (.slice (some ⟨w.heap.size,0,none⟩) s.data.toList.length (grownCap w s.size 0 5)) w'∧zY w' w.heap.size (some ⟨w.heap.size,0,none⟩) (grownCap w s.size 0 5) s.data.toList∧Below w.heap.size w w':=by
 have hsz:s.data.toList.length=s.size:=by rw [Array.length_toList];rfl
 have h:=run_bytes_of_string (P:=Tryz.prog) w 9 50 5 s Tryz.underlying9 Tryz.underlying50 Tryz.underlying5;have hge:=grownCap_ge w s.size 0 5;have hle:=grownCap_le_maxLen w s.size 0 5 hs;rw [←hsz]at h;rw [hsz]at h ⊢
 generalize grownCap w s.size 0 5=c at *
 have hrow:bytesRow s c=(bys s.data.toList++List.replicate (c - s.size) (Value.int .u8 0)).toArray:=by
  apply Array.toList_inj.1;simp [bytesRow,bys]
 refine⟨_,h,⟨w.heap.size,List.replicate (c - s.size) (Value.int .u8 0),((bytesRow s c).size,(bytesRow s c).size+1),rfl,Nat.le_refl _,?_,?_,hle,.inr ?_⟩,(Below.refl _ _).drew.alloc (Nat.le_refl _) _⟩
 ·rw [←hrow];exact World.alloc_heap_new w.drew _
 ·rw [List.length_replicate,hsz];omega
 ·rw [hrow];simp only [List.size_toArray,List.length_append,zB,List.length_replicate,hsz];omega
structure Src (P:Program) (w:World) (u:TypeId) (x:Value) (m:Nat) (k:List UInt8):Prop where
 und:(P.underlying u=some .string)∨(∃e,P.underlying u=some (.slice e))
 len:∀w',(Builtin.lenOf x).run P w'= .ok m w'
 fst:(Builtin.firstCells 1 m x).run P w= .ok (bys k).toArray w
 fst':(Builtin.firstCells 1 m x).run P w.drew= .ok (bys k).toArray w.drew
 num:k.length=m
theorem Src.str {P:Program} {w:World} {u:TypeId} (hu:P.underlying u=some .string) (s:ByteArray):Src P w u (.string s) s.size s.data.toList :=
 ⟨.inl hu,fun w'=>by simp [Builtin.lenOf],Lib.run_firstCells_string (P:=P) w 1 s,Lib.run_firstCells_string (P:=P) w.drew 1 s,by rw [Array.length_toList];rfl⟩
theorem Src.sl {P:Program} {w:World} {u e:TypeId} (hu:P.underlying u=some (.slice e)) {A:Option Addr} {m:Nat} (c:Nat) {k:List UInt8} (hr:Rd w 1 A m (bys k)):Src P w u (.slice A m c) m k:=by
 have hk:k.length=m:=by have:=hr.1;rw [zB,Nat.mul_one]at this;exact this
 refine⟨.inr ⟨e,hu⟩,fun w'=>by simp [Builtin.lenOf],?_,?_,hk⟩
 all_goals
  cases A with
  | none =>
   have h0:m=0:=by
    rcases Nat.eq_zero_or_pos m with h | h
    ·exact h
    ·obtain⟨_,_,h1,_⟩:=hr.2 h;cases h1
   have:k= []:=List.eq_nil_of_length_eq_zero (by omega);subst this;exact run_firstCells_none _ 1 0 0 c
  | some ad =>
   refine run_firstCells_some (P:=P) _ 1 m ad m c (bys k) (by rw [zB,hk,Nat.mul_one]) (fun j v hj=> ?_);have hl:=(List.getElem?_eq_some_iff.1 hj).1;rw [zB]at hl;obtain⟨b,off,e',hb,hc⟩:=hr.2 (by omega);cases e'
   rw [Addr.add_mid];exact hc j v hj
theorem yg {g:Nat}:∀(ys:List Value) (o:Nat) (W:World),W.grownBy (W.setCells g o ys) (some g)
 | [],_,W=>World.grownBy.refl _ _
 | y::ys,o,W=>by
  have h1:W.grownBy (W.setCell ⟨g,o,none⟩ y) (some g):=⟨rfl,rfl,rfl,by simp [World.setCell],fun j _ hj=>Below.heap_setCell W _ y j (fun e=>hj (by rw [e]))⟩
  exact h1.trans (yg ys (o+1) _)
theorem Zk {w:World} {base c:Nat} {A:Option Addr} {l k:List UInt8} {u ty:TypeId} {x:Value} {m:Nat} (h:zY w base A c l) (hs:Src Tryz.prog w u x m k) (hb:l.length+m≤140737488355328) (hbase:base≤w.heap.size) :
  ∃A' c' w',(Builtin.append_ #[50,u] ty #[.slice A l.length c,x]).run Tryz.prog w= .ok (.slice A' (l++k).length c') w'∧zY w' base A' c' (l++k)∧Below base w w'∧w.grownBy w' (Value.slice A l.length c).ownBlock∧(∀b,A'=some ⟨b,0,none⟩→A=some ⟨b,0,none⟩∨w.heap.size≤b):=by
 obtain⟨ht,⟨i,z,hi,hz,hsz,hby,hzs⟩,_,_⟩:=yY;have hrd:=h.rd;obtain⟨g,rest,fz,rfl,hbg,hg,hl,hm,hf⟩:=h;have hkl:=hs.num;have hlen:=hs.len;have hll:(l++k).length=l.length+m:=by rw [List.length_append,hkl]
 by_cases hroom:l.length+m≤c
 ·have hst:=run_storeCells_cells (P:=Tryz.prog) g l.length (bys k) 0 w
   (fun j hj=>by
    rw [zB]at hj;have:(bys l++rest)[l.length+0+j]?=some ((bys l++rest)[l.length+0+j]'(by rw [List.length_append,zB];omega)):=List.getElem?_eq_getElem _;rw [xY hg this];rfl)
   (fun j hj=>by
    rw [zB]at hj;exact KK hg (by rcases hf with h | h;exact .inl h;exact .inr (by omega))) (qT k)
  have hfz:=jL (g:=g) (e:=5) (fz:=fz) (rest.drop m) (bys k) (rest.take m) (bys l) w (by rw [List.take_append_drop];exact hg) (by rw [zB,List.length_take];omega);rw [zB]at hfz;refine⟨some ⟨g,0,none⟩,c,w.setCells g l.length (bys k),?_,⟨g,rest.drop m,fz,rfl,hbg,by rw [zA,List.append_assoc];exact hfz,by rw [hll,List.length_drop];omega,hm,hf⟩,Below.sets hbg _ _ _ (Below.refl _ _),yg _ _ _,fun b e=> .inl e⟩;rw [hll];simp only [Nat.add_zero]at hst;have hfc:=hs.fst;rcases hs.und with hu | ⟨e',hu⟩
  ·simp [Builtin.append_,run_underlying ht,run_underlying hu,sizeOf,typeInfo,hi,hsz,hlen w,hroom,hfc,Addr.add_lit,hst]
  ·simp [Builtin.append_,run_underlying ht,run_underlying hu,sizeOf,typeInfo,hi,hsz,hlen w,hroom,hfc,Addr.add_lit,hst]
 ·have hn:¬(l.length+m≤c):=hroom;have hge:=grownCap_ge w (l.length+m) c 5;have hcm:=grownCap_le_maxLen w (l.length+m) c 5 (by simp only [maxLen];omega);have h63':¬(9223372036854775807<((l.length:Int)+(m:Int))):=by omega
  have hnx:=nextslicecap_le (need:=l.length+m) (old:=c) (by omega);have h48':¬(281474976710656<Builtin.nextslicecap (l.length+m) c):=by omega
  have hfo:=run_firstCells_some (P:=Tryz.prog) w.drew 1 l.length ⟨g,0,none⟩ l.length c (bys l) (by rw [zB,Nat.mul_one]) (fun j v hj=>by
   rw [Addr.add_mid,Nat.zero_add];refine xY (W:=w.drew) hg ?_;rw [List.getElem?_append_left (List.getElem?_eq_some_iff.1 hj).1];exact hj)
  have hfn:=hs.fst';refine⟨some ⟨w.heap.size,0,none⟩,grownCap w (l.length+m) c 5,w.drew.alloc (.cells ((bys l).toArray++(bys k).toArray++Builtin.zeroCells z.cells (grownCap w (l.length+m) c 5 - (l.length+m))) 5),?_,
   ⟨w.heap.size,(Builtin.zeroCells z.cells (grownCap w (l.length+m) c 5 - (l.length+m))).toList,(0,0),rfl,hbase,?_,?_,hcm,.inl (Nat.le_refl _)⟩,(Below.refl _ _).drew.alloc hbase _,⟨rfl,rfl,rfl,by simp [World.alloc],fun k hk _=>Below.heap_alloc w.drew _ _ hk⟩,fun b e=> .inr (by cases e;exact Nat.le_refl _)⟩
  ·rw [hll];rcases hs.und with hu | ⟨e',hu⟩
   ·simp [Builtin.append_,run_underlying ht,run_underlying hu,sizeOf,typeInfo,zeroValue,hi,hz,hsz,hby,hlen w,hn,h63',h48',Question.forced,hfo,hfn,newRow,grownCap];rw [←List.append_toArray,Array.append_assoc]
   ·simp [Builtin.append_,run_underlying ht,run_underlying hu,sizeOf,typeInfo,zeroValue,hi,hz,hsz,hby,hlen w,hn,h63',h48',Question.forced,hfo,hfn,newRow,grownCap];rw [←List.append_toArray,Array.append_assoc]
  ·rw [show((bys l).toArray++(bys k).toArray++Builtin.zeroCells z.cells (grownCap w (l.length+m) c 5 - (l.length+m)))=(bys (l++k)++(Builtin.zeroCells z.cells (grownCap w (l.length+m) c 5 - (l.length+m))).toList).toArray by
    apply Array.toList_inj.1;simp [zA]]
   exact World.alloc_heap_new w.drew _
  ·have h0:(Builtin.zeroCells z.cells (grownCap w (l.length+m) c 5 - (l.length+m))).toList.length=grownCap w (l.length+m) c 5 - (l.length+m):=by rw [Array.length_toList,size_zeroCells,hzs,Nat.mul_one]
   rw [h0,hll];omega
theorem kb {w:World} {ops:Array Oper} {rest:List Oper} {o:Oper} {a:Act} {Q:Exit→Act→World→Prop} (hgd:o.guard=none) (sl x:Operand) {u:TypeId}
  (ho:o.op= .call { callee:= .builtin .append,args:=#[sl,x],argTypes:=#[50,u] })
  {base c:Nat} {A:Option Addr} {l k:List UInt8} {m:Nat} {xv:Value} (hs:a.eval sl= .slice A l.length c) (hown:zY w base A c l) (hx:a.eval x=xv) (hsrc:Src Tryz.prog w u xv m k)
  (hb:l.length+m≤140737488355328) (hbase:base≤w.heap.size)
  (h:∀A' c' w',zY w' base A' c' (l++k)→Below base w w'→wpList Tryz.prog ops Q rest (a.put o.dst (.slice A' (l++k).length c')) w') :
  wpList Tryz.prog ops Q (o::rest) a w:=by
 refine wpList_plain hgd fun _ hK=> ?_;obtain⟨A',c',w',hrun,h1,h2,_⟩:=Zk (ty:=o.type) hown hsrc hb hbase;unfold Oper.wp execOp;simp only [ho,resolve,invoke,builtin,Sem.run_bind,Sem.run_pure,Result.andThen_ok,List.map_toArray,List.map_cons,List.map_nil,hs,hx,hrun];exact hK _ _ (h _ _ _ h1 h2)
theorem QD {w:World} {o:Oper} {a:Act} {K:Act→World→Prop} {Q:Exit→Act→World→Prop} (sl x:Operand) {u:TypeId}
  (ho:o.op= .call { callee:= .builtin .append,args:=#[sl,x],argTypes:=#[50,u] })
  {base c:Nat} {A:Option Addr} {l k:List UInt8} {m:Nat} {xv:Value} (hs:a.eval sl= .slice A l.length c) (hown:zY w base A c l) (hx:a.eval x=xv) (hsrc:Src Tryz.prog w u xv m k)
  (hb:l.length+m≤140737488355328) (hbase:base≤w.heap.size)
  (h:∀A' c' w',zY w' base A' c' (l++k)→Below base w w'→w.grownBy w' (Value.slice A l.length c).ownBlock→(∀b,A'=some ⟨b,0,none⟩→A=some ⟨b,0,none⟩∨w.heap.size≤b)→K (a.put o.dst (.slice A' (l++k).length c')) w') :
  o.wp Tryz.prog a w K Q:=by
 obtain⟨A',c',w',hrun,h1,h2,h3,h4⟩:=Zk (ty:=o.type) hown hsrc hb hbase;unfold Oper.wp execOp;simp only [ho,resolve,invoke,builtin,Sem.run_bind,Sem.run_pure,Result.andThen_ok,List.map_toArray,List.map_cons,List.map_nil,hs,hx,hrun];exact h _ _ _ h1 h2 h3 h4
theorem vr {w:World} {ops:Array Oper} {rest:List Oper} {o:Oper} {a:Act} {Q:Exit→Act→World→Prop} (hgd:o.guard=none) (sl x:Operand) {u:TypeId}
  (ho:o.op= .call { callee:= .builtin .append,args:=#[sl,x],argTypes:=#[50,u] })
  {base c:Nat} {A:Option Addr} {l k:List UInt8} {m:Nat} {xv:Value} (hs:a.eval sl= .slice A l.length c) (hown:zY w base A c l) (hx:a.eval x=xv) (hsrc:Src Tryz.prog w u xv m k)
  (hb:l.length+m≤140737488355328) (hbase:base≤w.heap.size)
  (h:∀A' c' w',zY w' base A' c' (l++k)→Below base w w'→w.grownBy w' (Value.slice A l.length c).ownBlock→(∀b,A'=some ⟨b,0,none⟩→A=some ⟨b,0,none⟩∨w.heap.size≤b)→wpList Tryz.prog ops Q rest (a.put o.dst (.slice A' (l++k).length c')) w') :
  wpList Tryz.prog ops Q (o::rest) a w :=
 wpList_plain hgd fun _ hK=>QD sl x ho hs hown hx hsrc hb hbase fun A' c' w' h1 h2 h3 h4=>hK _ _ (h A' c' w' h1 h2 h3 h4)
theorem ue {w:World} {ops:Array Oper} {o:Oper} {a:Act} {K:Act→World→Prop} {Q:Exit→Act→World→Prop} {E0:Prop} (hgd:o.guard=none) (sl x:Operand) {u:TypeId}
  (ho:o.op= .call { callee:= .builtin .append,args:=#[sl,x],argTypes:=#[50,u] })
  {base c:Nat} {A:Option Addr} {l k:List UInt8} {m:Nat} {xv:Value} (hs:a.eval sl= .slice A l.length c) (hown:zY w base A c l) (hx:a.eval x=xv) (hsrc:Src Tryz.prog w u xv m k)
  (hb:l.length+m≤140737488355328) (hbase:base≤w.heap.size)
  (h:∀A' c' w',zY w' base A' c' (l++k)→Below base w w'→w.grownBy w' (Value.slice A l.length c).ownBlock→(∀b,A'=some ⟨b,0,none⟩→A=some ⟨b,0,none⟩∨w.heap.size≤b)→K (a.put o.dst (.slice A' (l++k).length c')) w') :
  if Region.wanted o (yielded ops a.tmps)=true then Oper.wp Tryz.prog o a w K Q else E0:=by
 rw [if_pos (by simp [Region.wanted,hgd])];exact QD sl x ho hs hown hx hsrc hb hbase h
theorem Arr.beside {w w':World} {g:Nat} {e:TypeId} {xs:List Value} {A:Option Addr} {n c:Nat} (h:Arr w g e xs) (hg:w.grownBy w' (Value.slice A n c).ownBlock) (hne:A≠some ⟨g,0,none⟩) (hA:∀a,A=some a→a=⟨a.block,0,none⟩):Arr w' g e xs:=by
 refine(hg.block g h.lt ?_).trans h;cases A with
 | none=>simp [Value.ownBlock]
 | some a =>
  intro he;simp only [Value.ownBlock,Option.some.injEq]at he;apply hne;rw [hA a rfl,he]
theorem zY.addr {w:World} {base c:Nat} {A:Option Addr} {l:List UInt8} (h:zY w base A c l):∀a,A=some a→a=⟨a.block,0,none⟩:=by
 obtain⟨g,_,_,rfl,_⟩:=h;intro a e;cases e;rfl
def Yf (r:RawP):Value:= .agg #[.int .i64 r.kind,.int .i64 r.a,.int .i64 r.b,.string r.text]
def u8 (a:Int):UInt8:=UInt8.ofNat (a % 256).toNat
theorem Zr (a:Int):IntKind.u8.wrap a=((u8 a).toNat:Int):=by
 rw [IntKind.wrap_u8,u8,UInt8.toNat_ofNat'];omega
def Qs (r:RawP) (most:Nat):List UInt8:=(r.text.data.toList++ [u8 r.a,u8 r.b]).take most
theorem vK (r:RawP) (most:Nat):(Qs r most).length≤most:=by rw [Qs,List.length_take];omega
theorem QJ (r:RawP) (most:Nat) (M:Int) (hM:(most:Int)=M) (hmo:most≤1000) (ho:RawOk r) (w:World) :
  Calls Tryz.prog 15 #[Yf r,.int .i64 M] w fun e w'=>∃A c,e= .returned (.slice A (Qs r most).length c)∧zY w' w.heap.size A c (Qs r most)∧Below w.heap.size w w':=by
 subst hM;obtain⟨k,a,b,t⟩:=r;have ht:=ho.t;have ua:=Zr a;have ub:=Zr b;unfold Yf;simp only [Qs];generalize u8 a=x at *
 generalize u8 b=y at *
 dsimp only at ht ⊢
 have hsz:t.data.toList.length=t.size:=by rw [Array.length_toList];rfl
 obtain⟨w1,hw1⟩:∃w1,w1=w.alloc (.cells #[.int .i64 k,.int .i64 a,.int .i64 b,.string t] 54):=⟨_,rfl⟩
 have s1:w1.heap.size=w.heap.size+1:=by rw [hw1,World.size_alloc]
 have hb1:Below w.heap.size w w1:=by rw [hw1];exact(Below.refl _ _).alloc (Nat.le_refl _) _
 have hr:Rd (w1.alloc (.cells #[.int .u8 (x.toNat:Int),.int .u8 (y.toNat:Int)] 5)) 1 (some ⟨w.heap.size+1,0,none⟩) 2 (bys [x,y]):=by
  have:=Rd.newN (w:=w1) (e:=5) (size:=1) (m:=2) (bys [x,y]) rfl;rw [s1]at this;exact this
 have hb2:Below w.heap.size w (w1.alloc (.cells #[.int .u8 (x.toNat:Int),.int .u8 (y.toNat:Int)] 5)):=hb1.alloc (by omega) _;have qs:=vk (P:=Tryz.prog) (c:=2) (src:=50) (dst:=9) Tryz.underlying50 Tryz.underlying5 Tryz.underlying9 (n:=2) (l:= [x,y]) rfl hr;obtain⟨S,hS⟩:∃S:ByteArray,S=t++⟨[x,y].toArray⟩:=⟨_,rfl⟩
 have qa:=fun w'=>run_string_add_sum (P:=Tryz.prog) (w:=w') t ⟨[x,y].toArray⟩ (by show t.size+2≤_;omega);have hSl:S.data.toList=t.data.toList++ [x,y]:=by rw [hS,ByteArray.data_append,Array.toList_append]
 have hSs:S.size=t.size+2:=by
  have h:=congrArg List.length hSl;rw [Array.length_toList,List.length_append,hsz]at h;exact h
 rw [←hS]at qa;rw [←hSl];obtain⟨E,hE⟩:∃E:ByteArray,E=S.extract 0 (min ((t.size:Int)+2) (most:Int)).toNat:=⟨_,rfl⟩
 have hEl:S.data.toList.take most=E.data.toList:=by
  have hl:=congrArg List.length hSl;rw [List.length_append,hsz]at hl;rw [hE,ByteArray.data_extract,Array.toList_extract,List.extract_eq_take_drop,List.drop_zero,Nat.sub_zero];rcases Nat.le_total (t.size+2) most with h | h
  ·rw [List.take_of_length_le (by rw [hl];exact h),List.take_of_length_le (by rw [hl];simp only [List.length_cons,List.length_nil];omega)]
  ·congr 1;omega
 have hEs:E.size≤maxLen:=by
  have h:=congrArg List.length hEl;rw [List.length_take]at h;have h2:E.data.toList.length=E.size:=by rw [Array.length_toList];rfl
  simp only [maxLen];omega
 rw [hEl];obtain⟨w3,qz,hz,hb3⟩:=KJ E (w1.alloc (.cells #[.int .u8 (x.toNat:Int),.int .u8 (y.toNat:Int)] 5)) hEs;have hz:=hz.lower hb2.size;have hb23:=hb2.trans (hb3.mono hb2.size);generalize grownCap (w1.alloc (.cells #[.int .u8 (x.toNat:Int),.int .u8 (y.toNat:Int)] 5)) E.size 0 5=c at qz hz;generalize (w1.alloc (.cells #[.int .u8 (x.toNat:Int),.int .u8 (y.toNat:Int)] 5)).heap.size=g at qz hz;generalize E.data.toList=L at qz hz ⊢
 rw [hE]at qz;rw [hw1]at qz qs;clear hr hS hSl hb1 hw1 s1 hE hEl hEs hb2 hb3;go_enter Tryz.func15,Tryz.ntmps15;go_wp2_with fail;go_ret;exact⟨_,_,rfl,hz,hb23⟩
end Go.Proofs.YtdbbehfbkiiloaaGreatDoor
