/- Lemmas, as stated. -/
import Derived.Lib.AppendStr
import Derived.Laws.IdiomStrings
import Derived.Deep.DrawnRows
import Derived.BigGuardPart
import Derived.ArgAppend
import Derived.Lib.SlBytesConst
import Derived.Test.YtcjndgldjhmbgaaGreatQF01
set_option linter.unusedVariables false
set_option linter.unusedSimpArgs false
set_option maxRecDepth 100000
set_option maxHeartbeats 4000000
open Go.Proofs.Tryz
open Go.Proofs.Tryz renaming prog->zZZ
open Go.Value renaming slice->aw,int->ax,string->az
open Go.Obj renaming cells->aA
open Option renaming none->aB,some->aC
open Go.IntKind renaming i64->ay
namespace Go.Proofs.YtcjndgldjhmbgaaGreat
open Go.RowKit
variable {α:Type} {a:Act} {K:Act->World->Prop} {ops:Array Oper} {rest:List Oper} {b b' base bytes c g k m n size:Nat} {o:Oper} {p:PartP} {P:Program} {e e' t ty u:TypeId} {a0 a1 a2 a3 v:Value} {W w w':World} {X l:ac} {A B:ae} {Y xs ys:af} {Q:ag} {N:ai} {f:α->List UInt8}
theorem OwnB.lower (h:OwnB e base w A c l) (hb:b'<=base):OwnB e b' w A c l:=⟨zb h.own hb,h.cap⟩
def txt (l:ac):ac:=num l.length++l
theorem z21 (l:ac) (h:l.length<=2000):l.length+1<=(txt l).length/\(txt l).length<=l.length+2:=by
 have:=Vd l.length 1 wj;simp only [txt,List.length_append];omega
def uP (b:ac):ac×ac×Nat :=
 match zB b with
 | (n,rest,e)=>if e≠0 then ([], [],e) else if 2000<n then ([], [],1) else if rest.length<n then ([], [],8) else (rest.take n,rest.drop n,0)
theorem Qq {t rest:ac} {er:Nat} (E:Int) (hE:er=E) (hrd:uP l=(t,rest,er)) (hl:l.length=n) (hc:n<=c) (hm:n<=140737488353280) (hr:Rd w 1 A n (bys l)) :
  Calls zZZ 72 #[aw A n c] w fun e w'=>∃A' c',e= .returned (.tuple #[az ⟨t.toArray⟩,aw A' rest.length c',ax .i64 E]) /\
   OwnB 5 w.heap.size w' A' c' rest/\Below w.heap.size w w':=by
 subst hE;obtain⟨m,rs,en,hn⟩:∃m rs en,zB l=(m,rs,en):=⟨_,_,_,rfl⟩
 rw [uP,hn]at hrd;dsimp only at hrd;by_cases h0:en=0
 ·subst h0;rw [if_neg wj]at hrd;have hinv:=xx hn;have hrl:rs.length<=n:=by rw [<-hl,hinv.2];simp
  have hmb:=hinv.1;have HR:=sqH (ye 0 rfl hn hl hc hm hr);clear hn hinv;by_cases h1:2000<m
  ·rw [if_pos h1]at hrd;cases hrd
   go_enter func72,ntmps72
   refine wH ?_;intros;refine HR.o.mono ?_;rintro e_ w1 ⟨A1,c1,rfl,ho1,hb1⟩;dsimp only
   refine wH ?_;intros;go_ret3;exact⟨aB,0,rfl,OwnB.nil_ _ _ _,hb1⟩
  ·rw [if_neg h1]at hrd;by_cases h2:rs.length<m
   ·rw [if_pos h2]at hrd;cases hrd
    go_enter func72,ntmps72
    refine wH ?_;intros;refine HR.o.mono ?_;rintro e_ w1 ⟨A1,c1,rfl,ho1,hb1⟩;dsimp only
    refine wH ?_;intros;go_ret3;exact⟨aB,0,rfl,OwnB.nil_ _ _ _,hb1⟩
   ·rw [if_neg h2]at hrd;simp only [Prod.mk.injEq]at hrd;obtain⟨h11,h12,h13⟩:=hrd;subst h11 h12 h13;have hm0:=wX m
    have hm1:(m:Int)<=(rs.length:Int):=wj;have hle:m<=rs.length:=wj;go_enter func72,ntmps72
    refine wH ?_;intros;refine HR.o.mono ?_;rintro e_ w1 ⟨A1,c1,rfl,ho1,hb1⟩;dsimp only;have hc1:=ho1.cap;have hlt:(rs.take m).length=m:=by rw [List.length_take];omega
    have hQ:=fun (w2:World) (hb:Below w1.heap.size w1 w2)=>by
     have h:=(ho1.rd.below hb).pre (k:=m) hle;rw [Nat.mul_one,K5]at h;exact xZ (P:=zZZ) (c:=c1) (src:=44) (dst:=9) underlying44 underlying5 underlying9 hlt h
    have Q:=sqH hQ;clear hQ hlt;have HB:=sqH (Below.refl w1.heap.size w1).drew;have hld:(rs.drop m).length=rs.length - m:=by rw [List.length_drop]
    have HL:=sqH hld;clear hld;rcases ho1.own.2 with ⟨hv,hz⟩ | ⟨g,_,_,hv,_⟩
    ·injection hv with hv1 hv2 hv3;subst hv1 hv3;have hm2:rs.length=0:=wj
     have hm3:m=0:=wj;subst hm3;obtain rfl:=List.length_eq_zero_iff.1 hm2;clear hv2 hz hm2
     refine wH ?_;intros;go_region_held3 (fun w'=>(convert 44 9 (aw aB 0 0)).run zZZ w'= .ok (az ⟨#[]⟩) w')
      (first | exact Q.o _ (by first | exact HB.o | exact wg HB.o hb5))
      (first | (go_at_call 68;refine(yc aB 0 0 [] _ rfl ab wj Rd.nil_).mono ?_;rintro e5 w5 ⟨v5,rfl,ho5,hb5⟩))
     refine wH ?_;intros;go_ret3;obtain⟨A6,c6,rfl,ho6⟩:=OwnB.of (l:= []) rfl ho5;exact⟨A6,c6,rfl,ho6.lower (Nat.le_trans hb1.size HB.o.size),hb1.trans ((wg HB.o hb5).mono hb1.size)⟩
    ·injection hv with hv1 hv2 hv3;subst hv1;clear hv2 hv3;have hr5:=ho1.rd.cutAt (c:=c1) hle hc1;rw [xl,Nat.zero_add]at hr5;have hm4:(m:Int)<=(c1:Int):=wj
     have HC:=sqH (yc _ _ (c1 - m) _ w1.drew HL.o wj wj (hr5.below HB.o));clear hr5
     refine wH ?_;intros;go_region_held3 (fun w'=>(convert 44 9 (aw (aC ⟨g,0,aB⟩) m c1)).run zZZ w'= .ok (az ⟨(rs.take m).toArray⟩) w')
      (first | exact Q.o _ (by first | exact HB.o | exact wg HB.o hb5))
      (first | (go_at_call 68;refine(HC.o).mono ?_;rintro e5 w5 ⟨v5,rfl,ho5,hb5⟩;dsimp only))
     dsimp only [Exit.then]
     refine wH ?_;intros;go_ret3;obtain⟨A6,c6,rfl,ho6⟩:=OwnB.of HL.o ho5;exact⟨A6,c6,ws,ho6.lower (Nat.le_trans hb1.size HB.o.size),hb1.trans ((wg HB.o hb5).mono hb1.size)⟩
 ·rw [if_pos wj]at hrd;simp only [Prod.mk.injEq]at hrd;obtain⟨h11,h12,h13⟩:=hrd;subst h11 h12 h13;have HR:=sqH (ye _ rfl hn hl hc hm hr);have he1:((en:Int) != 0)=true:=by rw [bne_iff_ne];omega
  clear hn;go_enter func72,ntmps72
  refine wH ?_;intros;refine HR.o.mono ?_;rintro e_ w1 ⟨A1,c1,rfl,ho1,hb1⟩;dsimp only
  refine wH ?_;intros;go_ret3;exact⟨aB,0,rfl,OwnB.nil_ _ _ _,hb1⟩
theorem KF:∀n,n<16->val (dig n)=n:=by
 have key:∀n:Fin 16,val (dig n.val)=(n.val:Int):=by decide +kernel
 exact fun n h=>key ⟨n,h⟩
theorem va:∀l:ac,xe (yb l)=aC l
 | []=>rfl
 | x::l=>by
  have hx:=x.toNat_lt
  have h1:=KF (x.toNat / 16) wj
  have h2:=KF (x.toNat % 16) wj
  show xe (dig (x.toNat / 16)::dig (x.toNat % 16)::yb l)=_
  rw [xe,if_neg wj,va l,h1,h2]
  simp only [Option.map_some,Option.some.injEq,List.cons.injEq,and_true,Int.toNat_natCast]
  rw [Nat.div_add_mod];exact UInt8.ofNat_toNat
theorem Yg (l:ac) (h:l.length<=2000):xJ (yb l)=(l,0):=by
 have:=yj l;rw [xJ,if_neg wj,if_neg wj,va]
theorem XV (l:ac):hexC (yb l)=if l.length=32 then 0 else 1:=by
 have:=yj l;unfold hexC;by_cases h:l.length=32
 ·rw [if_neg wj,Yg l wj,if_pos h]
 ·rw [if_pos wj,if_neg h]
theorem zq (l:ac):hexC (shaS l)=0:=by
 have:=Q3 l;rw [shaS,XV,if_pos (by rw [Za,this])]
theorem kB {s:ByteArray} {r:Nat} (E:Int) (hE:r=E) (h:hexC s.data.toList=r) (w:World) (hs:s.size<=140737488351232) :
  Calls zZZ 90 #[az s] w fun e w'=>e= .returned (ax .i64 E)/\Below w.heap.size w w':=by
 subst hE;have:=kC s w hs;rw [h]at this;exact this
section
variable {W:World} {g:Nat} {e:TypeId} {fz:Nat×Nat}
theorem z3h (h:W.heap[g]?=aC (.cells xs.toArray e fz)) (hk:k<xs.length) (u:Value):(W.setCell ⟨g,k,aB⟩ u).heap[g]?=aC (aA (xs.set k u).toArray e fz):=by
 obtain⟨hlt,hk'⟩:=Array.getElem?_eq_some_iff.1 h;show(W.heap.modify g _)[g]?=_;rw [Array.getElem?_eq_getElem (by rw [Array.size_modify];exact hlt),Array.getElem_modify_self,hk'];simp
theorem XQ (rs:af):∀(ys xs zs:af) (W:World),W.heap[g]?=aC (aA (zs++(xs++rs)).toArray e fz)->ys.length=xs.length->(W.setCells g zs.length ys).heap[g]?=aC (aA (zs++(ys++rs)).toArray e fz)
 | [], [],zs,W,h,_=>h
 | y::ys,x::xs,zs,W,h,hl=>by
  have h1:=z3h h (k:=zs.length) ws y
  rw [List.set_append_right _ _ ab,Nat.sub_self,List.cons_append,List.set_cons_zero]at h1
  have h2:=XQ rs ys xs (zs++ [y]) _ (by simpa using h1) (by simpa using hl)
  rw [List.append_assoc]at h2
  simp only [List.length_append,List.length_cons,List.length_nil,Nat.zero_add]at h2
  exact h2
theorem Qv (h:W.heap[g]?=aC (.cells xs.toArray e fz)) (hk:xs[k]?=aC v):W.cell? ⟨g,k,aB⟩=aC v:=by
 simp [World.cell?,h,hk]
theorem z3g (h:W.heap[g]?=aC (.cells xs.toArray e fz)) (hf:fz.2<=fz.1\/k<fz.1):W.frozen? ⟨g,k,aB⟩=false:=by
 obtain⟨lo,hi⟩:=fz;simp only [World.frozen?,h,Bool.and_eq_false_iff,decide_eq_false_iff_not];simp only at hf;omega
end
def kN (w:World) (base:Nat) (A:ae) (c:Nat) (l:ac):Prop :=
 ∃g rest fz,A=aC ⟨g,0,aB⟩/\base<=g/\w.heap[g]?=aC (aA (bys l++rest).toArray 5 fz)/\l.length+rest.length=c/\c<=maxLen/\(fz.2<=fz.1\/c<=fz.1)
section
variable {w w':World} {base c:Nat} {A:ae} {l:ac}
theorem kN.rd (h:kN w base A c l):Rd w 1 A l.length (bys l):=by
 obtain⟨g,rest,fz,rfl,hb,hg,hl,hm,hf⟩:=h;refine⟨by rw [qZ,Nat.mul_one],fun _=>⟨g,0,rfl,(Array.getElem?_eq_some_iff.1 hg).1,fun j u hu=> ?_⟩⟩;rw [Nat.zero_add];refine Qv hg ?_;rw [List.getElem?_append_left (List.getElem?_eq_some_iff.1 hu).1];exact hu
theorem kN.cap (h:kN w base A c l):l.length<=c/\c<=maxLen:=by
 obtain⟨g,rest,fz,rfl,hb,hg,hl,hm,hf⟩:=h;exact⟨wj,hm⟩
theorem kN.below (h:kN w base A c l) (hb:Below w.heap.size w w'):kN w' base A c l:=by
 obtain⟨g,rest,fz,e,h1,hg,h2⟩:=h;exact⟨g,rest,fz,e,h1,(hb.block g (Array.getElem?_eq_some_iff.1 hg).1).trans hg,h2⟩
theorem kN.lower (h:kN w base A c l) (hb:b'<=base):kN w b' A c l:=by
 obtain⟨g,rest,fz,e,h1,h2⟩:=h;exact⟨g,rest,fz,e,Nat.le_trans hb h1,h2⟩
end
theorem z39 (s:ByteArray) (w:World) (hs:s.size<=maxLen) :
  ∃w',(convert 9 44 (az s)).run zZZ w= .ok (aw (aC ⟨w.heap.size,0,aB⟩) s.data.toList.length (grownCap w s.size 0 5)) w'/\kN w' w.heap.size (aC ⟨w.heap.size,0,aB⟩) (grownCap w s.size 0 5) s.data.toList/\Below w.heap.size w w':=by
 have hsz:s.data.toList.length=s.size:=by rw [Array.length_toList];rfl
 have h:=run_bytes_of_string (P:=zZZ) w 9 44 5 s underlying9 underlying44 underlying5;have hge:=grownCap_ge w s.size 0 5;have hle:=grownCap_le_maxLen w s.size 0 5 hs;rw [<-hsz]at h;rw [hsz]at h ⊢
 generalize grownCap w s.size 0 5=c at *
 have hrow:bytesRow s c=(bys s.data.toList++List.replicate (c - s.size) (ax .u8 0)).toArray:=by
  apply Array.toList_inj.1;simp [bytesRow,bys]
 refine⟨_,h,⟨w.heap.size,List.replicate (c - s.size) (ax .u8 0),((bytesRow s c).size,(bytesRow s c).size+1),rfl,Nat.le_refl _,?_,?_,hle,.inr ?_⟩,(Below.refl _ _).drew.alloc ab _⟩
 ·rw [<-hrow];exact World.alloc_heap_new w.drew _
 ·rw [List.length_replicate,hsz];omega
 ·rw [hrow];simp only [List.size_toArray,List.length_append,qZ,List.length_replicate,hsz];omega
structure Src (P:Program) (w:World) (u:TypeId) (x:Value) (m:Nat) (k:ac):Prop where
 und:(P.underlying u=aC .string)\/(∃e,P.underlying u=aC (.slice e))
 len:∀w',(Builtin.lenOf x).run P w'= .ok m w'
 fst:(Builtin.firstCells 1 m x).run P w= .ok (bys k).toArray w
 fst':(Builtin.firstCells 1 m x).run P w.drew= .ok (bys k).toArray w.drew
 num:k.length=m
theorem Src.str (hu:P.underlying u=aC .string) (s:ByteArray):Src P w u (az s) s.size s.data.toList :=
 ⟨.inl hu,fun w'=>by simp [Builtin.lenOf],Lib.run_firstCells_string (P:=P) w 1 s,Lib.run_firstCells_string (P:=P) w.drew 1 s,by rw [Array.length_toList];rfl⟩
theorem Src.sl (hu:P.underlying u=aC (.slice e)) (c:Nat) {k:ac} (hr:Rd w 1 A m (bys k)):Src P w u (aw A m c) m k:=by
 have hk:k.length=m:=by have:=hr.1;rw [qZ,Nat.mul_one]at this;exact this
 refine⟨.inr ⟨e,hu⟩,fun w'=>by simp [Builtin.lenOf],?_,?_,hk⟩
 all_goals
  cases A with
  | none =>
   have h0:m=0:=by
    rcases Nat.eq_zero_or_pos m with h | h
    ·exact h
    ·obtain⟨_,_,h1,_⟩:=hr.2 h;cases h1
   have:k= []:=List.eq_nil_of_length_eq_zero wj;subst this;exact run_firstCells_none _ 1 0 0 c
  | some ad =>
   refine run_firstCells_some (P:=P) _ 1 m ad m c (bys k) (by rw [qZ,hk,Nat.mul_one]) (fun j v hj=> ?_);have hl:=(List.getElem?_eq_some_iff.1 hj).1;rw [qZ]at hl;obtain⟨b,off,e',hb,hc⟩:=hr.2 wj;cases e'
   rw [Addr.add_mid];exact hc j v hj
theorem j9 {g:Nat}:∀(ys:af) (o:Nat) (W:World),W.grownBy (W.setCells g o ys) (aC g)
 | [],_,W=>World.grownBy.refl _ _
 | y::ys,o,W=>by
  have h1:W.grownBy (W.setCell ⟨g,o,aB⟩ y) (aC g):=⟨rfl,rfl,rfl,by simp [World.setCell],fun j _ hj=>Below.heap_setCell W _ y j (fun e=>hj (by rw [e]))⟩
  exact h1.trans (j9 ys (o+1) _)
theorem Vw {k:ac} {x:Value} (h:kN w base A c l) (hs:Src zZZ w u x m k) (hb:l.length+m<=140737488355328) (hbase:base<=w.heap.size) :
  ∃A' c' w',(Builtin.append_ #[44,u] ty #[aw A l.length c,x]).run zZZ w= .ok (aw A' (l++k).length c') w'/\kN w' base A' c' (l++k)/\Below base w w'/\w.grownBy w' (aw A l.length c).ownBlock/\(∀b,A'=aC ⟨b,0,aB⟩->A=aC ⟨b,0,aB⟩\/w.heap.size<=b):=by
 obtain⟨ht,⟨i,z,hi,hz,hsz,hby,hzs⟩,_,_⟩:=Zd;have hrd:=h.rd;obtain⟨g,rest,fz,rfl,hbg,hg,hl,hm,hf⟩:=h;have hkl:=hs.num;have hlen:=hs.len;have hll:(l++k).length=l.length+m:=by rw [List.length_append,hkl]
 by_cases hroom:l.length+m<=c
 ·have hst:=run_storeCells_cells (P:=zZZ) g l.length (bys k) 0 w
   (fun j hj=>by
    rw [qZ]at hj;have:(bys l++rest)[l.length+0+j]?=aC ((bys l++rest)[l.length+0+j]'(by rw [List.length_append,qZ];omega)):=List.getElem?_eq_getElem _;rw [Qv hg this];rfl)
   (fun j hj=>by
    rw [qZ]at hj;exact z3g hg (by rcases hf with h | h;exact .inl h;exact .inr wj)) (xL k)
  have hfz:=XQ (g:=g) (e:=5) (fz:=fz) (rest.drop m) (bys k) (rest.take m) (bys l) w (by rw [List.take_append_drop];exact hg) (by rw [qZ,List.length_take];omega);rw [qZ]at hfz;refine⟨aC ⟨g,0,aB⟩,c,w.setCells g l.length (bys k),?_,⟨g,rest.drop m,fz,rfl,hbg,by rw [qY,List.append_assoc];exact hfz,by rw [hll,List.length_drop];omega,hm,hf⟩,Below.sets hbg _ _ _ (Below.refl _ _),j9 _ _ _,fun b e=> .inl e⟩;rw [hll];simp only [Nat.add_zero]at hst;have hfc:=hs.fst;rcases hs.und with hu | ⟨e',hu⟩
  ·simp [Builtin.append_,run_underlying ht,run_underlying hu,sizeOf,typeInfo,hi,hsz,hlen w,hroom,hfc,Addr.add_lit,hst]
  ·simp [Builtin.append_,run_underlying ht,run_underlying hu,sizeOf,typeInfo,hi,hsz,hlen w,hroom,hfc,Addr.add_lit,hst]
 ·have hn:¬(l.length+m<=c):=hroom;have hge:=grownCap_ge w (l.length+m) c 5;have hcm:=grownCap_le_maxLen w (l.length+m) c 5 (by simp only [maxLen];omega);have h63':¬(9223372036854775807<((l.length:Int)+(m:Int))):=wj
  have hnx:=nextslicecap_le (need:=l.length+m) (old:=c) wj;have h48':¬(281474976710656<Builtin.nextslicecap (l.length+m) c):=wj;have hfo:=run_firstCells_some (P:=zZZ) w.drew 1 l.length ⟨g,0,aB⟩ l.length c (bys l) (by rw [qZ,Nat.mul_one]) (fun j v hj=>by
   rw [Addr.add_mid,Nat.zero_add];refine Qv (W:=w.drew) hg ?_;rw [List.getElem?_append_left (List.getElem?_eq_some_iff.1 hj).1];exact hj)
  have hfn:=hs.fst';refine⟨aC ⟨w.heap.size,0,aB⟩,grownCap w (l.length+m) c 5,w.drew.alloc (aA ((bys l).toArray++(bys k).toArray++Builtin.zeroCells z.cells (grownCap w (l.length+m) c 5 - (l.length+m))) 5),?_,
   ⟨w.heap.size,(Builtin.zeroCells z.cells (grownCap w (l.length+m) c 5 - (l.length+m))).toList,(0,0),rfl,hbase,?_,?_,hcm,.inl ab⟩,(Below.refl _ _).drew.alloc hbase _,⟨rfl,rfl,rfl,by simp [World.alloc],fun k hk _=>Below.heap_alloc w.drew _ _ hk⟩,fun b e=> .inr (by cases e;exact Nat.le_refl _)⟩
  ·rw [hll];rcases hs.und with hu | ⟨e',hu⟩
   ·simp [Builtin.append_,run_underlying ht,run_underlying hu,sizeOf,typeInfo,zeroValue,hi,hz,hsz,hby,hlen w,hn,h63',h48',Question.forced,hfo,hfn,newRow,grownCap];rw [<-List.append_toArray,Array.append_assoc]
   ·simp [Builtin.append_,run_underlying ht,run_underlying hu,sizeOf,typeInfo,zeroValue,hi,hz,hsz,hby,hlen w,hn,h63',h48',Question.forced,hfo,hfn,newRow,grownCap];rw [<-List.append_toArray,Array.append_assoc]
  ·rw [show((bys l).toArray++(bys k).toArray++Builtin.zeroCells z.cells (grownCap w (l.length+m) c 5 - (l.length+m)))=(bys (l++k)++(Builtin.zeroCells z.cells (grownCap w (l.length+m) c 5 - (l.length+m))).toList).toArray by
    apply Array.toList_inj.1;simp [qY]]
   exact World.alloc_heap_new w.drew _
  ·have h0:(Builtin.zeroCells z.cells (grownCap w (l.length+m) c 5 - (l.length+m))).toList.length=grownCap w (l.length+m) c 5 - (l.length+m):=by rw [Array.length_toList,size_zeroCells,hzs,Nat.mul_one]
   rw [h0,hll];omega
theorem vd (hgd:o.guard=aB) (sl x:Operand) 
  (ho:o.op= .call { callee:= .builtin .append,args:=#[sl,x],argTypes:=#[44,u] })
  {base c:Nat} {A:ae} {l k:ac} {m:Nat} {xv:Value} (hs:a.eval sl= aw A l.length c) (hown:kN w base A c l) (hx:a.eval x=xv) (hsrc:Src zZZ w u xv m k)
  (hb:l.length+m<=140737488355328) (hbase:base<=w.heap.size)
  (h:∀A' c' w',kN w' base A' c' (l++k)->Below base w w'->wpList zZZ ops Q rest (a.put o.dst (aw A' (l++k).length c')) w') :
  wpList zZZ ops Q (o::rest) a w:=by
 refine wpList_plain hgd fun _ hK=> ?_;obtain⟨A',c',w',hrun,h1,h2,_⟩:=Vw (ty:=o.type) hown hsrc hb hbase;unfold Oper.wp execOp;simp only [ho,resolve,invoke,builtin,Sem.run_bind,Sem.run_pure,Result.andThen_ok,List.map_toArray,List.map_cons,List.map_nil,hs,hx,hrun];exact hK _ _ (h _ _ _ h1 h2)
theorem JS (sl x:Operand) 
  (ho:o.op= .call { callee:= .builtin .append,args:=#[sl,x],argTypes:=#[44,u] })
  {base c:Nat} {A:ae} {l k:ac} {m:Nat} {xv:Value} (hs:a.eval sl= aw A l.length c) (hown:kN w base A c l) (hx:a.eval x=xv) (hsrc:Src zZZ w u xv m k)
  (hb:l.length+m<=140737488355328) (hbase:base<=w.heap.size)
  (h:∀A' c' w',kN w' base A' c' (l++k)->Below base w w'->w.grownBy w' (aw A l.length c).ownBlock->(∀b,A'=aC ⟨b,0,aB⟩->A=aC ⟨b,0,aB⟩\/w.heap.size<=b)->K (a.put o.dst (aw A' (l++k).length c')) w') :
  o.wp zZZ a w K Q:=by
 obtain⟨A',c',w',hrun,h1,h2,h3,h4⟩:=Vw (ty:=o.type) hown hsrc hb hbase;unfold Oper.wp execOp;simp only [ho,resolve,invoke,builtin,Sem.run_bind,Sem.run_pure,Result.andThen_ok,List.map_toArray,List.map_cons,List.map_nil,hs,hx,hrun];exact h _ _ _ h1 h2 h3 h4
theorem QS (hgd:o.guard=aB) (sl x:Operand) 
  (ho:o.op= .call { callee:= .builtin .append,args:=#[sl,x],argTypes:=#[44,u] })
  {base c:Nat} {A:ae} {l k:ac} {m:Nat} {xv:Value} (hs:a.eval sl= aw A l.length c) (hown:kN w base A c l) (hx:a.eval x=xv) (hsrc:Src zZZ w u xv m k)
  (hb:l.length+m<=140737488355328) (hbase:base<=w.heap.size)
  (h:∀A' c' w',kN w' base A' c' (l++k)->Below base w w'->w.grownBy w' (aw A l.length c).ownBlock->(∀b,A'=aC ⟨b,0,aB⟩->A=aC ⟨b,0,aB⟩\/w.heap.size<=b)->wpList zZZ ops Q rest (a.put o.dst (aw A' (l++k).length c')) w') :
  wpList zZZ ops Q (o::rest) a w :=
 wpList_plain hgd fun _ hK=>JS sl x ho hs hown hx hsrc hb hbase fun A' c' w' h1 h2 h3 h4=>hK _ _ (h A' c' w' h1 h2 h3 h4)
theorem KD {E0:Prop} (hgd:o.guard=aB) (sl x:Operand) 
  (ho:o.op= .call { callee:= .builtin .append,args:=#[sl,x],argTypes:=#[44,u] })
  {base c:Nat} {A:ae} {l k:ac} {m:Nat} {xv:Value} (hs:a.eval sl= aw A l.length c) (hown:kN w base A c l) (hx:a.eval x=xv) (hsrc:Src zZZ w u xv m k)
  (hb:l.length+m<=140737488355328) (hbase:base<=w.heap.size)
  (h:∀A' c' w',kN w' base A' c' (l++k)->Below base w w'->w.grownBy w' (aw A l.length c).ownBlock->(∀b,A'=aC ⟨b,0,aB⟩->A=aC ⟨b,0,aB⟩\/w.heap.size<=b)->K (a.put o.dst (aw A' (l++k).length c')) w') :
  if Region.wanted o (yielded ops a.tmps)=true then Oper.wp zZZ o a w K Q else E0:=by
 rw [if_pos (by simp [Region.wanted,hgd])];exact JS sl x ho hs hown hx hsrc hb hbase h
theorem Arr.beside (h:Arr w g e xs) (hg:w.grownBy w' (aw A n c).ownBlock) (hne:A≠aC ⟨g,0,aB⟩) (hA:∀a,A=aC a->a=⟨a.block,0,aB⟩):Arr w' g e xs:=by
 refine(hg.block g h.lt ?_).trans h;cases A with
 | none=>simp [Value.ownBlock]
 | some a =>
  intro he;simp only [Value.ownBlock,Option.some.injEq]at he;apply hne;rw [hA a rfl,he]
theorem kN.addr (h:kN w base A c l):∀a,A=aC a->a=⟨a.block,0,aB⟩:=by
 obtain⟨g,_,_,rfl,_⟩:=h;intro a e;cases e;rfl
def z4v (r:RawP):Value:= .agg #[ax .i64 r.kind,ax .i64 r.a,ax .i64 r.b,az r.text]
def u8 (a:Int):UInt8:=UInt8.ofNat (a % 256).toNat
theorem VN (a:Int):IntKind.u8.wrap a=((u8 a).toNat:Int):=by
 rw [IntKind.wrap_u8,u8,UInt8.toNat_ofNat'];omega
def z0x (r:RawP) (most:Nat):ac:=(r.text.data.toList++ [u8 r.a,u8 r.b]).take most
theorem Ka (r:RawP) (most:Nat):(z0x r most).length<=most:=by rw [z0x,List.length_take];omega
theorem z03 (r:RawP) (most:Nat) (M:Int) (hM:(most:Int)=M) (hmo:most<=1000) (ho:RawOk r) (w:World) :
  Calls zZZ 41 #[z4v r,ax .i64 M] w fun e w'=>∃A c,e= .returned (aw A (z0x r most).length c)/\kN w' w.heap.size A c (z0x r most)/\Below w.heap.size w w':=by
 subst hM;obtain⟨k,a,b,t⟩:=r;have ht:=ho.t;have ua:=VN a;have ub:=VN b;unfold z4v;simp only [z0x];generalize u8 a=x at *
 generalize u8 b=y at *
 dsimp only at ht ⊢
 have hsz:t.data.toList.length=t.size:=by rw [Array.length_toList];rfl
 obtain⟨w1,hw1⟩:=wU (w.alloc (aA #[ax .i64 k,ax .i64 a,ax .i64 b,az t] 85))
 have s1:w1.heap.size=w.heap.size+1:=by rw [hw1,World.size_alloc]
 have hb1:Below w.heap.size w w1:=by rw [hw1];exact(Below.refl _ _).alloc ab _
 have hr:Rd (w1.alloc (aA #[ax .u8 (x.toNat:Int),ax .u8 (y.toNat:Int)] 5)) 1 (aC ⟨w.heap.size+1,0,aB⟩) 2 (bys [x,y]):=by
  have:=Rd.newN (w:=w1) (e:=5) (size:=1) (m:=2) (bys [x,y]) rfl;rw [s1]at this;exact this
 have hb2:Below w.heap.size w (w1.alloc (aA #[ax .u8 (x.toNat:Int),ax .u8 (y.toNat:Int)] 5)):=hb1.alloc wj _;have qs:=xZ (P:=zZZ) (c:=2) (src:=44) (dst:=9) underlying44 underlying5 underlying9 (n:=2) (l:= [x,y]) rfl hr;obtain⟨S,hS⟩:=wU (t++⟨[x,y].toArray⟩:ByteArray)
 have qa:=fun w'=>run_string_add_sum (P:=zZZ) (w:=w') t ⟨[x,y].toArray⟩ (by show t.size+2<=_;omega);have hSl:S.data.toList=t.data.toList++ [x,y]:=by rw [hS,ByteArray.data_append,Array.toList_append]
 have hSs:S.size=t.size+2:=by
  have h:=congrArg List.length hSl;rw [Array.length_toList,List.length_append,hsz]at h;exact h
 rw [<-hS]at qa;rw [<-hSl];obtain⟨E,hE⟩:=wU (S.extract 0 (min ((t.size:Int)+2) (most:Int)).toNat:ByteArray)
 have hEl:S.data.toList.take most=E.data.toList:=by
  have hl:=congrArg List.length hSl;rw [List.length_append,hsz]at hl;rw [hE,ByteArray.data_extract,Array.toList_extract,List.extract_eq_take_drop,List.drop_zero,Nat.sub_zero];rcases Nat.le_total (t.size+2) most with h | h
  ·rw [List.take_of_length_le (by rw [hl];exact h),List.take_of_length_le (by rw [hl];simp only [List.length_cons,List.length_nil];omega)]
  ·congr 1;omega
 have hEs:E.size<=maxLen:=by
  have h:=congrArg List.length hEl;rw [List.length_take]at h;have h2:E.data.toList.length=E.size:=by rw [Array.length_toList];rfl
  simp only [maxLen];omega
 rw [hEl];obtain⟨w3,qz,hz,hb3⟩:=z39 E (w1.alloc (aA #[ax .u8 (x.toNat:Int),ax .u8 (y.toNat:Int)] 5)) hEs;have hz:=hz.lower hb2.size;have hb23:=wg hb2 hb3;generalize grownCap (w1.alloc (aA #[ax .u8 (x.toNat:Int),ax .u8 (y.toNat:Int)] 5)) E.size 0 5=c at qz hz;generalize (w1.alloc (aA #[ax .u8 (x.toNat:Int),ax .u8 (y.toNat:Int)] 5)).heap.size=g at qz hz;generalize E.data.toList=L at qz hz ⊢
 rw [hE]at qz;rw [hw1]at qz qs;clear hr hS hSl hb1 hw1 s1 hE hEl hEs hb2 hb3;go_enter func41,ntmps41;go_wp2_with fail;go_ret;exact⟨_,_,rfl,hz,hb23⟩
attribute [local go_sem ↓] Go.wp_at_zero Go.wp_at_succ
theorem UD {w1:World} (hb:Below W.heap.size W w1):(∀b o,b<W.heap.size->w1.cell? ⟨b,o,none⟩=W.cell? ⟨b,o,none⟩)/\(∀b o,b<W.heap.size->w1.frozen? ⟨b,o,none⟩=W.frozen? ⟨b,o,none⟩) :=
 ⟨fun b o h=>hb.cell (p:=⟨b,o,none⟩) h,fun b o h=>hb.frozen (p:=⟨b,o,none⟩) h⟩
theorem UJ (x:Int) (w:World) (g:Nat) (h:w.cell? ⟨g,0,none⟩=some (.int .u8 x)) (h0:0<=x) (h1:x<256) :
  (convert 44 9 (.slice (some ⟨g,0,none⟩) 1 1)).run Tryz.prog w= .ok (.string ⟨#[UInt8.ofNat x.toNat]⟩) w :=
 run_convert_bytes_back w 44 9 5 ⟨g,0,none⟩ 1 [UInt8.ofNat x.toNat] Tryz.underlying44 Tryz.underlying5 Tryz.underlying9 (fun j hj=>by
  have:j=0:=by simpa using hj
  subst this
  simp only [List.getElem_cons_zero]
  have e:((UInt8.ofNat x.toNat).toNat:Int)=x:=by rw [UInt8.toNat_ofNat'];omega
  rw [e]
  exact h)
theorem ka {md:Region.Mode} {S:World->Prop} {fuel:Nat} {listed:Array Bool} 
  (hK:Shut (∀a w,S w->(S w->wpAnyH P md ops Q S fuel listed a w)->K a w)) {a:Act} {w:World} (hS:S w) (A B:World->Prop) (ha:A w) (hb:B w) (h:∀W,S W->A W->B W->wpAnyH P md ops Q S fuel listed a W):K a w :=
 hK.o _ _ hS (fun h'=>h w h' ha hb)
theorem Rd.drewR (h:Rd w size A n xs):Rd w.drew size A n xs:=h
def VT (c:UInt8):Bool:=decide (33<=c.toNat/\c.toNat<=126)
def k6 (l:ac):Nat:=if l.length<1\/12<l.length then 1 else if l.all VT then 0 else 3
theorem z0f (s:ByteArray) (w:World) (hs:s.size<=140737488351232) :
  Calls Tryz.prog 154 #[az s] w fun e w'=>e= .returned (ax ay (k6 s.data.toList))/\w'=w:=by
 have hsz:s.data.toList.length=s.size:=by rw [Array.length_toList];rfl
 by_cases hbad:s.size<1\/12<s.size
 ·have hfin:k6 s.data.toList=1:=by rw [k6,if_pos wj]
  have HF:=sqH hfin;clear hfin hsz;have hb:s.size<1\/¬s.size<1/\12<s.size:=wj;clear hbad;rcases hb with h1 | ⟨h1,h2⟩
  all_goals
   go_enter func154,ntmps154;go_wp2_with fail;go_ret;rw [HF.o];exact⟨rfl,rfl⟩
 ·have hfin:k6 s.data.toList=if s.data.toList.all VT then 0 else 3:=by rw [k6,if_neg wj]
  have HF:=sqH hfin;have HZ:=sqH hsz;have h1:¬s.size<1:=wj;have h2:¬12<s.size:=wj;have h3:s.size<=12:=wj;have hb12:decide (12<(s.size:Int))=false:=by simp;omega
  clear hfin hsz hbad;go_enter func154,ntmps154;go_wp2_with fail;go_loopg [14] s.size (fun gn i wr=>∃k:Nat,gn=s.size - k/\i= ax ay k/\k<=s.size/\(s.data.toList.take k).all VT=true/\wr=w)
  case atStart=>exact⟨0,rfl,rfl,wj,rfl,rfl⟩
  case round =>
   obtain⟨k,hgk,rfl,hk,hall,rfl⟩:=hrel;have HGK:=sqH hgk;have HA:=sqH hall;clear hgk hall;by_cases hlt:k<s.size
   ·have hta:(s.data.toList.take (k+1)).all VT=(VT s[k]):=by
     have e:s.data.toList.take (k+1)=s.data.toList.take k++ [s[k]]:=by
      rw [List.take_succ_eq_append_getElem (wW HZ)];rfl
     rw [e,List.all_append,HA.o];simp
    have hno:VT s[k]=false->k6 s.data.toList=3:=fun h=>by
     rw [HF.o,if_neg];intro ha;have hm:s[k]∈s.data.toList:=by
      have:s.data.toList[k]'(wW HZ)=s[k]:=rfl;rw [<-this];exact List.getElem_mem _
     have:=List.all_eq_true.1 ha _ hm;rw [h]at this;cases this
    have HTA:=sqH hta;have HNO:=sqH hno;clear hta hno;have hc:=s[k].toNat_lt;have hi0:=wX k
    have hi1:(k:Int)<(s.size:Int):=wj;by_cases hlo:s[k].toNat<=32
    ·have hf:=HNO.o (by simp [VT];omega);have HFF:=sqH hf;have hlo':(s[k].toNat:Int)<=32:=wj
     clear hf;go_wp2_with fail;go_ret;rw [HFF.o];exact⟨rfl,rfl⟩
    ·by_cases hhi:126<s[k].toNat
     ·have hf:=HNO.o (by simp [VT];omega);have HFF:=sqH hf;have hlo':¬(s[k].toNat:Int)<=32:=wj
      have hhi':126<(s[k].toNat:Int):=wj;have hbh:decide (126<(s[k].toNat:Int))=true:=by simpa using hhi'
      clear hf;go_wp2_with fail;go_ret;rw [HFF.o];exact⟨rfl,rfl⟩
     ·have hok:VT s[k]=true:=by simp [VT];omega
      have HOK:=sqH hok;have hlo':¬(s[k].toNat:Int)<=32:=wj;have hhi':¬126<(s[k].toNat:Int):=wj;have hbh:decide (126<(s[k].toNat:Int))=false:=by simpa using hhi'
      clear hok;go_wp2_with fail;go_roundg (s.size - (k+1))
      case measure=>exact wW HGK
      case rel=>exact⟨k+1,rfl,by go_num,wj,by rw [HTA.o,HOK.o],rfl⟩
   ·obtain rfl:k=s.size:=by omega
    go_wp2_with fail;go_ret;rw [HF.o,if_pos (by have:=HA.o;rw [List.take_of_length_le (wW HZ)]at this;exact this)];exact⟨rfl,rfl⟩
def leS (a b:ac):Bool:=Op.bytesLess a b||a==b
def yr:Option (ac)->List PartP->Nat
 | _, []=>0
 | q,p::r=>if k6 p.name≠0 then k6 p.name else if (match q with | some q=>leS p.name q | none=>false) then 6 else if hexC p.dig≠0 then hexC p.dig else if 300<p.size then 4 else yr (aC p.name) r
theorem k5 (q:Option (ac)) (p:PartP) (r:List PartP):yr q (p::r)=if k6 p.name≠0 then k6 p.name else if (match q with | some q=>leS p.name q | none=>false) then 6 else if hexC p.dig≠0 then hexC p.dig else if 300<p.size then 4 else yr (aC p.name) r:=rfl
def chk (l:List PartP):Nat:=if 8<l.length then 1 else yr aB l
def Qn (l:List PartP):Prop:=∀p∈l,p.name.length<=140737488351232/\p.dig.length<=140737488351232/\(p.size:Int)<=9223372036854775807
def QG (l:List PartP) (k:Nat):Option (ac):=match k with | 0=>aB | m+1=>(l[m]?).map (·.name)
theorem xg (A:ae) (n c:Nat) (l:List PartP) (w:World) (hl:l.length=n) (hc:n<=c) (hm:n<=9223372036854775807) (hok:Qn l) (hr:Rd w 3 A n (pcs l)) :
  Calls Tryz.prog 113 #[.slice A n c] w fun e w'=>e= .returned (ax ay (chk l))/\Below w.heap.size w w':=by
 have HOK:=sqH hok;have HL:=sqH hl;by_cases hbig:8<n
 ·have hfin:chk l=1:=by rw [chk,if_pos wj]
  have HF:=sqH hfin;clear hfin hok hl;go_enter func113,ntmps113;go_wp2_with fail;go_ret;rw [HF.o];exact⟨rfl,Below.refl _ _⟩
 have hfin:chk l=yr aB l:=by rw [chk,if_neg wj]
 have HF:=sqH hfin;clear hfin hok hl;go_enter func113,ntmps113;go_wp2_with fail;go_loopg [12] n (fun gn i wr=>∃k:Nat,gn=n - k/\i= ax ay k/\k<=n/\chk l=yr (QG l k) (l.drop k)/\Below w.heap.size w wr)
 case atStart=>exact⟨0,rfl,rfl,wj,HF.o,Below.refl _ _⟩
 case round =>
  clear HF;obtain⟨k,hgk,rfl,hk,hch,hbel⟩:=hrel;have HGK:=sqH hgk;clear hgk;by_cases hlt:k<n
  ·have hkl:k<l.length:=by have:=HL.o;omega
   have hstep:chk l=yr (QG l k) (l[k]::l.drop (k+1)):=by rw [hch,List.drop_eq_getElem_cons hkl]
   have hpn:QG l (k+1)=aC l[k].name:=by simp [QG,hkl]
   obtain⟨b,off,rfl,hbw,hcell⟩:=(hr.below hbel).2 wj;have hat:=fun j (hj:j<3)=>yE l k j hkl hj;have hpok:=HOK.o l[k] (List.getElem_mem hkl);have hprev:0<k->∃q:ac,QG l k=aC q/\wr.cell? ⟨b,off+(k - 1)*3,aB⟩=aC (az ⟨q.toArray⟩):=fun h0=>by
    obtain⟨m,rfl⟩:∃m,k=m+1:=⟨k - 1,wj⟩
    refine⟨l[m].name,by simp [QG,show m<l.length by omega],?_⟩;have:=yE l m 0 wj wj;exact hcell (m*3+0) _ this
   generalize l[k]=p at *
   have c0:=hcell (k*3+0) _ (hat 0 wj);have c1:=hcell (k*3+1) _ (hat 1 wj);have c2:=hcell (k*3+2) _ (hat 2 wj);rw [Nat.add_zero]at c0;rw [show off+(k*3+1)=off+k*3+1 by omega]at c1;rw [show off+(k*3+2)=off+k*3+2 by omega]at c2;obtain⟨pn,pd,psz⟩:=p;dsimp only [yv,List.getElem?_cons_zero,List.getElem?_cons_succ]at c0 c1 c2;obtain⟨HST,HPN,HPK⟩:=sqJ3 hstep hpn hpok;have hsz:=hbel.size;obtain⟨s,hs⟩:=wU (⟨pn.toArray⟩:ByteArray)
   obtain⟨t,ht⟩:=wU (⟨pd.toArray⟩:ByteArray)
   have hsd:s.data.toList=pn:=by rw [hs]
   have htd:t.data.toList=pd:=by rw [ht]
   rw [<-hs]at c0;rw [<-ht]at c1;have hssz:s.size<=140737488351232:=by have:=HPK.o.1;rw [hs];exact this
   have htsz:t.size<=140737488351232:=by have:=HPK.o.2.1;rw [ht];exact this
   have hp0:=HPK.o.2.2;obtain⟨HN,HC,HSD,HTD⟩:=sqJ4 (fun w'=>z0f s w' hssz) (fun w'=>kC t w' htsz) hsd htd;dsimp only at hp0;have hi0:=wX psz
   clear hstep hpn hat hcell hpok hch hs ht hsd htd hr;by_cases hn0:k6 s.data.toList=0
   ·have hnb:((k6 s.data.toList:Int) != 0)=false:=by rw [bne_eq_false_iff_eq];omega
    have hn1:k6 pn=0:=by rw [<-HSD.o];exact hn0
    generalize k6 s.data.toList=nc at *
    have HNC:=sqH hn0;have HN1:=sqH hn1;clear hn0 hn1;by_cases hk0:0<k
    ·obtain⟨q,hq1,hq2⟩:=hprev hk0;have hkb:decide (0<(k:Int))=true:=by simp;omega
     have hm1:IntKind.i64.wrap ((k:Int) - 1)=(k:Int) - 1:=IntWalk.i64_in _ wj;have hm2:((k:Int) - 1).toNat=k - 1:=wj;have hm3:(0:Int)<=(k:Int) - 1:=wj;have hm4:(k:Int) - 1<(n:Int):=wj;have hm5:(1:Int)<=(k:Int):=wj;have hls:leS pn q=(Op.bytesLess s.toList q||s.toList==q):=by rw [leS,<-HSD.o,ByteArray.toList_eq]
     have HQ1:=sqH hq1;have HLS:=sqH hls;clear hprev hq1 hls;go_wp2_with fail;refine(HN.o _).mono ?_;rintro e_ _ ⟨rfl,rfl⟩;dsimp only;go_wp2_with fail;have d1:(wr.alloc (aA #[az s,az t,ax ay psz] 51)).cell? ⟨wr.heap.size,1,aB⟩=aC (az t):=ws;have d0:(wr.alloc (aA #[az s,az t,ax ay psz] 51)).cell? ⟨wr.heap.size,0,aB⟩=aC (az s):=ws;have d2:(wr.alloc (aA #[az s,az t,ax ay psz] 51)).cell? ⟨wr.heap.size,2,aB⟩=aC (ax ay psz):=ws;have hbl:=hbel.alloc hsz (aA #[az s,az t,ax ay psz] 51);have hlt2:wr.heap.size<(wr.alloc (aA #[az s,az t,ax ay psz] 51)).heap.size:=ws;have d3:=(World.cell?_alloc_lt wr (aA #[az s,az t,ax ay psz] 51) ⟨b,off+(k - 1)*3,aB⟩ hbw).trans hq2;generalize wr.alloc (aA #[az s,az t,ax ay psz] 51)=wa at *
     generalize wr.heap.size=gr at *
     clear c0 c1 c2 hbel;clear hq2;go_quiet (fail);generalize (Op.bytesLess s.toList q||s.toList==q)=lb at *
     cases lb
     rotate_left
     ·have hfin:chk l=6:=by rw [HST.o,k5,if_neg (by simpa using HN1.o),HQ1.o];simp only [];rw [if_pos HLS.o]
      have HFIN:=sqH hfin;clear hfin;go_wp2_with fail;go_ret;rw [HFIN.o];exact⟨rfl,zN hbl _⟩
     ·have hnx:chk l=if hexC pd≠0 then hexC pd else if 300<psz then 4 else yr (aC pn) (l.drop (k+1)):=by
       rw [HST.o,k5,if_neg (by simpa using HN1.o),HQ1.o];simp only [];rw [if_neg (by rw [HLS.o];simp)]
      go_wp2_with fail;have HNX:=sqH hnx;clear hnx;have e2:(wa.drewN nq).cell? ⟨gr,2,aB⟩=_:=d2;have hbq:=zN hbl nq;have hlq:gr<(wa.drewN nq).heap.size:=hlt2;by_cases hh0:hexC t.data.toList=0
      ·have hhb:((hexC t.data.toList:Int) != 0)=false:=by rw [bne_eq_false_iff_eq];omega
       have hh1:hexC pd=0:=by rw [<-HTD.o];exact hh0
       have HH1:=sqH hh1;clear hh1;by_cases hbigs:300<psz
       ·have hfin:chk l=4:=by rw [HNX.o,if_neg (by simpa using HH1.o),if_pos hbigs]
        have HFIN:=sqH hfin;have hbi:(300:Int)<(psz:Int):=wj;have hbb:decide ((300:Int)<(psz:Int))=true:=by simpa using hbi
        clear hfin;go_wp2_with fail;refine wV (HC.o _) fun w5 hb5=>?_;dsimp only;have f2:=(hb5.cell (p:=⟨gr,2,aB⟩) hlq).trans e2;have hb6:=wg hbq hb5;go_wp2_with fail;go_ret;rw [HFIN.o];exact⟨rfl,hb6⟩
       ·have hfin:chk l=yr (aC pn) (l.drop (k+1)):=by rw [HNX.o,if_neg (by simpa using HH1.o),if_neg hbigs]
        have HFIN:=sqH hfin;have hbi:¬(300:Int)<(psz:Int):=wj;have hbb:decide ((300:Int)<(psz:Int))=false:=by simpa using hbi
        clear hfin;go_wp2_with fail;refine wV (HC.o _) fun w5 hb5=>?_;dsimp only;have f2:=(hb5.cell (p:=⟨gr,2,aB⟩) hlq).trans e2;have hb6:=wg hbq hb5;go_wp2_with fail;go_roundg (n - (k+1))
        case measure=>exact wW HGK
        case rel=>exact⟨k+1,rfl,by go_num,wj,by rw [HPN.o];exact HFIN.o,hb6⟩
      ·have hhb:((hexC t.data.toList:Int) != 0)=true:=by rw [bne_iff_ne];omega
       have hfin:chk l=hexC t.data.toList:=by rw [HNX.o,HTD.o,if_pos (by rw [<-HTD.o];exact hh0)]
       have HFIN:=sqH hfin;clear hfin;go_wp2_with fail;refine wV (HC.o _) fun w5 hb5=>?_;dsimp only;have hb6:=wg hbq hb5;go_wp2_with fail;go_ret;rw [HFIN.o];exact⟨rfl,hb6⟩
    ·have hkb:decide (0<(k:Int))=false:=by simp;omega
     have hk00:k=0:=wj;have hpv:QG l k=aB:=by rw [hk00];rfl
     have HPV:=sqH hpv;clear hprev hk00 hpv;go_wp2_with fail;refine(HN.o _).mono ?_;rintro e_ _ ⟨rfl,rfl⟩;dsimp only;go_wp2_with fail;have d1:(wr.alloc (aA #[az s,az t,ax ay psz] 51)).cell? ⟨wr.heap.size,1,aB⟩=aC (az t):=ws;have d0:(wr.alloc (aA #[az s,az t,ax ay psz] 51)).cell? ⟨wr.heap.size,0,aB⟩=aC (az s):=ws;have d2:(wr.alloc (aA #[az s,az t,ax ay psz] 51)).cell? ⟨wr.heap.size,2,aB⟩=aC (ax ay psz):=ws;have hbl:=hbel.alloc hsz (aA #[az s,az t,ax ay psz] 51);have hlt2:wr.heap.size<(wr.alloc (aA #[az s,az t,ax ay psz] 51)).heap.size:=ws;generalize wr.alloc (aA #[az s,az t,ax ay psz] 51)=wa at *
     generalize wr.heap.size=gr at *
     clear c0 c1 c2 hbel;go_quiet (fail);go_wp2_with fail;have hnx:chk l=if hexC pd≠0 then hexC pd else if 300<psz then 4 else yr (aC pn) (l.drop (k+1)):=by
      rw [HST.o,k5,if_neg (by simpa using HN1.o),HPV.o];simp only [];rw [if_neg ws]
     have HNX:=sqH hnx;clear hnx;have e2:(wa.drewN nq).cell? ⟨gr,2,aB⟩=_:=d2;have hbq:=zN hbl nq;have hlq:gr<(wa.drewN nq).heap.size:=hlt2;by_cases hh0:hexC t.data.toList=0
     ·have hhb:((hexC t.data.toList:Int) != 0)=false:=by rw [bne_eq_false_iff_eq];omega
      have hh1:hexC pd=0:=by rw [<-HTD.o];exact hh0
      have HH1:=sqH hh1;clear hh1;by_cases hbigs:300<psz
      ·have hfin:chk l=4:=by rw [HNX.o,if_neg (by simpa using HH1.o),if_pos hbigs]
       have HFIN:=sqH hfin;have hbi:(300:Int)<(psz:Int):=wj;have hbb:decide ((300:Int)<(psz:Int))=true:=by simpa using hbi
       clear hfin;go_wp2_with fail;refine wV (HC.o _) fun w5 hb5=>?_;dsimp only;have f2:=(hb5.cell (p:=⟨gr,2,aB⟩) hlq).trans e2;have hb6:=wg hbq hb5;go_wp2_with fail;go_ret;rw [HFIN.o];exact⟨rfl,hb6⟩
      ·have hfin:chk l=yr (aC pn) (l.drop (k+1)):=by rw [HNX.o,if_neg (by simpa using HH1.o),if_neg hbigs]
       have HFIN:=sqH hfin;have hbi:¬(300:Int)<(psz:Int):=wj;have hbb:decide ((300:Int)<(psz:Int))=false:=by simpa using hbi
       clear hfin;go_wp2_with fail;refine wV (HC.o _) fun w5 hb5=>?_;dsimp only;have f2:=(hb5.cell (p:=⟨gr,2,aB⟩) hlq).trans e2;have hb6:=wg hbq hb5;go_wp2_with fail;go_roundg (n - (k+1))
       case measure=>exact wW HGK
       case rel=>exact⟨k+1,rfl,by go_num,wj,by rw [HPN.o];exact HFIN.o,hb6⟩
     ·have hhb:((hexC t.data.toList:Int) != 0)=true:=by rw [bne_iff_ne];omega
      have hfin:chk l=hexC t.data.toList:=by rw [HNX.o,HTD.o,if_pos (by rw [<-HTD.o];exact hh0)]
      have HFIN:=sqH hfin;clear hfin;go_wp2_with fail;refine wV (HC.o _) fun w5 hb5=>?_;dsimp only;have hb6:=wg hbq hb5;go_wp2_with fail;go_ret;rw [HFIN.o];exact⟨rfl,hb6⟩
   ·have hnb:((k6 s.data.toList:Int) != 0)=true:=by rw [bne_iff_ne];omega
    have hfin:chk l=k6 s.data.toList:=by rw [HST.o,k5,HSD.o,if_pos (by rw [<-HSD.o];exact hn0)]
    have HFIN:=sqH hfin;clear hfin hn0;go_wp2_with fail;refine(HN.o _).mono ?_;rintro e_ _ ⟨rfl,rfl⟩;dsimp only;go_wp2_with fail;go_ret;rw [HFIN.o];exact⟨rfl,hbel.alloc hsz _⟩
  ·obtain rfl:k=n:=by omega
   rw [List.drop_of_length_le (wW HL),yr]at hch;have HCH:=sqH hch;clear hch;go_wp2_with fail;go_ret;rw [HCH.o];exact⟨rfl,hbel⟩
def xM (p:PartP):ac:=txt p.name++(xJ p.dig).1++num p.size
def enc (l:List PartP):ac:= [65,77,49]++num l.length++l.flatMap xM
def z2k (W:World) (base:Nat) (v:Value) (X:ac):Prop :=
 W.ownsRow base 5 1 v X.length (bys X)\/(∃g,v= aw (aC ⟨g,0,aB⟩) X.length X.length/\Rd W 1 (aC ⟨g,0,aB⟩) X.length (bys X))
theorem z2k.below {W':World} (h:z2k W base v X) (hb:Below W.heap.size W W'):z2k W' base v X :=
 h.imp (fun h=>zc h hb) (fun ⟨g,e,h⟩=>⟨g,e,h.below hb⟩)
theorem z2k.lt (h:z2k W base v X) (h0:0<X.length):∀k,v.ownBlock=aC k->k<W.heap.size:=fun k hk=>by
 rcases h with h | ⟨g,rfl,hr⟩
 ·exact(h.lt k hk).2
 ·obtain⟨b,off,e,hb,_⟩:=hr.2 h0
  injection hk with hk;injection e with e;injection e with e1
  simp only at hk
  omega
theorem Jo:∀(l r:ac),xe l=aC r->l.length=2*r.length:=fun l r h=>by
 have:=ZL l r h
 rw [<-this,yj]
theorem ZK {d:ac} (h:hexC d=0):(xJ d).2=0/\(xJ d).1.length=32:=by
 unfold hexC at h;by_cases h64:d.length=64
 ·rw [if_neg wj]at h;refine⟨h,?_⟩;unfold xJ at h ⊢
  rw [if_neg wj,if_neg wj]at h ⊢
  cases hu:xe d with
  | none=>rw [hu]at h;cases h
  | some r=>have:=Jo d r hu;simp only [];omega
 ·rw [if_pos h64]at h;cases h
theorem xQ {s:ac} (h:k6 s=0):1<=s.length/\s.length<=12:=by
 unfold k6 at h;by_cases hb:s.length<1\/12<s.length
 ·rw [if_pos hb]at h;cases h
 ·omega
theorem uY:∀(l:List PartP) (q:Option (ac)),yr q l=0->∀p∈l,k6 p.name=0/\hexC p.dig=0/\p.size<=300
 | [],_,_,p,hp=>by cases hp
 | x::l,q,h,p,hp=>by
  rw [k5]at h
  by_cases h1:k6 x.name=0
  ·rw [if_neg (fun e=>e h1)]at h
   have key:∀bb:Bool,(if bb=true then 6 else if hexC x.dig≠0 then hexC x.dig else if 300<x.size then 4 else yr (aC x.name) l)=0->k6 p.name=0/\hexC p.dig=0/\p.size<=300:=fun bb h=>by
    cases bb with
    | true=>rw [if_pos rfl]at h;exact absurd h wo
    | false =>
     rw [if_neg wo]at h
     by_cases h2:hexC x.dig=0
     ·rw [if_neg (fun e=>e h2)]at h
      by_cases h3:300<x.size
      ·rw [if_pos h3]at h;exact absurd h wo
      ·rw [if_neg h3]at h
       rcases List.mem_cons.1 hp with rfl | hp
       ·exact⟨h1,h2,wj⟩
       ·exact uY l _ h p hp
     ·rw [if_pos h2]at h;exact absurd h h2
   exact key _ h
  ·rw [if_pos h1]at h;exact absurd h h1
theorem zk {l:List PartP} (h:chk l=0):l.length<=8/\∀p∈l,k6 p.name=0/\hexC p.dig=0/\p.size<=300:=by
 unfold chk at h;by_cases hb:8<l.length
 ·rw [if_pos hb]at h;cases h
 ·rw [if_neg hb]at h;exact⟨wj,uY l aB h⟩
theorem UM (h:k6 p.name=0/\hexC p.dig=0/\p.size<=300):1<=(txt p.name).length/\(txt p.name).length<=14/\1<=(num p.size).length/\(num p.size).length<=2/\(xM p).length<=48:=by
 have h1:=xQ h.1;have h2:=z21 p.name wj;have h3:=ZK h.2.1;have h4:=Vd p.size 1 wj;simp only [xM,List.length_append];omega
theorem jS (l:List PartP) (h:∀p∈l,k6 p.name=0/\hexC p.dig=0/\p.size<=300):(l.flatMap xM).length<=48*l.length:=by
 induction l with
 | nil=>simp
 | cons x l ih =>
  have h1:=(UM (h x ws)).2.2.2.2;have h2:=ih (fun p hp=>h p (by simp [hp]));simp only [List.flatMap_cons,List.length_append,List.length_cons];omega
theorem Ye {q:Option (ac)} {r:List PartP} (h1:k6 p.name=0) (h2:∀n,q=aC n->leS p.name n=false) (h3:hexC p.dig=0) (h4:p.size<=300):yr q (p::r)=yr (aC p.name) r:=by
 rw [k5,if_neg (fun e=>e h1)];cases q with
 | none=>simp only [];rw [if_neg wo,if_neg (fun e=>e h3),if_neg wj]
 | some n=>simp only [h2 n rfl];rw [if_neg wo,if_neg (fun e=>e h3),if_neg wj]
theorem XC (l:List PartP) (h:l.length<=8):enc l= [65,77,49,UInt8.ofNat l.length]++l.flatMap xM:=by
 rw [enc,kh wj];simp
theorem j7 (l:List PartP) (h:l.length<=8):(enc l).length=4+(l.flatMap xM).length:=by rw [XC l h];simp;omega
def keyS (k:Nat):ac:=shaS [107,UInt8.ofNat k]
theorem YZ (n:Int) (w:World) (h0: -9223372036854775808<=n) (h1:n<=9223372036854775807) :
  Calls zZZ 28 #[ax ay n] w fun e w'=>e= .returned (az ⟨(keyS (pk n 7)).toArray⟩)/\Below w.heap.size w w':=by
 have HP:=sqH (fun w'=>q8 n 7 7 rfl w' h0 h1 wj wj);have hk:=yw n (m:=7) wj;generalize pk n 7=k at *
 obtain⟨b,hb⟩:=wU (UInt8.ofNat k)
 have hw:IntKind.u8.wrap (k:Int)=(b.toNat:Int):=by rw [hb,IntKind.wrap_u8,UInt8.toNat_ofNat'];omega
 have HK:=sqH (show keyS k=shaS [107,b] from by rw [keyS,hb]);have hr:Rd (w.alloc (aA #[ax .u8 107,ax .u8 (b.toNat:Int)] 5)) 1 (aC ⟨w.heap.size,0,aB⟩) 2 (bys [107,b]):=Rd.newN (w:=w) (e:=5) (size:=1) (m:=2) (bys [107,b]) rfl;have hb1:=wi w (aA #[ax .u8 107,ax .u8 (b.toNat:Int)] 5);have HD:=sqH (kP (aC ⟨w.heap.size,0,aB⟩) 2 2 [107,b] _ rfl wj wj hr);clear hb hr;go_enter func28,ntmps28;go_wp2_with fail;refine(HP.o _).mono ?_;rintro e_ _ ⟨rfl,rfl⟩;dsimp only;go_wp2_with fail;refine wV HD.o fun w2 hb2=>?_;dsimp only;go_wp2_with fail;go_ret;rw [HK.o];exact⟨rfl,wg hb1 hb2⟩
structure FlP where
 key:ac
 lead:Int
 wait:List Int
def qN (p:FlP) (A:ae) (c:Nat):af:= [az ⟨p.key.toArray⟩,ax ay p.lead,aw A p.wait.length c]
def ins (l:List Int):af:=l.map (ax ay ·)
def Fls (w:World) (A:ae) (fs:List FlP):Prop :=
 ∃(As:List (ae×Nat)),As.length=fs.length/\Rd w 3 A fs.length ((fs.zip As).flatMap fun x=>qN x.1 x.2.1 x.2.2) /\
  ∀(k:Nat) (p:FlP) (a:ae×Nat),fs[k]?=aC p->As[k]?=aC a->Rd w 1 a.1 p.wait.length (ins p.wait)/\p.wait.length<=a.2/\a.2<=maxLen
theorem Fls.below {fs:List FlP} (h:Fls w A fs) (hb:Below w.heap.size w w'):Fls w' A fs:=by
 obtain⟨As,h1,h2,h3⟩:=h;exact⟨As,h1,h2.below hb,fun k p a hp ha=>⟨(h3 k p a hp ha).1.below hb,(h3 k p a hp ha).2⟩⟩
theorem ui:∀(fs:List FlP) (As:List (ae×Nat)) (k j:Nat) (p:FlP) (a:ae×Nat),fs[k]?=aC p->As[k]?=aC a->j<3 ->
  ((fs.zip As).flatMap fun x=>qN x.1 x.2.1 x.2.2)[k*3+j]?=(qN p a.1 a.2)[j]?
 | f::fs,a'::As,0,j,p,a,hp,ha,hj=>by
  simp only [List.getElem?_cons_zero,Option.some.injEq]at hp ha
  subst hp ha
  rw [List.zip_cons_cons,List.flatMap_cons,Nat.zero_mul,Nat.zero_add,List.getElem?_append_left (by simpa [qN] using hj)]
 | f::fs,a'::As,k+1,j,p,a,hp,ha,hj=>by
  rw [List.zip_cons_cons,List.flatMap_cons,List.getElem?_append_right (by simp [qN];omega)]
  rw [show(k+1)*3+j - (qN f a'.1 a'.2).length=k*3+j by simp [qN];omega]
  exact ui fs As k j p a (by simpa using hp) (by simpa using ha) hj
theorem Fls.at_ {fs:List FlP} (h:Fls w A fs) (k:Nat) (hk:k<fs.length) :
  ∃b off B c,A=aC ⟨b,off,aB⟩/\b<w.heap.size/\w.cell? ⟨b,off+k*3,aB⟩=aC (az ⟨fs[k].key.toArray⟩)/\w.cell? ⟨b,off+k*3+1,aB⟩=aC (ax ay fs[k].lead) /\
   w.cell? ⟨b,off+k*3+2,aB⟩=aC (aw B fs[k].wait.length c)/\Rd w 1 B fs[k].wait.length (ins fs[k].wait)/\fs[k].wait.length<=c/\c<=maxLen:=by
 obtain⟨As,h1,h2,h3⟩:=h;obtain⟨b,off,rfl,hb,hc⟩:=h2.2 wj;have hp:fs[k]?=aC fs[k]:=List.getElem?_eq_getElem hk;have hka:k<As.length:=wj;have ha:As[k]?=aC As[k]:=List.getElem?_eq_getElem hka;have hat:=fun j hj=>ui fs As k j fs[k] As[k] hp ha hj;obtain⟨h4,h5,h6⟩:=h3 k _ _ hp ha;have c0:=hc (k*3+0) _ ((hat 0 wj).trans rfl);have c1:=hc (k*3+1) _ ((hat 1 wj).trans rfl);have c2:=hc (k*3+2) _ ((hat 2 wj).trans rfl);refine⟨b,off,As[k].1,As[k].2,rfl,hb,c0,?_,?_,h4,h5,h6⟩
 ·rw [<-c1];congr 2
 ·rw [<-c2];congr 2
def xU (l:List BlobP) (r:RawP) (i:Nat):PartP :=
 let b:=(l[pk (IntKind.i64.wrap (r.b+7*(i:Int))) l.length]?).getD ⟨[], [],0,false⟩
 ⟨[112,UInt8.ofNat (97+i)],b.dig,b.data.length⟩
def zX (l:List BlobP) (r:RawP):List PartP:=if l.length=0 then [] else (List.range (pk r.a 4)).map (xU l r)
structure AccP where
 aE:List BlobP
 aF:List EntP
 used:Nat
 aG:Nat
def jo (bl:List BlobP) (r:RawP):ac:=if pk r.kind 6=3 then enc (zX bl r) else z0x r 40
def z3u (bl:List BlobP) (r:RawP):BlobP:=⟨shaS (jo bl r),jo bl r,pk r.b 5 - 3,false⟩
def z4w (bl:List BlobP) (c:Nat) (r:RawP):EntP:=⟨keyS (pk r.a 7),zX bl r,pk r.b 5 - 3,c⟩
def JO (s:AccP) (r:RawP):AccP :=
 if pk r.kind 6<4 then
  if s.aE.any (fun b=>b.dig==shaS (jo s.aE r)) then s else { s with aE:=s.aE++ [z3u s.aE r],used:=s.used+(jo s.aE r).length }
 else
  if s.aF.any (fun x=>x.key==keyS (pk r.a 7)) then { s with aG:=s.aG+pk r.b 3 } else { s with aG:=s.aG+pk r.b 3,aF:=s.aF++ [z4w s.aE (s.aG+pk r.b 3) r] }
def usd (l:List BlobP):Nat:=(l.map (·.data.length)).sum
theorem QP (l m:List BlobP):usd (l++m)=usd l+usd m:=by simp [usd]
theorem Jr {l m:List BlobP} (h:l.Perm m):usd l=usd m:=(h.map _).sum_nat
def Have (l:List BlobP) (ps:List PartP):Prop:=∀p∈ps,∃b∈l,b.dig=p.dig/\b.data.length=p.size
def GoodB1 (b:BlobP):Prop:=b.dig=shaS b.data/\b.data.length<=300/\b.aM<=5
structure GoodB (l:List BlobP):Prop where
 len:l.length<=24
 one:∀b∈l,GoodB1 b
 ris:RisesBy (·.dig) l
def GoodE1 (x:EntP):Prop:=hexC x.key=0/\chk x.aL=0/\x.aM<=5/\x.aK<=1099511627776
structure GoodE (l:List EntP):Prop where
 len:l.length<=10
 one:∀x∈l,GoodE1 x
 ris:RisesBy (·.key) l
structure GoodS (s:StoP):Prop where
 b:GoodB s.aE
 e:GoodE s.aF
 aH:s.aH<=4000
 used:usd s.aE<=s.aH
 aG:s.aG<=1099511627776
 ent:∀x∈s.aF,x.aK<=s.aG/\Have s.aE x.aL
theorem Have.mono {l m:List BlobP} {ps:List PartP} (h:Have l ps) (hm:∀b∈l,b∈m):Have m ps:=fun p hp=>by
 obtain⟨b,hb,h2⟩:=h p hp
 exact⟨b,hm b hb,h2⟩
theorem uw (l:List BlobP) (r:RawP):(zX l r).length<=3:=by
 have:=yw r.a (m:=4) wj;rw [zX];split
 ·simp
 ·simp;omega
theorem Vk {l:List BlobP} {r:RawP} {i:Nat} (h:l.length≠0):∃b∈l,(xU l r i).dig=b.dig/\(xU l r i).size=b.data.length:=by
 have h1:=yw (IntKind.i64.wrap (r.b+7*(i:Int))) (m:=l.length) wj;refine⟨l[pk (IntKind.i64.wrap (r.b+7*(i:Int))) l.length],List.getElem_mem h1,?_⟩;simp only [xU,List.getElem?_eq_getElem h1,Option.getD_some,and_self]
theorem Jf (l:List BlobP) (r:RawP):Have l (zX l r):=fun p hp=>by
 rw [zX]at hp
 split at hp
 ·cases hp
 ·rename_i h0
  obtain⟨i,_,rfl⟩:=List.mem_map.1 hp
  obtain⟨b,hb,h1,h2⟩:=Vk (r:=r) (i:=i) h0
  exact⟨b,hb,h1.symm,h2.symm⟩
theorem z4u:∀i,i<3->k6 [112,UInt8.ofNat (97+i)]=0:=by decide
theorem ple:∀i j,i<3->j<i->leS [112,UInt8.ofNat (97+i)] [112,UInt8.ofNat (97+j)]=false:=by
 have key:∀i j:Fin 3,j.val<i.val->leS [112,UInt8.ofNat (97+i.val)] [112,UInt8.ofNat (97+j.val)]=false:=by decide +kernel
 exact fun i j h h'=>key ⟨i,h⟩ ⟨j,wj⟩ h'
theorem K7 (f:Nat->PartP) (hn:∀i,(f i).name= [112,UInt8.ofNat (97+i)]) (hf:∀i,hexC (f i).dig=0/\(f i).size<=300):∀(n i:Nat) (q:Option (ac)),i+n<=3->(q=aB\/∃j,j<i/\q=aC [112,UInt8.ofNat (97+j)])->yr q ((List.range' i n).map f)=0
 | 0,_,q,_,_=>by cases q<;>rfl
 | n+1,i,q,hi,hq=>by
  rw [List.range'_succ,List.map_cons,Ye (by rw [hn];exact z4u i wj) (fun m hm=> ?_) (hf i).1 (hf i).2]
  ·exact K7 f hn hf n (i+1) _ wj (.inr ⟨i,wj,by rw [hn]⟩)
  ·rcases hq with h | ⟨j,hj,h⟩
   ·rw [h]at hm;cases hm
   ·rw [h]at hm;cases hm;rw [hn];exact ple i j wj hj
theorem vW {l:List BlobP} (h:∀b∈l,hexC b.dig=0/\b.data.length<=300) (r:RawP):chk (zX l r)=0:=by
 have h3:=uw l r;have h4:=yw r.a (m:=4) wj;rw [chk,if_neg wj,zX];split
 ·rfl
 ·rename_i h0;rw [List.range_eq_range'];refine K7 _ (fun i=>rfl) (fun i=> ?_) _ 0 aB wj (.inl rfl);obtain⟨b,hb,e1,e2⟩:=Vk (l:=l) (r:=r) (i:=i) h0;rw [e1,e2];exact h b hb
structure AccOk (k:Nat) (s:AccP):Prop where
 blen:s.aE.length<=k
 bnd:(s.aE.map (·.dig)).Nodup
 bone:∀b∈s.aE,b.dig=shaS b.data/\b.data.length<=148/\b.aM<=1/\b.mark=false
 used:s.used=usd s.aE
 usedk:s.used<=148*k
 elen:s.aF.length<=k
 end_:(s.aF.map (·.key)).Nodup
 eone:∀x∈s.aF,(∃j,j<7/\x.key=keyS j)/\chk x.aL=0/\x.aL.length<=3/\x.aM<=1/\x.aK<=s.aG/\Have s.aE x.aL
 aG:s.aG<=2*k
theorem AccOk.hex {s:AccP} (h:AccOk k s):∀b∈s.aE,hexC b.dig=0/\b.data.length<=300:=fun b hb=>by
 obtain⟨h1,h2,_⟩:=h.bone b hb
 exact⟨by rw [h1];exact zq _,wj⟩
theorem Yv {s:AccP} (h:AccOk k s) (r:RawP):(jo s.aE r).length<=148:=by
 rw [jo];split
 ·have h3:=uw s.aE r;have hz:=zk (vW h.hex r);rw [j7 _ hz.1];have:=jS _ hz.2;omega
 ·have:=Ka r 40;omega
theorem Vb {l:List α} {x:ac} (h:¬(l.any fun b=>f b==x)=true):∀b∈l,f b≠x:=fun b hb e=>h (List.any_eq_true.2 ⟨b,hb,by simp [e]⟩)
theorem ja {l:List α} {x:α} (h:(l.map f).Nodup) (hx:∀b∈l,f b≠f x):((l++ [x]).map f).Nodup:=by
 rw [List.map_append,List.nodup_append];refine⟨h,ws,fun a ha b hb=> ?_⟩;obtain⟨y,hy,rfl⟩:=List.mem_map.1 ha;simp only [List.map_cons,List.map_nil,List.mem_singleton]at hb;subst hb;exact hx y hy
theorem AccOk.step {s:AccP} (h:AccOk k s) (r:RawP):AccOk (k+1) (JO s r):=by
 have hb5:=yw r.b (m:=5) wj;have hb3:=yw r.b (m:=3) wj;have hl:=Yv h r;rw [JO];split
 ·split
  ·exact⟨by have:=h.blen;omega,h.bnd,h.bone,h.used,by have:=h.usedk;omega,by have:=h.elen;omega,h.end_,h.eone,by have:=h.aG;omega⟩
  ·rename_i hn;refine⟨by rw [List.length_append];have:=h.blen;simp;omega,ja h.bnd (Vb hn),fun b hb=> ?_,?_,?_,by have:=h.elen;show s.aF.length<=k+1;omega,h.end_,fun x hx=> ?_,by have:=h.aG;show s.aG<=_;omega⟩
   ·rcases List.mem_append.1 hb with h1 | h1
    ·exact h.bone b h1
    ·have:=List.mem_singleton.1 h1;subst this;exact⟨rfl,hl,by show pk r.b 5 - 3<=1;omega,rfl⟩
   ·rw [QP];show s.used+_=_;rw [h.used];rfl
   ·show s.used+_<=_;have:=h.usedk;omega
   ·obtain⟨h1,h2,h3,h4,h5,h6⟩:=h.eone x hx;exact⟨h1,h2,h3,h4,h5,h6.mono fun b hb=>List.mem_append_left _ hb⟩
 ·split
  ·refine⟨by have:=h.blen;show s.aE.length<=_;omega,h.bnd,h.bone,h.used,by have:=h.usedk;show s.used<=_;omega,by have:=h.elen;show s.aF.length<=_;omega,h.end_,fun x hx=> ?_,by have:=h.aG;show s.aG+pk r.b 3<=_;omega⟩;obtain⟨h1,h2,h3,h4,h5,h6⟩:=h.eone x hx;exact⟨h1,h2,h3,h4,by show x.aK<=s.aG+pk r.b 3;omega,h6⟩
  ·rename_i hn;refine⟨by have:=h.blen;show s.aE.length<=_;omega,h.bnd,h.bone,h.used,by have:=h.usedk;show s.used<=_;omega,by rw [List.length_append];have:=h.elen;simp;omega,ja h.end_ (Vb hn),fun x hx=> ?_,by have:=h.aG;show s.aG+pk r.b 3<=_;omega⟩;rcases List.mem_append.1 hx with h1 | h1
   ·obtain⟨h1,h2,h3,h4,h5,h6⟩:=h.eone x h1;exact⟨h1,h2,h3,h4,by show x.aK<=s.aG+pk r.b 3;omega,h6⟩
   ·have:=List.mem_singleton.1 h1;subst this;exact⟨⟨_,yw _ wj,rfl⟩,vW h.hex r,uw _ _,by show pk r.b 5 - 3<=1;omega,Nat.le_refl _,Jf _ _⟩
theorem AccOk.nil_:AccOk 0 ⟨[], [],0,0⟩:=⟨ws,ws,ws,rfl,ws,ws,ws,ws,ws⟩
theorem AccOk.mono {s:AccP} (h:AccOk k s) (hk:k<=m):AccOk m s:=⟨by have:=h.blen;omega,h.bnd,h.bone,h.used,by have:=h.usedk;omega,by have:=h.elen;omega,h.end_,h.eone,by have:=h.aG;omega⟩
theorem ZQ {α:Type} [DecidableEq α]:∀(l m:List α),l.Nodup->(∀x∈l,x∈m)->l.length<=m.length
 | [],m,_,_=>by simp
 | x::l,m,h,hm=>by
  have h1:=List.nodup_cons.1 h
  have hx:=hm x ws
  have:=ZQ l (m.erase x) h1.2 fun y hy=>(List.mem_erase_of_ne (by rintro rfl;exact h1.1 hy)).2 (hm y (by simp [hy]))
  rw [List.length_erase_of_mem hx]at this
  have h0:0<m.length:=List.length_pos_of_mem hx
  rw [List.length_cons];omega
theorem Yj {ks:List ac} (h:ks.Nodup) (hk:∀k∈ks,∃j,j<7/\k=keyS j):ks.length<=7:=by
 have:=ZQ ks ((List.range 7).map keyS) h fun k hk'=>by
  obtain⟨j,hj,rfl⟩:=hk k hk';exact List.mem_map.2 ⟨j,List.mem_range.2 hj,rfl⟩
 simpa using this
theorem Jt (l:List BlobP) (j:Nat) (hj:j<l.length):usd (l.take (j+1))=usd (l.take j)+l[j].data.length:=by
 rw [List.take_succ_eq_append_getElem hj,QP];simp [usd]
theorem Ju (l:List BlobP) (j:Nat):usd (l.take j)<=usd l:=by
 have h:usd l=usd (l.take j)+usd (l.drop j):=by rw [<-QP,List.take_append_drop]
 omega
theorem Qr (A:ae) (c:Nat) (l:List BlobP) (w:World) (hl:l.length<=1000000) (hu:usd l<=1000000000) (hA:Rw BlobS w A l) :
  Calls zZZ 26 #[aw A l.length c] w fun e w'=>e= .returned (ax ay (usd l:Int))/\Below w.heap.size w w':=by
 generalize hR:usd l=R;have HR:=sqH hR;clear hR;go_enter func26,ntmps26;go_wp2_with fail;go_loopg [3,8] l.length (fun gn u i wr=>∃j:Nat,gn=l.length - j/\i= ax ay j/\j<=l.length/\u= ax ay ((usd (l.take j):Nat):Int)/\Below w.heap.size w wr)
 case atStart=>exact⟨0,rfl,rfl,wj,rfl,Below.refl _ _⟩
 case round =>
  obtain⟨j,hgk,rfl,hj,rfl,hbl⟩:=hrel;have HGK:=sqH hgk;clear hgk;by_cases hlt:j<l.length
  ·have hcc:decide (j<l.length)=true:=decide_eq_true hlt;obtain⟨b,off,B,cb,rfl,hbb,c0,c1,c2,c3,hs⟩:=(hA.below hbl).blob_at j hlt;have hj0:=wX j
   have hj1:(j:Int)<(l.length:Int):=wj;have hst:=Jt l j hlt;have hle:=Ju l (j+1);have hle2:usd (l.take j)+l[j].data.length<=1000000000:=wj;have HST:=sqH hst;clear hst hle hs;have hb1:=wi wr (aA #[az ⟨l[j].dig.toArray⟩,aw B l[j].data.length cb,ax ay (l[j].aM:Int),.bool l[j].mark] 88);have hb2:=wg hbl hb1;generalize l[j].data.length=d at *
   generalize usd (l.take j)=u at *
   generalize l[j]=x at *
   clear hb1;go_wp2_with fail;go_roundg (l.length - (j+1))
   case measure=>exact wW HGK
   case rel=>exact⟨j+1,rfl,by go_num,wj,by rw [HST.o];go_num,hb2⟩
  ·obtain rfl:j=l.length:=by omega
   have hcc:decide (l.length<l.length)=false:=ws;rw [List.take_length,HR.o];go_wp2_with fail;go_ret;exact⟨rfl,hbl⟩
theorem vy (A:ae) (c:Nat) (l:List BlobP) (rm more:Nat) (w:World) (hl:l.length<=1000000) (hu:usd l<=1000000000) (hrm:rm<=4000) (hmo:more<=4000) (hA:Rw BlobS w A l) :
  Calls zZZ 144 #[aw A l.length c,ax ay rm,ax ay more] w fun e w'=>e= .returned (.tuple #[ax ay ((usd l+more - rm:Nat):Int),ax ay 0])/\Below w.heap.size w w':=by
 have HU:=sqH (Qr A c l w hl hu hA);have g1:decide ((rm:Int)<0)=false:=decide_eq_false wj;have g2:decide ((rm:Int)>4000)=false:=decide_eq_false wj;have g3:decide ((4000:Int)<(rm:Int))=false:=decide_eq_false wj;have g4:decide ((more:Int)<0)=false:=decide_eq_false wj;have g5:decide ((more:Int)>4000)=false:=decide_eq_false wj;have g6:decide ((4000:Int)<(more:Int))=false:=decide_eq_false wj;clear hA;generalize hR:usd l=R at *
 have hmx:max (0:Int) ((R:Int)+(more:Int) - (rm:Int))=((R+more - rm:Nat):Int):=wj;have HMX:=sqH hmx;clear hR hmx;go_enter func144,ntmps144;go_wp2_with fail;refine wV HU.o fun w1 hb1=>?_;dsimp only;go_wp2_with fail;go_ret2;rw [<-HMX.o];exact⟨rfl,hb1⟩
theorem Qg (A:ae) (c:Nat) (l:List BlobP) (rm more:Nat) (w:World) (hl:l.length<=1000000) (hu:usd l<=1000000000) (hrm:rm<=4000) (hmo:more<=4000) (hA:Rw BlobS w A l) :
  Calls zZZ 98 #[aw A l.length c,ax ay rm,ax ay more] w fun e w'=>e= .returned (ax ay (if usd l+more<=rm then 0 else 7))/\Below w.heap.size w w':=by
 have HU:=sqH (vy A c l rm more w hl hu hrm hmo hA);clear hA;generalize hR:usd l=R at *
 by_cases h:R+more<=rm
 ·have HI:=sqH (show(if R+more<=rm then (0:Int) else 7)=0 from if_pos h);have hz:R+more - rm=0:=wj
  rw [hz]at HU;clear hR hz h;go_enter func98,ntmps98;go_wp2_with fail;refine wV HU.o fun w1 hb1=>?_;dsimp only
  refine wH ?_;intros;go_ret;rw [HI.o];exact⟨rfl,hb1⟩
 ·have HI:=sqH (show(if R+more<=rm then (0:Int) else 7)=7 from if_neg h);obtain⟨z,hz⟩:=wU (R+more - rm)
  have hz0:0<z:=wj;have g1:decide ((z:Int)>0)=true:=decide_eq_true wj;have g2:decide ((0:Int)<(z:Int))=true:=decide_eq_true wj;have g3:decide (0<z)=true:=decide_eq_true hz0;rw [<-hz]at HU;clear hR hz h;go_enter func98,ntmps98;go_wp2_with fail;refine wV HU.o fun w1 hb1=>?_;dsimp only
  refine wH ?_;intros;go_ret;rw [HI.o];exact⟨rfl,hb1⟩
theorem Uo (A:ae) (c:Nat) (l:List BlobP) (r:RawP) (w:World) (hl:l.length<=1000000) (hc:l.length<=c) (hm:c<=maxLen) (hd:∀b∈l,b.data.length<=1000000) (hA:Rw BlobS w A l) (hr:RawOk r) :
  Calls zZZ 43 #[aw A l.length c,.agg #[ax ay r.kind,ax ay r.a,ax ay r.b,az r.text]] w fun e w'=>∃v,e= .returned v/\w'.ownsRow w.heap.size 51 3 v (zX l r).length (pcs (zX l r))/\Below w.heap.size w w':=by
 obtain⟨HR,HD,HC,HPA⟩:=sqJ4 hr hd (And.intro hc hm) (fun w'=>q8 r.a 4 4 rfl w' hr.a0 hr.a1 wj wj);have hp4:=yw r.a (m:=4) wj;generalize hPT:zX l r=PT;have HPT:=sqH (show PT=if l.length=0 then [] else (List.range (pk r.a 4)).map (xU l r) from hPT.symm);obtain⟨m,hmm⟩:=wU (pk r.a 4)
 rw [<-hmm]at hp4 HPA HPT;obtain⟨rk,ra,rb,rt⟩:=r;have hX:=Arr.new w 85 [ax ay rk,ax ay ra,ax ay rb,az rt];have hb1:=wi w (aA #[ax ay rk,ax ay ra,ax ay rb,az rt] 85);have hX':Arr (w.alloc (aA #[ax ay rk,ax ay ra,ax ay rb,az rt] 85)) w.heap.size 85 [ax ay rk,ax ay ra,ax ay rb,az rt]:=hX;have x1:=hX'.c1;clear hX hd hr hc hm hmm hPT;go_enter func43,ntmps43;go_wp2_with fail;have hs1:(w.alloc (aA #[ax ay rk,ax ay ra,ax ay rb,az rt] 85)).heap.size=w.heap.size+1:=World.size_alloc _ _;generalize w.alloc (aA #[ax ay rk,ax ay ra,ax ay rb,az rt] 85)=w1 at *
 have HS1:=sqH hs1;clear x1 hs1;refine wV (HPA.o _) fun w2 hw2=>?_;dsimp only;subst hw2;go_wp2_with fail;rcases Nat.eq_zero_or_pos l.length with h0 | h0
 ·have HZ:=sqH (show PT= [] by rw [HPT.o,if_pos h0]);have h0b:decide (((l.length:Nat):Int)>0)=false:=decide_eq_false wj;have h0c:decide ((0:Int)<((l.length:Nat):Int))=false:=decide_eq_false wj;have h0d:decide (0<l.length)=false:=decide_eq_false wj;go_loopg [5,11] m (fun gn v i wr=>∃k:Nat,gn=m - k/\i= ax ay k/\k<=m/\v= aw aB 0 0/\wr=w1)
  case atStart=>exact⟨0,rfl,rfl,wj,rfl,rfl⟩
  case round =>
   obtain⟨k,hgk,rfl,hk,rfl,rfl⟩:=hrel;have HGK:=sqH hgk;clear hgk;by_cases hlt:k<m
   ·have hcc:decide (k<m)=true:=decide_eq_true hlt;go_wp2_with fail;go_roundg (m - (k+1))
    case measure=>exact wW HGK
    case rel=>exact⟨k+1,rfl,by go_num,wj,rfl,rfl⟩
   ·obtain rfl:k=m:=by omega
    have hcc:decide (k<k)=false:=ws;go_wp2_with fail;go_ret;rw [HZ.o];exact⟨_,rfl,World.ownsRow_nil _ _ _ _,hb1⟩
 ·obtain⟨HZ,HX,HA⟩:=sqJ3 (show PT=(List.range m).map (xU l ⟨rk,ra,rb,rt⟩) by rw [HPT.o,if_neg wj]) hX' hA;clear hX' hA HPT;go_loopg [5,11] m (fun gn v i wr=>∃k:Nat,gn=m - k/\i= ax ay k/\k<=m/\wr.ownsRow w1.heap.size 51 3 v k (pcs ((List.range k).map (xU l ⟨rk,ra,rb,rt⟩)))/\Below w1.heap.size w1 wr)
  case atStart=>exact⟨0,rfl,rfl,wj,World.ownsRow_nil _ _ _ _,Below.refl _ _⟩
  case round =>
   obtain⟨k,hgk,rfl,hk,hown,hbel⟩:=hrel;have HGK:=sqH hgk;clear hgk;by_cases hlt:k<m
   ·have hcc:decide (k<m)=true:=decide_eq_true hlt;have h0b:decide (((l.length:Nat):Int)>0)=true:=decide_eq_true wj;have h0c:decide ((0:Int)<((l.length:Nat):Int))=true:=decide_eq_true wj;have h0d:decide (0<l.length)=true:=decide_eq_true h0;have x2:=(HX.o.below hbel).c2;have hw7:IntKind.i64.wrap (7*(k:Int))=7*(k:Int):=IntWalk.i64_in _ wj;have hwi:∀z, -9223372036854775808<=IntKind.i64.wrap z/\IntKind.i64.wrap z<=9223372036854775807:=fun z=>by rw [IntKind.wrap_i64];omega
    have hP:=q8 (IntKind.i64.wrap (rb+7*(k:Int))) l.length l.length rfl wr (hwi _).1 (hwi _).2 h0 wj;rw [IntWalk.i64_left]at hP;have HP:=sqH hP;have hpl:=yw (IntKind.i64.wrap (rb+7*(k:Int))) (m:=l.length) h0;clear hP;obtain⟨q,hq⟩:=wU (pk (IntKind.i64.wrap (rb+7*(k:Int))) l.length)
    rw [<-hq]at hpl;rw [<-IntWalk.i64_left,<-hq]at HP;rw [IntWalk.i64_left]at HP;have hprt:xU l ⟨rk,ra,rb,rt⟩ k=⟨[112,UInt8.ofNat (97+k)],l[q].dig,l[q].data.length⟩:=by
     simp only [xU,<-hq,List.getElem?_eq_getElem hpl,Option.getD_some]
    have HPR:=sqH hprt;have hrng:(List.range (k+1)).map (xU l ⟨rk,ra,rb,rt⟩)=(List.range k).map (xU l ⟨rk,ra,rb,rt⟩)++ [xU l ⟨rk,ra,rb,rt⟩ k]:=by rw [List.range_succ,List.map_append];rfl
    have HRN:=sqH hrng;have hdl:=HD.o _ (List.getElem_mem hpl);obtain⟨b,off,B,cb,rfl,hbb,c0,c1,c2,c3,_⟩:=(HA.o.below (wg hb1 hbel)).blob_at q hpl;generalize l[q]=bl at *
    obtain⟨dg,dt,pn,mk⟩:=bl;dsimp only at c0 c1 c2 c3 hdl;generalize hs:(⟨dg.toArray⟩:ByteArray)=s at *
    have HS:=sqH hs;have i0:=wX q
    have i1:(q:Int)<(l.length:Int):=wj;have hcv:=fun (w':World) (g:Nat) (h:w'.cell? ⟨g,0,aB⟩=aC (ax .u8 (97+(k:Int))))=>UJ (97+(k:Int)) w' g h wj wj;have hw1:IntKind.i64.wrap (97+(k:Int))=97+(k:Int):=IntWalk.i64_in _ wj;have hw2:IntKind.u8.wrap (97+(k:Int))=97+(k:Int):=by rw [IntKind.wrap_u8];omega
    clear hprt hrng hq hs;go_wp2_with fail;refine wV HP.o fun w3 hw3=>?_;dsimp only;subst hw3
    refine wH ?_;intros;have hnm:(({ data:=#[112] }:ByteArray)++({ data:=#[97+UInt8.ofNat k] }:ByteArray))=⟨#[112,UInt8.ofNat (97+k)]⟩:=by rw [UInt8.ofNat_add];rfl
    rw [hnm];have hbb1:=wi wr (aA #[az s,aw B dt.length cb,ax ay pn,.bool mk] 88);have hbb2:=hbb1.alloc hbb1.size (aA #[ax .u8 (97+(k:Int))] 5);have hown2:=zc hown hbb2;have hs4:((wr.alloc (aA #[az s,aw B dt.length cb,ax ay pn,.bool mk] 88)).alloc (aA #[ax .u8 (97+(k:Int))] 5)).heap.size=wr.heap.size+1+1:=by rw [World.size_alloc,World.size_alloc]
    generalize (wr.alloc (aA #[az s,aw B dt.length cb,ax ay pn,.bool mk] 88)).alloc (aA #[ax .u8 (97+(k:Int))] 5)=w4 at *
    have hbel4:=wg hbel hbb2;rw [<-hs4];refine zg rfl (.tmp 28) (.tmp 41) rfl Xz wu hown2 (us:= [az ⟨#[112,UInt8.ofNat (97+k)]⟩,az s,ax ay dt.length]) (m:=1) wu rfl (by intro u hu;simp only [List.mem_cons,List.not_mem_nil,or_false]at hu;rcases hu with rfl | rfl | rfl<;>rfl) wj hbel4.size ?_;intro v7 w7 ho7 hg7 _;have hb7:=zj hbel4 hown2 ab hg7;have ho8:w7.ownsRow w1.heap.size 51 3 v7 (k+1) (pcs ((List.range (k+1)).map (xU l ⟨rk,ra,rb,rt⟩))):=by
     rw [HRN.o,HPR.o,Vi];have e1:pcs [⟨[112,UInt8.ofNat (97+k)],dg,dt.length⟩]= [az ⟨#[112,UInt8.ofNat (97+k)]⟩,az s,ax ay dt.length]:=by rw [<-HS.o];rfl
     rw [e1];exact ho7
    clear hown hown2 ho7 hg7 hbb1 hbb2;go_wp2_with fail;go_roundg (m - (k+1))
    case measure=>exact wW HGK
    case rel=>exact⟨k+1,rfl,by go_num,wj,ho8,hb7⟩
   ·obtain rfl:k=m:=by omega
    have hcc:decide (k<k)=false:=ws;go_wp2_with fail;go_ret;rw [HZ.o];refine⟨_,rfl,?_,wg hb1 hbel⟩;rw [List.length_map,List.length_range];exact zb hown hb1.size
def put4 (w:World) (g o:Nat) (u0 u1 u2 u3:Value):World:=(((w.setCell ⟨g,o,aB⟩ u0).setCell ⟨g,o+1,aB⟩ u1).setCell ⟨g,o+2,aB⟩ u2).setCell ⟨g,o+3,aB⟩ u3
theorem set4 {X:af} {u0 u1 u2 u3:Value} {o:Nat} (ho:X.length=o) :
  ((((X++ [a0,a1,a2,a3]++Y).set o u0).set (o+1) u1).set (o+2) u2).set (o+3) u3=X++ [u0,u1,u2,u3]++Y:=by
 subst ho;simp only [List.append_assoc];rw [List.set_append_right _ _ ab,List.set_append_right _ _ wj,List.set_append_right _ _ wj,List.set_append_right _ _ wj];simp
theorem Je {cap o:Nat} {s:Nat} {X:af} (h:w.ownsRow base e s (aw (aC ⟨g,0,aB⟩) n cap) n (X++ [a0,a1,a2,a3]++Y)) (ho:X.length=o) (u0 u1 u2 u3:Value) :
  (put4 w g o u0 u1 u2 u3).ownsRow base e s (aw (aC ⟨g,0,aB⟩) n cap) n (X++ [u0,u1,u2,u3]++Y)/\w.grownBy (put4 w g o u0 u1 u2 u3) (aC g):=by
 have hl:(X++ [a0,a1,a2,a3]++Y).length=o+4+Y.length:=by simp [ho];omega
 obtain⟨k1,g1,_,_⟩:=xT h (k:=o) wj u0;obtain⟨k2,g2,_,_⟩:=xT k1 (k:=o+1) (by rw [List.length_set];omega) u1;obtain⟨k3,g3,_,_⟩:=xT k2 (k:=o+2) (by rw [List.length_set,List.length_set];omega) u2;obtain⟨k4,g4,_,_⟩:=xT k3 (k:=o+3) (by rw [List.length_set,List.length_set,List.length_set];omega) u3;rw [set4 ho]at k4;refine⟨k4,?_⟩;have t:∀ {a b c:World},a.grownBy b (aC g)->b.grownBy c (aC g)->a.grownBy c (aC g):=fun {a b c} h k =>
  ⟨k.os.trans h.os,k.tape.trans h.tape,k.output.trans h.output,Nat.le_trans h.size k.size,fun i hi hne=>(k.block i (Nat.lt_of_lt_of_le hi h.size) hne).trans (h.block i hi hne)⟩
 exact t (t (t g1 g2) g3) g4
section
variable {α:Type} {S:Shp α} {w:World} {e:TypeId} {base g cap:Nat}
end
section
variable {α:Type} {f:α->List UInt8}
structure Ins (f:α->List UInt8) (A:List α) (x:α) (B:List α):Prop where
 ris:RisesBy f (A++B)
 less:∀b∈B,Op.bytesLess (f x) (f b)=true
theorem Ins.done {A B:List α} {a x:α} (h:Ins f (A++ [a]) x B) (hl:Op.bytesLess (f a) (f x)=true):RisesBy f (A++ [a]++x::B):=by
 obtain⟨h1,h2,h3⟩:=List.pairwise_append.1 h.ris;refine List.pairwise_append.2 ⟨h1,List.pairwise_cons.2 ⟨h.less,h2⟩,fun y hy z hz=> ?_⟩;rcases List.mem_cons.1 hz with rfl | hz
 ·rcases List.mem_append.1 hy with hy | hy
  ·exact qj ((List.pairwise_append.1 h1).2.2 y hy a ws) hl
  ·have:=List.mem_singleton.1 hy;subst this;exact hl
 ·exact h3 y hy z hz
theorem z3t {l m:List α} (h:RisesBy f m) (hp:m.Perm l):m=srt f l:=by
 refine RisesBy.perm h (uB ?_) (hp.trans (q9 f l).symm);exact(hp.map f).nodup_iff.1 h.map.nodup
end
def RwX {α:Type} (S:Shp α) (e:TypeId) (w:World) (base:Nat) (v:Value) (l:List α) (N:ai):Prop :=
 ∃ps:Cel α,ps.map (·.1)=l/\qK S w ps/\w.ownsRow base e S.size v l.length (cls ps)/\∀p∈ps,∀b,(v.ownBlock=aC b\/N b)->¬leads b p.2
section
variable {α:Type} {S:Shp α} {w w':World} {e:TypeId} {base base':Nat} {v v':Value} {l:List α} {N N':ai}
theorem RwX.rwo (h:RwX S e w base v l N):RwO S e w base v l:=by
 obtain⟨ps,h1,h2,h3,h4⟩:=h;exact⟨ps,h1,h2,h3,fun p hp b hb=>h4 p hp b (.inl hb)⟩
theorem RwX.below (h:RwX S e w base v l N) (hb:Below w.heap.size w w'):RwX S e w' base v l N:=by
 obtain⟨ps,h1,h2,h3,h4⟩:=h;exact⟨ps,h1,h2.below hb,zc h3 hb,h4⟩
theorem RwX.nil_ (h:w.ownsRow base e S.size v 0 []):RwX S e w base v [] N:=⟨[],rfl,(fun p hp=>nomatch hp),h,(fun p hp=>nomatch hp)⟩
theorem RwX.other {g:Option Nat} (h:RwX S e w base v l N) (hg:w.grownBy w' g) (hv:∀b,g=aC b->v.ownBlock≠aC b) (hN:∀b,g=aC b->N b):RwX S e w' base v l N:=by
 obtain⟨ps,h1,h2,h3,h4⟩:=h;refine⟨ps,h1,h2.grown hg (fun p hp b hb=>h4 p hp b (.inr (hN b hb))),h3.kept hg ?_,h4⟩;cases hb:v.ownBlock with
 | none=>exact .inl rfl
 | some b=>exact .inr (fun e1=>hv b e1.symm hb)
theorem RwX.wider (h:RwX S e w base v l N) (hN:∀b,N' b->N b\/w.heap.size<=b):RwX S e w base v l N':=by
 obtain⟨ps,h1,h2,h3,h4⟩:=h;refine⟨ps,h1,h2,h3,fun p hp b hb hl=> ?_⟩;rcases hb with hb | hb
 ·exact h4 p hp b (.inl hb) hl
 ·rcases hN b hb with h5 | h5
  ·exact h4 p hp b (.inr h5) hl
  ·have:=S.live (h2 p hp) b hl;omega
theorem RwX.open_ (h:RwX S e w base v l N):∃xs,w.ownsRow base e S.size v l.length xs /\
  ∀(x:α) (cs:af) (w1 w2:World) (v2:Value),Below w.heap.size w w1->S.R w1 x cs->(∀b,(v.ownBlock=aC b\/N b)->¬leads b cs)->w2.ownsRow base e S.size v2 (l.length+1) (xs++cs)->w1.grownBy w2 v.ownBlock->(v2.ownBlock=v.ownBlock\/∃g,v2.ownBlock=aC g/\w1.heap.size<=g) ->
   RwX S e w2 base v2 (l++ [x]) N:=by
 obtain⟨ps,h1,h2,h3,h4⟩:=h;refine⟨_,h3,fun x cs w1 w2 v2 hb hx hxl ho hg hv=> ?_⟩;have h2':=h2.below hb;have hall:∀p∈ps++ [(x,cs)],S.R w1 p.1 p.2/\∀b,(v.ownBlock=aC b\/N b)->¬leads b p.2:=fun p hp=>by
  rcases List.mem_append.1 hp with h | h
  ·exact⟨h2' p h,h4 p h⟩
  ·have:=List.mem_singleton.1 h;subst this;exact⟨hx,hxl⟩
 refine⟨ps++ [(x,cs)],by simp [h1],?_,?_,fun p hp b hb hl=> ?_⟩
 ·exact qK.grown (w:=w1) (g:=v.ownBlock) (fun p hp=>(hall p hp).1) hg (fun p hp b hb=>(hall p hp).2 b (.inl hb))
 ·rw [yW,List.length_append];simpa [cls] using ho
 ·rcases hb with hb | hb
  ·rcases hv with e1 | ⟨g,e1,hge⟩
   ·exact(hall p hp).2 b (.inl (by rw [<-e1];exact hb)) hl
   ·rw [e1]at hb;cases hb
    have:=S.live (hall p hp).1 _ hl;omega
  ·exact(hall p hp).2 b (.inr hb) hl
end
def Shp.off {α:Type} (S:Shp α) (N:ai):Shp α where
 size:=S.size
 R w x cs:=S.R w x cs/\∀b,N b->¬leads b cs
 len h:=S.len h.1
 one h:=S.one h.1
 live h:=S.live h.1
 keep h hs hk:=⟨S.keep h.1 hs hk,h.2⟩
theorem RwX.off {S:Shp α} {l:List α} (h:RwX S e w base v l N):RwO (S.off N) e w base v l:=by
 obtain⟨ps,h1,h2,h3,h4⟩:=h;exact⟨ps,h1,fun p hp=>⟨h2 p hp,fun b hb=>h4 p hp b (.inr hb)⟩,h3,fun p hp b hb=>h4 p hp b (.inl hb)⟩
theorem RwO.on {S:Shp α} {l:List α} (h:RwO (S.off N) e w base v l):RwX S e w base v l N:=by
 obtain⟨ps,h1,h2,h3,h4⟩:=h;exact⟨ps,h1,fun p hp=>(h2 p hp).1,h3,fun p hp b hb=>hb.elim (h4 p hp b) ((h2 p hp).2 b)⟩
theorem zf (h:w.ownsRow base e size v n xs) (hA:Arr w g e' ys) (hne:e≠e'):v.ownBlock≠aC g:=fun hg=>by
 rcases h.2 with ⟨rfl,_⟩ | ⟨g',cap,cur,rfl,_,h2,_⟩
 ·cases hg
 ·cases hg
  have h3:=Eq.trans (Eq.symm h2) hA
  simp only [Option.some.injEq,Obj.cells.injEq]at h3
  exact hne h3.2.1
theorem Jz {g':Nat} (h:Arr w g e xs) (h':Arr w g' e' ys) (hne:e≠e'):g≠g':=fun hg=>by
 subst hg
 have h3:=(h:w.heap[g]?=_).symm.trans h'
 simp only [Option.some.injEq,Obj.cells.injEq]at h3
 exact hne h3.2.1
theorem vQ (h:w.ownsRow base e size v n xs):∃A c,v= aw A n c/\Sl w size A n c xs/\∀a,A=aC a->base<=a.block:=Sl.of_own h
structure StW (w:World) (H:Nat) (vb ve:Value) (s:AccP):Prop where
 box:Arr w (H+1) 27 [vb,ve,ax ay 0,ax ay s.aG]
 res:Arr w H 27 [aw aB 0 0,aw aB 0 0,ax ay 0,ax ay 0]
 b:RwX BlobS 88 w (H+2) vb s.aE (fun g=>(g=H\/g=H+1)\/ve.ownBlock=aC g)
 e:RwX EntS 109 w (H+2) ve s.aF (fun g=>(g=H\/g=H+1)\/vb.ownBlock=aC g)
 ne:∀g,vb.ownBlock=aC g->ve.ownBlock≠aC g
theorem StW.below {H:Nat} {vb ve:Value} {s:AccP} (h:StW w H vb ve s) (hb:Below w.heap.size w w'):StW w' H vb ve s :=
 ⟨h.box.below hb,h.res.below hb,h.b.below hb,h.e.below hb,h.ne⟩
theorem ue:El zZZ 24 88 4 56:=El.mk' (z:= .agg #[az ByteArray.empty,aw aB 0 0,ax ay 0,.bool false]) underlying24 wm rfl wj wj
theorem Xy:El zZZ 25 109 4 56:=El.mk' (z:= .agg #[az ByteArray.empty,aw aB 0 0,ax ay 0,ax ay 0]) underlying25 wm rfl wj wj
theorem zT (w:World) (g k:Nat) (u:Value):w.grownBy (w.setCell ⟨g,k,aB⟩ u) (aC g):=⟨rfl,rfl,rfl,by simp [World.setCell],fun j _ hj=>Below.heap_setCell w _ u j (fun e=>hj (by rw [e]))⟩
theorem Arr.grown {r:Option Nat} (h:Arr w g e xs) (hg:w.grownBy w' r) (hne:r≠aC g):Arr w' g e xs:=(hg.block g h.lt (fun e=>hne e.symm)).trans h
theorem jN (x:BlobP) (B:ae) (c:Nat):∀u∈zZ x B c,u.oneCell'=true:=by
 intro u hu;simp only [zZ,List.mem_cons,List.not_mem_nil,or_false]at hu;rcases hu with rfl | rfl | rfl | rfl<;>rfl
theorem JG (x:EntP) (B:ae) (c:Nat):∀u∈kn x B c,u.oneCell'=true:=by
 intro u hu;simp only [kn,List.mem_cons,List.not_mem_nil,or_false]at hu;rcases hu with rfl | rfl | rfl | rfl<;>rfl
theorem Zt {x:BlobP} (h:leads b (zZ x B c)):∃a,B=aC a/\a.block=b:=by
 obtain⟨a,n,c',hm,rfl⟩:=h;simp only [zZ,List.mem_cons,List.not_mem_nil,or_false,Value.slice.injEq,reduceCtorEq,false_or]at hm;exact⟨a,hm.1.symm,rfl⟩
theorem UL {x:EntP} (h:leads b (kn x B c)):∃a,B=aC a/\a.block=b:=by
 obtain⟨a,n,c',hm,rfl⟩:=h;simp only [kn,List.mem_cons,List.not_mem_nil,or_false,Value.slice.injEq,reduceCtorEq,false_or]at hm;exact⟨a,hm.1.symm,rfl⟩
theorem kN.sl (h:kN w base A c l):Sl w 1 A l.length c (bys l)/\∀a,A=aC a->base<=a.block:=by
 have h1:=h.rd;have h2:=h.cap;obtain⟨g,rest,fz,rfl,hb,hg,hl,hm,hf⟩:=h;exact⟨⟨h1,h2.1,h2.2,fun a ha=>by cases ha;exact(Array.getElem?_eq_some_iff.1 hg).1⟩,fun a ha=>by cases ha;exact hb⟩
section
variable {w:World} {H:Nat} {vb ve:Value} {s:AccP}
theorem StW.lt (h:StW w H vb ve s):H+1<w.heap.size:=h.box.lt
theorem StW.bB (h:StW w H vb ve s):∀g,vb.ownBlock=aC g->H+2<=g/\g<w.heap.size:=fun g e=>h.b.rwo.blk e
theorem StW.bE (h:StW w H vb ve s):∀g,ve.ownBlock=aC g->H+2<=g/\g<w.heap.size:=fun g e=>h.e.rwo.blk e
theorem StW.rows (h:StW w H vb ve s) (k:Nat) (u:Value) :
  RwX BlobS 88 (w.setCell ⟨H+1,k,aB⟩ u) (H+2) vb s.aE (fun g=>(g=H\/g=H+1)\/ve.ownBlock=aC g)/\RwX EntS 109 (w.setCell ⟨H+1,k,aB⟩ u) (H+2) ve s.aF (fun g=>(g=H\/g=H+1)\/vb.ownBlock=aC g)/\Arr (w.setCell ⟨H+1,k,aB⟩ u) H 27 [aw aB 0 0,aw aB 0 0,ax ay 0,ax ay 0] :=
 ⟨h.b.other (zT w _ k u) (fun b e1 e2=>by cases e1;have:=h.bB _ e2;omega) (fun b e=>by cases e;exact .inl (.inr rfl)),
  h.e.other (zT w _ k u) (fun b e1 e2=>by cases e1;have:=h.bE _ e2;omega) (fun b e=>by cases e;exact .inl (.inr rfl)),
  h.res.other wj u⟩
theorem Arr.all4 {w:World} {x0 x1 x2 x3:Value} (h:Arr w g e [x0,x1,x2,x3]) (y0 y1 y2 y3:Value) :
  Arr ((((w.setCell ⟨g,0,aB⟩ y0).setCell ⟨g,1,aB⟩ y1).setCell ⟨g,2,aB⟩ y2).setCell ⟨g,3,aB⟩ y3) g e [y0,y1,y2,y3] :=
 (((h.set (k:=0) ws y0).set (k:=1) ws y1).set (k:=2) ws y2).set (k:=3) ws y3
theorem RwX.set {S:Shp α} {w:World} {l:List α} (h:RwX S e w base v l N) (hg:g<base) (hN:N g) (u:Value):RwX S e (w.setCell ⟨g,k,aB⟩ u) base v l N :=
 h.other (zT w g k u) (fun b e1 e2=>by cases e1;have:=(h.rwo.blk e2).1;omega) (fun b e=>by cases e;exact hN)
end
theorem Arr.setsMid {g:Nat} {e:TypeId}:∀(ys xs zs ts:af) (W:World),Arr W g e (zs++(xs++ts))->ys.length=xs.length->Arr (W.setCells g zs.length ys) g e (zs++(ys++ts))
 | [], [],zs,ts,W,h,_=>h
 | y::ys,x::xs,zs,ts,W,h,hl=>by
  have h1:=h.set (k:=zs.length) ws y
  rw [List.set_append_right _ _ ab,Nat.sub_self,List.cons_append,List.set_cons_zero]at h1
  have h2:=Arr.setsMid ys xs (zs++ [y]) ts _ (by simpa using h1) (by simpa using hl)
  rw [List.append_assoc]at h2
  simp only [List.length_append,List.length_cons,List.length_nil,Nat.zero_add]at h2
  exact h2
theorem yU (b off j:Nat):(⟨b,off,aB⟩:Addr).add j=⟨b,off+j,aB⟩:=by unfold Addr.add;split<;>simp_all
theorem xp {g k:Nat} (hne:k≠g):∀(ys:af) (o:Nat) (W:World),(W.setCells g o ys).heap[k]?=W.heap[k]?
 | [],_,_=>rfl
 | y::ys,o,W=>(xp hne ys (o+1) _).trans (Below.heap_setCell W _ y k hne)
theorem Qx (W:World) (g o:Nat) (ys:af):W.grownBy (W.setCells g o ys) (aC g) :=
 have h:=Below.sets (B:=0) (g:=g) (Nat.zero_le _) ys o W (Below.refl 0 W)
 ⟨h.os,h.tape,h.output,h.size,fun k hk hne=>xp (fun e=>hne (by rw [e])) ys o W⟩
section
variable {P:Program} {w:World}
theorem z1t (E:El P t e size bytes) {cap:Nat} {us:af} 
  (hown:w.ownsRow base e size (aw (aC ⟨g,0,aB⟩) n cap) n xs) (hl:us.length=m*size) (h1:∀u∈us,u.oneCell'=true) (hroom:n+m<=cap) :
  ∃w',(Builtin.append_ #[t,t] ty #[aw (aC ⟨g,0,aB⟩) n cap,aw (aC ⟨w.heap.size,0,aB⟩) m c]).run P (w.alloc (.cells us.toArray e'))= .ok (aw (aC ⟨g,0,aB⟩) (n+m) cap) w' /\
   w'.ownsRow base e size (aw (aC ⟨g,0,aB⟩) (n+m) cap) (n+m) (xs++us)/\w.grownBy w' (aC g):=by
 obtain⟨hu,⟨i,z,hi,hz,hs,hby,hzs⟩,hp,hq⟩:=E;subst hs;obtain⟨hxl,h2⟩:=hown;rcases h2 with ⟨h,_⟩ | ⟨g',cap',cur,e1,hb,hg,hn,hm,hsz,ht⟩
 ·cases h
 ·injection e1 with e1 _ e3;injection e1 with e1;injection e1 with e1;subst e1 e3;have hA0:Arr w g e cur.toList:=by simpa [Arr] using hg
  have hA:=hA0.alloc (.cells us.toArray e');have hcl:cur.toList.length=cap*i.size:=by simpa using hsz
  have hmul:(n+m)*i.size<=cap*i.size:=Nat.mul_le_mul_right _ hroom;rw [Nat.add_mul]at hmul;have hsplit:cur.toList=xs++((cur.toList.drop (n*i.size)).take (m*i.size)++cur.toList.drop ((n+m)*i.size)):=by
   have ht':cur.toList.take (n*i.size)=xs:=ht;rw [<-ht',Nat.add_mul,<-List.drop_drop,List.take_append_drop,List.take_append_drop]
  have hlt:=hA0.lt;have hrun:=run_append_room_cells (P:=P) (w:=w.alloc (.cells us.toArray e')) t ty e i hu hi g 0 n cap ⟨w.heap.size,0,aB⟩ m c us hl
   (fun j u hj=>by
    show(w.alloc _).cell? ((⟨w.heap.size,0,aB⟩:Addr).add j)=_;rw [yU,Nat.zero_add,World.cell?_alloc_new];simpa using hj) h1 hroom
   (fun j hj=>by
    rw [hA.cell (k:=0+n*i.size+j) (List.getElem?_eq_getElem (by rw [hcl];omega))];rfl)
   (fun j hj=>hA.frozen _)
  refine⟨_,hrun,⟨by rw [List.length_append,hxl,hl,Nat.add_mul],.inr ⟨g,cap,(xs++(us++cur.toList.drop ((n+m)*i.size))).toArray,rfl,hb,?_,hroom,hm,?_,?_⟩⟩,?_⟩
  ·rw [hsplit]at hA;have hA2:=Arr.setsMid us _ xs _ _ hA (by rw [List.length_take,List.length_drop,hcl,hl];omega);rw [Nat.zero_add,<-hxl];exact hA2
  ·simp only [List.size_toArray,List.length_append,List.length_drop,hcl,hxl,hl,Nat.add_mul];omega
  ·simp only [List.toList_toArray];rw [<-List.append_assoc,List.take_append_of_le_length (by rw [List.length_append,hxl,hl,Nat.add_mul];exact Nat.le_refl _),List.take_of_length_le (by rw [List.length_append,hxl,hl,Nat.add_mul];exact Nat.le_refl _)]
  ·have h5:=Qx (w.alloc (.cells us.toArray e')) g (0+n*i.size) us;exact⟨h5.os,h5.tape,h5.output,Nat.le_trans (by rw [World.size_alloc];omega) h5.size,fun k hk hne=>(h5.block k aa hne).trans (Below.heap_alloc _ _ _ hk)⟩
theorem jA (hgd:o.guard=aB) (s x:Operand) 
  (ho:o.op= .call { callee:= .builtin .append,args:=#[s,x],argTypes:=#[t,t] }) (E:El P t e size bytes)
  {base g n cap:Nat} {xs:af} (hs:a.eval s= aw (aC ⟨g,0,aB⟩) n cap) (hown:w.ownsRow base e size (aw (aC ⟨g,0,aB⟩) n cap) n xs)
  {us:af} {m c:Nat} (hx:a.eval x= aw (aC ⟨w.heap.size,0,aB⟩) m c) (hl:us.length=m*size) (h1:∀u∈us,u.oneCell'=true) (hroom:n+m<=cap)
  (h:∀w',w'.ownsRow base e size (aw (aC ⟨g,0,aB⟩) (n+m) cap) (n+m) (xs++us)->w.grownBy w' (aC g)->wpList P ops Q rest (a.put o.dst (aw (aC ⟨g,0,aB⟩) (n+m) cap)) w') :
  wpList P ops Q (o::rest) a (w.alloc (.cells us.toArray e')) :=
 wpList_plain hgd fun K hK=>by
  obtain⟨w',hrun,h2,h3⟩:=z1t (P:=P) (ty:=o.type) (e':=e') E hown hl h1 hroom (c:=c)
  unfold Oper.wp execOp
  simp only [ho,resolve,invoke,builtin,Sem.run_bind,Sem.run_pure,Result.andThen_ok,List.map_toArray,List.map_cons,List.map_nil,hs,hx,hrun]
  exact hK _ _ (h w' h2 h3)
end
theorem Sl.other (h:Sl w size A n c xs) (hne:∀a,A=aC a->a.block≠g) (u:Value):Sl (w.setCell ⟨g,k,aB⟩ u) size A n c xs :=
 h.keep (by simp [World.setCell]) fun b hb hl=>by
  obtain⟨a,ha,rfl⟩:=hl
  exact Below.heap_setCell w _ u _ (hne a ha)
theorem yy (A:ae) (n c:Nat) (xs:af) (w:World) (hb:n*40<=140737488355328) (hr:Rd w 3 A n xs) (h1:∀u∈xs,u.oneCell'=true) :
  Calls zZZ 146 #[aw A n c] w fun e w'=>∃v,e= .returned v/\w'.ownsRow w.heap.size 51 3 v n xs/\Below w.heap.size w w':=by
 have heq:=fun W=>Lib.run_eql_slice_nil (P:=zZZ) W 45 51 A n c 0 0 underlying45;cases A with
 | none =>
  obtain rfl:n=0:=by
   rcases Nat.eq_zero_or_pos n with h | h
   ·exact h
   ·obtain⟨_,_,h1,_⟩:=hr.2 h;cases h1
  obtain rfl:xs= []:=List.eq_nil_of_length_eq_zero (by simpa using hr.1);go_enter func146,ntmps146;go_wp2_with fail;go_ret;exact⟨_,rfl,World.ownsRow_nil _ _ _ _,Below.refl _ _⟩
 | some ad =>
  go_enter func146,ntmps146
  refine wH ?_;intros;refine zK rfl (.tmp 5) (.tmp 6) rfl Xz wu (World.ownsRow_made (size:=3) w #[] 0 ab (by simp [maxLen]) rfl) wu (hr.alloc _) h1 wj ws ?_;intro v1 w1 hown1 hg1 _;have hb1:=zj ((Below.refl _ _).alloc ab _) (World.ownsRow_made (size:=3) w #[] 0 ab (by simp [maxLen]) rfl) ab hg1;go_wp2_with fail;go_ret;exact⟨_,rfl,by simpa using hown1,hb1⟩
end Go.Proofs.YtcjndgldjhmbgaaGreat
