/- Lemmas of the proof. Conditions: as stated. -/
import Derived.Test.YtfmnggcfhalfnaaGreatQW01
import Derived.Test.YtfmnggcfhalfnaaGreatQW05
import Derived.Lib.AppendStr
set_option linter.unusedVariables false
set_option linter.unusedSimpArgs false
set_option maxRecDepth 100000
namespace Go.Proofs.YtfmnggcfhalfnaaGreat
open Go.RowKit
section
variable {W:World} {g:Nat} {e:TypeId} {fz:Nat×Nat}
theorem ZP {xs:List Value} {k:Nat} (h:W.heap[g]?=some (.cells xs.toArray e fz)) (hk:k<xs.length) (u:Value):(W.setCell ⟨g,k,none⟩ u).heap[g]?=some (.cells (xs.set k u).toArray e fz):=by
 obtain⟨hlt,hk'⟩:=Array.getElem?_eq_some_iff.1 h;show(W.heap.modify g _)[g]?=_;rw [Array.getElem?_eq_getElem (by rw [Array.size_modify];exact hlt),Array.getElem_modify_self,hk'];simp
theorem uv (rs:List Value):∀(ys xs zs:List Value) (W:World),W.heap[g]?=some (.cells (zs++(xs++rs)).toArray e fz)→ys.length=xs.length→(W.setCells g zs.length ys).heap[g]?=some (.cells (zs++(ys++rs)).toArray e fz)
 | [], [],zs,W,h,_=>h
 | y::ys,x::xs,zs,W,h,hl=>by
  have h1:=ZP h (k:=zs.length) (by simp) y
  rw [List.set_append_right _ _ (Nat.le_refl _),Nat.sub_self,List.cons_append,List.set_cons_zero]at h1
  have h2:=uv rs ys xs (zs++ [y]) _ (by simpa using h1) (by simpa using hl)
  rw [List.append_assoc]at h2
  simp only [List.length_append,List.length_cons,List.length_nil,Nat.zero_add]at h2
  exact h2
theorem xn {xs:List Value} {k:Nat} {v:Value} (h:W.heap[g]?=some (.cells xs.toArray e fz)) (hk:xs[k]?=some v):W.cell? ⟨g,k,none⟩=some v:=by
 simp [World.cell?,h,hk]
theorem ZO {xs:List Value} {k:Nat} (h:W.heap[g]?=some (.cells xs.toArray e fz)) (hf:fz.2≤fz.1∨k<fz.1):W.frozen? ⟨g,k,none⟩=false:=by
 obtain⟨lo,hi⟩:=fz;simp only [World.frozen?,h,Bool.and_eq_false_iff,decide_eq_false_iff_not];simp only at hf;omega
end
def zV (w:World) (base:Nat) (A:Option Addr) (c:Nat) (l:List UInt8):Prop :=
 ∃g rest fz,A=some ⟨g,0,none⟩∧base≤g∧w.heap[g]?=some (.cells (bys l++rest).toArray 5 fz)∧l.length+rest.length=c∧c≤maxLen∧(fz.2≤fz.1∨c≤fz.1)
section
variable {w w':World} {base c:Nat} {A:Option Addr} {l:List UInt8}
theorem zV.rd (h:zV w base A c l):Rd w 1 A l.length (bys l):=by
 obtain⟨g,rest,fz,rfl,hb,hg,hl,hm,hf⟩:=h;refine⟨by rw [zE,Nat.mul_one],fun _=>⟨g,0,rfl,(Array.getElem?_eq_some_iff.1 hg).1,fun j u hu=> ?_⟩⟩;rw [Nat.zero_add];refine xn hg ?_;rw [List.getElem?_append_left (List.getElem?_eq_some_iff.1 hu).1];exact hu
theorem zV.cap (h:zV w base A c l):l.length≤c∧c≤maxLen:=by
 obtain⟨g,rest,fz,rfl,hb,hg,hl,hm,hf⟩:=h;exact⟨by omega,hm⟩
theorem zV.below (h:zV w base A c l) (hb:Below w.heap.size w w'):zV w' base A c l:=by
 obtain⟨g,rest,fz,e,h1,hg,h2⟩:=h;exact⟨g,rest,fz,e,h1,(hb.block g (Array.getElem?_eq_some_iff.1 hg).1).trans hg,h2⟩
theorem zV.lower {b':Nat} (h:zV w base A c l) (hb:b'≤base):zV w b' A c l:=by
 obtain⟨g,rest,fz,e,h1,h2⟩:=h;exact⟨g,rest,fz,e,Nat.le_trans hb h1,h2⟩
end
theorem ZN (s:ByteArray) (w:World) (hs:s.size≤maxLen) :
  ∃w',(convert 9 30 (.string s)).run Tryz.prog w= .ok (.slice (some ⟨w.heap.size,0,none⟩) s.data.toList.length (grownCap w s.size 0 5)) w'∧zV w' w.heap.size (some ⟨w.heap.size,0,none⟩) (grownCap w s.size 0 5) s.data.toList∧Below w.heap.size w w':=by
 have hsz:s.data.toList.length=s.size:=by rw [Array.length_toList];rfl
 have h:=run_bytes_of_string (P:=Tryz.prog) w 9 30 5 s Tryz.underlying9 Tryz.underlying30 Tryz.underlying5;have hge:=grownCap_ge w s.size 0 5;have hle:=grownCap_le_maxLen w s.size 0 5 hs;rw [←hsz]at h;rw [hsz]at h ⊢
 generalize grownCap w s.size 0 5=c at *
 have hrow:bytesRow s c=(bys s.data.toList++List.replicate (c - s.size) (Value.int .u8 0)).toArray:=by
  apply Array.toList_inj.1;simp [bytesRow,bys]
 refine⟨_,h,⟨w.heap.size,List.replicate (c - s.size) (Value.int .u8 0),((bytesRow s c).size,(bytesRow s c).size+1),rfl,Nat.le_refl _,?_,?_,hle,.inr ?_⟩,(Below.refl _ _).drew.alloc (Nat.le_refl _) _⟩
 ·rw [←hrow];exact World.alloc_heap_new w.drew _
 ·rw [List.length_replicate,hsz];omega
 ·rw [hrow];simp only [List.size_toArray,List.length_append,zE,List.length_replicate,hsz];omega
structure Src (P:Program) (w:World) (u:TypeId) (x:Value) (m:Nat) (k:List UInt8):Prop where
 und:(P.underlying u=some .string)∨(∃e,P.underlying u=some (.slice e))
 len:∀w',(Builtin.lenOf x).run P w'= .ok m w'
 fst:(Builtin.firstCells 1 m x).run P w= .ok (bys k).toArray w
 fst':(Builtin.firstCells 1 m x).run P w.drew= .ok (bys k).toArray w.drew
 num:k.length=m
theorem Src.str {P:Program} {w:World} {u:TypeId} (hu:P.underlying u=some .string) (s:ByteArray):Src P w u (.string s) s.size s.data.toList :=
 ⟨.inl hu,fun w'=>by simp [Builtin.lenOf],Lib.run_firstCells_string (P:=P) w 1 s,Lib.run_firstCells_string (P:=P) w.drew 1 s,by rw [Array.length_toList];rfl⟩
theorem Src.sl {P:Program} {w:World} {u e:TypeId} (hu:P.underlying u=some (.slice e)) {A:Option Addr} {m:Nat} (c:Nat) {k:List UInt8} (hr:Rd w 1 A m (bys k)):Src P w u (.slice A m c) m k:=by
 have hk:k.length=m:=by have:=hr.1;rw [zE,Nat.mul_one]at this;exact this
 refine⟨.inr ⟨e,hu⟩,fun w'=>by simp [Builtin.lenOf],?_,?_,hk⟩
 all_goals
  cases A with
  | none =>
   have h0:m=0:=by
    rcases Nat.eq_zero_or_pos m with h | h
    ·exact h
    ·obtain⟨_,_,h1,_⟩:=hr.2 h;cases h1
   have:k= []:=List.eq_nil_of_length_eq_zero (by omega);subst this;exact run_firstCells_none _ 1 0 0 c
  | some ad =>
   refine run_firstCells_some (P:=P) _ 1 m ad m c (bys k) (by rw [zE,hk,Nat.mul_one]) (fun j v hj=> ?_);have hl:=(List.getElem?_eq_some_iff.1 hj).1;rw [zE]at hl;obtain⟨b,off,e',hb,hc⟩:=hr.2 (by omega);cases e'
   rw [Addr.add_mid];exact hc j v hj
theorem kQ {g:Nat}:∀(ys:List Value) (o:Nat) (W:World),W.grownBy (W.setCells g o ys) (some g)
 | [],_,W=>World.grownBy.refl _ _
 | y::ys,o,W=>by
  have h1:W.grownBy (W.setCell ⟨g,o,none⟩ y) (some g):=⟨rfl,rfl,rfl,by simp [World.setCell],fun j _ hj=>Below.heap_setCell W _ y j (fun e=>hj (by rw [e]))⟩
  exact h1.trans (kQ ys (o+1) _)
theorem uT {w:World} {base c:Nat} {A:Option Addr} {l k:List UInt8} {u ty:TypeId} {x:Value} {m:Nat} (h:zV w base A c l) (hs:Src Tryz.prog w u x m k) (hb:l.length+m≤140737488355328) (hbase:base≤w.heap.size) :
  ∃A' c' w',(Builtin.append_ #[30,u] ty #[.slice A l.length c,x]).run Tryz.prog w= .ok (.slice A' (l++k).length c') w'∧zV w' base A' c' (l++k)∧Below base w w'∧w.grownBy w' (Value.slice A l.length c).ownBlock∧(∀b,A'=some ⟨b,0,none⟩→A=some ⟨b,0,none⟩∨w.heap.size≤b):=by
 obtain⟨ht,⟨i,z,hi,hz,hsz,hby,hzs⟩,_,_⟩:=yE;have hrd:=h.rd;obtain⟨g,rest,fz,rfl,hbg,hg,hl,hm,hf⟩:=h;have hkl:=hs.num;have hlen:=hs.len;have hll:(l++k).length=l.length+m:=by rw [List.length_append,hkl]
 by_cases hroom:l.length+m≤c
 ·have hst:=run_storeCells_cells (P:=Tryz.prog) g l.length (bys k) 0 w
   (fun j hj=>by
    rw [zE]at hj;have:(bys l++rest)[l.length+0+j]?=some ((bys l++rest)[l.length+0+j]'(by rw [List.length_append,zE];omega)):=List.getElem?_eq_getElem _;rw [xn hg this];rfl)
   (fun j hj=>by
    rw [zE]at hj;exact ZO hg (by rcases hf with h | h;exact .inl h;exact .inr (by omega))) (qX k)
  have hfz:=uv (g:=g) (e:=5) (fz:=fz) (rest.drop m) (bys k) (rest.take m) (bys l) w (by rw [List.take_append_drop];exact hg) (by rw [zE,List.length_take];omega);rw [zE]at hfz;refine⟨some ⟨g,0,none⟩,c,w.setCells g l.length (bys k),?_,⟨g,rest.drop m,fz,rfl,hbg,by rw [zD,List.append_assoc];exact hfz,by rw [hll,List.length_drop];omega,hm,hf⟩,Below.sets hbg _ _ _ (Below.refl _ _),kQ _ _ _,fun b e=> .inl e⟩;rw [hll];simp only [Nat.add_zero]at hst;have hfc:=hs.fst;rcases hs.und with hu | ⟨e',hu⟩
  ·simp [Builtin.append_,run_underlying ht,run_underlying hu,sizeOf,typeInfo,hi,hsz,hlen w,hroom,hfc,Addr.add_lit,hst]
  ·simp [Builtin.append_,run_underlying ht,run_underlying hu,sizeOf,typeInfo,hi,hsz,hlen w,hroom,hfc,Addr.add_lit,hst]
 ·have hn:¬(l.length+m≤c):=hroom;have hge:=grownCap_ge w (l.length+m) c 5;have hcm:=grownCap_le_maxLen w (l.length+m) c 5 (by simp only [maxLen];omega);have h63':¬(9223372036854775807<((l.length:Int)+(m:Int))):=by omega
  have hnx:=nextslicecap_le (need:=l.length+m) (old:=c) (by omega);have h48':¬(281474976710656<Builtin.nextslicecap (l.length+m) c):=by omega
  have hfo:=run_firstCells_some (P:=Tryz.prog) w.drew 1 l.length ⟨g,0,none⟩ l.length c (bys l) (by rw [zE,Nat.mul_one]) (fun j v hj=>by
   rw [Addr.add_mid,Nat.zero_add];refine xn (W:=w.drew) hg ?_;rw [List.getElem?_append_left (List.getElem?_eq_some_iff.1 hj).1];exact hj)
  have hfn:=hs.fst';refine⟨some ⟨w.heap.size,0,none⟩,grownCap w (l.length+m) c 5,w.drew.alloc (.cells ((bys l).toArray++(bys k).toArray++Builtin.zeroCells z.cells (grownCap w (l.length+m) c 5 - (l.length+m))) 5),?_,
   ⟨w.heap.size,(Builtin.zeroCells z.cells (grownCap w (l.length+m) c 5 - (l.length+m))).toList,(0,0),rfl,hbase,?_,?_,hcm,.inl (Nat.le_refl _)⟩,(Below.refl _ _).drew.alloc hbase _,⟨rfl,rfl,rfl,by simp [World.alloc],fun k hk _=>Below.heap_alloc w.drew _ _ hk⟩,fun b e=> .inr (by cases e;exact Nat.le_refl _)⟩
  ·rw [hll];rcases hs.und with hu | ⟨e',hu⟩
   ·simp [Builtin.append_,run_underlying ht,run_underlying hu,sizeOf,typeInfo,zeroValue,hi,hz,hsz,hby,hlen w,hn,h63',h48',Question.forced,hfo,hfn,newRow,grownCap];rw [←List.append_toArray,Array.append_assoc]
   ·simp [Builtin.append_,run_underlying ht,run_underlying hu,sizeOf,typeInfo,zeroValue,hi,hz,hsz,hby,hlen w,hn,h63',h48',Question.forced,hfo,hfn,newRow,grownCap];rw [←List.append_toArray,Array.append_assoc]
  ·rw [show((bys l).toArray++(bys k).toArray++Builtin.zeroCells z.cells (grownCap w (l.length+m) c 5 - (l.length+m)))=(bys (l++k)++(Builtin.zeroCells z.cells (grownCap w (l.length+m) c 5 - (l.length+m))).toList).toArray by
    apply Array.toList_inj.1;simp [zD]]
   exact World.alloc_heap_new w.drew _
  ·have h0:(Builtin.zeroCells z.cells (grownCap w (l.length+m) c 5 - (l.length+m))).toList.length=grownCap w (l.length+m) c 5 - (l.length+m):=by rw [Array.length_toList,size_zeroCells,hzs,Nat.mul_one]
   rw [h0,hll];omega
theorem k7 {w:World} {ops:Array Oper} {rest:List Oper} {o:Oper} {a:Act} {Q:Exit→Act→World→Prop} (hgd:o.guard=none) (sl x:Operand) {u:TypeId}
  (ho:o.op= .call { callee:= .builtin .append,args:=#[sl,x],argTypes:=#[30,u] })
  {base c:Nat} {A:Option Addr} {l k:List UInt8} {m:Nat} {xv:Value} (hs:a.eval sl= .slice A l.length c) (hown:zV w base A c l) (hx:a.eval x=xv) (hsrc:Src Tryz.prog w u xv m k)
  (hb:l.length+m≤140737488355328) (hbase:base≤w.heap.size)
  (h:∀A' c' w',zV w' base A' c' (l++k)→Below base w w'→wpList Tryz.prog ops Q rest (a.put o.dst (.slice A' (l++k).length c')) w') :
  wpList Tryz.prog ops Q (o::rest) a w:=by
 refine wpList_plain hgd fun _ hK=> ?_;obtain⟨A',c',w',hrun,h1,h2,_⟩:=uT (ty:=o.type) hown hsrc hb hbase;unfold Oper.wp execOp;simp only [ho,resolve,invoke,builtin,Sem.run_bind,Sem.run_pure,Result.andThen_ok,List.map_toArray,List.map_cons,List.map_nil,hs,hx,hrun];exact hK _ _ (h _ _ _ h1 h2)
theorem jZ {w:World} {o:Oper} {a:Act} {K:Act→World→Prop} {Q:Exit→Act→World→Prop} (sl x:Operand) {u:TypeId}
  (ho:o.op= .call { callee:= .builtin .append,args:=#[sl,x],argTypes:=#[30,u] })
  {base c:Nat} {A:Option Addr} {l k:List UInt8} {m:Nat} {xv:Value} (hs:a.eval sl= .slice A l.length c) (hown:zV w base A c l) (hx:a.eval x=xv) (hsrc:Src Tryz.prog w u xv m k)
  (hb:l.length+m≤140737488355328) (hbase:base≤w.heap.size)
  (h:∀A' c' w',zV w' base A' c' (l++k)→Below base w w'→w.grownBy w' (Value.slice A l.length c).ownBlock→(∀b,A'=some ⟨b,0,none⟩→A=some ⟨b,0,none⟩∨w.heap.size≤b)→K (a.put o.dst (.slice A' (l++k).length c')) w') :
  o.wp Tryz.prog a w K Q:=by
 obtain⟨A',c',w',hrun,h1,h2,h3,h4⟩:=uT (ty:=o.type) hown hsrc hb hbase;unfold Oper.wp execOp;simp only [ho,resolve,invoke,builtin,Sem.run_bind,Sem.run_pure,Result.andThen_ok,List.map_toArray,List.map_cons,List.map_nil,hs,hx,hrun];exact h _ _ _ h1 h2 h3 h4
theorem xz {w:World} {ops:Array Oper} {rest:List Oper} {o:Oper} {a:Act} {Q:Exit→Act→World→Prop} (hgd:o.guard=none) (sl x:Operand) {u:TypeId}
  (ho:o.op= .call { callee:= .builtin .append,args:=#[sl,x],argTypes:=#[30,u] })
  {base c:Nat} {A:Option Addr} {l k:List UInt8} {m:Nat} {xv:Value} (hs:a.eval sl= .slice A l.length c) (hown:zV w base A c l) (hx:a.eval x=xv) (hsrc:Src Tryz.prog w u xv m k)
  (hb:l.length+m≤140737488355328) (hbase:base≤w.heap.size)
  (h:∀A' c' w',zV w' base A' c' (l++k)→Below base w w'→w.grownBy w' (Value.slice A l.length c).ownBlock→(∀b,A'=some ⟨b,0,none⟩→A=some ⟨b,0,none⟩∨w.heap.size≤b)→wpList Tryz.prog ops Q rest (a.put o.dst (.slice A' (l++k).length c')) w') :
  wpList Tryz.prog ops Q (o::rest) a w :=
 wpList_plain hgd fun _ hK=>jZ sl x ho hs hown hx hsrc hb hbase fun A' c' w' h1 h2 h3 h4=>hK _ _ (h A' c' w' h1 h2 h3 h4)
theorem xY {w:World} {ops:Array Oper} {o:Oper} {a:Act} {K:Act→World→Prop} {Q:Exit→Act→World→Prop} {E0:Prop} (hgd:o.guard=none) (sl x:Operand) {u:TypeId}
  (ho:o.op= .call { callee:= .builtin .append,args:=#[sl,x],argTypes:=#[30,u] })
  {base c:Nat} {A:Option Addr} {l k:List UInt8} {m:Nat} {xv:Value} (hs:a.eval sl= .slice A l.length c) (hown:zV w base A c l) (hx:a.eval x=xv) (hsrc:Src Tryz.prog w u xv m k)
  (hb:l.length+m≤140737488355328) (hbase:base≤w.heap.size)
  (h:∀A' c' w',zV w' base A' c' (l++k)→Below base w w'→w.grownBy w' (Value.slice A l.length c).ownBlock→(∀b,A'=some ⟨b,0,none⟩→A=some ⟨b,0,none⟩∨w.heap.size≤b)→K (a.put o.dst (.slice A' (l++k).length c')) w') :
  if Region.wanted o (yielded ops a.tmps)=true then Oper.wp Tryz.prog o a w K Q else E0:=by
 rw [if_pos (by simp [Region.wanted,hgd])];exact jZ sl x ho hs hown hx hsrc hb hbase h
theorem Arr.beside {w w':World} {g:Nat} {e:TypeId} {xs:List Value} {A:Option Addr} {n c:Nat} (h:Arr w g e xs) (hg:w.grownBy w' (Value.slice A n c).ownBlock) (hne:A≠some ⟨g,0,none⟩) (hA:∀a,A=some a→a=⟨a.block,0,none⟩):Arr w' g e xs:=by
 refine(hg.block g h.lt ?_).trans h;cases A with
 | none=>simp [Value.ownBlock]
 | some a =>
  intro he;simp only [Value.ownBlock,Option.some.injEq]at he;apply hne;rw [hA a rfl,he]
theorem zV.addr {w:World} {base c:Nat} {A:Option Addr} {l:List UInt8} (h:zV w base A c l):∀a,A=some a→a=⟨a.block,0,none⟩:=by
 obtain⟨g,_,_,rfl,_⟩:=h;intro a e;cases e;rfl
def Zw (r:RawP):Value:= .agg #[.int .i64 r.kind,.int .i64 r.a,.int .i64 r.b,.string r.text]
def u8 (a:Int):UInt8:=UInt8.ofNat (a % 256).toNat
theorem j0 (a:Int):IntKind.u8.wrap a=((u8 a).toNat:Int):=by
 rw [IntKind.wrap_u8,u8,UInt8.toNat_ofNat'];omega
def js (r:RawP) (most:Nat):List UInt8:=(r.text.data.toList++ [u8 r.a,u8 r.b]).take most
theorem yq (r:RawP) (most:Nat):(js r most).length≤most:=by rw [js,List.length_take];omega
theorem vL (r:RawP) (most:Nat) (M:Int) (hM:(most:Int)=M) (hmo:most≤1000) (ho:RawOk r) (w:World) :
  Calls Tryz.prog 7 #[Zw r,.int .i64 M] w fun e w'=>∃A c,e= .returned (.slice A (js r most).length c)∧zV w' w.heap.size A c (js r most)∧Below w.heap.size w w':=by
 subst hM;obtain⟨k,a,b,t⟩:=r;have ht:=ho.t;have ua:=j0 a;have ub:=j0 b;unfold Zw;simp only [js];generalize u8 a=x at *
 generalize u8 b=y at *
 dsimp only at ht ⊢
 have hsz:t.data.toList.length=t.size:=by rw [Array.length_toList];rfl
 obtain⟨w1,hw1⟩:∃w1,w1=w.alloc (.cells #[.int .i64 k,.int .i64 a,.int .i64 b,.string t] 24):=⟨_,rfl⟩
 have s1:w1.heap.size=w.heap.size+1:=by rw [hw1,World.size_alloc]
 have hb1:Below w.heap.size w w1:=by rw [hw1];exact(Below.refl _ _).alloc (Nat.le_refl _) _
 have hr:Rd (w1.alloc (.cells #[.int .u8 (x.toNat:Int),.int .u8 (y.toNat:Int)] 5)) 1 (some ⟨w.heap.size+1,0,none⟩) 2 (bys [x,y]):=by
  have:=Rd.newN (w:=w1) (e:=5) (size:=1) (m:=2) (bys [x,y]) rfl;rw [s1]at this;exact this
 have hb2:Below w.heap.size w (w1.alloc (.cells #[.int .u8 (x.toNat:Int),.int .u8 (y.toNat:Int)] 5)):=hb1.alloc (by omega) _;have qs:=yy (P:=Tryz.prog) (c:=2) (src:=30) (dst:=9) Tryz.underlying30 Tryz.underlying5 Tryz.underlying9 (n:=2) (l:= [x,y]) rfl hr;obtain⟨S,hS⟩:∃S:ByteArray,S=t++⟨[x,y].toArray⟩:=⟨_,rfl⟩
 have qa:=fun w'=>run_string_add_sum (P:=Tryz.prog) (w:=w') t ⟨[x,y].toArray⟩ (by show t.size+2≤_;omega);have hSl:S.data.toList=t.data.toList++ [x,y]:=by rw [hS,ByteArray.data_append,Array.toList_append]
 have hSs:S.size=t.size+2:=by
  have h:=congrArg List.length hSl;rw [Array.length_toList,List.length_append,hsz]at h;exact h
 rw [←hS]at qa;rw [←hSl];obtain⟨E,hE⟩:∃E:ByteArray,E=S.extract 0 (min ((t.size:Int)+2) (most:Int)).toNat:=⟨_,rfl⟩
 have hEl:S.data.toList.take most=E.data.toList:=by
  have hl:=congrArg List.length hSl;rw [List.length_append,hsz]at hl;rw [hE,ByteArray.data_extract,Array.toList_extract,List.extract_eq_take_drop,List.drop_zero,Nat.sub_zero];rcases Nat.le_total (t.size+2) most with h | h
  ·rw [List.take_of_length_le (by rw [hl];exact h),List.take_of_length_le (by rw [hl];simp only [List.length_cons,List.length_nil];omega)]
  ·congr 1;omega
 have hEs:E.size≤maxLen:=by
  have h:=congrArg List.length hEl;rw [List.length_take]at h;have h2:E.data.toList.length=E.size:=by rw [Array.length_toList];rfl
  simp only [maxLen];omega
 rw [hEl];obtain⟨w3,qz,hz,hb3⟩:=ZN E (w1.alloc (.cells #[.int .u8 (x.toNat:Int),.int .u8 (y.toNat:Int)] 5)) hEs;have hz:=hz.lower hb2.size;have hb23:=hb2.trans (hb3.mono hb2.size);generalize grownCap (w1.alloc (.cells #[.int .u8 (x.toNat:Int),.int .u8 (y.toNat:Int)] 5)) E.size 0 5=c at qz hz;generalize (w1.alloc (.cells #[.int .u8 (x.toNat:Int),.int .u8 (y.toNat:Int)] 5)).heap.size=g at qz hz;generalize E.data.toList=L at qz hz ⊢
 rw [hE]at qz;rw [hw1]at qz qs;clear hr hS hSl hb1 hw1 s1 hE hEl hEs hb2 hb3;go_enter Tryz.func7,Tryz.ntmps7;go_wp2_with fail;go_ret;exact⟨_,_,rfl,hz,hb23⟩
end Go.Proofs.YtfmnggcfhalfnaaGreat
namespace Go.Proofs.YtfmnggcfhalfnaaGreat
open Go.ChangeShapes Go.WideShapes Go.ChangeAt Go.RowKit
open Go.WideMaps Go.WideElems Go.Deep
section
variable {H:Type} {enc:TypeId×Value→H}
theorem uN {w:World} {n:Nat} {cs:List Value} {x:DataW H×List MemPlace} (hlen:cs.length=4) (h:DataW.trod enc Tryz.prog w 0 (fun _=>true) true n 24 cs=some x) :
  ∃r:RawP,cs=qy r∧r.text.size∈x.1.weights Tryz.prog 24 ∧
   ((Lit.int .i64 r.kind).wf=true∧(Lit.int .i64 r.a).wf=true∧(Lit.int .i64 r.b).wf=true):=by
 obtain⟨xs,m,_,hx,_,hxl,hf⟩:=DataW.trod_struct Tryz.underlying24 h
 match cs,hlen with
 | [c0,c1,c2,c3],_ =>
  match xs,hxl with
  | [y0,y1,y2,y3],_ =>
   have hci:Tryz.prog.cellsOf 3=1:=by kernel_rfl
   have hcs:Tryz.prog.cellsOf 9=1:=by kernel_rfl
   have h0:DataW.trod enc Tryz.prog w 0 (fun _=>true) true m 3 (([c0,c1,c2,c3].drop 0).take (Tryz.prog.cellsOf 3))=some y0:=hf 0 _ rfl;have h1:DataW.trod enc Tryz.prog w 0 (fun _=>true) true m 3 (([c0,c1,c2,c3].drop 1).take (Tryz.prog.cellsOf 3))=some y1:=hf 1 _ rfl;have h2:DataW.trod enc Tryz.prog w 0 (fun _=>true) true m 3 (([c0,c1,c2,c3].drop 2).take (Tryz.prog.cellsOf 3))=some y2:=hf 2 _ rfl;have h3:DataW.trod enc Tryz.prog w 0 (fun _=>true) true m 9 (([c0,c1,c2,c3].drop 3).take (Tryz.prog.cellsOf 9))=some y3:=hf 3 _ rfl;rw [hci]at h0 h1 h2;rw [hcs]at h3;obtain⟨n0,e0,f0,g0⟩:=DataW.trod_int (k:= .i64) Tryz.underlying3 h0;obtain⟨n1,e1,f1,g1⟩:=DataW.trod_int (k:= .i64) Tryz.underlying3 h1;obtain⟨n2,e2,f2,g2⟩:=DataW.trod_int (k:= .i64) Tryz.underlying3 h2;obtain⟨s3,e3,f3,g3⟩:=DataW.trod_string Tryz.underlying9 h3;have e0':c0= .int .i64 n0:=by simpa using e0
   have e1':c1= .int .i64 n1:=by simpa using e1
   have e2':c2= .int .i64 n2:=by simpa using e2
   have e3':c3= .string s3:=by simpa using e3
   subst e0' e1' e2' e3';refine⟨⟨n0,n1,n2,s3⟩,rfl,?_,g0,g1,g2⟩;rw [hx,f0,f1,f2,f3];show s3.size∈DataW.weights Tryz.prog 24 (.agg [_,_,_,_]);rw [DataW.weights,Tryz.underlying24];simp [DataW.weightsEach,DataW.weights]
variable {w:World} {ts:List TypeId} {ds:List (DataW H)} {ps:List MemPlace} {r:Reach} {b0:Nat}
theorem jA {v:Value} {d:DataW H} {j:Nat} (hval:Value.okWide Tryz.prog w r b0 24 v) (hd:DataW.Trod enc Tryz.prog w 0 (fun _=>true) true 24 v d ps)
  (hsz:(DataW.weightsEach Tryz.prog ts ds).all (· ≤ reachBytes)=true) (hj:ts[j]?=some 24) (hdj:ds[j]?=some d) :
  ∃z:RawP,v=Zw z∧RawOk z:=by
 obtain⟨cs,rfl,hcs⟩:=okWide_struct Tryz.underlying24 hval;rw [show Tryz.prog.cellsOf 24=4 by kernel_rfl]at hcs;obtain⟨fuel,hf⟩:=hd;have hf':DataW.trod enc Tryz.prog w 0 (fun _=>true) true fuel 24 cs.toList=some (d,ps):=hf;obtain⟨z,hz,hw,hk,ha,hb⟩:=uN (by rw [Array.length_toList];exact hcs) hf';have hle:=List.all_eq_true.1 hsz _ (DataW.weights_mem_each hj hdj _ hw);have hk':=yc hk;have ha':=yc ha;have hb':=yc hb;refine⟨z,?_,⟨hk'.1,hk'.2,ha'.1,ha'.2,hb'.1,hb'.2,by simpa [reachBytes] using of_decide_eq_true hle⟩⟩;rw [Zw,show cs=(qy z).toArray by rw [←hz]];rfl
end
end Go.Proofs.YtfmnggcfhalfnaaGreat
