/- Lemmas of the proof. Conditions: as stated. -/
import Derived.Test.YtfmnggcfhalfnaaGreatQW00
import Derived.Test.YtfmnggcfhalfnaaGreatRows
import Derived.ProofKit
import Derived.OpenShut
import Derived.HandedShaped
import Derived.SizedLaws
import Derived.Deep.Slices
import Derived.Deep.CondSized
set_option linter.unusedVariables false
set_option linter.unusedSimpArgs false
set_option maxRecDepth 100000
namespace Go.Proofs.YtfmnggcfhalfnaaGreat
open Go.ChangeShapes Go.WideShapes Go.ChangeAt Go.RowKit
open Go.WideMaps Go.WideElems
open Go.ChangeMaps (open_string shut_string)
theorem own:ownKnob Tryz.prog.godebug=none:=by kernel_rfl
theorem Zm:laidOutB Tryz.prog=true:=by kernel_rfl
section
variable {H:Type} {enc:TypeId×Value→H} {P:Program}
theorem qT (hl:laidOutB P=true) {W W':World} (hb:Below W.heap.size W W'):∀(ts:List TypeId) (vs:List Value) (ds:List (DataW H)) (ps:List MemPlace),
  ts.all (fun t=>P.readableRec t&&decide (t<P.types.size))=true→DataW.TrodAll enc P W 0 (fun _=>true) true ts vs ds ps→(∀x∈ps,x.block<W.heap.size) →
  DataW.TrodAll enc P W' 0 (fun b=>decide (b<W.heap.size)) true ts vs ds ps
 | [],vs,ds,ps,_,h,_=>by
  obtain⟨rfl,rfl,rfl⟩:=trodAll_nil h
  rfl
 | t::ts,vs,ds,ps,hr,h,hlt=>by
  obtain⟨v,vs',d,ds',p,q,rfl,rfl,rfl,h1,h2⟩:=trodAll_cons h
  simp only [List.all_cons,Bool.and_eq_true,decide_eq_true_eq]at hr
  exact⟨p,q,Below.trod hl hr.1.1 hr.1.2 h1 hb (fun x hx=>hlt x (List.mem_append_left _ hx)),
   qT hl hb ts vs' ds' q hr.2 h2 (fun x hx=>hlt x (List.mem_append_right _ hx)),rfl⟩
theorem kE {w:World} {base:Nat} {sp:Nat→Bool} {held:Bool}:∀(ts:List TypeId) (vs:List Value) (ds:List (DataW H)) (ps:List MemPlace),
  DataW.TrodAll enc P w base sp held ts vs ds ps→ds.length=ts.length
 | [],vs,ds,ps,h=>by obtain⟨_,rfl,_⟩:=trodAll_nil h;rfl
 | t::ts,vs,ds,ps,h=>by
  obtain⟨v,vs',d,ds',p,q,rfl,rfl,rfl,h1,h2⟩:=trodAll_cons h
  simp [kE ts vs' ds' q h2]
theorem jw {k:FuncId} {fn:Func} {s:ChangeSpec} {W:World} {args:Array Value} {ds gs:List (DataW H)} {before:List MemPlace} {tb:TypeId}
  (hl:laidOutB P=true) (hr:fn.params.toList.all (fun t=>P.readableRec t&&decide (t<P.types.size))=true) (hv:s.vars= [])
  (hs:∀ds:List (DataW H),ds.length=fn.params.toList.length→s.fn H (ds++ [])= { results:= [.lit (.bool true)],args:=ds })
  (ht:fn.resultTypes=#[tb]) (hb:P.underlying tb=some .bool)
  (hW:DataW.Whole enc P fn.params.toList s.vars false W args.toList ds gs before)
  (walk:Calls P k args W fun e W'=>e= .returned (.bool true)∧Below W.heap.size W W') :
  Calls P k args W fun e W'=>∃v,e= .returned v∧s.post enc P fn false true false false W args v W':=by
 refine walk.mono fun e W' ⟨he,hbel⟩=>⟨_,he,?_⟩
 have hW0:=hW;obtain⟨p,q,hA,hV,rfl,_,_⟩:=hW;rw [hv]at hV;have hg:gs= []∧q= []:=by
  cases gs with
  | nil=>exact⟨rfl,hV⟩
  | cons g gs=>exact hV.elim
 obtain⟨rfl,rfl⟩:=hg;have hlt:∀x∈p,x.block<W.heap.size:=fun x hx=>by simpa using hW0.lt x (List.mem_append_left _ hx)
 have e1:=hs ds (kE _ _ _ _ hA);refine⟨ds, [],p++ [], [],p, [],hW0,?_,?_,?_,hbel.frame _,fun h=>by cases h⟩
 ·rw [e1,ht];exact⟨[], [],shut_bool hb true,rfl,rfl⟩
 ·rw [e1];exact qT hl hbel _ _ _ _ hr hA hlt
 ·rw [e1,hv];rfl
theorem jp {H:Type} (d:DataW H):1≤Rows.uptoBulk d:=by
 cases d with
 | lit l=>cases l<;>simp [Rows.uptoBulk]
 | nil=>simp [Rows.uptoBulk]
 | ptr d=>simp [Rows.uptoBulk]
 | slice elems spare=>simp [Rows.uptoBulk]
 | agg parts=>simp [Rows.uptoBulk]
 | iface t d=>simp [Rows.uptoBulk]
 | map entries=>simp [Rows.uptoBulk]
 | held h=>simp [Rows.uptoBulk]
theorem jo {H:Type} (l:List (DataW H)):l.length≤Rows.uptoBulkAll l:=by
 induction l with
 | nil=>simp [Rows.uptoBulkAll]
 | cons x r ih=>have:=jp x;simp only [Rows.uptoBulkAll,List.length_cons];omega
theorem yc {n:Int} (h:(Lit.int .i64 n).wf=true): -9223372036854775808≤n∧n≤9223372036854775807:=by
 have e1:IntKind.i64.min= -9223372036854775808:=by decide
 have e2:IntKind.i64.max=9223372036854775807:=by decide
 simp [Lit.wf,e1,e2]at h;omega
theorem uX {w:World} {a:Addr} {v:Value} (h:w.cell? a=some v):a.spot=none:=by
 unfold World.cell? at h;cases hs:a.spot with
 | none=>rfl
 | some _ =>
  simp only [hs,Option.isSome_some,if_true]at h;split at h<;>cases h
section
variable {w:World} {ts:List TypeId} {ds:List (DataW H)} {ps:List MemPlace} {r:Reach} {b0:Nat}
end
end
end Go.Proofs.YtfmnggcfhalfnaaGreat
namespace Go.Proofs.YtfmnggcfhalfnaaGreat
open Go.ChangeShapes Go.WideShapes Go.ChangeAt Go.RowKit
open Go.WideMaps Go.WideElems Go.Deep
structure RawP where
 kind:Int
 a:Int
 b:Int
 text:ByteArray
structure RawOk (r:RawP):Prop where
 k0: -9223372036854775808≤r.kind
 k1:r.kind≤9223372036854775807
 a0: -9223372036854775808≤r.a
 a1:r.a≤9223372036854775807
 b0: -9223372036854775808≤r.b
 b1:r.b≤9223372036854775807
 t:r.text.size≤140737488351232
def qy (r:RawP):List Value:= [.int .i64 r.kind,.int .i64 r.a,.int .i64 r.b,.string r.text]
def rcs (l:List RawP):List Value:=l.flatMap qy
theorem uP (l:List RawP):(rcs l).length=l.length*4:=by
 induction l with
 | nil=>rfl
 | cons x l ih=>simp only [rcs,List.flatMap_cons,List.length_append,List.length_cons] at *;rw [ih];simp [qy];omega
theorem uO:∀(l:List RawP) (k j:Nat) (h:k<l.length) (hj:j<4),(rcs l)[k*4+j]?=(qy l[k])[j]?
 | x::l,0,j,h,hj=>by
  show(qy x++rcs l)[0*4+j]?=(qy x)[j]?
  rw [Nat.zero_mul,Nat.zero_add,List.getElem?_append_left (by simpa [qy] using hj)]
 | x::l,k+1,j,h,hj=>by
  show(qy x++rcs l)[(k+1)*4+j]?=_
  rw [List.getElem?_append_right (by simp [qy];omega),show(k+1)*4+j - (qy x).length=k*4+j by simp [qy];omega,uO l k j (by simpa using h) hj]
  rfl
theorem kx {α:Type} (P:Nat→α→Prop):∀n,(∀i,i<n→∃r,P i r)→∃l:List α,l.length=n∧∀i (h:i<l.length),P i l[i]
 | 0,_=>⟨[],rfl,fun i h=>absurd h (by simp)⟩
 | n+1,h=>by
  obtain⟨l,hl,hp⟩:=kx P n (fun i hi=>h i (by omega))
  obtain⟨r,hr⟩:=h n (by omega)
  refine⟨l++ [r],by simp [hl],fun i hi=> ?_⟩
  by_cases hin:i<l.length
  ·rw [List.getElem_append_left hin];exact hp i hin
  ·have:i=n:=by simp at hi;omega
   subst this
   rw [List.getElem_append_right (by omega)]
   simpa [hl] using hr
section
variable {H:Type} {enc:TypeId×Value→H}
theorem qp {P:Program} {e:TypeId} {d:DataW H} {x:Nat}:∀ {l:List (DataW H)},d∈l→x∈d.weights P e→x∈DataW.weightsAll P e l
 | y::l,h,hx=>by
  simp only [DataW.weightsAll,List.mem_append]
  cases List.mem_cons.1 h with
  | inl h=>exact .inl (h▸hx)
  | inr h=>exact .inr (qp h hx)
theorem Zs {w:World} {n:Nat} {a:Addr} {cs:List Value} {x:DataW H×List MemPlace} (hc:w.cells? 0 a 4=some cs) (h:DataW.trod enc Tryz.prog w 0 (fun _=>true) true n 24 cs=some x) :
  ∃r:RawP,(∀j,j<4→w.cell? (a.add j)=(qy r)[j]?)∧r.text.size∈x.1.weights Tryz.prog 24 ∧
   ((Lit.int .i64 r.kind).wf=true∧(Lit.int .i64 r.a).wf=true∧(Lit.int .i64 r.b).wf=true):=by
 obtain⟨_,hlen,hcell⟩:=World.cells?_some hc;obtain⟨xs,m,_,hx,_,hxl,hf⟩:=DataW.trod_struct Tryz.underlying24 h
 match cs,hlen with
 | [c0,c1,c2,c3],_ =>
  match xs,hxl with
  | [y0,y1,y2,y3],_ =>
   have hci:Tryz.prog.cellsOf 3=1:=by kernel_rfl
   have hcs:Tryz.prog.cellsOf 9=1:=by kernel_rfl
   have h0:DataW.trod enc Tryz.prog w 0 (fun _=>true) true m 3 (([c0,c1,c2,c3].drop 0).take (Tryz.prog.cellsOf 3))=some y0:=hf 0 _ rfl;have h1:DataW.trod enc Tryz.prog w 0 (fun _=>true) true m 3 (([c0,c1,c2,c3].drop 1).take (Tryz.prog.cellsOf 3))=some y1:=hf 1 _ rfl;have h2:DataW.trod enc Tryz.prog w 0 (fun _=>true) true m 3 (([c0,c1,c2,c3].drop 2).take (Tryz.prog.cellsOf 3))=some y2:=hf 2 _ rfl;have h3:DataW.trod enc Tryz.prog w 0 (fun _=>true) true m 9 (([c0,c1,c2,c3].drop 3).take (Tryz.prog.cellsOf 9))=some y3:=hf 3 _ rfl;rw [hci]at h0 h1 h2;rw [hcs]at h3;obtain⟨n0,e0,f0,g0⟩:=DataW.trod_int (k:= .i64) Tryz.underlying3 h0;obtain⟨n1,e1,f1,g1⟩:=DataW.trod_int (k:= .i64) Tryz.underlying3 h1;obtain⟨n2,e2,f2,g2⟩:=DataW.trod_int (k:= .i64) Tryz.underlying3 h2;obtain⟨s3,e3,f3,g3⟩:=DataW.trod_string Tryz.underlying9 h3;have e0':c0= .int .i64 n0:=by simpa using e0
   have e1':c1= .int .i64 n1:=by simpa using e1
   have e2':c2= .int .i64 n2:=by simpa using e2
   have e3':c3= .string s3:=by simpa using e3
   subst e0' e1' e2' e3';refine⟨⟨n0,n1,n2,s3⟩,fun j hj=>hcell j hj,?_,g0,g1,g2⟩;rw [hx,f0,f1,f2,f3];show s3.size∈DataW.weights Tryz.prog 24 (.agg [_,_,_,_]);rw [DataW.weights,Tryz.underlying24];simp [DataW.weightsEach,DataW.weights]
variable {w:World} {ts:List TypeId} {ds:List (DataW H)} {ps:List MemPlace} {r:Reach} {b0:Nat}
theorem uH {v:Value} {d:DataW H} {j:Nat} (hval:Value.okWide Tryz.prog w r b0 22 v) (hd:DataW.Trod enc Tryz.prog w 0 (fun _=>true) true 22 v d ps)
  (hsz:(DataW.weightsEach Tryz.prog ts ds).all (· ≤ reachBytes)=true) (hj:ts[j]?=some 22) (hdj:ds[j]?=some d) :
  ∃A n c,∃l:List RawP,v= .slice A n c∧l.length=n∧n≤c∧c*Tryz.prog.bytesOf 24≤140737488351232∧c≤maxLen∧(∀z∈l,RawOk z)∧n≤Rows.uptoBulk d∧Rd w 4 A n (rcs l):=by
 have ht:=Tryz.underlying22;have hC:Tryz.prog.cellsOf 24=4:=by kernel_rfl
 obtain⟨a0,len,cap,rfl⟩:=okWide_slice ht hval;obtain⟨fuel,hf⟩:=hd;rcases open_slice ht hf with ⟨hcs,hx⟩ | ⟨a,len',cap',m,n,D,Pl,hcs,_,hl,hm,hmm,hx,hi⟩
 ·have:Value.slice a0 len cap= .slice none 0 0:=by simpa [Value.cells] using hcs
  injection this with e1 e2 e3;subst e1 e2 e3;exact⟨none,0,0, [],rfl,rfl,Nat.le_refl _,by omega,by simp [maxLen],by simp,Nat.zero_le _,Rd.nil_⟩
 ·have:Value.slice a0 len cap= .slice (some a) len' cap':=by simpa [Value.cells] using hcs
  injection this with e1 e2 e3;subst e1 e2 e3;simp only [if_true]at hmm;subst hmm;have hd:d= .slice ((List.range len).map D) ((List.range (m - len)).map fun j=>D (len+j)):=by
   have:=congrArg Prod.fst hx;simpa using this
  subst hd;have hs:=sized_slice hsz hj hdj ht;simp only [List.length_map,List.length_range]at hs;rw [show len+(m - len)=m by omega]at hs;have hone:∀i,i<len→∃z:RawP,RawOk z∧∀j,j<4→w.cell? (a.add (i*4+j))=(qy z)[j]?:=fun i hin=>by
   obtain⟨cs',hc,ht'⟩:=hi i (by omega);rw [hC]at hc;obtain⟨z,hz,hw,hk,ha,hb⟩:=Zs hc ht';have hmem:z.text.size∈DataW.weightsEach Tryz.prog ts ds:=by
    refine DataW.weights_mem_each hj hdj _ ?_;rw [DataW.weights,ht];simp only [List.mem_cons,List.mem_append];exact .inr (.inl (qp (List.mem_map.2 ⟨i,List.mem_range.2 hin,rfl⟩) hw))
   have hle:=List.all_eq_true.1 hsz _ hmem;have hk':=yc hk;have ha':=yc ha;have hb':=yc hb;refine⟨z,⟨hk'.1,hk'.2,ha'.1,ha'.2,hb'.1,hb'.2,by simpa [reachBytes] using of_decide_eq_true hle⟩,fun j hj=> ?_⟩;rw [←hz j hj,ZL]
  obtain⟨l,hll,hlp⟩:=kx _ len hone;refine⟨some a,len,m,l,rfl,hll,hl,by simpa [reachBytes] using hs,hm,fun z hz=> ?_,?_,⟨by rw [uP,hll],fun hn=> ?_⟩⟩
  ·obtain⟨i,hi,rfl⟩:=List.mem_iff_getElem.1 hz;exact(hlp i hi).1
  ·have h1:=jo (H:=H) ((List.range len).map D);simp only [List.length_map,List.length_range]at h1;simp only [Rows.uptoBulk];omega
  ·have h0:=(hlp 0 (by omega)).2 0 (by omega);have hsp:a.spot=none:=uX (w:=w) (v:= .int .i64 (l[0]'(by omega)).kind) (by have:=h0;simpa [Addr.add,qy] using this);obtain⟨b,off,spot⟩:=a;simp only at hsp;subst hsp;have hadd:∀i,(⟨b,off,none⟩:Addr).add i=⟨b,off+i,none⟩:=fun i=>by unfold Addr.add;split<;>simp_all
   refine⟨b,off,rfl,World.block_lt_of_cell? w ((⟨b,off,none⟩:Addr).add (0*4+0)) (u:= .int .i64 (l[0]'(by omega)).kind) (by rw [h0];rfl),fun i u hu=> ?_⟩;have hil:=(List.getElem?_eq_some_iff.1 hu).1;rw [uP]at hil;have hk:i / 4<l.length:=by omega
   have h2:=(hlp (i / 4) hk).2 (i % 4) (by omega);rw [←uO l (i / 4) (i % 4) hk (by omega),show i / 4*4+i % 4=i by omega,hu,hadd]at h2;exact h2
end
end Go.Proofs.YtfmnggcfhalfnaaGreat
