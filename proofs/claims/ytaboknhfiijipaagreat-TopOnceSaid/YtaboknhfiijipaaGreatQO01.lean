/- Lemmas, as stated. -/
import Derived.Test.YtaboknhfiijipaaGreatRows
import Derived.ProofKit
import Derived.OpenShut
import Derived.HandedShaped
import Derived.SizedLaws
import Derived.Deep.Slices
import Derived.Deep.CondSized
import Derived.Test.YtaboknhfiijipaaGreatQO00
set_option linter.unusedVariables false
set_option linter.unusedSimpArgs false
set_option maxRecDepth 100000
open Go.Proofs.Tryz
open Go.Proofs.Tryz renaming prog->zZZ
open Go.Value renaming slice->aA,int->aB
open Go.IntKind renaming i64->aC
namespace Go.Proofs.YtaboknhfiijipaaGreat
open Go.ChangeShapes Go.WideShapes Go.ChangeAt Go.RowKit
open Go.WideMaps Go.WideElems
open Go.ChangeMaps (open_string shut_string)
variable {a:Addr} {v:Value} {w:World}
theorem own:ownKnob zZZ.godebug=none:=by kernel_rfl
theorem z0e:laidOutB zZZ=true:=by kernel_rfl
section
variable {H:Type} {enc:TypeId×Value->H} {P:Program}
theorem xG (hl:laidOutB P=true) {W W':World} (hb:Below W.heap.size W W'):∀(ts:List TypeId) (vs:ak) (ds:List (DataW H)) (ps:List MemPlace),
  ts.all (fun t=>P.readableRec t&&decide (t<P.types.size))=true->DataW.TrodAll enc P W 0 (fun _=>true) true ts vs ds ps->(∀x∈ps,x.block<W.heap.size) ->
  DataW.TrodAll enc P W' 0 (fun b=>decide (b<W.heap.size)) true ts vs ds ps
 | [],vs,ds,ps,_,h,_=>by
  obtain⟨rfl,rfl,rfl⟩:=trodAll_nil h
  rfl
 | t::ts,vs,ds,ps,hr,h,hlt=>by
  obtain⟨v,vs',d,ds',p,q,rfl,rfl,rfl,h1,h2⟩:=trodAll_cons h
  simp only [List.all_cons,Bool.and_eq_true,decide_eq_true_eq]at hr
  exact⟨p,q,Below.trod hl hr.1.1 hr.1.2 h1 hb (fun x hx=>hlt x (List.mem_append_left _ hx)),
   xG hl hb ts vs' ds' q hr.2 h2 (fun x hx=>hlt x (List.mem_append_right _ hx)),rfl⟩
theorem uw {w:World} {base:Nat} {sp:Nat->Bool} {held:Bool}:∀(ts:List TypeId) (vs:ak) (ds:List (DataW H)) (ps:List MemPlace),
  DataW.TrodAll enc P w base sp held ts vs ds ps->ds.length=ts.length
 | [],vs,ds,ps,h=>by obtain⟨_,rfl,_⟩:=trodAll_nil h;rfl
 | t::ts,vs,ds,ps,h=>by
  obtain⟨v,vs',d,ds',p,q,rfl,rfl,rfl,h1,h2⟩:=trodAll_cons h
  simp [uw ts vs' ds' q h2]
theorem Ue {k:FuncId} {fn:Func} {s:ChangeSpec} {W:World} {args:Array Value} {ds gs:List (DataW H)} {before:List MemPlace} {tb:TypeId}
  (hl:laidOutB P=true) (hr:fn.params.toList.all (fun t=>P.readableRec t&&decide (t<P.types.size))=true) (hv:s.vars= [])
  (hs:∀ds:List (DataW H),ds.length=fn.params.toList.length->s.fn H (ds++ [])= { results:= [.lit (.bool true)],args:=ds })
  (ht:fn.resultTypes=#[tb]) (hb:P.underlying tb=some .bool)
  (hW:DataW.Whole enc P fn.params.toList s.vars false W args.toList ds gs before)
  (walk:Calls P k args W fun e W'=>e= .returned (.bool true)/\Below W.heap.size W W') :
  Calls P k args W fun e W'=>∃v,e= .returned v/\s.post enc P fn false true false false W args v W':=by
 refine walk.mono fun e W' ⟨he,hbel⟩=>⟨_,he,?_⟩
 have hW0:=hW;obtain⟨p,q,hA,hV,rfl,_,_⟩:=hW;rw [hv]at hV;have hg:gs= []/\q= []:=by
  cases gs with
  | nil=>exact⟨rfl,hV⟩
  | cons g gs=>exact hV.elim
 obtain⟨rfl,rfl⟩:=hg;have hlt:∀x∈p,x.block<W.heap.size:=fun x hx=>by simpa using hW0.lt x (List.mem_append_left _ hx)
 have e1:=hs ds (uw _ _ _ _ hA);refine⟨ds, [],p++ [], [],p, [],hW0,?_,?_,?_,hbel.frame _,fun h=>by cases h⟩
 ·rw [e1,ht];exact⟨[], [],shut_bool hb true,rfl,rfl⟩
 ·rw [e1];exact xG hl hbel _ _ _ _ hr hA hlt
 ·rw [e1,hv];rfl
theorem VU {H:Type} (d:DataW H):1<=Rows.uptoBulk d:=by
 cases d with
 | lit l=>cases l<;>simp [Rows.uptoBulk]
 | nil=>simp [Rows.uptoBulk]
 | ptr d=>simp [Rows.uptoBulk]
 | slice elems spare=>simp [Rows.uptoBulk]
 | agg aP=>simp [Rows.uptoBulk]
 | iface t d=>simp [Rows.uptoBulk]
 | map entries=>simp [Rows.uptoBulk]
 | held h=>simp [Rows.uptoBulk]
theorem VT {H:Type} (l:List (DataW H)):l.length<=Rows.uptoBulkAll l:=by
 induction l with
 | nil=>simp [Rows.uptoBulkAll]
 | cons x r ih=>have:=VU x;simp only [Rows.uptoBulkAll,List.length_cons];omega
theorem Va {n:Int} (h:(Lit.int aC n).wf=true): -9223372036854775808<=n/\n<=9223372036854775807:=by
 have e1:IntKind.i64.min= -9223372036854775808:=aa;have e2:IntKind.i64.max=9223372036854775807:=aa;simp [Lit.wf,e1,e2]at h;omega
theorem XY (h:w.cell? a=some v):a.spot=none:=by
 unfold World.cell? at h;cases hs:a.spot with
 | none=>rfl
 | some _ =>
  simp only [hs,Option.isSome_some,if_true]at h;split at h<;>cases h
section
variable {w:World} {ts:List TypeId} {ds:List (DataW H)} {ps:List MemPlace} {r:Reach} {b0:Nat}
end
end
open Go.Deep
structure RawP where
 kind:Int
 a:Int
 b:Int
 text:ByteArray
structure RawOk (r:RawP):Prop where
 k0: -9223372036854775808<=r.kind
 k1:r.kind<=9223372036854775807
 a0: -9223372036854775808<=r.a
 a1:r.a<=9223372036854775807
 b0: -9223372036854775808<=r.b
 b1:r.b<=9223372036854775807
 t:r.text.size<=140737488351232
def xV (r:RawP):ak:= [aB aC r.kind,aB aC r.a,aB aC r.b,.string r.text]
def rcs (l:List RawP):ak:=l.flatMap xV
theorem XM (l:List RawP):(rcs l).length=l.length*4:=by
 induction l with
 | nil=>rfl
 | cons x l ih=>simp only [rcs,List.flatMap_cons,List.length_append,List.length_cons] at *;rw [ih];simp [xV];omega
theorem XL:∀(l:List RawP) (k j:Nat) (h:k<l.length) (hj:j<4),(rcs l)[k*4+j]?=(xV l[k])[j]?
 | x::l,0,j,h,hj=>by
  show(xV x++rcs l)[0*4+j]?=(xV x)[j]?
  rw [Nat.zero_mul,Nat.zero_add,List.getElem?_append_left (by simpa [xV] using hj)]
 | x::l,k+1,j,h,hj=>by
  show(xV x++rcs l)[(k+1)*4+j]?=_
  rw [List.getElem?_append_right (by simp [xV];omega),show(k+1)*4+j - (xV x).length=k*4+j by simp [xV];omega,XL l k j (by simpa using h) hj]
  rfl
theorem ud {α:Type} (P:Nat->α->Prop):∀n,(∀i,i<n->∃r,P i r)->∃l:List α,l.length=n/\∀i (h:i<l.length),P i l[i]
 | 0,_=>⟨[],rfl,fun i h=>absurd h ab⟩
 | n+1,h=>by
  obtain⟨l,hl,hp⟩:=ud P n (fun i hi=>h i wu)
  obtain⟨r,hr⟩:=h n wu
  refine⟨l++ [r],by simp [hl],fun i hi=> ?_⟩
  by_cases hin:i<l.length
  ·rw [List.getElem_append_left hin];exact hp i hin
  ·have:i=n:=by simp at hi;omega
   subst this
   rw [List.getElem_append_right wu]
   simpa [hl] using hr
section
variable {H:Type} {enc:TypeId×Value->H}
theorem yP {P:Program} {e:TypeId} {d:DataW H} {x:Nat}:∀ {l:List (DataW H)},d∈l->x∈d.weights P e->x∈DataW.weightsAll P e l
 | y::l,h,hx=>by
  simp only [DataW.weightsAll,List.mem_append]
  cases List.mem_cons.1 h with
  | inl h=>exact .inl (h▸hx)
  | inr h=>exact .inr (yP h hx)
theorem z0n {n:Nat} {cs:ak} {x:DataW H×List MemPlace} (hc:w.cells? 0 a 4=some cs) (h:DataW.trod enc zZZ w 0 (fun _=>true) true n 73 cs=some x) :
  ∃r:RawP,(∀j,j<4->w.cell? (a.add j)=(xV r)[j]?)/\r.text.size∈x.1.weights zZZ 73 /\
   ((Lit.int aC r.kind).wf=true/\(Lit.int aC r.a).wf=true/\(Lit.int aC r.b).wf=true):=by
 obtain⟨_,hlen,hcell⟩:=World.cells?_some hc;obtain⟨xs,m,_,hx,_,hxl,hf⟩:=DataW.trod_struct underlying73 h
 match cs,hlen with
 | [c0,c1,c2,c3],_ =>
  match xs,hxl with
  | [y0,y1,y2,y3],_ =>
   have hci:zZZ.cellsOf 3=1:=ww;have hcs:zZZ.cellsOf 9=1:=ww;have h0:DataW.trod enc zZZ w 0 (fun _=>true) true m 3 (([c0,c1,c2,c3].drop 0).take (zZZ.cellsOf 3))=some y0:=hf 0 _ rfl;have h1:DataW.trod enc zZZ w 0 (fun _=>true) true m 3 (([c0,c1,c2,c3].drop 1).take (zZZ.cellsOf 3))=some y1:=hf 1 _ rfl;have h2:DataW.trod enc zZZ w 0 (fun _=>true) true m 3 (([c0,c1,c2,c3].drop 2).take (zZZ.cellsOf 3))=some y2:=hf 2 _ rfl;have h3:DataW.trod enc zZZ w 0 (fun _=>true) true m 9 (([c0,c1,c2,c3].drop 3).take (zZZ.cellsOf 9))=some y3:=hf 3 _ rfl;rw [hci]at h0 h1 h2;rw [hcs]at h3;obtain⟨n0,e0,f0,g0⟩:=DataW.trod_int (k:= aC) underlying3 h0;obtain⟨n1,e1,f1,g1⟩:=DataW.trod_int (k:= aC) underlying3 h1;obtain⟨n2,e2,f2,g2⟩:=DataW.trod_int (k:= aC) underlying3 h2;obtain⟨s3,e3,f3,g3⟩:=DataW.trod_string underlying9 h3;have e0':c0= aB aC n0:=by simpa using e0
   have e1':c1= aB aC n1:=by simpa using e1
   have e2':c2= aB aC n2:=by simpa using e2
   have e3':c3= .string s3:=by simpa using e3
   subst e0' e1' e2' e3';refine⟨⟨n0,n1,n2,s3⟩,fun j hj=>hcell j hj,?_,g0,g1,g2⟩;rw [hx,f0,f1,f2,f3];show s3.size∈DataW.weights zZZ 73 (.agg [_,_,_,_]);rw [DataW.weights,underlying73];simp [DataW.weightsEach,DataW.weights]
variable {w:World} {ts:List TypeId} {ds:List (DataW H)} {ps:List MemPlace} {r:Reach} {b0:Nat}
theorem XC {d:DataW H} {j:Nat} (hval:Value.okWide zZZ w r b0 22 v) (hd:DataW.Trod enc zZZ w 0 (fun _=>true) true 22 v d ps)
  (hsz:(DataW.weightsEach zZZ ts ds).all (· <= reachBytes)=true) (hj:ts[j]?=some 22) (hdj:ds[j]?=some d) :
  ∃A n c,∃l:List RawP,v= aA A n c/\l.length=n/\n<=c/\c*zZZ.bytesOf 73<=140737488351232/\c<=maxLen/\(∀z∈l,RawOk z)/\n<=Rows.uptoBulk d/\Rd w 4 A n (rcs l):=by
 have ht:=underlying22;have hC:zZZ.cellsOf 73=4:=ww;obtain⟨a0,len,cap,rfl⟩:=okWide_slice ht hval;obtain⟨fuel,hf⟩:=hd;rcases open_slice ht hf with ⟨hcs,hx⟩ | ⟨a,len',cap',m,n,D,Pl,hcs,_,hl,hm,hmm,hx,hi⟩
 ·have:aA a0 len cap= aA none 0 0:=by simpa [Value.cells] using hcs
  injection this with e1 e2 e3;subst e1 e2 e3;exact⟨none,0,0, [],rfl,rfl,Nat.le_refl _,wu,by simp [maxLen],ab,Nat.zero_le _,Rd.nil_⟩
 ·have:aA a0 len cap= aA (some a) len' cap':=by simpa [Value.cells] using hcs
  injection this with e1 e2 e3;subst e1 e2 e3;simp only [if_true]at hmm;subst hmm;have hd:d= .slice ((List.range len).map D) ((List.range (m - len)).map fun j=>D (len+j)):=by
   have:=congrArg Prod.fst hx;simpa using this
  subst hd;have hs:=sized_slice hsz hj hdj ht;simp only [List.length_map,List.length_range]at hs;rw [show len+(m - len)=m by omega]at hs;have hone:∀i,i<len->∃z:RawP,RawOk z/\∀j,j<4->w.cell? (a.add (i*4+j))=(xV z)[j]?:=fun i hin=>by
   obtain⟨cs',hc,ht'⟩:=hi i wu;rw [hC]at hc;obtain⟨z,hz,hw,hk,ha,hb⟩:=z0n hc ht';have hmem:z.text.size∈DataW.weightsEach zZZ ts ds:=by
    refine DataW.weights_mem_each hj hdj _ ?_;rw [DataW.weights,ht];simp only [List.mem_cons,List.mem_append];exact .inr (.inl (yP (List.mem_map.2 ⟨i,List.mem_range.2 hin,rfl⟩) hw))
   have hle:=List.all_eq_true.1 hsz _ hmem;have hk':=Va hk;have ha':=Va ha;have hb':=Va hb;refine⟨z,⟨hk'.1,hk'.2,ha'.1,ha'.2,hb'.1,hb'.2,by simpa [reachBytes] using of_decide_eq_true hle⟩,fun j hj=> ?_⟩;rw [<-hz j hj,z1v]
  obtain⟨l,hll,hlp⟩:=ud _ len hone;refine⟨some a,len,m,l,rfl,hll,hl,by simpa [reachBytes] using hs,hm,fun z hz=> ?_,?_,⟨by rw [XM,hll],fun hn=> ?_⟩⟩
  ·obtain⟨i,hi,rfl⟩:=List.mem_iff_getElem.1 hz;exact(hlp i hi).1
  ·have h1:=VT (H:=H) ((List.range len).map D);simp only [List.length_map,List.length_range]at h1;simp only [Rows.uptoBulk];omega
  ·have h0:=(hlp 0 wu).2 0 wu;have hsp:a.spot=none:=XY (w:=w) (v:= aB aC (l[0]'(by omega)).kind) (by have:=h0;simpa [Addr.add,xV] using this);obtain⟨b,off,spot⟩:=a;simp only at hsp;subst hsp;have hadd:∀i,(⟨b,off,none⟩:Addr).add i=⟨b,off+i,none⟩:=fun i=>by unfold Addr.add;split<;>simp_all
   refine⟨b,off,rfl,World.block_lt_of_cell? w ((⟨b,off,none⟩:Addr).add (0*4+0)) (u:= aB aC (l[0]'(by omega)).kind) (by rw [h0];rfl),fun i u hu=> ?_⟩;have hil:=(List.getElem?_eq_some_iff.1 hu).1;rw [XM]at hil;have hk:i / 4<l.length:=wu;have h2:=(hlp (i / 4) hk).2 (i % 4) wu;rw [<-XL l (i / 4) (i % 4) hk wu,show i / 4*4+i % 4=i by omega,hu,hadd]at h2;exact h2
end
end Go.Proofs.YtaboknhfiijipaaGreat
