/- Lemmas of the proof. Conditions: as stated. -/
import Derived.Test.YtfmnggcfhalfnaaGreatQW01
import Derived.Test.YtfmnggcfhalfnaaGreatQW05
set_option linter.unusedVariables false
set_option linter.unusedSimpArgs false
set_option maxRecDepth 20000
set_option maxHeartbeats 4000000
namespace Go.Proofs.YtfmnggcfhalfnaaGreat
open Go.RowKit
def pk (n:Int) (m:Nat):Nat:=((if n<0 then -(n+1) else n) % m).toNat
theorem qM (n:Int) {m:Nat} (h:0<m):pk n m<m:=by
 unfold pk;have:=Int.emod_lt_of_pos (if n<0 then -(n+1) else n) (show(0:Int)<m by omega);omega
theorem zG (n:Int) (m:Nat) (M:Int) (hM:M=m) (w:World) (h0: -9223372036854775808≤n) (h1:n≤9223372036854775807) (hm:0<m) (hm2:m≤9223372036854775807) :
  Calls Tryz.prog 14 #[.int .i64 n,.int .i64 M] w fun e w'=>e= .returned (.int .i64 (pk n m:Nat))∧w=w':=by
 by_cases hn:n<0
 ·go_enter Tryz.func14,Tryz.ntmps14;go_wp2_with fail;go_ret;refine⟨?_,rfl⟩;show Ending.returned (.int .i64 (-((n+1).tmod m)))=_;unfold pk;rw [if_pos hn,←Int.neg_tmod,Int.tmod_eq_emod_of_nonneg (by omega)];have:=Int.emod_nonneg (-(n+1)) (show(m:Int)≠0 by omega)
  congr 2;omega
 ·go_enter Tryz.func14,Tryz.ntmps14
  repeat' (fail_if_success (first|at_builtin|at_make));first|go_values|go_skip|go_guarded|go_step|go_upon|go_back
  go_ret;refine⟨?_,rfl⟩;show Ending.returned (.int .i64 (n % m))=_;unfold pk;rw [if_neg hn];have:=Int.emod_nonneg n (show(m:Int)≠0 by omega)
  congr 2;omega
structure PartP where
 name:List UInt8
 dig:List UInt8
 size:Nat
def qx (p:PartP):List Value:= [.string ⟨p.name.toArray⟩,.string ⟨p.dig.toArray⟩,.int .i64 p.size]
def pcs (l:List PartP):List Value:=l.flatMap qx
theorem Zq (l m:List PartP):pcs (l++m)=pcs l++pcs m:=by simp [pcs]
theorem qL:∀(l:List PartP) (k j:Nat) (h:k<l.length) (hj:j<3),(pcs l)[k*3+j]?=(qx l[k])[j]?
 | x::l,0,j,h,hj=>by
  show(qx x++pcs l)[0*3+j]?=(qx x)[j]?
  rw [Nat.zero_mul,Nat.zero_add,List.getElem?_append_left (by simpa [qx] using hj)]
 | x::l,k+1,j,h,hj=>by
  show(qx x++pcs l)[(k+1)*3+j]?=_
  rw [List.getElem?_append_right (by simp [qx];omega),show(k+1)*3+j - (qx x).length=k*3+j by simp [qx];omega,qL l k j (by simpa using h) hj]
  rfl
theorem xq (l:List PartP):∀u∈pcs l,u.oneCell'=true:=by
 intro u hu;simp only [pcs,List.mem_flatMap]at hu;obtain⟨r,_,hu⟩:=hu;simp only [qx,List.mem_cons,List.not_mem_nil,or_false]at hu;rcases hu with rfl | rfl | rfl<;>rfl
theorem jU:El Tryz.prog 33 37 3 40:=El.mk' (z:= .agg #[.string ByteArray.empty,.string ByteArray.empty,.int .i64 0]) Tryz.underlying33 (by kernel_rfl) rfl (by omega) (by omega)
structure BlobP where
 dig:List UInt8
 data:List UInt8
 pins:Nat
 mark:Bool
structure EntP where
 key:List UInt8
 parts:List PartP
 pins:Nat
 stamp:Nat
structure StoP where
 blobs:List BlobP
 ents:List EntP
 room:Nat
 clock:Nat
def zi (b:BlobP) (A:Option Addr) (c:Nat):List Value:= [.string ⟨b.dig.toArray⟩,.slice A b.data.length c,.int .i64 b.pins,.bool b.mark]
def zw (x:EntP) (A:Option Addr) (c:Nat):List Value:= [.string ⟨x.key.toArray⟩,.slice A x.parts.length c,.int .i64 x.pins,.int .i64 x.stamp]
def BlobS:Shp BlobP where
 size:=4
 R w b cs:=∃A c,cs=zi b A c∧Sl w 1 A b.data.length c (bys b.data)
 len:=by rintro w b cs ⟨A,c,rfl,_⟩;rfl
 one:=by
  rintro w b cs ⟨A,c,rfl,_⟩ u hu
  simp only [zi,List.mem_cons,List.not_mem_nil,or_false]at hu
  rcases hu with rfl | rfl | rfl | rfl<;>rfl
 live:=by
  rintro w b cs ⟨A,c,rfl,h⟩ g ⟨a,n,c',hm,rfl⟩
  simp only [zi,List.mem_cons,List.not_mem_nil,or_false,Value.slice.injEq,reduceCtorEq,false_or]at hm
  obtain⟨e1,_⟩:=hm
  exact h.live a e1.symm
 keep:=by
  rintro w w' b cs ⟨A,c,rfl,h⟩ hs hk
  exact⟨A,c,rfl,h.keep hs fun g hg ⟨a,ha,hb⟩=>hk g hg ⟨a,b.data.length,c,by subst ha;simp [zi],hb⟩⟩
def EntS:Shp EntP where
 size:=4
 R w x cs:=∃A c,cs=zw x A c∧Sl w 3 A x.parts.length c (pcs x.parts)
 len:=by rintro w b cs ⟨A,c,rfl,_⟩;rfl
 one:=by
  rintro w b cs ⟨A,c,rfl,_⟩ u hu
  simp only [zw,List.mem_cons,List.not_mem_nil,or_false]at hu
  rcases hu with rfl | rfl | rfl | rfl<;>rfl
 live:=by
  rintro w b cs ⟨A,c,rfl,h⟩ g ⟨a,n,c',hm,rfl⟩
  simp only [zw,List.mem_cons,List.not_mem_nil,or_false,Value.slice.injEq,reduceCtorEq,false_or]at hm
  obtain⟨e1,_⟩:=hm
  exact h.live a e1.symm
 keep:=by
  rintro w w' b cs ⟨A,c,rfl,h⟩ hs hk
  exact⟨A,c,rfl,h.keep hs fun g hg ⟨a,ha,hb⟩=>hk g hg ⟨a,b.parts.length,c,by subst ha;simp [zw],hb⟩⟩
section
variable {w:World} {A:Option Addr}
theorem Rw.blob_at {l:List BlobP} (h:Rw BlobS w A l) (k:Nat) (hk:k<l.length) :
  ∃b off B c,A=some ⟨b,off,none⟩∧b<w.heap.size∧w.cell? ⟨b,off+k*4,none⟩=some (.string ⟨l[k].dig.toArray⟩)∧w.cell? ⟨b,off+k*4+1,none⟩=some (.slice B l[k].data.length c) ∧
   w.cell? ⟨b,off+k*4+2,none⟩=some (.int .i64 (l[k].pins:Int))∧w.cell? ⟨b,off+k*4+3,none⟩=some (.bool l[k].mark)∧Sl w 1 B l[k].data.length c (bys l[k].data):=by
 obtain⟨b,off,cs,rfl,hb,⟨B,c,rfl,hs⟩,hc⟩:=h.at_ k hk;exact⟨b,off,B,c,rfl,hb,hc 0 _ rfl,hc 1 _ rfl,hc 2 _ rfl,hc 3 _ rfl,hs⟩
theorem Rw.ent_at {l:List EntP} (h:Rw EntS w A l) (k:Nat) (hk:k<l.length) :
  ∃b off B c,A=some ⟨b,off,none⟩∧b<w.heap.size∧w.cell? ⟨b,off+k*4,none⟩=some (.string ⟨l[k].key.toArray⟩)∧w.cell? ⟨b,off+k*4+1,none⟩=some (.slice B l[k].parts.length c) ∧
   w.cell? ⟨b,off+k*4+2,none⟩=some (.int .i64 (l[k].pins:Int))∧w.cell? ⟨b,off+k*4+3,none⟩=some (.int .i64 (l[k].stamp:Int))∧Sl w 3 B l[k].parts.length c (pcs l[k].parts):=by
 obtain⟨b,off,cs,rfl,hb,⟨B,c,rfl,hs⟩,hc⟩:=h.at_ k hk;exact⟨b,off,B,c,rfl,hb,hc 0 _ rfl,hc 1 _ rfl,hc 2 _ rfl,hc 3 _ rfl,hs⟩
end
def xI (w:World) (l:List BlobP) (f:FuncId) (x:Value) (p:BlobP→Bool):Prop :=
 (∀args W,(callFunc f args).run Tryz.prog W= .ok (.enter f args) W)∧∀(b:BlobP) (B:Option Addr) (cb:Nat) (W:World),b∈l→Below w.heap.size w W→Sl W 1 B b.data.length cb (bys b.data) →
  Calls Tryz.prog f #[.agg #[.string ⟨b.dig.toArray⟩,.slice B b.data.length cb,.int .i64 b.pins,.bool b.mark],x] W fun e w'=>e= .returned (.bool (p b))∧Below W.heap.size W w'
def xJ (w:World) (l:List EntP) (f:FuncId) (x:Value) (p:EntP→Bool):Prop :=
 (∀args W,(callFunc f args).run Tryz.prog W= .ok (.enter f args) W)∧∀(b:EntP) (B:Option Addr) (cb:Nat) (W:World),b∈l→Below w.heap.size w W→Sl W 3 B b.parts.length cb (pcs b.parts) →
  Calls Tryz.prog f #[.agg #[.string ⟨b.key.toArray⟩,.slice B b.parts.length cb,.int .i64 b.pins,.int .i64 b.stamp],x] W fun e w'=>e= .returned (.bool (p b))∧Below W.heap.size W w'
def plc (r:Option Nat):Int:=match r with | some i=>(i:Int) | none=> -1
theorem vP (A:Option Addr) (c:Nat) (l:List BlobP) (f:FuncId) (x:Value) (p:BlobP→Bool) (w:World) (hl:l.length≤1000000) (hA:Rw BlobS w A l) (HC:xI w l f x p) :
  Calls Tryz.prog 46 #[.slice A l.length c,.func (.func f) #[] #[x]] w fun e w'=>e= .returned (.int .i64 (plc (l.findIdx? p)))∧Below w.heap.size w w':=by
 obtain⟨hcf,hcc0⟩:=HC;have HCC:=sqH hcc0;clear hcc0;generalize hR:l.findIdx? p=R;have HR:=sqH hR;clear hR;go_enter Tryz.func46,Tryz.ntmps46;go_wp2_with fail;go_loopg [5,8] l.length (fun gn u i wr=>∃j:Nat,gn=l.length - j∧i= .int .i64 j∧j≤l.length∧(∀k (h:k<l.length),k<j→p l[k]=false)∧Below w.heap.size w wr)
 case atStart=>exact⟨0,rfl,rfl,by omega,fun k _ h=>absurd h (by omega),Below.refl _ _⟩
 case round =>
  obtain⟨j,hgk,rfl,hj,hno,hbl⟩:=hrel;have HGK:=sqH hgk;have HNO:=sqH hno;clear hgk hno;by_cases hlt:j<l.length
  ·have hcc:decide (j<l.length)=true:=decide_eq_true hlt;obtain⟨b,off,B,cb,rfl,hbb,c0,c1,c2,c3,hs⟩:=(hA.below hbl).blob_at j hlt;have hcl:=HCC.out l[j] B cb wr (List.getElem_mem hlt) hbl hs;have hj0:(0:Int)≤(j:Int):=by omega
   have hj1:(j:Int)<(l.length:Int):=by omega
   cases hp:p l[j] with
   | true =>
    have HF:=sqH (show R=some j by
     rw [←HR.out,List.findIdx?_eq_some_iff_getElem];exact⟨hlt,hp,fun k hk=>by rw [HNO.out k (by omega) hk];simp⟩)
    rw [hp]at hcl;have HCL:=sqH hcl;clear hp hs hcl;generalize l[j]=bl at *
    go_wp2_with fail;refine HCL.out.mono ?_;rintro e_ w5 ⟨rfl,hb5⟩;dsimp only;have hb05:=hbl.trans (hb5.mono hbl.size);go_wp2_with fail;go_ret;rw [HF.out];exact⟨rfl,hb05⟩
   | false =>
    have HN:=sqH (show ∀k (h:k<l.length),k<j+1→p l[k]=false from fun k h hk=>by
     rcases Nat.lt_or_ge k j with h1 | h1
     ·exact HNO.out k h h1
     ·have:k=j:=by omega
      subst this;exact hp)
    rw [hp]at hcl;have HCL:=sqH hcl;clear hp hs hcl;generalize l[j]=bl at *
    go_wp2_with fail;refine HCL.out.mono ?_;rintro e_ w5 ⟨rfl,hb5⟩;dsimp only;have hb05:=hbl.trans (hb5.mono hbl.size);go_wp2_with fail;go_roundg (l.length - (j+1))
    case measure=>have:=HGK.out;omega
    case rel=>exact⟨j+1,rfl,by go_num,by omega,HN.out,hb05⟩
  ·obtain rfl:j=l.length:=by omega
   have hcc:decide (l.length<l.length)=false:=by simp
   have HF:=sqH (show R=none by
    rw [←HR.out,List.findIdx?_eq_none_iff];intro x hx;obtain⟨k,hk,rfl⟩:=List.mem_iff_getElem.1 hx;exact HNO.out k hk hk)
   go_wp2_with fail;go_ret;rw [HF.out];exact⟨rfl,hbl⟩
theorem vQ (A:Option Addr) (c:Nat) (l:List EntP) (f:FuncId) (x:Value) (p:EntP→Bool) (w:World) (hl:l.length≤1000000) (hA:Rw EntS w A l) (HC:xJ w l f x p) :
  Calls Tryz.prog 47 #[.slice A l.length c,.func (.func f) #[] #[x]] w fun e w'=>e= .returned (.int .i64 (plc (l.findIdx? p)))∧Below w.heap.size w w':=by
 obtain⟨hcf,hcc0⟩:=HC;have HCC:=sqH hcc0;clear hcc0;generalize hR:l.findIdx? p=R;have HR:=sqH hR;clear hR;go_enter Tryz.func47,Tryz.ntmps47;go_wp2_with fail;go_loopg [5,8] l.length (fun gn u i wr=>∃j:Nat,gn=l.length - j∧i= .int .i64 j∧j≤l.length∧(∀k (h:k<l.length),k<j→p l[k]=false)∧Below w.heap.size w wr)
 case atStart=>exact⟨0,rfl,rfl,by omega,fun k _ h=>absurd h (by omega),Below.refl _ _⟩
 case round =>
  obtain⟨j,hgk,rfl,hj,hno,hbl⟩:=hrel;have HGK:=sqH hgk;have HNO:=sqH hno;clear hgk hno;by_cases hlt:j<l.length
  ·have hcc:decide (j<l.length)=true:=decide_eq_true hlt;obtain⟨b,off,B,cb,rfl,hbb,c0,c1,c2,c3,hs⟩:=(hA.below hbl).ent_at j hlt;have hcl:=HCC.out l[j] B cb wr (List.getElem_mem hlt) hbl hs;have hj0:(0:Int)≤(j:Int):=by omega
   have hj1:(j:Int)<(l.length:Int):=by omega
   cases hp:p l[j] with
   | true =>
    have HF:=sqH (show R=some j by
     rw [←HR.out,List.findIdx?_eq_some_iff_getElem];exact⟨hlt,hp,fun k hk=>by rw [HNO.out k (by omega) hk];simp⟩)
    rw [hp]at hcl;have HCL:=sqH hcl;clear hp hs hcl;generalize l[j]=bl at *
    go_wp2_with fail;refine HCL.out.mono ?_;rintro e_ w5 ⟨rfl,hb5⟩;dsimp only;have hb05:=hbl.trans (hb5.mono hbl.size);go_wp2_with fail;go_ret;rw [HF.out];exact⟨rfl,hb05⟩
   | false =>
    have HN:=sqH (show ∀k (h:k<l.length),k<j+1→p l[k]=false from fun k h hk=>by
     rcases Nat.lt_or_ge k j with h1 | h1
     ·exact HNO.out k h h1
     ·have:k=j:=by omega
      subst this;exact hp)
    rw [hp]at hcl;have HCL:=sqH hcl;clear hp hs hcl;generalize l[j]=bl at *
    go_wp2_with fail;refine HCL.out.mono ?_;rintro e_ w5 ⟨rfl,hb5⟩;dsimp only;have hb05:=hbl.trans (hb5.mono hbl.size);go_wp2_with fail;go_roundg (l.length - (j+1))
    case measure=>have:=HGK.out;omega
    case rel=>exact⟨j+1,rfl,by go_num,by omega,HN.out,hb05⟩
  ·obtain rfl:j=l.length:=by omega
   have hcc:decide (l.length<l.length)=false:=by simp
   have HF:=sqH (show R=none by
    rw [←HR.out,List.findIdx?_eq_none_iff];intro x hx;obtain⟨k,hk,rfl⟩:=List.mem_iff_getElem.1 hx;exact HNO.out k hk hk)
   go_wp2_with fail;go_ret;rw [HF.out];exact⟨rfl,hbl⟩
theorem vK (A:Option Addr) (c:Nat) (l:List BlobP) (f:FuncId) (x:Value) (p:BlobP→Bool) (w:World) (hl:l.length≤1000000) (hA:Rw BlobS w A l) (HC:xI w l f x p) :
  Calls Tryz.prog 17 #[.slice A l.length c,.func (.func f) #[] #[x]] w fun e w'=>e= .returned (.bool (l.any p))∧Below w.heap.size w w':=by
 have hI:=vP A c l f x p w hl hA HC;clear HC;have HI:=sqH hI;clear hI;have hany:l.any p=(l.findIdx? p).isSome:=by rw [List.findIdx?_isSome]
 rw [hany];cases hf:l.findIdx? p with
 | none =>
  rw [hf]at HI;go_enter Tryz.func17,Tryz.ntmps17;go_wp2_with fail;refine HI.out.mono ?_;rintro e_ w1 ⟨rfl,hb1⟩;dsimp only;go_wp2_with fail;go_ret;exact⟨rfl,hb1⟩
 | some i =>
  rw [hf]at HI;have hi:decide ((i:Int)≥0)=true:=decide_eq_true (by omega);have hi2:decide ((0:Int)≤(i:Int))=true:=decide_eq_true (by omega);go_enter Tryz.func17,Tryz.ntmps17;go_wp2_with fail;refine HI.out.mono ?_;rintro e_ w1 ⟨rfl,hb1⟩;dsimp only;go_wp2_with fail;go_ret;exact⟨rfl,hb1⟩
theorem xe (A:Option Addr) (c:Nat) (l:List EntP) (f:FuncId) (x:Value) (p:EntP→Bool) (w:World) (hl:l.length≤1000000) (hA:Rw EntS w A l) (HC:xJ w l f x p) :
  Calls Tryz.prog 19 #[.slice A l.length c,.func (.func f) #[] #[x]] w fun e w'=>e= .returned (.bool (l.any p))∧Below w.heap.size w w':=by
 have hI:=vQ A c l f x p w hl hA HC;clear HC;have HI:=sqH hI;clear hI;have hany:l.any p=(l.findIdx? p).isSome:=by rw [List.findIdx?_isSome]
 rw [hany];cases hf:l.findIdx? p with
 | none =>
  rw [hf]at HI;go_enter Tryz.func19,Tryz.ntmps19;go_wp2_with fail;refine HI.out.mono ?_;rintro e_ w1 ⟨rfl,hb1⟩;dsimp only;go_wp2_with fail;go_ret;exact⟨rfl,hb1⟩
 | some i =>
  rw [hf]at HI;have hi:decide ((i:Int)≥0)=true:=decide_eq_true (by omega);have hi2:decide ((0:Int)≤(i:Int))=true:=decide_eq_true (by omega);go_enter Tryz.func19,Tryz.ntmps19;go_wp2_with fail;refine HI.out.mono ?_;rintro e_ w1 ⟨rfl,hb1⟩;dsimp only;go_wp2_with fail;go_ret;exact⟨rfl,hb1⟩
theorem jX (a b:UInt8):a<b∨a=b∨b<a:=by
 rcases Nat.lt_trichotomy a.toNat b.toNat with h | h | h
 ·exact .inl (UInt8.lt_iff_toNat_lt.2 h)
 ·exact .inr (.inl (UInt8.toNat_inj.1 h))
 ·exact .inr (.inr (UInt8.lt_iff_toNat_lt.2 h))
theorem uh:∀(x y:List UInt8),Op.bytesLess x y=decide (x<y)
 | [], []=>by simp [Op.bytesLess]
 | _::_, []=>by simp [Op.bytesLess]
 | [],_::_=>by simp [Op.bytesLess]
 | a::x,b::y=>by
  rw [Op.bytesLess,uh x y]
  simp only [List.cons_lt_cons_iff]
  by_cases h1:a<b<;>by_cases h2:a=b<;>by_cases h3:x<y<;>simp [h1,h2,h3]
theorem ka (x:List UInt8):Op.bytesLess x x=false:=by
 rw [uh,decide_eq_false_iff_not];exact List.lt_irrefl x
theorem zy {x y z:List UInt8} (h:Op.bytesLess x y=true) (h':Op.bytesLess y z=true):Op.bytesLess x z=true:=by
 rw [uh,decide_eq_true_eq] at *
 exact List.lt_trans h h'
theorem ko (x y:List UInt8):Op.bytesLess x y=true∨x=y∨Op.bytesLess y x=true:=by
 by_cases h1:x<y
 ·exact .inl (by rw [uh,decide_eq_true_eq];exact h1)
 ·by_cases h2:y<x
  ·exact .inr (.inr (by rw [uh,decide_eq_true_eq];exact h2))
  ·exact .inr (.inl (List.le_antisymm (List.not_lt.1 h2) (List.not_lt.1 h1)))
theorem kn {x y:List UInt8} (h:Op.bytesLess x y=true):Op.bytesLess y x=false:=by
 cases h':Op.bytesLess y x with
 | false=>rfl
 | true=>have:=zy h h';rw [ka]at this;cases this
theorem kJ {x y:List UInt8} (h:Op.bytesLess x y=true):x≠y:=by rintro rfl;rw [ka]at h;cases h
def kb (l:List (List UInt8)):Prop:=l.Pairwise fun a b=>Op.bytesLess a b=true
theorem kb.nodup {l:List (List UInt8)} (h:kb l):l.Nodup:=h.imp fun h=>kJ h
theorem kb.uniq:∀ {l m:List (List UInt8)},kb l→kb m→(∀x,x∈l↔x∈m)→l=m
 | [], [],_,_,_=>rfl
 | [],y::m,_,_,h=>absurd ((h y).2 (by simp)) (by simp)
 | x::l, [],_,_,h=>absurd ((h x).1 (by simp)) (by simp)
 | x::l,y::m,h1,h2,h=>by
  have e1:=List.pairwise_cons.1 h1
  have e2:=List.pairwise_cons.1 h2
  have hxy:x=y:=by
   rcases List.mem_cons.1 ((h x).1 (by simp)) with h3 | h3
   ·exact h3
   ·rcases List.mem_cons.1 ((h y).2 (by simp)) with h4 | h4
    ·exact h4.symm
    ·have:=zy (e2.1 x h3) (e1.1 y h4);rw [ka]at this;cases this
  subst hxy;rw [kb.uniq e1.2 e2.2 fun z=> ?_];constructor
  ·intro hz;rcases List.mem_cons.1 ((h z).1 (by simp [hz])) with h3 | h3
   ·subst h3;have:=e1.1 z hz;rw [ka]at this;cases this
   ·exact h3
  ·intro hz;rcases List.mem_cons.1 ((h z).2 (by simp [hz])) with h3 | h3
   ·subst h3;have:=e2.1 z hz;rw [ka]at this;cases this
   ·exact h3
theorem kb.perm {l m:List (List UInt8)} (h1:kb l) (h2:kb m) (h:l.Perm m):l=m:=h1.uniq h2 fun _=>h.mem_iff
def RisesBy {α:Type} (f:α→List UInt8) (l:List α):Prop:=l.Pairwise fun a b=>Op.bytesLess (f a) (f b)=true
theorem RisesBy.map {α:Type} {f:α→List UInt8} {l:List α} (h:RisesBy f l):kb (l.map f):=List.pairwise_map.2 h
theorem RisesBy.perm {α:Type} {f:α→List UInt8}:∀ {l m:List α},RisesBy f l→RisesBy f m→l.Perm m→l=m:=fun {l m} h1 h2 h=>by
 refine List.Perm.eq_of_pairwise (le:=fun a b=>Op.bytesLess (f a) (f b)=true) (fun a b _ _ h3 h4=> ?_) h1 h2 h
 have:=zy h3 h4;rw [ka]at this;cases this
theorem RisesBy.inj {α:Type} {f:α→List UInt8} {l:List α} (h:RisesBy f l) {a b:α} (ha:a∈l) (hb:b∈l) (e:f a=f b):a=b:=by
 induction l with
 | nil=>cases ha
 | cons x l ih =>
  have e1:=List.pairwise_cons.1 h;rcases List.mem_cons.1 ha with h1 | h1<;>rcases List.mem_cons.1 hb with h2 | h2
  ·rw [h1,h2]
  ·subst h1;have:=kJ (e1.1 b h2);exact absurd e this
  ·subst h2;have:=kJ (e1.1 a h1);exact absurd e.symm this
  ·exact ih e1.2 h1 h2
def srt {α:Type} (f:α→List UInt8) (l:List α):List α:=l.mergeSort fun a b=> !Op.bytesLess (f b) (f a)
theorem zm {α:Type} (f:α→List UInt8) (l:List α):(srt f l).Perm l:=List.mergeSort_perm l _
theorem qQ {α:Type} {f:α→List UInt8} {l:List α} (h:(l.map f).Nodup):RisesBy f (srt f l):=by
 have h1:(srt f l).Pairwise fun a b=>(!Op.bytesLess (f b) (f a))=true:=List.pairwise_mergeSort (fun a b c h1 h2=>by
  simp only [Bool.not_eq_eq_eq_not,Bool.not_true] at *
  rcases ko (f c) (f a) with h3 | h3 | h3
  ·rcases ko (f b) (f a) with h4 | h4 | h4
   ·rw [h4]at h1;cases h1
   ·rw [←h4]at h3;rw [h3]at h2;cases h2
   ·have:=zy h3 h4;rw [this]at h2;cases h2
  ·rw [h3,ka]
  ·exact kn h3) (fun a b=>by
  rcases ko (f a) (f b) with h3 | h3 | h3
  ·simp [kn h3]
  ·simp [h3,ka]
  ·simp [kn h3]) l
 have h2:((srt f l).map f).Nodup:=((zm f l).map f).nodup_iff.2 h;have h3:(srt f l).Pairwise fun a b=>f a≠f b:=List.pairwise_map.1 h2;refine(h1.and h3).imp fun {a b} h=> ?_;rcases ko (f a) (f b) with h4 | h4 | h4
 ·exact h4
 ·exact absurd h4 h.2
 ·have:=h.1;rw [h4]at this;cases this
theorem Z0 (s t:ByteArray) (v1 v2 v3 u1 u2 u3:Value) (w:World) :
  Calls Tryz.prog 22 #[.agg #[.string s,v1,v2,v3],.agg #[.string t,u1,u2,u3]] w fun e w'=>e= .returned (.int .i64 (Lib.compareBytes s.data.toList t.data.toList))∧Below w.heap.size w w':=by
 obtain⟨W,hW,hA,hB,hb⟩:=zB w 32 [.string s,v1,v2,v3] [.string t,u1,u2,u3];have a0:=hA.cell (k:=0) rfl;have b0:=hB.cell (k:=0) rfl;rw [hW]at a0 b0;have HC:=sqH (fun W=>Tryz.strings_Compare s t W);go_enter Tryz.func22,Tryz.ntmps22;go_wp2_with fail;rw [←hW]at a0 b0 ⊢
 clear hW;refine(HC.out W).mono ?_;rintro e_ w1 ⟨rfl,rfl⟩;dsimp only;go_wp2_with fail;go_ret;exact⟨rfl,hb⟩
theorem Z1 (s t:ByteArray) (v1 v2 v3 u1 u2 u3:Value) (w:World) :
  Calls Tryz.prog 25 #[.agg #[.string s,v1,v2,v3],.agg #[.string t,u1,u2,u3]] w fun e w'=>e= .returned (.int .i64 (Lib.compareBytes s.data.toList t.data.toList))∧Below w.heap.size w w':=by
 obtain⟨W,hW,hA,hB,hb⟩:=zB w 35 [.string s,v1,v2,v3] [.string t,u1,u2,u3];have a0:=hA.cell (k:=0) rfl;have b0:=hB.cell (k:=0) rfl;rw [hW]at a0 b0;have HC:=sqH (fun W=>Tryz.strings_Compare s t W);go_enter Tryz.func25,Tryz.ntmps25;go_wp2_with fail;rw [←hW]at a0 b0 ⊢
 clear hW;refine(HC.out W).mono ?_;rintro e_ w1 ⟨rfl,rfl⟩;dsimp only;go_wp2_with fail;go_ret;exact⟨rfl,hb⟩
theorem kM (gk:Nat) (d:List UInt8) (l:List BlobP) (w:World) (hk:w.cell? ⟨gk,0,none⟩=some (.string ⟨d.toArray⟩)) (hg:gk<w.heap.size):xI w l 18 (.pointer (some ⟨gk,0,none⟩)) (fun b=>b.dig==d):=by
 refine⟨fun _ _=>by kernel_rfl,fun b B cb W hb hbel hs=> ?_⟩;have hg1:gk<W.heap.size:=Nat.lt_of_lt_of_le hg hbel.size;have hk0:W.cell? ⟨gk,0,none⟩=some (.string ⟨d.toArray⟩):=(hbel.cell (p:=⟨gk,0,none⟩) hg).trans hk;generalize hs1:(⟨b.dig.toArray⟩:ByteArray)=s;generalize hs2:(⟨d.toArray⟩:ByteArray)=t at hk0;have hst:(b.dig==d)=(s.toList==t.toList):=by
  rw [←hs1,←hs2,ByteArray.toList_eq,ByteArray.toList_eq]
 dsimp only;rw [hst];have hb1:=(Below.refl W.heap.size W).alloc (Nat.le_refl _) (.cells #[.string s,.slice B b.data.length cb,.int .i64 b.pins,(.bool b.mark)] 32);have hk1:(W.alloc (.cells #[.string s,.slice B b.data.length cb,.int .i64 b.pins,(.bool b.mark)] 32)).cell? ⟨gk,0,none⟩=some (.string t):=(World.cell?_alloc_lt W _ ⟨gk,0,none⟩ hg1).trans hk0;clear hst hs1 hs2;go_enter Tryz.func18,Tryz.ntmps18;go_wp2_with fail;go_ret;exact⟨rfl,hb1⟩
theorem qW (gk:Nat) (d:List UInt8) (l:List EntP) (w:World) (hk:w.cell? ⟨gk,0,none⟩=some (.string ⟨d.toArray⟩)) (hg:gk<w.heap.size):xJ w l 20 (.pointer (some ⟨gk,0,none⟩)) (fun b=>b.key==d):=by
 refine⟨fun _ _=>by kernel_rfl,fun b B cb W hb hbel hs=> ?_⟩;have hg1:gk<W.heap.size:=Nat.lt_of_lt_of_le hg hbel.size;have hk0:W.cell? ⟨gk,0,none⟩=some (.string ⟨d.toArray⟩):=(hbel.cell (p:=⟨gk,0,none⟩) hg).trans hk;generalize hs1:(⟨b.key.toArray⟩:ByteArray)=s;generalize hs2:(⟨d.toArray⟩:ByteArray)=t at hk0;have hst:(b.key==d)=(s.toList==t.toList):=by
  rw [←hs1,←hs2,ByteArray.toList_eq,ByteArray.toList_eq]
 dsimp only;rw [hst];have hb1:=(Below.refl W.heap.size W).alloc (Nat.le_refl _) (.cells #[.string s,.slice B b.parts.length cb,.int .i64 b.pins,(.int .i64 b.stamp)] 35);have hk1:(W.alloc (.cells #[.string s,.slice B b.parts.length cb,.int .i64 b.pins,(.int .i64 b.stamp)] 35)).cell? ⟨gk,0,none⟩=some (.string t):=(World.cell?_alloc_lt W _ ⟨gk,0,none⟩ hg1).trans hk0;clear hst hs1 hs2;go_enter Tryz.func20,Tryz.ntmps20;go_wp2_with fail;go_ret;exact⟨rfl,hb1⟩
end Go.Proofs.YtfmnggcfhalfnaaGreat
