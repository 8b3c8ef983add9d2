/- Lemmas, as stated. -/
import Derived.Test.YtcjndgldjhmbgaaGreatQF15
set_option linter.unusedVariables false
set_option linter.unusedSimpArgs false
set_option maxRecDepth 100000
set_option maxHeartbeats 8000000
open Go.Proofs.Tryz
open Go.Proofs.Tryz renaming prog->zZZ
open Go.Value renaming slice->aw,int->ax,string->az
open Go.IntKind renaming i64->ay
open Go.Obj renaming cells->aA
open Option renaming none->aB,some->aC
namespace Go.Proofs
open Go.Shelf
def Tryz.lays111_ren:Go.Shelf.Ren:=⟨fun | 111=>20 | n=>n,fun | 28=>46 | 3=>3 | 4=>4 | 0=>0 | n=>n,fun | n=>n⟩
theorem Tryz.lays111:Go.Proofs.Lays.n111 zZZ Tryz.lays111_ren:= {
 mixed:=by kernel_rfl
 f111:=Tryz.func20.trans (congrArg some (by kernel_rfl))
 t0:=Tryz.underlying0
 a0:=Tryz.isAgg0
 z0:=Tryz.sizeOf0
 v0:=Tryz.zeroValue0
 t3:=Tryz.underlying3
 a3:=Tryz.isAgg3
 z3:=Tryz.sizeOf3
 v3:=Tryz.zeroValue3
 t4:=Tryz.underlying4
 a4:=Tryz.isAgg4
 z4:=Tryz.sizeOf4
 v4:=Tryz.zeroValue4
 t28:=Tryz.underlying46
 a28:=Tryz.isAgg46
 z28:=Tryz.sizeOf46
 v28:=Tryz.zeroValue46 }
open Go.RowKit Go.Lib in
theorem Tryz.slices_Equal_int (b1 o1 n c b2 o2 m d:Nat) (xs ys:List Int) (w:World) (hx:n<=xs.length) (hy:m<=ys.length) (hbig:n<=9223372036854775807) (hbig2:m<=9223372036854775807) (hc1:∀j,j<xs.length->w.cell? ⟨b1,o1+j,none⟩=some (.int .i64 (xs.getD j 0))) (hc2:∀j,j<ys.length->w.cell? ⟨b2,o2+j,none⟩=some (.int .i64 (ys.getD j 0))) :
  Calls zZZ 20 #[aw (some ⟨b1,o1,none⟩) n c,aw (some ⟨b2,o2,none⟩) m d] w fun e w'=>e= .returned (.bool (xs.take n==ys.take m))/\∃q,w'=w.drewN q:=Any.slices_Equal_int Tryz.lays111 b1 o1 n c b2 o2 m d xs ys w hx hy hbig hbig2 hc1 hc2
open Go.RowKit Go.Lib in
theorem Tryz.slices_Equal_int_empty (a1 a2:Option Addr) (c m d:Nat) (w:World) (hbig2:m<=9223372036854775807) :
  Calls zZZ 20 #[aw a1 0 c,aw a2 m d] w fun e w'=>e= .returned (.bool (decide (m=0)))/\w'=w:=Any.slices_Equal_int_empty Tryz.lays111 a1 a2 c m d w hbig2
def Tryz.lays193_ren:Go.Shelf.Ren:=⟨fun | 193=>32 | n=>n,fun | 31=>28 | 9=>9 | 4=>4 | 3=>3 | 0=>0 | n=>n,fun | n=>n⟩
theorem Tryz.lays193:Go.Proofs.Lays.n193 zZZ Tryz.lays193_ren:= {
 mixed:=by kernel_rfl
 f193:=Tryz.func32.trans (congrArg some (by kernel_rfl))
 t0:=Tryz.underlying0
 a0:=Tryz.isAgg0
 z0:=Tryz.sizeOf0
 v0:=Tryz.zeroValue0
 t3:=Tryz.underlying3
 a3:=Tryz.isAgg3
 z3:=Tryz.sizeOf3
 v3:=Tryz.zeroValue3
 t4:=Tryz.underlying4
 a4:=Tryz.isAgg4
 z4:=Tryz.sizeOf4
 v4:=Tryz.zeroValue4
 t9:=Tryz.underlying9
 a9:=Tryz.isAgg9
 z9:=Tryz.sizeOf9
 v9:=Tryz.zeroValue9
 t31:=Tryz.underlying28
 a31:=Tryz.isAgg28
 z31:=Tryz.sizeOf28
 v31:=Tryz.zeroValue28 }
open Go.RowKit Go.Lib in
theorem Tryz.slices_Equal_string (b1 o1 n c b2 o2 m d:Nat) (xs ys:List ByteArray) (w:World) (hx:n<=xs.length) (hy:m<=ys.length) (hbig:n<=9223372036854775807) (hbig2:m<=9223372036854775807) (hc1:∀j,j<xs.length->w.cell? ⟨b1,o1+j,none⟩=some (.string (xs.getD j ByteArray.empty))) (hc2:∀j,j<ys.length->w.cell? ⟨b2,o2+j,none⟩=some (.string (ys.getD j ByteArray.empty))) :
  Calls zZZ 32 #[aw (some ⟨b1,o1,none⟩) n c,aw (some ⟨b2,o2,none⟩) m d] w fun e w'=>e= .returned (.bool (decide (xs.take n=ys.take m)))/\∃q,w'=w.drewN q:=Any.slices_Equal_string Tryz.lays193 b1 o1 n c b2 o2 m d xs ys w hx hy hbig hbig2 hc1 hc2
open Go.RowKit Go.Lib in
theorem Tryz.slices_Equal_string_empty (a1 a2:Option Addr) (c m d:Nat) (w:World) (hbig2:m<=9223372036854775807) :
  Calls zZZ 32 #[aw a1 0 c,aw a2 m d] w fun e w'=>e= .returned (.bool (decide (m=0)))/\w'=w:=Any.slices_Equal_string_empty Tryz.lays193 a1 a2 c m d w hbig2
open Go.RowKit Go.Lib in
theorem Tryz.slices_Equal_string_lens (a1 a2:Option Addr) (n c m d:Nat) (w:World) (hnm:n≠m) :
  Calls zZZ 32 #[aw a1 n c,aw a2 m d] w fun e w'=>e= .returned (.bool false)/\w'=w:=Any.slices_Equal_string_lens Tryz.lays193 a1 a2 n c m d w hnm
end Go.Proofs
namespace Go.Proofs.YtcjndgldjhmbgaaGreat
open Go.RowKit
variable {base:Nat} {v:Value} {w:World}
theorem Qd (A B:ae) (n c d:Nat) (x:List PartP) (w:World) (hl:x.length=n) (hn:n<=140737488351232) (hr:Rd w 3 A n (pcs x)) (hs:Rd w 3 B n (pcs x)) :
  Calls Tryz.prog 19 #[.slice A n c,.slice B n d] w fun e w'=>e= .returned (.bool true)/\Below w.heap.size w w':=by
 have hnn:((n:Int) != (n:Int))=false:=ws;have HL:=sqH hl;clear hl;go_enter Tryz.func19,Tryz.ntmps19;go_wp2_with fail;go_loopg [5,13] n (fun gn u i wr=>∃k:Nat,gn=n - k/\i= .int .i64 k/\k<=n/\Below w.heap.size w wr)
 case atStart=>exact⟨0,rfl,rfl,wj,Below.refl _ _⟩
 case round =>
  obtain⟨k,hgk,rfl,hk,hbel⟩:=hrel;have HGK:=sqH hgk;clear hgk;by_cases hlt:k<n
  ·have hkl:k<x.length:=by have:=HL.o;omega
   obtain⟨b,off,rfl,_,hcell⟩:=(hr.below hbel).2 wj;obtain⟨b',off',rfl,_,hcell'⟩:=(hs.below hbel).2 wj;have hat:=fun j (hj:j<3)=>yE x k j hkl hj;generalize x[k]=p at *
   have c0:=hcell (k*3+0) _ (hat 0 wj);have c1:=hcell (k*3+1) _ (hat 1 wj);have c2:=hcell (k*3+2) _ (hat 2 wj);have d0:=hcell' (k*3+0) _ (hat 0 wj);have d1:=hcell' (k*3+1) _ (hat 1 wj);have d2:=hcell' (k*3+2) _ (hat 2 wj);rw [Nat.add_zero]at c0 d0;rw [show off+(k*3+1)=off+k*3+1 by omega]at c1;rw [show off+(k*3+2)=off+k*3+2 by omega]at c2;rw [show off'+(k*3+1)=off'+k*3+1 by omega]at d1;rw [show off'+(k*3+2)=off'+k*3+2 by omega]at d2;obtain⟨pn,pd,psz⟩:=p;dsimp only [yv,List.getElem?_cons_zero,List.getElem?_cons_succ]at c0 c1 c2 d0 d1 d2;generalize (⟨pn.toArray⟩:ByteArray)=s at *
   generalize (⟨pd.toArray⟩:ByteArray)=t at *
   clear hat hcell hcell';have hk0:=wX k
   have hk1:(k:Int)<(n:Int):=wj;go_wp2_with fail;go_quiet (fail);go_wp2_with fail;go_roundg (n - (k+1))
   case measure=>exact wW HGK
   case rel=>exact⟨k+1,rfl,by go_num,wj,zN hbel _⟩
  ·go_wp2_with fail;go_ret;exact⟨rfl,hbel⟩
theorem K6 {s t:ByteArray} (h:¬s=t):(s.toList==t.toList)=false:=by
 rw [beq_eq_false_iff_ne,ByteArray.toList_eq,ByteArray.toList_eq];intro e;apply h;cases s;cases t;simp only [ByteArray.mk.injEq];exact Array.toList_inj.1 e
theorem Qc (A B:ae) (n m c d:Nat) (x y:List PartP) (w:World) (hl:x.length=n) (hl':y.length=m) (hn:n<=140737488351232) (hm:m<=140737488351232) (hr:Rd w 3 A n (pcs x)) (hs:Rd w 3 B m (pcs y)) (hne:x≠y) :
  Calls Tryz.prog 19 #[.slice A n c,.slice B m d] w fun e w'=>e= .returned (.bool false)/\Below w.heap.size w w':=by
 obtain⟨HL,HL',HNE⟩:=sqJ3 hl hl' hne;clear hl hl' hne;by_cases hnm:n=m
 ·subst hnm;have hnn:((n:Int) != (n:Int))=false:=ws
  go_enter Tryz.func19,Tryz.ntmps19;go_wp2_with fail;go_loopg [5,13] n (fun gn u i wr=>∃k:Nat,gn=n - k/\i= .int .i64 k/\k<=n/\x.take k=y.take k/\Below w.heap.size w wr)
  case atStart=>exact⟨0,rfl,rfl,wj,rfl,Below.refl _ _⟩
  case round =>
   obtain⟨k,hgk,rfl,hk,htk,hbel⟩:=hrel;have HGK:=sqH hgk;have HTK:=sqH htk;clear hgk htk;by_cases hlt:k<n
   ·have hkl:k<x.length:=by have:=HL.o;omega
    have hkl':k<y.length:=by have:=HL'.o;omega
    obtain⟨b,off,rfl,_,hcell⟩:=(hr.below hbel).2 wj;obtain⟨b',off',rfl,_,hcell'⟩:=(hs.below hbel).2 wj;have hat:=fun j (hj:j<3)=>yE x k j hkl hj;have hat':=fun j (hj:j<3)=>yE y k j hkl' hj;have HS:=sqH (fun (h:x[k]=y[k])=>(by rw [List.take_succ_eq_append_getElem hkl,List.take_succ_eq_append_getElem hkl',HTK.o,h]:x.take (k+1)=y.take (k+1)));generalize x[k]=p at *
    generalize y[k]=q at *
    have c0:=hcell (k*3+0) _ (hat 0 wj);have c1:=hcell (k*3+1) _ (hat 1 wj);have c2:=hcell (k*3+2) _ (hat 2 wj);have d0:=hcell' (k*3+0) _ (hat' 0 wj);have d1:=hcell' (k*3+1) _ (hat' 1 wj);have d2:=hcell' (k*3+2) _ (hat' 2 wj);rw [Nat.add_zero]at c0 d0;rw [show off+(k*3+1)=off+k*3+1 by omega]at c1;rw [show off+(k*3+2)=off+k*3+2 by omega]at c2;rw [show off'+(k*3+1)=off'+k*3+1 by omega]at d1;rw [show off'+(k*3+2)=off'+k*3+2 by omega]at d2;obtain⟨pn,pd,psz⟩:=p;obtain⟨qn,qd,qsz⟩:=q;dsimp only [yv,List.getElem?_cons_zero,List.getElem?_cons_succ]at c0 c1 c2 d0 d1 d2;obtain⟨s,hs⟩:=wU (⟨pn.toArray⟩:ByteArray)
    obtain⟨t,ht⟩:=wU (⟨pd.toArray⟩:ByteArray)
    obtain⟨s',hs'⟩:=wU (⟨qn.toArray⟩:ByteArray)
    obtain⟨t',ht'⟩:=wU (⟨qd.toArray⟩:ByteArray)
    rw [<-hs]at c0;rw [<-ht]at c1;rw [<-hs']at d0;rw [<-ht']at d1;have H4:=sqH (And.intro hs (And.intro ht (And.intro hs' ht')));clear hat hcell hcell' hat' hs ht hs' ht';have hk0:=wX k
    have hk1:(k:Int)<(n:Int):=wj;by_cases hss:s=s'
    ·subst hss;by_cases htt:t=t'
     ·subst htt;by_cases hzz:psz=qsz
      ·subst hzz;have HS2:=sqH (HS.o (by
        have h1:pn=qn:=by have:=H4.o.1.symm.trans H4.o.2.2.1;simpa using this
        have h2:pd=qd:=by have:=H4.o.2.1.symm.trans H4.o.2.2.2;simpa using this
        rw [h1,h2]))
       go_wp2_with fail;go_quiet (fail);go_wp2_with fail;go_roundg (n - (k+1))
       case measure=>exact wW HGK
       case rel=>exact⟨k+1,rfl,by go_num,wj,HS2.o,zN hbel _⟩
      ·have e1:((psz:Int)==(qsz:Int))=false:=by rw [beq_eq_false_iff_ne];omega
       have e2:¬((psz:Int)=(qsz:Int)):=wj;have e3:(psz==qsz)=false:=by rw [beq_eq_false_iff_ne];exact hzz
       go_wp2_with fail;go_quiet (fail);go_wp2_with fail;go_ret;exact⟨rfl,zN hbel _⟩
     ·have e1:(t.toList==t'.toList)=false:=K6 htt;go_wp2_with fail;go_quiet (fail);go_wp2_with fail;go_ret;exact⟨rfl,zN hbel _⟩
    ·have e1:(s.toList==s'.toList)=false:=K6 hss;go_wp2_with fail;go_quiet (fail);go_wp2_with fail;go_ret;exact⟨rfl,zN hbel _⟩
   ·exfalso;apply HNE.o;have h1:=HTK.o
    rwa [List.take_of_length_le (wW HL),List.take_of_length_le (by have:=HL'.o;omega)]at h1
 ·have hnn:((n:Int) != (m:Int))=true:=by rw [bne_iff_ne];omega
  go_enter Tryz.func19,Tryz.ntmps19;go_wp2_with fail;go_ret;exact⟨rfl,Below.refl _ _⟩
instance:DecidableEq PartP:=fun a b =>
 if h:a.name=b.name/\a.dig=b.dig/\a.size=b.size then isTrue (by obtain⟨x,y,z⟩:=a;obtain⟨u,v,t⟩:=b;obtain⟨h1,h2,h3⟩:=h;simp only at h1 h2 h3;subst h1;subst h2;subst h3;rfl)
 else isFalse (fun e=>h (by subst e;exact⟨rfl,rfl,rfl⟩))
def QJ (x y:BlobP):Bool:=x.dig==y.dig&&(x.data==y.data&&x.aM==y.aM)
def QK (x y:EntP):Bool:=x.key==y.key&&(decide (x.aL=y.aL)&&(x.aM==y.aM&&x.aK==y.aK))
def qJ:List BlobP->List BlobP->Bool
 | [], []=>true
 | x::l,y::m=>QJ x y&&qJ l m
 | _,_=>false
def qV:List EntP->List EntP->Bool
 | [], []=>true
 | x::l,y::m=>QK x y&&qV l m
 | _,_=>false
theorem jj:∀ {l m:List BlobP},l.length≠m.length->qJ l m=false
 | [], [],h=>absurd rfl h
 | [],_::_,_=>rfl
 | _::_, [],_=>rfl
 | x::l,y::m,h=>by rw [qJ,jj (l:=l) (m:=m) (by simpa using h),Bool.and_false]
theorem jl:∀ {l m:List EntP},l.length≠m.length->qV l m=false
 | [], [],h=>absurd rfl h
 | [],_::_,_=>rfl
 | _::_, [],_=>rfl
 | x::l,y::m,h=>by rw [qV,jl (l:=l) (m:=m) (by simpa using h),Bool.and_false]
theorem Vy {x y:BlobP}:QJ x y=true↔x.dig=y.dig/\x.data=y.data/\x.aM=y.aM:=by
 simp [QJ]
theorem Vz {x y:EntP}:QK x y=true↔x.key=y.key/\x.aL=y.aL/\x.aM=y.aM/\x.aK=y.aK:=by
 simp [QK]
theorem ji:∀ {l m:List BlobP},qJ l m=true↔l.map (fun b=>(b.dig,b.data,b.aM))=m.map (fun b=>(b.dig,b.data,b.aM))
 | [], []=>by simp [qJ]
 | [],_::_=>by simp [qJ]
 | _::_, []=>by simp [qJ]
 | x::l,y::m=>by rw [qJ,Bool.and_eq_true,Vy,ji (l:=l) (m:=m)];simp
theorem jk:∀ {l m:List EntP},qV l m=true↔l.map (fun b=>(b.key,b.aL,b.aM,b.aK))=m.map (fun b=>(b.key,b.aL,b.aM,b.aK))
 | [], []=>by simp [qV]
 | [],_::_=>by simp [qV]
 | _::_, []=>by simp [qV]
 | x::l,y::m=>by rw [qV,Bool.and_eq_true,Vz,jk (l:=l) (m:=m)];simp
theorem uz (l:List BlobP):qJ l l=true:=ji.2 rfl
theorem uA (l:List EntP):qV l l=true:=jk.2 rfl
theorem Xb (x y:BlobP) (A B:ae) (c d:Nat) (w:World) (hx:x.data.length<=1000000) (hy:y.data.length<=1000000) (h1:Sl w 1 A x.data.length c (bys x.data)) (h2:Sl w 1 B y.data.length d (bys y.data)) :
  Calls zZZ 112 #[.agg #[az ⟨x.dig.toArray⟩,aw A x.data.length c,ax ay x.aM,.bool x.mark],.agg #[az ⟨y.dig.toArray⟩,aw B y.data.length d,ax ay y.aM,.bool y.mark]] w fun e w'=>e= .returned (.bool (QJ x y))/\Below w.heap.size w w':=by
 obtain⟨s,hs⟩:=wU (⟨x.dig.toArray⟩:ByteArray)
 obtain⟨t,ht⟩:=wU (⟨y.dig.toArray⟩:ByteArray)
 have hst:(s.toList==t.toList)=(x.dig==y.dig):=by rw [hs,ht,ByteArray.toList_eq,ByteArray.toList_eq]
 obtain⟨u,hu⟩:=wU (⟨x.data.toArray⟩:ByteArray)
 obtain⟨v,hv⟩:=wU (⟨y.data.toArray⟩:ByteArray)
 have huv:(u.toList==v.toList)=(x.data==y.data):=by rw [hu,hv,ByteArray.toList_eq,ByteArray.toList_eq]
 have hpp:((x.aM:Int)==(y.aM:Int))=(x.aM==y.aM):=by rw [Bool.eq_iff_iff,beq_iff_eq,beq_iff_eq];omega
 rw [<-hs,<-ht];obtain⟨W,hW,hA,hB,hb⟩:=zY w 88 [az s,aw A x.data.length c,ax ay x.aM,.bool x.mark] [az t,aw B y.data.length d,ax ay y.aM,.bool y.mark];have hc1:(convert 44 9 (aw A x.data.length c)).run zZZ W= .ok (az u) W:=by
  rw [hu];exact xZ underlying44 underlying5 underlying9 rfl (h1.below hb).rd
 have hc2:(convert 44 9 (aw B y.data.length d)).run zZZ W= .ok (az v) W:=by
  rw [hv];exact xZ underlying44 underlying5 underlying9 rfl (h2.below hb).rd
 have a0:=hA.c0;have b0:=hB.c0;have a1:=hA.c1;have b1:=hB.c1;have a2:=hA.c2;have b2:=hB.c2;have hR:QJ x y=(x.dig==y.dig&&(x.data==y.data&&x.aM==y.aM)):=rfl;rw [hR];rw [hW]at a0 b0 a1 b1 a2 b2 hc1 hc2;clear hs ht hu hv h1 h2 hA hB hR;generalize (x.dig==y.dig)=e1 at *
 generalize (x.data==y.data)=e2 at *
 generalize (x.aM==y.aM)=e3 at *
 cases e1 with
 | false =>
  go_enter func112,ntmps112;go_wp2_with fail;go_ret;rw [<-hW];exact⟨rfl,hb⟩
 | true =>
  cases e2 with
  | false =>
   go_enter func112,ntmps112;go_wp2_with fail;go_ret;rw [<-hW];exact⟨rfl,hb⟩
  | true =>
   cases e3 with
   | false =>
    go_enter func112,ntmps112;go_wp2_with fail;go_ret;rw [<-hW];exact⟨rfl,hb⟩
   | true =>
    go_enter func112,ntmps112;go_wp2_with fail;go_ret;rw [<-hW];exact⟨rfl,hb⟩
theorem U4 (A B:ae) (c d:Nat) (l m:List BlobP) (w:World) (hl:l.length<=1000000) (hm:m.length<=1000000) (hp:∀x∈l,x.data.length<=1000000) (hq:∀x∈m,x.data.length<=1000000) (hA:Rw BlobS w A l) (hB:Rw BlobS w B m) :
  Calls zZZ 111 #[aw A l.length c,aw B m.length d,.func (.func 112) #[] #[]] w fun e w'=>e= .returned (.bool (qJ l m))/\Below w.heap.size w w':=by
 have HP:=sqH hp;have HQ:=sqH hq;clear hp hq;by_cases hln:l.length=m.length
 ·have hnn:((l.length:Int) != (m.length:Int))=false:=by rw [bne_eq_false_iff_eq];omega
  generalize hR:qJ l m=R;have HR0:=sqH hR;have HLN:=sqH hln;clear hR;go_enter func111,ntmps111;go_wp2_with fail;go_loopg [17] l.length (fun gn i wr=>∃j:Nat,gn=l.length - j/\i= ax ay j/\j<=l.length/\qJ (l.drop j) (m.drop j)=R/\Below w.heap.size w wr)
  case atStart=>exact⟨0,rfl,rfl,wj,HR0.o,Below.refl _ _⟩
  case round =>
   obtain⟨j,hgk,rfl,hj,hrs,hbl⟩:=hrel;have HGK:=sqH hgk;have HRS:=sqH hrs;clear hgk hrs hnn;by_cases hlt:j<l.length
   ·have hcc:decide (j<l.length)=true:=decide_eq_true hlt;have hlt2:j<m.length:=by have:=HLN.o;omega
    obtain⟨b,off,B1,c1,rfl,hbb,p0,p1,p2,p3,hs⟩:=(hA.below hbl).blob_at j hlt;obtain⟨b',off',B2,c2,rfl,hbb',q0,q1,q2,q3,hs'⟩:=(hB.below hbl).blob_at j hlt2;have hj0:=wX j
    have hj1:(j:Int)<(l.length:Int):=wj;have hj2:(j:Int)<(m.length:Int):=wj;have hpl:=HP.o l[j] (List.getElem_mem hlt);have hpm:=HQ.o m[j] (List.getElem_mem hlt2);have HST:=sqH (show(QJ l[j] m[j]&&qJ (l.drop (j+1)) (m.drop (j+1)))=R by rw [<-HRS.o,List.drop_eq_getElem_cons hlt,List.drop_eq_getElem_cons hlt2];rfl);generalize l[j]=x at *
    generalize m[j]=y at *
    obtain⟨W,hW,hX,hY,hb⟩:=zY wr 88 (zZ x B1 c1) (zZ y B2 c2);have HSM:=sqH (Xb x y B1 B2 c1 c2 W hpl hpm (hs.below hb) (hs'.below hb));have hba:=wi wr (.cells (zZ x B1 c1).toArray 88);have q0':=(hba.cell (p:=⟨b',off'+j*4,none⟩) hbb').trans q0;have q1':=(hba.cell (p:=⟨b',off'+j*4+1,none⟩) hbb').trans q1;have q2':=(hba.cell (p:=⟨b',off'+j*4+2,none⟩) hbb').trans q2;have q3':=(hba.cell (p:=⟨b',off'+j*4+3,none⟩) hbb').trans q3;obtain⟨x0,x1,x2,x3⟩:=sqC4 hX;obtain⟨y0,y1,y2,y3⟩:=sqC4 hY;unfold zZ at hW q0' q1' q2' q3';dsimp only [List.toArray]at hW q0' q1' q2' q3';rw [hW]at x0 x1 x2 x3 y0 y1 y2 y3;clear hs hs' q0 q1 q2 q3 hba;go_wp2_with fail;rw [<-hW]at x0 x1 x2 x3 y0 y1 y2 y3 ⊢
    clear hW x0 x1 x2 x3 y0 y1 y2 y3 p0 p1 p2 p3 q0' q1' q2' q3' hX hY;cases hsm:QJ x y with
    | true =>
     rw [hsm]at HSM;have HN:=sqH (show qJ (l.drop (j+1)) (m.drop (j+1))=R by rw [<-HST.o,hsm];rfl);clear hsm;refine wV HSM.o fun w5 hb5=>?_;dsimp only;have hb1:=wg hbl hb;have hb2:=wg hb1 hb5;go_wp2_with fail;go_roundg (l.length - (j+1))
     case measure=>exact wW HGK
     case rel=>exact⟨j+1,rfl,by go_num,wj,HN.o,hb2⟩
    | false =>
     rw [hsm]at HSM;have HN:=sqH (show R=false by rw [<-HST.o,hsm];rfl);clear hsm;refine wV HSM.o fun w5 hb5=>?_;dsimp only;have hb1:=wg hbl hb;have hb2:=wg hb1 hb5;go_wp2_with fail;go_ret;rw [HN.o];exact⟨rfl,hb2⟩
   ·obtain rfl:j=l.length:=by omega
    have hcc:decide (l.length<l.length)=false:=ws;have HE:=sqH (show R=true by
     rw [<-HRS.o,List.drop_length,List.drop_eq_nil_of_le (wW HLN)];rfl)
    go_wp2_with fail;go_ret;rw [HE.o];exact⟨rfl,hbl⟩
 ·have hnn:((l.length:Int) != (m.length:Int))=true:=by rw [bne_iff_ne];omega
  have HE:=sqH (show qJ l m=false from jj hln);rw [HE.o];go_enter func111,ntmps111;go_wp2_with fail;go_ret;exact⟨rfl,Below.refl _ _⟩
theorem Zk (A B:ae) (c d:Nat) (l m:List BlobP) (w:World) (hl:l.length<=1000000) (hm:m.length<=1000000) (hp:∀x∈l,x.data.length<=1000000) (hq:∀x∈m,x.data.length<=1000000) (hA:Rw BlobS w A l) (hB:Rw BlobS w B m) :
  Calls zZZ 58 #[aw A l.length c,aw B m.length d] w fun e w'=>e= .returned (.bool (qJ l m))/\Below w.heap.size w w':=by
 have HE:=sqH (U4 A B c d l m w hl hm hp hq hA hB);clear hp hq hA hB;generalize qJ l m=R at *
 go_enter func58,ntmps58;go_wp2_with fail;refine wV HE.o fun w1 hb1=>?_;dsimp only;go_wp2_with fail;go_ret;exact⟨rfl,hb1⟩
theorem KN (A B:ae) (n m c d:Nat) (x y:List PartP) (w:World) (hl:x.length=n) (hl':y.length=m) (hn:n<=140737488351232) (hm:m<=140737488351232) (hr:Rd w 3 A n (pcs x)) (hs:Rd w 3 B m (pcs y)) :
  Calls zZZ 19 #[aw A n c,aw B m d] w fun e w'=>e= .returned (.bool (decide (x=y)))/\Below w.heap.size w w':=by
 by_cases h:x=y
 ·subst h;rw [decide_eq_true rfl];obtain rfl:n=m:=by omega
  exact Qd A B n c d x w hl hn hr hs
 ·rw [decide_eq_false h];exact Qc A B n m c d x y w hl hl' hn hm hr hs h
theorem Y4 (x y:EntP) (A B:ae) (c d:Nat) (w:World) (hx:x.aL.length<=1000000) (hy:y.aL.length<=1000000) (h1:Sl w 3 A x.aL.length c (pcs x.aL)) (h2:Sl w 3 B y.aL.length d (pcs y.aL)) :
  Calls zZZ 60 #[.agg #[az ⟨x.key.toArray⟩,aw A x.aL.length c,ax ay x.aM,ax ay x.aK],.agg #[az ⟨y.key.toArray⟩,aw B y.aL.length d,ax ay y.aM,ax ay y.aK]] w fun e w'=>e= .returned (.bool (QK x y))/\Below w.heap.size w w':=by
 obtain⟨s,hs⟩:=wU (⟨x.key.toArray⟩:ByteArray)
 obtain⟨t,ht⟩:=wU (⟨y.key.toArray⟩:ByteArray)
 have hst:(s.toList==t.toList)=(x.key==y.key):=by rw [hs,ht,ByteArray.toList_eq,ByteArray.toList_eq]
 have hpp:((x.aM:Int)==(y.aM:Int))=(x.aM==y.aM):=by rw [Bool.eq_iff_iff,beq_iff_eq,beq_iff_eq];omega
 have hqq:((x.aK:Int)==(y.aK:Int))=(x.aK==y.aK):=by rw [Bool.eq_iff_iff,beq_iff_eq,beq_iff_eq];omega
 rw [<-hs,<-ht];obtain⟨W,hW,hA,hB,hb⟩:=zY w 109 [az s,aw A x.aL.length c,ax ay x.aM,ax ay x.aK] [az t,aw B y.aL.length d,ax ay y.aM,ax ay y.aK];have HEQ:=sqH (KN A B x.aL.length y.aL.length c d x.aL y.aL W rfl rfl wj wj (h1.below hb).rd (h2.below hb).rd);have a0:=hA.c0;have b0:=hB.c0;have a1:=hA.c1;have b1:=hB.c1;have hR:QK x y=(x.key==y.key&&(decide (x.aL=y.aL)&&(x.aM==y.aM&&x.aK==y.aK))):=rfl;rw [hR];rw [hW]at a0 b0 a1 b1;clear hs ht h1 h2 hR;generalize (x.key==y.key)=e1 at *
 generalize (decide (x.aL=y.aL))=e2 at *
 generalize (x.aM==y.aM)=e3 at *
 generalize (x.aK==y.aK)=e4 at *
 cases e1 with
 | false =>
  go_enter func60,ntmps60;go_wp2_with fail;go_ret;rw [<-hW];exact⟨rfl,hb⟩
 | true =>
  cases e2 with
  | false =>
   go_enter func60,ntmps60;go_wp2_with fail;rw [<-hW];clear hW a0 b0 a1 b1;refine wV HEQ.o fun w1 hb1=>?_;dsimp only;have hb2:=wg hb hb1;go_wp2_with fail;go_ret;exact⟨rfl,hb2⟩
  | true =>
   cases e3 with
   | false =>
    go_enter func60,ntmps60;go_wp2_with fail;rw [<-hW];clear hW a0 b0 a1 b1;refine wV HEQ.o fun w1 hb1=>?_;dsimp only;have hb2:=wg hb hb1;have a2:=(hA.below hb1).c2;have b2:=(hB.below hb1).c2;go_wp2_with fail;go_ret;exact⟨rfl,hb2⟩
   | true =>
    cases e4 with
    | false =>
     go_enter func60,ntmps60;go_wp2_with fail;rw [<-hW];clear hW a0 b0 a1 b1;refine wV HEQ.o fun w1 hb1=>?_;dsimp only;have hb2:=wg hb hb1;have a2:=(hA.below hb1).c2;have b2:=(hB.below hb1).c2;have a3:=(hA.below hb1).c3;have b3:=(hB.below hb1).c3;go_wp2_with fail;go_ret;exact⟨rfl,hb2⟩
    | true =>
     go_enter func60,ntmps60;go_wp2_with fail;rw [<-hW];clear hW a0 b0 a1 b1;refine wV HEQ.o fun w1 hb1=>?_;dsimp only;have hb2:=wg hb hb1;have a2:=(hA.below hb1).c2;have b2:=(hB.below hb1).c2;have a3:=(hA.below hb1).c3;have b3:=(hB.below hb1).c3;go_wp2_with fail;go_ret;exact⟨rfl,hb2⟩
theorem U5 (A B:ae) (c d:Nat) (l m:List EntP) (w:World) (hl:l.length<=1000000) (hm:m.length<=1000000) (hp:∀x∈l,x.aL.length<=1000000) (hq:∀x∈m,x.aL.length<=1000000) (hA:Rw EntS w A l) (hB:Rw EntS w B m) :
  Calls zZZ 59 #[aw A l.length c,aw B m.length d,.func (.func 60) #[] #[]] w fun e w'=>e= .returned (.bool (qV l m))/\Below w.heap.size w w':=by
 have HP:=sqH hp;have HQ:=sqH hq;clear hp hq;by_cases hln:l.length=m.length
 ·have hnn:((l.length:Int) != (m.length:Int))=false:=by rw [bne_eq_false_iff_eq];omega
  generalize hR:qV l m=R;have HR0:=sqH hR;have HLN:=sqH hln;clear hR;go_enter func59,ntmps59;go_wp2_with fail;go_loopg [17] l.length (fun gn i wr=>∃j:Nat,gn=l.length - j/\i= ax ay j/\j<=l.length/\qV (l.drop j) (m.drop j)=R/\Below w.heap.size w wr)
  case atStart=>exact⟨0,rfl,rfl,wj,HR0.o,Below.refl _ _⟩
  case round =>
   obtain⟨j,hgk,rfl,hj,hrs,hbl⟩:=hrel;have HGK:=sqH hgk;have HRS:=sqH hrs;clear hgk hrs hnn;by_cases hlt:j<l.length
   ·have hcc:decide (j<l.length)=true:=decide_eq_true hlt;have hlt2:j<m.length:=by have:=HLN.o;omega
    obtain⟨b,off,B1,c1,rfl,hbb,p0,p1,p2,p3,hs⟩:=(hA.below hbl).ent_at j hlt;obtain⟨b',off',B2,c2,rfl,hbb',q0,q1,q2,q3,hs'⟩:=(hB.below hbl).ent_at j hlt2;have hj0:=wX j
    have hj1:(j:Int)<(l.length:Int):=wj;have hj2:(j:Int)<(m.length:Int):=wj;have hpl:=HP.o l[j] (List.getElem_mem hlt);have hpm:=HQ.o m[j] (List.getElem_mem hlt2);have HST:=sqH (show(QK l[j] m[j]&&qV (l.drop (j+1)) (m.drop (j+1)))=R by rw [<-HRS.o,List.drop_eq_getElem_cons hlt,List.drop_eq_getElem_cons hlt2];rfl);generalize l[j]=x at *
    generalize m[j]=y at *
    obtain⟨W,hW,hX,hY,hb⟩:=zY wr 109 (kn x B1 c1) (kn y B2 c2);have HSM:=sqH (Y4 x y B1 B2 c1 c2 W hpl hpm (hs.below hb) (hs'.below hb));have hba:=wi wr (.cells (kn x B1 c1).toArray 109);have q0':=(hba.cell (p:=⟨b',off'+j*4,none⟩) hbb').trans q0;have q1':=(hba.cell (p:=⟨b',off'+j*4+1,none⟩) hbb').trans q1;have q2':=(hba.cell (p:=⟨b',off'+j*4+2,none⟩) hbb').trans q2;have q3':=(hba.cell (p:=⟨b',off'+j*4+3,none⟩) hbb').trans q3;obtain⟨x0,x1,x2,x3⟩:=sqC4 hX;obtain⟨y0,y1,y2,y3⟩:=sqC4 hY;unfold kn at hW q0' q1' q2' q3';dsimp only [List.toArray]at hW q0' q1' q2' q3';rw [hW]at x0 x1 x2 x3 y0 y1 y2 y3;clear hs hs' q0 q1 q2 q3 hba;go_wp2_with fail;rw [<-hW]at x0 x1 x2 x3 y0 y1 y2 y3 ⊢
    clear hW x0 x1 x2 x3 y0 y1 y2 y3 p0 p1 p2 p3 q0' q1' q2' q3' hX hY;cases hsm:QK x y with
    | true =>
     rw [hsm]at HSM;have HN:=sqH (show qV (l.drop (j+1)) (m.drop (j+1))=R by rw [<-HST.o,hsm];rfl);clear hsm;refine wV HSM.o fun w5 hb5=>?_;dsimp only;have hb1:=wg hbl hb;have hb2:=wg hb1 hb5;go_wp2_with fail;go_roundg (l.length - (j+1))
     case measure=>exact wW HGK
     case rel=>exact⟨j+1,rfl,by go_num,wj,HN.o,hb2⟩
    | false =>
     rw [hsm]at HSM;have HN:=sqH (show R=false by rw [<-HST.o,hsm];rfl);clear hsm;refine wV HSM.o fun w5 hb5=>?_;dsimp only;have hb1:=wg hbl hb;have hb2:=wg hb1 hb5;go_wp2_with fail;go_ret;rw [HN.o];exact⟨rfl,hb2⟩
   ·obtain rfl:j=l.length:=by omega
    have hcc:decide (l.length<l.length)=false:=ws;have HE:=sqH (show R=true by
     rw [<-HRS.o,List.drop_length,List.drop_eq_nil_of_le (wW HLN)];rfl)
    go_wp2_with fail;go_ret;rw [HE.o];exact⟨rfl,hbl⟩
 ·have hnn:((l.length:Int) != (m.length:Int))=true:=by rw [bne_iff_ne];omega
  have HE:=sqH (show qV l m=false from jl hln);rw [HE.o];go_enter func59,ntmps59;go_wp2_with fail;go_ret;exact⟨rfl,Below.refl _ _⟩
theorem Zl (A A' B B':ae) (c c' d d':Nat) (l m:List BlobP) (x y:List EntP) (r k:Int) (w:World) (hl:l.length<=1000000) (hm:m.length<=1000000) (hp:∀b∈l,b.data.length<=1000000) (hq:∀b∈m,b.data.length<=1000000)
  (kl:x.length<=1000000) (km:y.length<=1000000) (kp:∀b∈x,b.aL.length<=1000000) (kq:∀b∈y,b.aL.length<=1000000) (hA:Rw BlobS w A l) (hA':Rw BlobS w A' m) (hB:Rw EntS w B x) (hB':Rw EntS w B' y) :
  Calls zZZ 36 #[.agg #[aw A l.length c,aw B x.length d,ax ay r,ax ay k],.agg #[aw A' m.length c',aw B' y.length d',ax ay r,ax ay k]] w fun e w'=>e= .returned (.bool (qJ l m&&qV x y))/\Below w.heap.size w w':=by
 obtain⟨W,hW,hX,hY,hb⟩:=zY w 27 [aw A l.length c,aw B x.length d,ax ay r,ax ay k] [aw A' m.length c',aw B' y.length d',ax ay r,ax ay k];have HS:=sqH (Zk A A' c c' l m W hl hm hp hq (hA.below hb) (hA'.below hb));have HE:=sqH (fun w' (h:Below W.heap.size W w')=>U5 B B' d d' x y w' kl km kp kq ((hB.below hb).below h) ((hB'.below hb).below h));have hrr:(r==r)=true:=ws;have hkk:(k==k)=true:=ws;have a0:=hX.c0;have b0:=hY.c0;rw [hW]at a0 b0;clear hA hA' hB hB' hp hq kp kq;generalize qJ l m=e1 at *
 generalize qV x y=e2 at *
 cases e1 with
 | false =>
  go_enter func36,ntmps36;go_wp2_with fail;rw [<-hW];clear hW a0 b0;refine wV HS.o fun w1 hb1=>?_;dsimp only;have hb2:=wg hb hb1;go_wp2_with fail;go_ret;exact⟨rfl,hb2⟩
 | true =>
  go_enter func36,ntmps36;go_wp2_with fail;rw [<-hW];clear hW a0 b0;refine wV HS.o fun w1 hb1=>?_;dsimp only;have hX1:=hX.below hb1;have hY1:=hY.below hb1;have HE1:=sqH (HE.o w1 hb1);have a1:=hX1.c1;have a2:=hX1.c2;have a3:=hX1.c3;have b1:=hY1.c1;have b2:=hY1.c2;have b3:=hY1.c3;have hb2:=wg hb hb1;go_wp2_with fail;refine wV HE1.o fun w2 hb3=>?_;dsimp only;have hb4:=wg hb2 hb3;go_wp2_with fail;go_ret;exact⟨rfl,hb4⟩
theorem z2x (A B:ae) (c d:Nat) (L M:List ac) (w:World) (hl:L.length<=1000000000) (hm:M.length<=1000000000) (hr:Rd w 1 A L.length (strs L)) (hr2:Rd w 1 B M.length (strs M)) :
  Calls Tryz.prog 32 #[.slice A L.length c,.slice B M.length d] w fun e w'=>e= .returned (.bool (decide (L=M)))/\Below w.heap.size w w':=by
 by_cases hlm:L.length=M.length
 rotate_left
 ·refine(Tryz.slices_Equal_string_lens A B L.length c M.length d w hlm).mono ?_;rintro e w' ⟨rfl,rfl⟩;exact⟨by rw [decide_eq_false (fun h=>hlm (by rw [h]))],Below.refl _ _⟩
 rcases Nat.eq_zero_or_pos L.length with h0 | h0
 ·obtain rfl:L= []:=List.eq_nil_of_length_eq_zero h0;obtain rfl:M= []:=List.eq_nil_of_length_eq_zero (by rw [<-hlm];rfl);refine(Tryz.slices_Equal_string_empty A B c 0 d w wj).mono ?_;rintro e w' ⟨rfl,rfl⟩;exact⟨rfl,Below.refl _ _⟩
 ·obtain⟨b,off,rfl,_,hc⟩:=hr.2 h0;obtain⟨b2,off2,rfl,_,hc2⟩:=hr2.2 wj;have hz:(L.map fun s=>(⟨s.toArray⟩:ByteArray)).length=L.length:=List.length_map _;have hz2:(M.map fun s=>(⟨s.toArray⟩:ByteArray)).length=M.length:=List.length_map _;refine(Tryz.slices_Equal_string b off L.length c b2 off2 M.length d (L.map fun s=>⟨s.toArray⟩) (M.map fun s=>⟨s.toArray⟩) w wj wj wj wj (fun j hj=> ?_) (fun j hj=> ?_)).mono ?_
  ·have hj':j<L.length:=wj
   rw [hc j _ (kG L j hj')];simp [List.getD,List.getElem?_map,List.getElem?_eq_getElem hj']
  ·have hj':j<M.length:=wj
   rw [hc2 j _ (kG M j hj')];simp [List.getD,List.getElem?_map,List.getElem?_eq_getElem hj']
  ·rintro e w' ⟨rfl,q,rfl⟩;refine⟨?_,zN (Below.refl _ _) q⟩
   congr 2
   rw [List.take_of_length_le wj,List.take_of_length_le wj];by_cases h:L=M
   ·subst h;simp
   ·rw [decide_eq_false h,decide_eq_false];intro h2;refine h ?_;have h3:=congrArg (fun l:List ByteArray=>l.map fun s=>s.data.toList) h2;simpa [List.map_map,Function.comp_def] using h3
open Go.Sort
open Go.Maps
abbrev QD:OrdP:=⟨2,0,shaS kH, [], []⟩
abbrev QE:OrdP:=⟨12,3,keyS 0, [], []⟩
theorem UP (aH:Nat):atB (stA aH) (shaS kH)=aC (0,⟨shaS kH,kH,0,false⟩):=by
 unfold atB;simp [List.findIdx?_cons]
theorem z1d (aH:Nat):qt ⟨stA aH,⟨0, [], []⟩, []⟩ QD=(⟨stA aH,⟨0, [], []⟩, []⟩,⟨0, [],kH, [],0, []⟩):=by
 unfold qt;rw [if_pos wo];unfold blobD;rw [if_neg wo,if_pos rfl];show(_,(⟨(gbP (stA aH) (shaS kH)).2, [],(gbP (stA aH) (shaS kH)).1, [],0, []⟩:RepP))=_;unfold gbP;rw [UP]
theorem z0p (aH:Nat):qt ⟨stA aH,⟨0, [], []⟩, []⟩ QE=(⟨stA aH,⟨0, [], []⟩, [⟨keyS 0,3, []⟩]⟩,⟨0, [], [], [],1, []⟩):=by
 unfold qt;rw [if_neg wo,if_neg wo,if_neg wo];unfold fliD;rw [if_pos rfl];rfl
theorem Vx:qI (lo0 100) [xS,QD,QE]=(⟨stA 100,⟨0, [], []⟩, [⟨keyS 0,3, []⟩]⟩, [⟨0,shaS kH, [], [],0, []⟩,⟨0, [],kH, [],0, []⟩,⟨0, [], [], [],1, []⟩]):=by
 unfold qI;rw [Vm 100 wo wo];dsimp only;unfold qI;rw [z1d];dsimp only;unfold qI;rw [z0p];rfl
theorem Yf:∀o∈ [xS,QD,QE],GoodD o:=by
 intro o ho;simp only [List.mem_cons,List.not_mem_nil,or_false]at ho;rcases ho with rfl | rfl | rfl
 ·exact qh (k:=1) (f:=⟨false,false,true,false⟩) rfl (fun _=>rfl) (fun _=>rfl) (fun h=>by cases h) (fun _=>rfl) wj (fun h=>by cases h) wo rfl
 ·exact qh (k:=2) (f:=⟨false,true,false,false⟩) rfl (fun _=>rfl) (fun h=>by cases h) (fun _=>rfl) (fun _=>rfl) wj (fun _=>zq _) wo rfl
 ·exact qh (k:=12) (f:=⟨true,true,false,false⟩) rfl (fun h=>by cases h) (fun h=>by cases h) (fun _=>rfl) (fun _=>rfl) wj (fun _=>zq _) wo rfl (h5:=fun _=>⟨0,wo,rfl⟩)
theorem Zm (w:World):Calls Tryz.prog 15 #[] w fun e w'=>e= .returned (.bool true)/\Below w.heap.size w w':=by
 obtain⟨w1,hw1⟩:=wU (w.alloc (aA #[ax .u8 97,ax .u8 98,ax .u8 99] 5 (3,4)))
 obtain⟨w2,hw2⟩:=wU (w1.alloc (aA #[ax .u8 97,ax .u8 98,ax .u8 99] 5 (3,4)))
 have hs1:w1.heap.size=w.heap.size+1:=by rw [hw1];exact World.size_alloc _ _
 have z1:kN w1 w.heap.size (aC ⟨w.heap.size,0,aB⟩) 3 kH:=by rw [hw1];exact jI w
 have z2:kN w2 w1.heap.size (aC ⟨w.heap.size+1,0,aB⟩) 3 kH:=by rw [hw2,<-hs1];exact jI w1
 have hb1:Below w.heap.size w w1:=by rw [hw1];exact(Below.refl _ _).alloc ab _
 have hb2:Below w1.heap.size w1 w2:=by rw [hw2];exact(Below.refl _ _).alloc ab _
 obtain⟨HD,HK,HS1,HB1,HB2,HW1,HW2⟩:=sqJ7 (kP (aC ⟨w.heap.size+1,0,aB⟩) 3 3 kH w2 rfl ab wo z2.sl.1.rd) (fun W=>YZ 0 W wo wo) z1.sl.1 hb1 hb2 hw1 hw2;have hkc:=fun (w:World) (C:Array Value) (n c:Nat)=>Lib.run_convert_bytes_const (P:=Tryz.prog) w 44 5 C n c underlying44 underlying5;have hkc2:=hkc (w.alloc (aA #[ax .u8 97,ax .u8 98,ax .u8 99] 5 (3,4))) #[ax .u8 97,ax .u8 98,ax .u8 99] 3 3;rw [World.size_alloc]at hkc2;clear z1 z2 hb1 hb2 hw1 hw2 hs1;go_enter func15,ntmps15
 refine wH ?_;intros;clear hkc hkc2;rw [<-HW1.o,<-HW2.o];refine wV HD.o fun w3 hb3=>?_;dsimp only
 refine wH ?_;intros;refine wV ((HK.o w3)) fun w4 hb4=>?_;dsimp only;have HB3:=sqH hb3;have HB4:=sqH hb4;rw [show keyS (pk 0 7)=keyS 0 from rfl];clear hb3 hb4 HD HK;obtain⟨w5,hw5⟩:=wU (w4.alloc (aA #[ax ay 1,ax ay 0,az ⟨#[]⟩,aw (aC ⟨w.heap.size,0,aB⟩) 3 3,aw aB 0 0,ax ay 2,ax ay 0,az ⟨(shaS kH).toArray⟩,aw aB 0 0,aw aB 0 0,ax ay 12,ax ay 3,az ⟨(keyS 0).toArray⟩,aw aB 0 0,aw aB 0 0] 55))
 have hA5:Arr w5 w4.heap.size 55 [ax ay 1,ax ay 0,az ⟨#[]⟩,aw (aC ⟨w.heap.size,0,aB⟩) 3 3,aw aB 0 0,ax ay 2,ax ay 0,az ⟨(shaS kH).toArray⟩,aw aB 0 0,aw aB 0 0,ax ay 12,ax ay 3,az ⟨(keyS 0).toArray⟩,aw aB 0 0,aw aB 0 0]:=by rw [hw5];exact Arr.new w4 55 _
 have hb5:Below w4.heap.size w4 w5:=by rw [hw5];exact(Below.refl _ _).alloc ab _
 have hb13:=wg HB2.o HB3.o;have hb14:=wg hb13 HB4.o;have hb15:=wg hb14 hb5;have hb05:=wg HB1.o hb15;have hS5:=HS1.o.below hb15;have hrw:Rw OrdS w5 (aC ⟨w4.heap.size,0,aB⟩) [xS,QD,QE]:=Rw.of_cells (n:=3) [(xS,yn xS (aC ⟨w.heap.size,0,aB⟩) 3 aB 0),(QD,yn QD aB 0 aB 0),(QE,yn QE aB 0 aB 0)] rfl (fun p hp=>by
  simp only [List.mem_cons,List.not_mem_nil,or_false]at hp;rcases hp with rfl | rfl | rfl
  ·exact⟨_,_,_,_,rfl,hS5,Sl.nil_ _ _⟩
  ·exact⟨_,_,_,_,rfl,Sl.nil_ _ _,Sl.nil_ _ _⟩
  ·exact⟨_,_,_,_,rfl,Sl.nil_ _ _,Sl.nil_ _ _⟩) hA5 rfl
 have hru:=z02 100 (aC ⟨w4.heap.size,0,aB⟩) 3 3 [xS,QD,QE] w5 wo rfl wo ab wo Yf hrw;rw [Vx]at hru;dsimp only at hru;obtain⟨HRU,HW5,HB05⟩:=sqJ3 hru hw5 hb05;clear hw5 hA5 hb5 hb13 hb14 hb15 hb05 hS5 hrw hru HS1 HB1 HB2 HB3 HB4 HW1 HW2
 refine wH ?_;intros;rw [<-HW5.o];refine HRU.o.mono ?_;rintro e_ w6 ⟨vr,v1,v2,v3,v4,rfl,hrx,hol,hb6⟩;dsimp only;obtain⟨Ar,cr,rfl,hcr,hcm,hRr⟩:=hrx.rwo.rows;obtain⟨⟨X,cX,Y,dY,G,ng,F,cF⟩,rfl,rfl,rfl,rfl, -⟩:=hol.rd;obtain⟨b1,o1,B1,c1,B1',c1',C1,d1,hAr,hbw, -, -,e2, -, -, -,hs1, -, -⟩:=hRr.rep_at 1 wo;obtain⟨b2,o2,B2,c2,B2',c2',C2,d2,hAr2, -, -, -, -, -,e4, -, -, -, -⟩:=hRr.rep_at 2 wo;subst hAr;cases hAr2
 have HB6:=sqH (wg HB05.o hb6);simp only [List.getElem_cons_succ,List.getElem_cons_zero]at e2 e4 hs1;clear hrx hol hb6 hRr hcr hcm HRU HB05 HW5;have hcv:(convert 44 9 (aw B1 3 c1)).run Tryz.prog (w6.alloc (aA #[aw X 1 cX,aw Y 0 dY,ax ay 100,ax ay 0,ax ay 0,aw G 0 ng,az ⟨#[]⟩,aw F 1 cF] 33))= .ok (az ⟨#[97,98,99]⟩) (w6.alloc (aA #[aw X 1 cX,aw Y 0 dY,ax ay 100,ax ay 0,ax ay 0,aw G 0 ng,az ⟨#[]⟩,aw F 1 cF] 33)) :=
  xZ underlying44 underlying5 underlying9 rfl (hs1.below (wi w6 (aA #[aw X 1 cX,aw Y 0 dY,ax ay 100,ax ay 0,ax ay 0,aw G 0 ng,az ⟨#[]⟩,aw F 1 cF] 33))).rd
 refine wH ?_;intros;go_ret;exact⟨rfl,HB6.o.alloc HB6.o.size _⟩
theorem FlsO.cap {fs:List FlP} (h:FlsO w base v fs):∀A n c,v= aw A n c->c<=maxLen:=by
 rintro A n c rfl;obtain⟨As,h1,h2,h3,h4⟩:=h;rcases h2.2 with ⟨h1,h2⟩ | ⟨_,cap,_,h1,_,_,h2,h3,_⟩
 ·injection h1 with _ _ h3;subst h3;simp [maxLen]
 ·injection h1 with _ _ h4;subst h4;exact h3
theorem U8 (A B:ae) (c d:Nat) (l:List Int) (w:World) (hn:l.length<=9223372036854775807) (h1:Rd w 1 A l.length (ins l)) (h2:Rd w 1 B l.length (ins l)) :
  Calls Tryz.prog 20 #[aw A l.length c,aw B l.length d] w fun e w'=>e= .returned (.bool true)/\∃q,w'=w.drewN q:=by
 rcases Nat.eq_zero_or_pos l.length with h0 | h0
 ·rw [h0];refine(Tryz.slices_Equal_int_empty A B c 0 d w wj).mono ?_;rintro e w' ⟨rfl,rfl⟩;exact⟨ws,0,rfl⟩
 ·obtain⟨b1,o1,rfl,_,hc1⟩:=h1.2 wj;obtain⟨b2,o2,rfl,_,hc2⟩:=h2.2 wj;have hg:∀j,j<l.length->(ins l)[j]?=some (ax .i64 (l.getD j 0)):=fun j hj=>by
   rw [ins,List.getElem?_map,List.getElem?_eq_getElem hj,List.getD_eq_getElem?_getD,List.getElem?_eq_getElem hj];rfl
  refine(Tryz.slices_Equal_int b1 o1 l.length c b2 o2 l.length d l l w ab ab hn hn (fun j hj=>hc1 j _ (hg j hj)) (fun j hj=>hc2 j _ (hg j hj))).mono ?_;rintro e w' ⟨rfl,h⟩;exact⟨ws,h⟩
theorem Ut (s:ByteArray) (ld:Int) (A B:ae) (c d:Nat) (l:List Int) (w:World) (hn:l.length<=9223372036854775807) (h1:Rd w 1 A l.length (ins l)) (h2:Rd w 1 B l.length (ins l)) :
  Calls Tryz.prog 49 #[.agg #[az s,ax .i64 ld,aw A l.length c],.agg #[az s,ax .i64 ld,aw B l.length d]] w fun e w'=>e= .returned (.bool true)/\Below w.heap.size w w':=by
 obtain⟨W,hW,hA,hB,hb⟩:=zY w 95 [az s,ax .i64 ld,aw A l.length c] [az s,ax .i64 ld,aw B l.length d];have HE:=sqH (U8 A B c d l W hn (h1.below hb) (h2.below hb));obtain⟨a0,a1,a2⟩:=sqC3 hA;obtain⟨b0,b1,b2⟩:=sqC3 hB;rw [hW]at a0 a1 a2 b0 b1 b2;go_enter Tryz.func49,Tryz.ntmps49;go_wp2_with fail;rw [<-hW]at a0 a1 a2 b0 b1 b2 ⊢
 clear hW;refine HE.o.mono ?_;rintro e_ w1 ⟨rfl,⟨q1,hq1⟩⟩;dsimp only;have hb1:Below W.heap.size W w1:=by rw [hq1];exact below_drewN (Below.refl _ _) q1
 clear hq1;go_wp2_with fail;go_ret;exact⟨rfl,wg hb hb1⟩
theorem U7 (A B:ae) (c d:Nat) (fs:List FlP) (w:World) (hn:fs.length<=1000000) (hw:∀p∈fs,p.wait.length<=1000000) (h1:Fls w A fs) (h2:Fls w B fs) :
  Calls Tryz.prog 48 #[aw A fs.length c,aw B fs.length d,.func (.func 49) #[] #[]] w fun e w'=>e= .returned (.bool true)/\Below w.heap.size w w':=by
 have HWT:=sqH hw;clear hw;go_enter Tryz.func48,Tryz.ntmps48;go_wp2_with fail;go_loopg [17] fs.length (fun gn i wr=>∃j:Nat,gn=fs.length - j/\i= ax .i64 j/\j<=fs.length/\Below w.heap.size w wr)
 case atStart=>exact⟨0,rfl,rfl,wj,Below.refl _ _⟩
 case round =>
  obtain⟨j,hgk,rfl,hj,hbl⟩:=hrel;have HGK:=sqH hgk;clear hgk;by_cases hlt:j<fs.length
  ·have hcc:decide (j<fs.length)=true:=decide_eq_true hlt;obtain⟨ba,oa,BA,ca,rfl,hba,c0,c1,c2,hra,_,_⟩:=(h1.below hbl).at_ j hlt;obtain⟨bb,ob,BB,cb,rfl,hbb,d0,d1,d2,hrb,_,_⟩:=(h2.below hbl).at_ j hlt;have hwl:=HWT.o _ (List.getElem_mem hlt);have hj0:=wX j
   have hj1:(j:Int)<(fs.length:Int):=wj;generalize (⟨fs[j].key.toArray⟩:ByteArray)=s at *
   generalize fs[j].lead=ld at *
   generalize fs[j].wait=wt at *
   obtain⟨W,hW,hA,hB,hb⟩:=zY wr 95 [az s,ax .i64 ld,aw BA wt.length ca] [az s,ax .i64 ld,aw BB wt.length cb];have HE:=sqH (Ut s ld BA BB ca cb wt W wj (hra.below hb) (hrb.below hb));obtain⟨a0,a1,a2⟩:=sqC3 hA;obtain⟨b0,b1,b2⟩:=sqC3 hB;have e0:(wr.alloc (.cells #[az s,ax .i64 ld,aw BA wt.length ca] 95)).cell? ⟨bb,ob+j*3,none⟩=some (az s):=(World.cell?_alloc_lt wr _ _ hbb).trans d0;have e1:(wr.alloc (.cells #[az s,ax .i64 ld,aw BA wt.length ca] 95)).cell? ⟨bb,ob+j*3+1,none⟩=some (ax .i64 ld):=(World.cell?_alloc_lt wr _ _ hbb).trans d1;have e2:(wr.alloc (.cells #[az s,ax .i64 ld,aw BA wt.length ca] 95)).cell? ⟨bb,ob+j*3+2,none⟩=some (aw BB wt.length cb):=(World.cell?_alloc_lt wr _ _ hbb).trans d2;rw [hW]at a0 a1 a2 b0 b1 b2;have HW:=sqH hW;clear hW hA hB d0 d1 d2 hra hrb;go_wp2_with fail;rw [<-HW.o]at a0 a1 a2 b0 b1 b2 ⊢
   refine wV HE.o fun w5 hb5=>?_;dsimp only;have hb05:=hbl.trans ((wg hb hb5).mono hbl.size);go_wp2_with fail;go_roundg (fs.length - (j+1))
   case measure=>exact wW HGK
   case rel=>exact⟨j+1,rfl,by go_num,wj,hb05⟩
  ·obtain rfl:j=fs.length:=by omega
   have hcc:decide (fs.length<fs.length)=false:=ws;go_wp2_with fail;go_ret;exact⟨rfl,hbl⟩
theorem vT (p p':LoW) (s s':StoP) (co:ColP) (fs:List FlP) (w:World) (hg:GoodS s) (hg':GoodS s') (hgf:GoodF fs) (hgr:co.aI.length<=1000) (hr:RdLo w p ⟨s,co,fs⟩) (hr':RdLo w p' ⟨s',co,fs⟩) (hb:qJ s.aE s'.aE=true) (he:qV s.aF s'.aF=true) (hro:s'.aH=s.aH) (hck:s'.aG=s.aG) :
  Calls Tryz.prog 23 #[loV p ⟨s,co,fs⟩,loV p' ⟨s',co,fs⟩] w fun e w'=>e= .returned (.bool true)/\Below w.heap.size w w':=by
 have hlb:s.aE.length<=24:=hg.b.len;have hle:s.aF.length<=10:=hg.e.len;have hlb':s'.aE.length<=24:=hg'.b.len;have hle':s'.aF.length<=10:=hg'.e.len;have hlf:fs.length<=6:=hgf.len;obtain⟨X,cX,Y,dY,G,ng,F,cF⟩:=p;obtain⟨X',cX',Y',dY',G',ng',F',cF'⟩:=p';obtain⟨blobs',ents',room',clock'⟩:=s';dsimp only at hro hck hb he hlb' hle';subst hro hck;have hss:=fun W (h:Below w.heap.size w W)=>Zl X X' Y Y' cX cX' dY dY' s.aE blobs' s.aF ents' (s.aH:Int) (s.aG:Int) W wj wj (fun b hb=>by have:=(hg.b.one b hb).2.1;omega) (fun b hb=>by have:=(hg'.b.one b hb).2.1;omega) wj wj (fun x hx=>by have:=(zk (hg.e.one x hx).2.1).1;omega) (fun x hx=>by have:=(zk (hg'.e.one x hx).2.1).1;omega) (hr.s.below h).b (hr'.s.below h).b (hr.s.below h).e (hr'.s.below h).e;rw [hb,he]at hss;have heq:=fun W (h:Below w.heap.size w W)=>z2x G G' ng ng' co.aI co.aI W wj wj (hr.c.below h).rd (hr'.c.below h).rd;rw [decide_eq_true rfl]at heq;have hef:=fun W (h:Below w.heap.size w W)=>U7 F F' cF cF' fs W wj (fun p hp=>by have:=(hgf.all p hp).2.1;omega) (hr.f.below h) (hr'.f.below h);obtain⟨w1,hw1,hP,hR,hbx⟩:=zn w 33 33 [aw X s.aE.length cX,aw Y s.aF.length dY,ax .i64 s.aH,ax .i64 s.aG,ax .i64 co.aJ,aw G co.aI.length ng,.string ⟨co.at_.toArray⟩,aw F fs.length cF] [aw X' blobs'.length cX',aw Y' ents'.length dY',ax .i64 s.aH,ax .i64 s.aG,ax .i64 co.aJ,aw G' co.aI.length ng',.string ⟨co.at_.toArray⟩,aw F' fs.length cF'];have hb1:=hbx;obtain⟨HSS,HEQ,HEF,HK,HBX⟩:=sqJ5 (hss w1 hb1) (fun W (h:Below w1.heap.size w1 W)=>heq W (wg hb1 h)) (fun W (h:Below w1.heap.size w1 W)=>hef W (wg hb1 h)) (fun W (h:Below w1.heap.size w1 W)=>And.intro (hP.below h) (hR.below h)) hbx;have hph:((co.aJ:Int)==(co.aJ:Int))=true:=by rw [beq_iff_eq]
 obtain⟨gb,hgb⟩:=wU w.heap.size
 have HW1:=sqH hw1;have HGB:=sqH hgb;rw [<-hgb]at HK HBX ⊢
 have hk:=HK.o w1 (Below.refl _ _);clear hg hg' hgf hr hr' hb he hss heq hef hP hR hbx hb1 hgr hw1 hgb;have hx:=hk.1;have hy:=hk.2;obtain⟨x0,x1,x2,x3,x4,x5,x6,x7⟩:=sqC8 hx;obtain⟨y0,y1,y2,y3,y4,y5,y6,y7⟩:=sqC8 hy;rw [HW1.o,HGB.o]at x0 x1 x2 x3 y0 y1 y2 y3;clear hx hy hk x4 x5 x6 x7 y4 y5 y6 y7;go_enter Tryz.func23,Tryz.ntmps23;go_wp2_with fail;rw [<-HW1.o,<-HGB.o];clear x0 x1 x2 x3 y0 y1 y2 y3 HW1;refine wV HSS.o fun w2 hb2=>?_;dsimp only;have hk:=HK.o w2 hb2;have hx:=hk.1;have hy:=hk.2;obtain⟨x0,x1,x2,x3,x4,x5,x6,x7⟩:=sqC8 hx;obtain⟨y0,y1,y2,y3,y4,y5,y6,y7⟩:=sqC8 hy;have HC2:=sqH (HEQ.o w2 hb2);have HB2:=sqH hb2;clear hx hy hk hb2;go_wp2_with fail;clear x0 x1 x2 x3 x4 x5 x6 x7 y0 y1 y2 y3 y4 y5 y6 y7;refine wV HC2.o fun w3 hb3=>?_;dsimp only;have hb13:=wg HB2.o hb3;have hk:=HK.o w3 hb13;have hx:=hk.1;have hy:=hk.2;obtain⟨x0,x1,x2,x3,x4,x5,x6,x7⟩:=sqC8 hx;obtain⟨y0,y1,y2,y3,y4,y5,y6,y7⟩:=sqC8 hy;have HC3:=sqH (HEF.o w3 hb13);have HB3:=sqH hb13;clear hx hy hk hb3 hb13;go_wp2_with fail;clear x0 x1 x2 x3 x4 x5 x6 x7 y0 y1 y2 y3 y4 y5 y6 y7;refine wV HC3.o fun w4 hb4=>?_;dsimp only;go_wp2_with fail;go_ret;have hb14:=wg HB3.o hb4;have hz:gb<=w1.heap.size:=by rw [HGB.o];exact(show Below w.heap.size w w1 by rw [<-HGB.o];exact HBX.o).size
 exact⟨ws,HBX.o.trans (hb14.mono hz)⟩
theorem RwO.ordMore {w2:World} {v2:Value} {os:List OrdP} {o:OrdP} {A B:ae} {c d:Nat} {xs:af} (h:RwO OrdS 55 w base v os) (hs:Sl w 1 A o.data.length c (bys o.data)) (hs':Sl w 3 B o.aL.length d (pcs o.aL)) (hA:∀a,A=some a->a.block<base) (hB:∀a,B=some a->a.block<base) :
  ∃xs,w.ownsRow base 55 5 v os.length xs/\∀w2 v2,w2.ownsRow base 55 5 v2 (os.length+1) (xs++yn o A c B d)->w.grownBy w2 v.ownBlock->(v2.ownBlock=v.ownBlock\/∃g,v2.ownBlock=some g/\w.heap.size<=g)->RwO OrdS 55 w2 base v2 (os++ [o]):=by
 obtain⟨ps,h1,h2,h3,h4⟩:=h;have hX:RwX OrdS 55 w base v os (fun _=>False):=⟨ps,h1,h2,h3,fun p hp b hb=>hb.elim (h4 p hp b) (fun e=>e.elim)⟩
 obtain⟨xs,hx,hop⟩:=hX.open_;refine⟨xs,hx,fun w2 v2 ho hg hv=>(hop o (yn o A c B d) w w2 v2 (Below.refl _ _) ⟨A,c,B,d,rfl,hs,hs'⟩ (fun b hb hl=> ?_) ho hg hv).rwo⟩;have hb:v.ownBlock=some b:=hb.elim id (fun e=>e.elim);obtain⟨a,e | e,rfl⟩:=jY hl
 ·have:=hA a e;have:=(World.ownsRow.lt h3) ;have:=(RwX.rwo hX).blk hb;omega
 ·have:=hB a e;have:=(RwX.rwo hX).blk hb;omega
end Go.Proofs.YtcjndgldjhmbgaaGreat
