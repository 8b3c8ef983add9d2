/- Lemmas, as stated. -/
import Derived.Test.YtaboknhfiijipaaGreatQC16
set_option linter.unusedVariables false
set_option linter.unusedSimpArgs false
set_option maxRecDepth 100000
set_option maxHeartbeats 3200000
open Go.Proofs.Tryz
open Go.Proofs.Tryz renaming prog->zZZ
open Go.Value renaming slice->aB,int->aC,string->aE
open Go.IntKind renaming i64->aD
namespace Go.Proofs.YtaboknhfiijipaaGreat
open Go.RowKit
variable {s:StoP}
theorem Qm (A B:ak) (n c d:Nat) (x:List PartP) (w:World) (hl:x.length=n) (hn:n<=140737488351232) (hr:Rd w 3 A n (pcs x)) (hs:Rd w 3 B n (pcs x)) :
  Calls Tryz.prog 46 #[.slice A n c,.slice B n d] w fun e w'=>e= .returned (.bool true)/\Below w.heap.size w w':=by
 have hnn:((n:Int) != (n:Int))=false:=ac;have HL:=sqH hl;clear hl;go_enter Tryz.func46,Tryz.ntmps46;go_wp2_with fail;go_loopg [5,13] n (fun gn u i wr=>∃k:Nat,gn=n - k/\i= .int .i64 k/\k<=n/\Below w.heap.size w wr)
 case atStart=>exact⟨0,rfl,rfl,ww,Below.refl _ _⟩
 case round =>
  obtain⟨k,hgk,rfl,hk,hbel⟩:=hrel;have HGK:=sqH hgk;clear hgk;by_cases hlt:k<n
  ·have hkl:k<x.length:=by have:=HL.o;omega
   obtain⟨b,off,rfl,_,hcell⟩:=(hr.below hbel).2 ww;obtain⟨b',off',rfl,_,hcell'⟩:=(hs.below hbel).2 ww;have hat:=fun j (hj:j<3)=>yF x k j hkl hj;generalize x[k]=p at *
   have c0:=hcell (k*3+0) _ (hat 0 ww);have c1:=hcell (k*3+1) _ (hat 1 ww);have c2:=hcell (k*3+2) _ (hat 2 ww);have d0:=hcell' (k*3+0) _ (hat 0 ww);have d1:=hcell' (k*3+1) _ (hat 1 ww);have d2:=hcell' (k*3+2) _ (hat 2 ww);rw [Nat.add_zero]at c0 d0;rw [show off+(k*3+1)=off+k*3+1 by omega]at c1;rw [show off+(k*3+2)=off+k*3+2 by omega]at c2;rw [show off'+(k*3+1)=off'+k*3+1 by omega]at d1;rw [show off'+(k*3+2)=off'+k*3+2 by omega]at d2;obtain⟨pn,pd,psz⟩:=p;dsimp only [yw,List.getElem?_cons_zero,List.getElem?_cons_succ]at c0 c1 c2 d0 d1 d2;generalize (⟨pn.toArray⟩:ByteArray)=s at *
   generalize (⟨pd.toArray⟩:ByteArray)=t at *
   clear hat hcell hcell';have hk0:=wg k
   have hk1:(k:Int)<(n:Int):=ww;go_wp2_with fail;go_quiet (fail);go_wp2_with fail;go_roundg (n - (k+1))
   case measure=>exact we HGK
   case rel=>exact⟨k+1,rfl,by go_num,ww,zO hbel _⟩
  ·go_wp2_with fail;go_ret;exact⟨rfl,hbel⟩
theorem Kh {s t:ByteArray} (h:¬s=t):(s.toList==t.toList)=false:=by
 rw [beq_eq_false_iff_ne,ByteArray.toList_eq,ByteArray.toList_eq];intro e;apply h;cases s;cases t;simp only [ByteArray.mk.injEq];exact Array.toList_inj.1 e
theorem Ql (A B:ak) (n m c d:Nat) (x y:List PartP) (w:World) (hl:x.length=n) (hl':y.length=m) (hn:n<=140737488351232) (hm:m<=140737488351232) (hr:Rd w 3 A n (pcs x)) (hs:Rd w 3 B m (pcs y)) (hne:x≠y) :
  Calls Tryz.prog 46 #[.slice A n c,.slice B m d] w fun e w'=>e= .returned (.bool false)/\Below w.heap.size w w':=by
 obtain⟨HL,HL',HNE⟩:=sqJ3 hl hl' hne;clear hl hl' hne;by_cases hnm:n=m
 ·subst hnm;have hnn:((n:Int) != (n:Int))=false:=ac
  go_enter Tryz.func46,Tryz.ntmps46;go_wp2_with fail;go_loopg [5,13] n (fun gn u i wr=>∃k:Nat,gn=n - k/\i= .int .i64 k/\k<=n/\x.take k=y.take k/\Below w.heap.size w wr)
  case atStart=>exact⟨0,rfl,rfl,ww,rfl,Below.refl _ _⟩
  case round =>
   obtain⟨k,hgk,rfl,hk,htk,hbel⟩:=hrel;have HGK:=sqH hgk;have HTK:=sqH htk;clear hgk htk;by_cases hlt:k<n
   ·have hkl:k<x.length:=by have:=HL.o;omega
    have hkl':k<y.length:=by have:=HL'.o;omega
    obtain⟨b,off,rfl,_,hcell⟩:=(hr.below hbel).2 ww;obtain⟨b',off',rfl,_,hcell'⟩:=(hs.below hbel).2 ww;have hat:=fun j (hj:j<3)=>yF x k j hkl hj;have hat':=fun j (hj:j<3)=>yF y k j hkl' hj;have HS:=sqH (fun (h:x[k]=y[k])=>(by rw [List.take_succ_eq_append_getElem hkl,List.take_succ_eq_append_getElem hkl',HTK.o,h]:x.take (k+1)=y.take (k+1)));generalize x[k]=p at *
    generalize y[k]=q at *
    have c0:=hcell (k*3+0) _ (hat 0 ww);have c1:=hcell (k*3+1) _ (hat 1 ww);have c2:=hcell (k*3+2) _ (hat 2 ww);have d0:=hcell' (k*3+0) _ (hat' 0 ww);have d1:=hcell' (k*3+1) _ (hat' 1 ww);have d2:=hcell' (k*3+2) _ (hat' 2 ww);rw [Nat.add_zero]at c0 d0;rw [show off+(k*3+1)=off+k*3+1 by omega]at c1;rw [show off+(k*3+2)=off+k*3+2 by omega]at c2;rw [show off'+(k*3+1)=off'+k*3+1 by omega]at d1;rw [show off'+(k*3+2)=off'+k*3+2 by omega]at d2;obtain⟨pn,pd,psz⟩:=p;obtain⟨qn,qd,qsz⟩:=q;dsimp only [yw,List.getElem?_cons_zero,List.getElem?_cons_succ]at c0 c1 c2 d0 d1 d2;obtain⟨s,hs⟩:=wY (⟨pn.toArray⟩:ByteArray)
    obtain⟨t,ht⟩:=wY (⟨pd.toArray⟩:ByteArray)
    obtain⟨s',hs'⟩:=wY (⟨qn.toArray⟩:ByteArray)
    obtain⟨t',ht'⟩:=wY (⟨qd.toArray⟩:ByteArray)
    rw [<-hs]at c0;rw [<-ht]at c1;rw [<-hs']at d0;rw [<-ht']at d1;have H4:=sqH (And.intro hs (And.intro ht (And.intro hs' ht')));clear hat hcell hcell' hat' hs ht hs' ht';have hk0:=wg k
    have hk1:(k:Int)<(n:Int):=ww;by_cases hss:s=s'
    ·subst hss;by_cases htt:t=t'
     ·subst htt;by_cases hzz:psz=qsz
      ·subst hzz;have HS2:=sqH (HS.o (by
        have h1:pn=qn:=by have:=H4.o.1.symm.trans H4.o.2.2.1;simpa using this
        have h2:pd=qd:=by have:=H4.o.2.1.symm.trans H4.o.2.2.2;simpa using this
        rw [h1,h2]))
       go_wp2_with fail;go_quiet (fail);go_wp2_with fail;go_roundg (n - (k+1))
       case measure=>exact we HGK
       case rel=>exact⟨k+1,rfl,by go_num,ww,HS2.o,zO hbel _⟩
      ·have e1:((psz:Int)==(qsz:Int))=false:=by rw [beq_eq_false_iff_ne];omega
       have e2:¬((psz:Int)=(qsz:Int)):=ww;have e3:(psz==qsz)=false:=by rw [beq_eq_false_iff_ne];exact hzz
       go_wp2_with fail;go_quiet (fail);go_wp2_with fail;go_ret;exact⟨rfl,zO hbel _⟩
     ·have e1:(t.toList==t'.toList)=false:=Kh htt;go_wp2_with fail;go_quiet (fail);go_wp2_with fail;go_ret;exact⟨rfl,zO hbel _⟩
    ·have e1:(s.toList==s'.toList)=false:=Kh hss;go_wp2_with fail;go_quiet (fail);go_wp2_with fail;go_ret;exact⟨rfl,zO hbel _⟩
   ·exfalso;apply HNE.o;have h1:=HTK.o
    rwa [List.take_of_length_le (we HL),List.take_of_length_le (by have:=HL'.o;omega)]at h1
 ·have hnn:((n:Int) != (m:Int))=true:=by rw [bne_iff_ne];omega
  go_enter Tryz.func46,Tryz.ntmps46;go_wp2_with fail;go_ret;exact⟨rfl,Below.refl _ _⟩
instance:DecidableEq PartP:=fun a b =>
 if h:a.name=b.name/\a.dig=b.dig/\a.size=b.size then isTrue (by obtain⟨x,y,z⟩:=a;obtain⟨u,v,t⟩:=b;obtain⟨h1,h2,h3⟩:=h;simp only at h1 h2 h3;subst h1;subst h2;subst h3;rfl)
 else isFalse (fun e=>h (by subst e;exact⟨rfl,rfl,rfl⟩))
def QU (x y:BlobP):Bool:=x.dig==y.dig&&(x.data==y.data&&x.aR==y.aR)
def QV (x y:EntP):Bool:=x.key==y.key&&(decide (x.aQ=y.aQ)&&(x.aR==y.aR&&x.aP==y.aP))
def qV:List BlobP->List BlobP->Bool
 | [], []=>true
 | x::l,y::m=>QU x y&&qV l m
 | _,_=>false
def ki:List EntP->List EntP->Bool
 | [], []=>true
 | x::l,y::m=>QV x y&&ki l m
 | _,_=>false
theorem jx:∀ {l m:List BlobP},l.length≠m.length->qV l m=false
 | [], [],h=>absurd rfl h
 | [],_::_,_=>rfl
 | _::_, [],_=>rfl
 | x::l,y::m,h=>by rw [qV,jx (l:=l) (m:=m) (by simpa using h),Bool.and_false]
theorem jz:∀ {l m:List EntP},l.length≠m.length->ki l m=false
 | [], [],h=>absurd rfl h
 | [],_::_,_=>rfl
 | _::_, [],_=>rfl
 | x::l,y::m,h=>by rw [ki,jz (l:=l) (m:=m) (by simpa using h),Bool.and_false]
theorem VK {x y:BlobP}:QU x y=true↔x.dig=y.dig/\x.data=y.data/\x.aR=y.aR:=by
 simp [QU]
theorem VL {x y:EntP}:QV x y=true↔x.key=y.key/\x.aQ=y.aQ/\x.aR=y.aR/\x.aP=y.aP:=by
 simp [QV]
theorem jw:∀ {l m:List BlobP},qV l m=true↔l.map (fun b=>(b.dig,b.data,b.aR))=m.map (fun b=>(b.dig,b.data,b.aR))
 | [], []=>by simp [qV]
 | [],_::_=>by simp [qV]
 | _::_, []=>by simp [qV]
 | x::l,y::m=>by rw [qV,Bool.and_eq_true,VK,jw (l:=l) (m:=m)];simp
theorem jy:∀ {l m:List EntP},ki l m=true↔l.map (fun b=>(b.key,b.aQ,b.aR,b.aP))=m.map (fun b=>(b.key,b.aQ,b.aR,b.aP))
 | [], []=>by simp [ki]
 | [],_::_=>by simp [ki]
 | _::_, []=>by simp [ki]
 | x::l,y::m=>by rw [ki,Bool.and_eq_true,VL,jy (l:=l) (m:=m)];simp
theorem QW (l:List EntP):ki l l=true:=jy.2 rfl
theorem Xn (x y:BlobP) (A B:ak) (c d:Nat) (w:World) (hx:x.data.length<=1000000) (hy:y.data.length<=1000000) (h1:Sl w 1 A x.data.length c (bys x.data)) (h2:Sl w 1 B y.data.length d (bys y.data)) :
  Calls zZZ 100 #[.agg #[aE ⟨x.dig.toArray⟩,aB A x.data.length c,aC aD x.aR,.bool x.mark],.agg #[aE ⟨y.dig.toArray⟩,aB B y.data.length d,aC aD y.aR,.bool y.mark]] w fun e w'=>e= .returned (.bool (QU x y))/\Below w.heap.size w w':=by
 obtain⟨s,hs⟩:=wY (⟨x.dig.toArray⟩:ByteArray)
 obtain⟨t,ht⟩:=wY (⟨y.dig.toArray⟩:ByteArray)
 have hst:(s.toList==t.toList)=(x.dig==y.dig):=by rw [hs,ht,ByteArray.toList_eq,ByteArray.toList_eq]
 obtain⟨u,hu⟩:=wY (⟨x.data.toArray⟩:ByteArray)
 obtain⟨v,hv⟩:=wY (⟨y.data.toArray⟩:ByteArray)
 have huv:(u.toList==v.toList)=(x.data==y.data):=by rw [hu,hv,ByteArray.toList_eq,ByteArray.toList_eq]
 have hpp:((x.aR:Int)==(y.aR:Int))=(x.aR==y.aR):=by rw [Bool.eq_iff_iff,beq_iff_eq,beq_iff_eq];omega
 rw [<-hs,<-ht];obtain⟨W,hW,hA,hB,hb⟩:=q5 w 76 [aE s,aB A x.data.length c,aC aD x.aR,.bool x.mark] [aE t,aB B y.data.length d,aC aD y.aR,.bool y.mark];have hc1:(convert 26 9 (aB A x.data.length c)).run zZZ W= .ok (aE u) W:=by
  rw [hu];exact uO underlying26 underlying5 underlying9 rfl (h1.below hb).rd
 have hc2:(convert 26 9 (aB B y.data.length d)).run zZZ W= .ok (aE v) W:=by
  rw [hv];exact uO underlying26 underlying5 underlying9 rfl (h2.below hb).rd
 have a0:=hA.c0;have b0:=hB.c0;have a1:=hA.c1;have b1:=hB.c1;have a2:=hA.c2;have b2:=hB.c2;have hR:QU x y=(x.dig==y.dig&&(x.data==y.data&&x.aR==y.aR)):=rfl;rw [hR];rw [hW]at a0 b0 a1 b1 a2 b2 hc1 hc2;clear hs ht hu hv h1 h2 hA hB hR;generalize (x.dig==y.dig)=e1 at *
 generalize (x.data==y.data)=e2 at *
 generalize (x.aR==y.aR)=e3 at *
 cases e1 with
 | false =>
  go_enter func100,ntmps100;go_wp2_with fail;go_ret;rw [<-hW];exact⟨rfl,hb⟩
 | true =>
  cases e2 with
  | false =>
   go_enter func100,ntmps100;go_wp2_with fail;go_ret;rw [<-hW];exact⟨rfl,hb⟩
  | true =>
   cases e3 with
   | false =>
    go_enter func100,ntmps100;go_wp2_with fail;go_ret;rw [<-hW];exact⟨rfl,hb⟩
   | true =>
    go_enter func100,ntmps100;go_wp2_with fail;go_ret;rw [<-hW];exact⟨rfl,hb⟩
theorem Ug (A B:ak) (c d:Nat) (l m:List BlobP) (w:World) (hl:l.length<=1000000) (hm:m.length<=1000000) (hp:∀x∈l,x.data.length<=1000000) (hq:∀x∈m,x.data.length<=1000000) (hA:Rw BlobS w A l) (hB:Rw BlobS w B m) :
  Calls zZZ 99 #[aB A l.length c,aB B m.length d,.func (.func 100) #[] #[]] w fun e w'=>e= .returned (.bool (qV l m))/\Below w.heap.size w w':=by
 have HP:=sqH hp;have HQ:=sqH hq;clear hp hq;by_cases hln:l.length=m.length
 ·have hnn:((l.length:Int) != (m.length:Int))=false:=by rw [bne_eq_false_iff_eq];omega
  generalize hR:qV l m=R;have HR0:=sqH hR;have HLN:=sqH hln;clear hR;go_enter func99,ntmps99;go_wp2_with fail;go_loopg [17] l.length (fun gn i wr=>∃j:Nat,gn=l.length - j/\i= aC aD j/\j<=l.length/\qV (l.drop j) (m.drop j)=R/\Below w.heap.size w wr)
  case atStart=>exact⟨0,rfl,rfl,ww,HR0.o,Below.refl _ _⟩
  case round =>
   obtain⟨j,hgk,rfl,hj,hrs,hbl⟩:=hrel;have HGK:=sqH hgk;have HRS:=sqH hrs;clear hgk hrs hnn;by_cases hlt:j<l.length
   ·have hcc:decide (j<l.length)=true:=decide_eq_true hlt;have hlt2:j<m.length:=by have:=HLN.o;omega
    obtain⟨b,off,B1,c1,rfl,hbb,p0,p1,p2,p3,hs⟩:=(hA.below hbl).blob_at j hlt;obtain⟨b',off',B2,c2,rfl,hbb',q0,q1,q2,q3,hs'⟩:=(hB.below hbl).blob_at j hlt2;have hj0:=wg j
    have hj1:(j:Int)<(l.length:Int):=ww;have hj2:(j:Int)<(m.length:Int):=ww;have hpl:=HP.o l[j] (List.getElem_mem hlt);have hpm:=HQ.o m[j] (List.getElem_mem hlt2);have HST:=sqH (show(QU l[j] m[j]&&qV (l.drop (j+1)) (m.drop (j+1)))=R by rw [<-HRS.o,List.drop_eq_getElem_cons hlt,List.drop_eq_getElem_cons hlt2];rfl);generalize l[j]=x at *
    generalize m[j]=y at *
    obtain⟨W,hW,hX,hY,hb⟩:=q5 wr 76 (zZ x B1 c1) (zZ y B2 c2);have HSM:=sqH (Xn x y B1 B2 c1 c2 W hpl hpm (hs.below hb) (hs'.below hb));have hba:=wu wr (.cells (zZ x B1 c1).toArray 76);have q0':=(hba.cell (p:=⟨b',off'+j*4,none⟩) hbb').trans q0;have q1':=(hba.cell (p:=⟨b',off'+j*4+1,none⟩) hbb').trans q1;have q2':=(hba.cell (p:=⟨b',off'+j*4+2,none⟩) hbb').trans q2;have q3':=(hba.cell (p:=⟨b',off'+j*4+3,none⟩) hbb').trans q3;obtain⟨x0,x1,x2,x3⟩:=sqC4 hX;obtain⟨y0,y1,y2,y3⟩:=sqC4 hY;unfold zZ at hW q0' q1' q2' q3';dsimp only [List.toArray]at hW q0' q1' q2' q3';rw [hW]at x0 x1 x2 x3 y0 y1 y2 y3;clear hs hs' q0 q1 q2 q3 hba;go_wp2_with fail;rw [<-hW]at x0 x1 x2 x3 y0 y1 y2 y3 ⊢
    clear hW x0 x1 x2 x3 y0 y1 y2 y3 p0 p1 p2 p3 q0' q1' q2' q3' hX hY;cases hsm:QU x y with
    | true =>
     rw [hsm]at HSM;have HN:=sqH (show qV (l.drop (j+1)) (m.drop (j+1))=R by rw [<-HST.o,hsm];rfl);clear hsm;refine wZ HSM.o fun w5 hb5=>?_;dsimp only;have hb1:=wo hbl hb;have hb2:=wo hb1 hb5;go_wp2_with fail;go_roundg (l.length - (j+1))
     case measure=>exact we HGK
     case rel=>exact⟨j+1,rfl,by go_num,ww,HN.o,hb2⟩
    | false =>
     rw [hsm]at HSM;have HN:=sqH (show R=false by rw [<-HST.o,hsm];rfl);clear hsm;refine wZ HSM.o fun w5 hb5=>?_;dsimp only;have hb1:=wo hbl hb;have hb2:=wo hb1 hb5;go_wp2_with fail;go_ret;rw [HN.o];exact⟨rfl,hb2⟩
   ·obtain rfl:j=l.length:=by omega
    have hcc:decide (l.length<l.length)=false:=ac;have HE:=sqH (show R=true by
     rw [<-HRS.o,List.drop_length,List.drop_eq_nil_of_le (we HLN)];rfl)
    go_wp2_with fail;go_ret;rw [HE.o];exact⟨rfl,hbl⟩
 ·have hnn:((l.length:Int) != (m.length:Int))=true:=by rw [bne_iff_ne];omega
  have HE:=sqH (show qV l m=false from jx hln);rw [HE.o];go_enter func99,ntmps99;go_wp2_with fail;go_ret;exact⟨rfl,Below.refl _ _⟩
theorem Zv (A B:ak) (c d:Nat) (l m:List BlobP) (w:World) (hl:l.length<=1000000) (hm:m.length<=1000000) (hp:∀x∈l,x.data.length<=1000000) (hq:∀x∈m,x.data.length<=1000000) (hA:Rw BlobS w A l) (hB:Rw BlobS w B m) :
  Calls zZZ 43 #[aB A l.length c,aB B m.length d] w fun e w'=>e= .returned (.bool (qV l m))/\Below w.heap.size w w':=by
 have HE:=sqH (Ug A B c d l m w hl hm hp hq hA hB);clear hp hq hA hB;generalize qV l m=R at *
 go_enter func43,ntmps43;go_wp2_with fail;refine wZ HE.o fun w1 hb1=>?_;dsimp only;go_wp2_with fail;go_ret;exact⟨rfl,hb1⟩
theorem Y1 (A B:ak) (n m c d:Nat) (x y:List PartP) (w:World) (hl:x.length=n) (hl':y.length=m) (hn:n<=140737488351232) (hm:m<=140737488351232) (hr:Rd w 3 A n (pcs x)) (hs:Rd w 3 B m (pcs y)) :
  Calls zZZ 46 #[aB A n c,aB B m d] w fun e w'=>e= .returned (.bool (decide (x=y)))/\Below w.heap.size w w':=by
 by_cases h:x=y
 ·subst h;rw [decide_eq_true rfl];obtain rfl:n=m:=by omega
  exact Qm A B n c d x w hl hn hr hs
 ·rw [decide_eq_false h];exact Ql A B n m c d x y w hl hl' hn hm hr hs h
theorem Yn (x y:EntP) (A B:ak) (c d:Nat) (w:World) (hx:x.aQ.length<=1000000) (hy:y.aQ.length<=1000000) (h1:Sl w 3 A x.aQ.length c (pcs x.aQ)) (h2:Sl w 3 B y.aQ.length d (pcs y.aQ)) :
  Calls zZZ 45 #[.agg #[aE ⟨x.key.toArray⟩,aB A x.aQ.length c,aC aD x.aR,aC aD x.aP],.agg #[aE ⟨y.key.toArray⟩,aB B y.aQ.length d,aC aD y.aR,aC aD y.aP]] w fun e w'=>e= .returned (.bool (QV x y))/\Below w.heap.size w w':=by
 obtain⟨s,hs⟩:=wY (⟨x.key.toArray⟩:ByteArray)
 obtain⟨t,ht⟩:=wY (⟨y.key.toArray⟩:ByteArray)
 have hst:(s.toList==t.toList)=(x.key==y.key):=by rw [hs,ht,ByteArray.toList_eq,ByteArray.toList_eq]
 have hpp:((x.aR:Int)==(y.aR:Int))=(x.aR==y.aR):=by rw [Bool.eq_iff_iff,beq_iff_eq,beq_iff_eq];omega
 have hqq:((x.aP:Int)==(y.aP:Int))=(x.aP==y.aP):=by rw [Bool.eq_iff_iff,beq_iff_eq,beq_iff_eq];omega
 rw [<-hs,<-ht];obtain⟨W,hW,hA,hB,hb⟩:=q5 w 100 [aE s,aB A x.aQ.length c,aC aD x.aR,aC aD x.aP] [aE t,aB B y.aQ.length d,aC aD y.aR,aC aD y.aP];have HEQ:=sqH (Y1 A B x.aQ.length y.aQ.length c d x.aQ y.aQ W rfl rfl ww ww (h1.below hb).rd (h2.below hb).rd);have a0:=hA.c0;have b0:=hB.c0;have a1:=hA.c1;have b1:=hB.c1;have hR:QV x y=(x.key==y.key&&(decide (x.aQ=y.aQ)&&(x.aR==y.aR&&x.aP==y.aP))):=rfl;rw [hR];rw [hW]at a0 b0 a1 b1;clear hs ht h1 h2 hR;generalize (x.key==y.key)=e1 at *
 generalize (decide (x.aQ=y.aQ))=e2 at *
 generalize (x.aR==y.aR)=e3 at *
 generalize (x.aP==y.aP)=e4 at *
 cases e1 with
 | false =>
  go_enter func45,ntmps45;go_wp2_with fail;go_ret;rw [<-hW];exact⟨rfl,hb⟩
 | true =>
  cases e2 with
  | false =>
   go_enter func45,ntmps45;go_wp2_with fail;rw [<-hW];clear hW a0 b0 a1 b1;refine wZ HEQ.o fun w1 hb1=>?_;dsimp only;have hb2:=wo hb hb1;go_wp2_with fail;go_ret;exact⟨rfl,hb2⟩
  | true =>
   cases e3 with
   | false =>
    go_enter func45,ntmps45;go_wp2_with fail;rw [<-hW];clear hW a0 b0 a1 b1;refine wZ HEQ.o fun w1 hb1=>?_;dsimp only;have hb2:=wo hb hb1;have a2:=(hA.below hb1).c2;have b2:=(hB.below hb1).c2;go_wp2_with fail;go_ret;exact⟨rfl,hb2⟩
   | true =>
    cases e4 with
    | false =>
     go_enter func45,ntmps45;go_wp2_with fail;rw [<-hW];clear hW a0 b0 a1 b1;refine wZ HEQ.o fun w1 hb1=>?_;dsimp only;have hb2:=wo hb hb1;have a2:=(hA.below hb1).c2;have b2:=(hB.below hb1).c2;have a3:=(hA.below hb1).c3;have b3:=(hB.below hb1).c3;go_wp2_with fail;go_ret;exact⟨rfl,hb2⟩
    | true =>
     go_enter func45,ntmps45;go_wp2_with fail;rw [<-hW];clear hW a0 b0 a1 b1;refine wZ HEQ.o fun w1 hb1=>?_;dsimp only;have hb2:=wo hb hb1;have a2:=(hA.below hb1).c2;have b2:=(hB.below hb1).c2;have a3:=(hA.below hb1).c3;have b3:=(hB.below hb1).c3;go_wp2_with fail;go_ret;exact⟨rfl,hb2⟩
theorem Uh (A B:ak) (c d:Nat) (l m:List EntP) (w:World) (hl:l.length<=1000000) (hm:m.length<=1000000) (hp:∀x∈l,x.aQ.length<=1000000) (hq:∀x∈m,x.aQ.length<=1000000) (hA:Rw EntS w A l) (hB:Rw EntS w B m) :
  Calls zZZ 44 #[aB A l.length c,aB B m.length d,.func (.func 45) #[] #[]] w fun e w'=>e= .returned (.bool (ki l m))/\Below w.heap.size w w':=by
 have HP:=sqH hp;have HQ:=sqH hq;clear hp hq;by_cases hln:l.length=m.length
 ·have hnn:((l.length:Int) != (m.length:Int))=false:=by rw [bne_eq_false_iff_eq];omega
  generalize hR:ki l m=R;have HR0:=sqH hR;have HLN:=sqH hln;clear hR;go_enter func44,ntmps44;go_wp2_with fail;go_loopg [17] l.length (fun gn i wr=>∃j:Nat,gn=l.length - j/\i= aC aD j/\j<=l.length/\ki (l.drop j) (m.drop j)=R/\Below w.heap.size w wr)
  case atStart=>exact⟨0,rfl,rfl,ww,HR0.o,Below.refl _ _⟩
  case round =>
   obtain⟨j,hgk,rfl,hj,hrs,hbl⟩:=hrel;have HGK:=sqH hgk;have HRS:=sqH hrs;clear hgk hrs hnn;by_cases hlt:j<l.length
   ·have hcc:decide (j<l.length)=true:=decide_eq_true hlt;have hlt2:j<m.length:=by have:=HLN.o;omega
    obtain⟨b,off,B1,c1,rfl,hbb,p0,p1,p2,p3,hs⟩:=(hA.below hbl).ent_at j hlt;obtain⟨b',off',B2,c2,rfl,hbb',q0,q1,q2,q3,hs'⟩:=(hB.below hbl).ent_at j hlt2;have hj0:=wg j
    have hj1:(j:Int)<(l.length:Int):=ww;have hj2:(j:Int)<(m.length:Int):=ww;have hpl:=HP.o l[j] (List.getElem_mem hlt);have hpm:=HQ.o m[j] (List.getElem_mem hlt2);have HST:=sqH (show(QV l[j] m[j]&&ki (l.drop (j+1)) (m.drop (j+1)))=R by rw [<-HRS.o,List.drop_eq_getElem_cons hlt,List.drop_eq_getElem_cons hlt2];rfl);generalize l[j]=x at *
    generalize m[j]=y at *
    obtain⟨W,hW,hX,hY,hb⟩:=q5 wr 100 (kn x B1 c1) (kn y B2 c2);have HSM:=sqH (Yn x y B1 B2 c1 c2 W hpl hpm (hs.below hb) (hs'.below hb));have hba:=wu wr (.cells (kn x B1 c1).toArray 100);have q0':=(hba.cell (p:=⟨b',off'+j*4,none⟩) hbb').trans q0;have q1':=(hba.cell (p:=⟨b',off'+j*4+1,none⟩) hbb').trans q1;have q2':=(hba.cell (p:=⟨b',off'+j*4+2,none⟩) hbb').trans q2;have q3':=(hba.cell (p:=⟨b',off'+j*4+3,none⟩) hbb').trans q3;obtain⟨x0,x1,x2,x3⟩:=sqC4 hX;obtain⟨y0,y1,y2,y3⟩:=sqC4 hY;unfold kn at hW q0' q1' q2' q3';dsimp only [List.toArray]at hW q0' q1' q2' q3';rw [hW]at x0 x1 x2 x3 y0 y1 y2 y3;clear hs hs' q0 q1 q2 q3 hba;go_wp2_with fail;rw [<-hW]at x0 x1 x2 x3 y0 y1 y2 y3 ⊢
    clear hW x0 x1 x2 x3 y0 y1 y2 y3 p0 p1 p2 p3 q0' q1' q2' q3' hX hY;cases hsm:QV x y with
    | true =>
     rw [hsm]at HSM;have HN:=sqH (show ki (l.drop (j+1)) (m.drop (j+1))=R by rw [<-HST.o,hsm];rfl);clear hsm;refine wZ HSM.o fun w5 hb5=>?_;dsimp only;have hb1:=wo hbl hb;have hb2:=wo hb1 hb5;go_wp2_with fail;go_roundg (l.length - (j+1))
     case measure=>exact we HGK
     case rel=>exact⟨j+1,rfl,by go_num,ww,HN.o,hb2⟩
    | false =>
     rw [hsm]at HSM;have HN:=sqH (show R=false by rw [<-HST.o,hsm];rfl);clear hsm;refine wZ HSM.o fun w5 hb5=>?_;dsimp only;have hb1:=wo hbl hb;have hb2:=wo hb1 hb5;go_wp2_with fail;go_ret;rw [HN.o];exact⟨rfl,hb2⟩
   ·obtain rfl:j=l.length:=by omega
    have hcc:decide (l.length<l.length)=false:=ac;have HE:=sqH (show R=true by
     rw [<-HRS.o,List.drop_length,List.drop_eq_nil_of_le (we HLN)];rfl)
    go_wp2_with fail;go_ret;rw [HE.o];exact⟨rfl,hbl⟩
 ·have hnn:((l.length:Int) != (m.length:Int))=true:=by rw [bne_iff_ne];omega
  have HE:=sqH (show ki l m=false from jz hln);rw [HE.o];go_enter func44,ntmps44;go_wp2_with fail;go_ret;exact⟨rfl,Below.refl _ _⟩
theorem Zw (A A' B B':ak) (c c' d d':Nat) (l m:List BlobP) (x y:List EntP) (r k:Int) (w:World) (hl:l.length<=1000000) (hm:m.length<=1000000) (hp:∀b∈l,b.data.length<=1000000) (hq:∀b∈m,b.data.length<=1000000)
  (kl:x.length<=1000000) (km:y.length<=1000000) (kp:∀b∈x,b.aQ.length<=1000000) (kq:∀b∈y,b.aQ.length<=1000000) (hA:Rw BlobS w A l) (hA':Rw BlobS w A' m) (hB:Rw EntS w B x) (hB':Rw EntS w B' y) :
  Calls zZZ 22 #[.agg #[aB A l.length c,aB B x.length d,aC aD r,aC aD k],.agg #[aB A' m.length c',aB B' y.length d',aC aD r,aC aD k]] w fun e w'=>e= .returned (.bool (qV l m&&ki x y))/\Below w.heap.size w w':=by
 obtain⟨W,hW,hX,hY,hb⟩:=q5 w 34 [aB A l.length c,aB B x.length d,aC aD r,aC aD k] [aB A' m.length c',aB B' y.length d',aC aD r,aC aD k];have HS:=sqH (Zv A A' c c' l m W hl hm hp hq (hA.below hb) (hA'.below hb));have HE:=sqH (fun w' (h:Below W.heap.size W w')=>Uh B B' d d' x y w' kl km kp kq ((hB.below hb).below h) ((hB'.below hb).below h));have hrr:(r==r)=true:=ac;have hkk:(k==k)=true:=ac;have a0:=hX.c0;have b0:=hY.c0;rw [hW]at a0 b0;clear hA hA' hB hB' hp hq kp kq;generalize qV l m=e1 at *
 generalize ki x y=e2 at *
 cases e1 with
 | false =>
  go_enter func22,ntmps22;go_wp2_with fail;rw [<-hW];clear hW a0 b0;refine wZ HS.o fun w1 hb1=>?_;dsimp only;have hb2:=wo hb hb1;go_wp2_with fail;go_ret;exact⟨rfl,hb2⟩
 | true =>
  go_enter func22,ntmps22;go_wp2_with fail;rw [<-hW];clear hW a0 b0;refine wZ HS.o fun w1 hb1=>?_;dsimp only;have hX1:=hX.below hb1;have hY1:=hY.below hb1;have HE1:=sqH (HE.o w1 hb1);have a1:=hX1.c1;have a2:=hX1.c2;have a3:=hX1.c3;have b1:=hY1.c1;have b2:=hY1.c2;have b3:=hY1.c3;have hb2:=wo hb hb1;go_wp2_with fail;refine wZ HE1.o fun w2 hb3=>?_;dsimp only;have hb4:=wo hb2 hb3;go_wp2_with fail;go_ret;exact⟨rfl,hb4⟩
open Go.Maps
section
variable {bl bl':List BlobP} {ds ds':List aj}
end
theorem QS {bl:List BlobP} {p:BlobP->Bool} (h:∀b∈bl,0<b.aR->p b=true):xQ (bl.filter p)=xQ bl:=by
 unfold xQ;rw [List.filter_filter]
 congr 1
 refine List.filter_congr fun b hb=> ?_;by_cases hp:0<b.aR
 ·rw [decide_eq_true hp,h b hb hp];rfl
 ·rw [decide_eq_false hp];rfl
theorem UR (s:StoP):xQ (cln s).aJ=xQ s.aJ :=
 QS fun b hb hp=> @decide_eq_true _ (Classical.propDecidable _) (.root (VG hb hp) ⟨b,hb,rfl⟩)
theorem z19 (s:StoP):rts (cln s)=rts s:=by
 show vR s.aK++xQ (cln s).aJ=_;rw [UR];rfl
theorem z17 {x:aj} (h:Rch s.aJ (rts s) x):InB (cln s).aJ x:=by
 obtain⟨b,hb,rfl⟩:=h.inB;exact⟨b,Z3.2 ⟨hb,h⟩,rfl⟩
theorem z18 (hr:RisesBy (·.dig) s.aJ) (x:aj):Rch (cln s).aJ (rts (cln s)) x↔Rch s.aJ (rts s) x:=by
 rw [z19];exact⟨fun h=>h.sub hr (xw hr) QG (fun _ h=>h),fun h=>h.keepb hr (xw hr) QG (fun _ h=>h) (fun _ h=>z17 h)⟩
theorem UP (hr:RisesBy (·.dig) s.aJ) {b:BlobP} (hb:b∈(cln s).aJ):Rch (cln s).aJ (rts (cln s)) b.dig:=(z18 hr _).2 (Z3.1 hb).2
end Go.Proofs.YtaboknhfiijipaaGreat
