/- Lemmas of the proof. Conditions: as stated. -/
import Derived.Test.YtfmnggcfhalfnaaGreatQW21
set_option linter.unusedVariables false
set_option linter.unusedSimpArgs false
set_option maxRecDepth 100000
set_option maxHeartbeats 3200000
namespace Go.Proofs.YtfmnggcfhalfnaaGreat
open Go.RowKit
instance:DecidableEq PartP:=fun a b =>
 if h:a.name=b.name∧a.dig=b.dig∧a.size=b.size then isTrue (by obtain⟨x,y,z⟩:=a;obtain⟨u,v,t⟩:=b;obtain⟨h1,h2,h3⟩:=h;simp only at h1 h2 h3;subst h1;subst h2;subst h3;rfl)
 else isFalse (fun e=>h (by subst e;exact⟨rfl,rfl,rfl⟩))
def xt (x y:BlobP):Bool:=x.dig==y.dig&&(x.data==y.data&&x.pins==y.pins)
def xu (x y:EntP):Bool:=x.key==y.key&&(decide (x.parts=y.parts)&&(x.pins==y.pins&&x.stamp==y.stamp))
def zA:List BlobP→List BlobP→Bool
 | [], []=>true
 | x::l,y::m=>xt x y&&zA l m
 | _,_=>false
def zI:List EntP→List EntP→Bool
 | [], []=>true
 | x::l,y::m=>xu x y&&zI l m
 | _,_=>false
theorem kW:∀ {l m:List BlobP},l.length≠m.length→zA l m=false
 | [], [],h=>absurd rfl h
 | [],_::_,_=>rfl
 | _::_, [],_=>rfl
 | x::l,y::m,h=>by rw [zA,kW (l:=l) (m:=m) (by simpa using h),Bool.and_false]
theorem kY:∀ {l m:List EntP},l.length≠m.length→zI l m=false
 | [], [],h=>absurd rfl h
 | [],_::_,_=>rfl
 | _::_, [],_=>rfl
 | x::l,y::m,h=>by rw [zI,kY (l:=l) (m:=m) (by simpa using h),Bool.and_false]
theorem uU {x y:BlobP}:xt x y=true↔x.dig=y.dig∧x.data=y.data∧x.pins=y.pins:=by
 simp [xt]
theorem uV {x y:EntP}:xu x y=true↔x.key=y.key∧x.parts=y.parts∧x.pins=y.pins∧x.stamp=y.stamp:=by
 simp [xu]
theorem kV:∀ {l m:List BlobP},zA l m=true↔l.map (fun b=>(b.dig,b.data,b.pins))=m.map (fun b=>(b.dig,b.data,b.pins))
 | [], []=>by simp [zA]
 | [],_::_=>by simp [zA]
 | _::_, []=>by simp [zA]
 | x::l,y::m=>by rw [zA,Bool.and_eq_true,uU,kV (l:=l) (m:=m)];simp
theorem kX:∀ {l m:List EntP},zI l m=true↔l.map (fun b=>(b.key,b.parts,b.pins,b.stamp))=m.map (fun b=>(b.key,b.parts,b.pins,b.stamp))
 | [], []=>by simp [zI]
 | [],_::_=>by simp [zI]
 | _::_, []=>by simp [zI]
 | x::l,y::m=>by rw [zI,Bool.and_eq_true,uV,kX (l:=l) (m:=m)];simp
theorem kB (l:List BlobP):zA l l=true:=kV.2 rfl
theorem kC (l:List EntP):zI l l=true:=kX.2 rfl
theorem vY (x y:BlobP) (A B:Option Addr) (c d:Nat) (w:World) (hx:x.data.length≤1000000) (hy:y.data.length≤1000000) (h1:Sl w 1 A x.data.length c (bys x.data)) (h2:Sl w 1 B y.data.length d (bys y.data)) :
  Calls Tryz.prog 70 #[.agg #[.string ⟨x.dig.toArray⟩,.slice A x.data.length c,.int .i64 x.pins,.bool x.mark],.agg #[.string ⟨y.dig.toArray⟩,.slice B y.data.length d,.int .i64 y.pins,.bool y.mark]] w fun e w'=>e= .returned (.bool (xt x y))∧Below w.heap.size w w':=by
 obtain⟨s,hs⟩:∃s:ByteArray,s=⟨x.dig.toArray⟩:=⟨_,rfl⟩
 obtain⟨t,ht⟩:∃s:ByteArray,s=⟨y.dig.toArray⟩:=⟨_,rfl⟩
 have hst:(s.toList==t.toList)=(x.dig==y.dig):=by rw [hs,ht,ByteArray.toList_eq,ByteArray.toList_eq]
 obtain⟨u,hu⟩:∃s:ByteArray,s=⟨x.data.toArray⟩:=⟨_,rfl⟩
 obtain⟨v,hv⟩:∃s:ByteArray,s=⟨y.data.toArray⟩:=⟨_,rfl⟩
 have huv:(u.toList==v.toList)=(x.data==y.data):=by rw [hu,hv,ByteArray.toList_eq,ByteArray.toList_eq]
 have hpp:((x.pins:Int)==(y.pins:Int))=(x.pins==y.pins):=by rw [Bool.eq_iff_iff,beq_iff_eq,beq_iff_eq];omega
 rw [←hs,←ht];obtain⟨W,hW,hA,hB,hb⟩:=zB w 32 [.string s,.slice A x.data.length c,.int .i64 x.pins,.bool x.mark] [.string t,.slice B y.data.length d,.int .i64 y.pins,.bool y.mark];have hc1:(convert 30 9 (.slice A x.data.length c)).run Tryz.prog W= .ok (.string u) W:=by
  rw [hu];exact yy Tryz.underlying30 Tryz.underlying5 Tryz.underlying9 rfl (h1.below hb).rd
 have hc2:(convert 30 9 (.slice B y.data.length d)).run Tryz.prog W= .ok (.string v) W:=by
  rw [hv];exact yy Tryz.underlying30 Tryz.underlying5 Tryz.underlying9 rfl (h2.below hb).rd
 have a0:=hA.cell (k:=0) rfl;have b0:=hB.cell (k:=0) rfl;have a1:=hA.cell (k:=1) rfl;have b1:=hB.cell (k:=1) rfl;have a2:=hA.cell (k:=2) rfl;have b2:=hB.cell (k:=2) rfl;have hR:xt x y=(x.dig==y.dig&&(x.data==y.data&&x.pins==y.pins)):=rfl;rw [hR];rw [hW]at a0 b0 a1 b1 a2 b2 hc1 hc2;clear hs ht hu hv h1 h2 hA hB hR;generalize (x.dig==y.dig)=e1 at *
 generalize (x.data==y.data)=e2 at *
 generalize (x.pins==y.pins)=e3 at *
 cases e1 with
 | false =>
  go_enter Tryz.func70,Tryz.ntmps70;go_wp2_with fail;go_ret;rw [←hW];exact⟨rfl,hb⟩
 | true =>
  cases e2 with
  | false =>
   go_enter Tryz.func70,Tryz.ntmps70;go_wp2_with fail;go_ret;rw [←hW];exact⟨rfl,hb⟩
  | true =>
   cases e3 with
   | false =>
    go_enter Tryz.func70,Tryz.ntmps70;go_wp2_with fail;go_ret;rw [←hW];exact⟨rfl,hb⟩
   | true =>
    go_enter Tryz.func70,Tryz.ntmps70;go_wp2_with fail;go_ret;rw [←hW];exact⟨rfl,hb⟩
theorem j9 (A B:Option Addr) (c d:Nat) (l m:List BlobP) (w:World) (hl:l.length≤1000000) (hm:m.length≤1000000) (hp:∀x∈l,x.data.length≤1000000) (hq:∀x∈m,x.data.length≤1000000) (hA:Rw BlobS w A l) (hB:Rw BlobS w B m) :
  Calls Tryz.prog 69 #[.slice A l.length c,.slice B m.length d,.func (.func 70) #[] #[]] w fun e w'=>e= .returned (.bool (zA l m))∧Below w.heap.size w w':=by
 have HP:=sqH hp;have HQ:=sqH hq;clear hp hq;by_cases hln:l.length=m.length
 ·have hnn:((l.length:Int) != (m.length:Int))=false:=by rw [bne_eq_false_iff_eq];omega
  generalize hR:zA l m=R;have HR0:=sqH hR;have HLN:=sqH hln;clear hR;go_enter Tryz.func69,Tryz.ntmps69;go_wp2_with fail;go_loopg [17] l.length (fun gn i wr=>∃j:Nat,gn=l.length - j∧i= .int .i64 j∧j≤l.length∧zA (l.drop j) (m.drop j)=R∧Below w.heap.size w wr)
  case atStart=>exact⟨0,rfl,rfl,by omega,HR0.out,Below.refl _ _⟩
  case round =>
   obtain⟨j,hgk,rfl,hj,hrs,hbl⟩:=hrel;have HGK:=sqH hgk;have HRS:=sqH hrs;clear hgk hrs hnn;by_cases hlt:j<l.length
   ·have hcc:decide (j<l.length)=true:=decide_eq_true hlt;have hlt2:j<m.length:=by have:=HLN.out;omega
    obtain⟨b,off,B1,c1,rfl,hbb,p0,p1,p2,p3,hs⟩:=(hA.below hbl).blob_at j hlt;obtain⟨b',off',B2,c2,rfl,hbb',q0,q1,q2,q3,hs'⟩:=(hB.below hbl).blob_at j hlt2;have hj0:(0:Int)≤(j:Int):=by omega
    have hj1:(j:Int)<(l.length:Int):=by omega
    have hj2:(j:Int)<(m.length:Int):=by omega
    have hpl:=HP.out l[j] (List.getElem_mem hlt);have hpm:=HQ.out m[j] (List.getElem_mem hlt2);have HST:=sqH (show(xt l[j] m[j]&&zA (l.drop (j+1)) (m.drop (j+1)))=R by rw [←HRS.out,List.drop_eq_getElem_cons hlt,List.drop_eq_getElem_cons hlt2];rfl);generalize l[j]=x at *
    generalize m[j]=y at *
    obtain⟨W,hW,hX,hY,hb⟩:=zB wr 32 (zi x B1 c1) (zi y B2 c2);have HSM:=sqH (vY x y B1 B2 c1 c2 W hpl hpm (hs.below hb) (hs'.below hb));have hba:=(Below.refl wr.heap.size wr).alloc (Nat.le_refl _) (.cells (zi x B1 c1).toArray 32);have q0':=(hba.cell (p:=⟨b',off'+j*4,none⟩) hbb').trans q0;have q1':=(hba.cell (p:=⟨b',off'+j*4+1,none⟩) hbb').trans q1;have q2':=(hba.cell (p:=⟨b',off'+j*4+2,none⟩) hbb').trans q2;have q3':=(hba.cell (p:=⟨b',off'+j*4+3,none⟩) hbb').trans q3;obtain⟨x0,x1,x2,x3⟩:=sqC4 hX;obtain⟨y0,y1,y2,y3⟩:=sqC4 hY;unfold zi at hW q0' q1' q2' q3';dsimp only [List.toArray]at hW q0' q1' q2' q3';rw [hW]at x0 x1 x2 x3 y0 y1 y2 y3;clear hs hs' q0 q1 q2 q3 hba;go_wp2_with fail;rw [←hW]at x0 x1 x2 x3 y0 y1 y2 y3 ⊢
    clear hW x0 x1 x2 x3 y0 y1 y2 y3 p0 p1 p2 p3 q0' q1' q2' q3' hX hY;cases hsm:xt x y with
    | true =>
     rw [hsm]at HSM;have HN:=sqH (show zA (l.drop (j+1)) (m.drop (j+1))=R by rw [←HST.out,hsm];rfl);clear hsm;refine HSM.out.mono ?_;rintro e_ w5 ⟨rfl,hb5⟩;dsimp only;have hb1:=hbl.trans (hb.mono hbl.size);have hb2:=hb1.trans (hb5.mono hb1.size);go_wp2_with fail;go_roundg (l.length - (j+1))
     case measure=>have:=HGK.out;omega
     case rel=>exact⟨j+1,rfl,by go_num,by omega,HN.out,hb2⟩
    | false =>
     rw [hsm]at HSM;have HN:=sqH (show R=false by rw [←HST.out,hsm];rfl);clear hsm;refine HSM.out.mono ?_;rintro e_ w5 ⟨rfl,hb5⟩;dsimp only;have hb1:=hbl.trans (hb.mono hbl.size);have hb2:=hb1.trans (hb5.mono hb1.size);go_wp2_with fail;go_ret;rw [HN.out];exact⟨rfl,hb2⟩
   ·obtain rfl:j=l.length:=by omega
    have hcc:decide (l.length<l.length)=false:=by simp
    have HE:=sqH (show R=true by
     rw [←HRS.out,List.drop_length,List.drop_eq_nil_of_le (by have:=HLN.out;omega)];rfl)
    go_wp2_with fail;go_ret;rw [HE.out];exact⟨rfl,hbl⟩
 ·have hnn:((l.length:Int) != (m.length:Int))=true:=by rw [bne_iff_ne];omega
  have HE:=sqH (show zA l m=false from kW hln);rw [HE.out];go_enter Tryz.func69,Tryz.ntmps69;go_wp2_with fail;go_ret;exact⟨rfl,Below.refl _ _⟩
theorem yI (A B:Option Addr) (c d:Nat) (l m:List BlobP) (w:World) (hl:l.length≤1000000) (hm:m.length≤1000000) (hp:∀x∈l,x.data.length≤1000000) (hq:∀x∈m,x.data.length≤1000000) (hA:Rw BlobS w A l) (hB:Rw BlobS w B m) :
  Calls Tryz.prog 38 #[.slice A l.length c,.slice B m.length d] w fun e w'=>e= .returned (.bool (zA l m))∧Below w.heap.size w w':=by
 have HE:=sqH (j9 A B c d l m w hl hm hp hq hA hB);clear hp hq hA hB;generalize zA l m=R at *
 go_enter Tryz.func38,Tryz.ntmps38;go_wp2_with fail;refine HE.out.mono ?_;rintro e_ w1 ⟨rfl,hb1⟩;dsimp only;go_wp2_with fail;go_ret;exact⟨rfl,hb1⟩
theorem vk (A B:Option Addr) (n m c d:Nat) (x y:List PartP) (w:World) (hl:x.length=n) (hl':y.length=m) (hn:n≤140737488351232) (hm:m≤140737488351232) (hr:Rd w 3 A n (pcs x)) (hs:Rd w 3 B m (pcs y)) :
  Calls Tryz.prog 41 #[.slice A n c,.slice B m d] w fun e w'=>e= .returned (.bool (decide (x=y)))∧Below w.heap.size w w':=by
 by_cases h:x=y
 ·subst h;rw [decide_eq_true rfl];obtain rfl:n=m:=by omega
  exact xg A B n c d x w hl hn hr hs
 ·rw [decide_eq_false h];exact xf A B n m c d x y w hl hl' hn hm hr hs h
theorem vv (x y:EntP) (A B:Option Addr) (c d:Nat) (w:World) (hx:x.parts.length≤1000000) (hy:y.parts.length≤1000000) (h1:Sl w 3 A x.parts.length c (pcs x.parts)) (h2:Sl w 3 B y.parts.length d (pcs y.parts)) :
  Calls Tryz.prog 40 #[.agg #[.string ⟨x.key.toArray⟩,.slice A x.parts.length c,.int .i64 x.pins,.int .i64 x.stamp],.agg #[.string ⟨y.key.toArray⟩,.slice B y.parts.length d,.int .i64 y.pins,.int .i64 y.stamp]] w fun e w'=>e= .returned (.bool (xu x y))∧Below w.heap.size w w':=by
 obtain⟨s,hs⟩:∃s:ByteArray,s=⟨x.key.toArray⟩:=⟨_,rfl⟩
 obtain⟨t,ht⟩:∃s:ByteArray,s=⟨y.key.toArray⟩:=⟨_,rfl⟩
 have hst:(s.toList==t.toList)=(x.key==y.key):=by rw [hs,ht,ByteArray.toList_eq,ByteArray.toList_eq]
 have hpp:((x.pins:Int)==(y.pins:Int))=(x.pins==y.pins):=by rw [Bool.eq_iff_iff,beq_iff_eq,beq_iff_eq];omega
 have hqq:((x.stamp:Int)==(y.stamp:Int))=(x.stamp==y.stamp):=by rw [Bool.eq_iff_iff,beq_iff_eq,beq_iff_eq];omega
 rw [←hs,←ht];obtain⟨W,hW,hA,hB,hb⟩:=zB w 35 [.string s,.slice A x.parts.length c,.int .i64 x.pins,.int .i64 x.stamp] [.string t,.slice B y.parts.length d,.int .i64 y.pins,.int .i64 y.stamp];have HEQ:=sqH (vk A B x.parts.length y.parts.length c d x.parts y.parts W rfl rfl (by omega) (by omega) (h1.below hb).rd (h2.below hb).rd);have a0:=hA.cell (k:=0) rfl;have b0:=hB.cell (k:=0) rfl;have a1:=hA.cell (k:=1) rfl;have b1:=hB.cell (k:=1) rfl;have hR:xu x y=(x.key==y.key&&(decide (x.parts=y.parts)&&(x.pins==y.pins&&x.stamp==y.stamp))):=rfl;rw [hR];rw [hW]at a0 b0 a1 b1;clear hs ht h1 h2 hR;generalize (x.key==y.key)=e1 at *
 generalize (decide (x.parts=y.parts))=e2 at *
 generalize (x.pins==y.pins)=e3 at *
 generalize (x.stamp==y.stamp)=e4 at *
 cases e1 with
 | false =>
  go_enter Tryz.func40,Tryz.ntmps40;go_wp2_with fail;go_ret;rw [←hW];exact⟨rfl,hb⟩
 | true =>
  cases e2 with
  | false =>
   go_enter Tryz.func40,Tryz.ntmps40;go_wp2_with fail;rw [←hW];clear hW a0 b0 a1 b1;refine HEQ.out.mono ?_;rintro e_ w1 ⟨rfl,hb1⟩;dsimp only;have hb2:=hb.trans (hb1.mono hb.size);go_wp2_with fail;go_ret;exact⟨rfl,hb2⟩
  | true =>
   cases e3 with
   | false =>
    go_enter Tryz.func40,Tryz.ntmps40;go_wp2_with fail;rw [←hW];clear hW a0 b0 a1 b1;refine HEQ.out.mono ?_;rintro e_ w1 ⟨rfl,hb1⟩;dsimp only;have hb2:=hb.trans (hb1.mono hb.size);have a2:=(hA.below hb1).cell (k:=2) rfl;have b2:=(hB.below hb1).cell (k:=2) rfl;go_wp2_with fail;go_ret;exact⟨rfl,hb2⟩
   | true =>
    cases e4 with
    | false =>
     go_enter Tryz.func40,Tryz.ntmps40;go_wp2_with fail;rw [←hW];clear hW a0 b0 a1 b1;refine HEQ.out.mono ?_;rintro e_ w1 ⟨rfl,hb1⟩;dsimp only;have hb2:=hb.trans (hb1.mono hb.size);have a2:=(hA.below hb1).cell (k:=2) rfl;have b2:=(hB.below hb1).cell (k:=2) rfl;have a3:=(hA.below hb1).cell (k:=3) rfl;have b3:=(hB.below hb1).cell (k:=3) rfl;go_wp2_with fail;go_ret;exact⟨rfl,hb2⟩
    | true =>
     go_enter Tryz.func40,Tryz.ntmps40;go_wp2_with fail;rw [←hW];clear hW a0 b0 a1 b1;refine HEQ.out.mono ?_;rintro e_ w1 ⟨rfl,hb1⟩;dsimp only;have hb2:=hb.trans (hb1.mono hb.size);have a2:=(hA.below hb1).cell (k:=2) rfl;have b2:=(hB.below hb1).cell (k:=2) rfl;have a3:=(hA.below hb1).cell (k:=3) rfl;have b3:=(hB.below hb1).cell (k:=3) rfl;go_wp2_with fail;go_ret;exact⟨rfl,hb2⟩
theorem ja (A B:Option Addr) (c d:Nat) (l m:List EntP) (w:World) (hl:l.length≤1000000) (hm:m.length≤1000000) (hp:∀x∈l,x.parts.length≤1000000) (hq:∀x∈m,x.parts.length≤1000000) (hA:Rw EntS w A l) (hB:Rw EntS w B m) :
  Calls Tryz.prog 39 #[.slice A l.length c,.slice B m.length d,.func (.func 40) #[] #[]] w fun e w'=>e= .returned (.bool (zI l m))∧Below w.heap.size w w':=by
 have HP:=sqH hp;have HQ:=sqH hq;clear hp hq;by_cases hln:l.length=m.length
 ·have hnn:((l.length:Int) != (m.length:Int))=false:=by rw [bne_eq_false_iff_eq];omega
  generalize hR:zI l m=R;have HR0:=sqH hR;have HLN:=sqH hln;clear hR;go_enter Tryz.func39,Tryz.ntmps39;go_wp2_with fail;go_loopg [17] l.length (fun gn i wr=>∃j:Nat,gn=l.length - j∧i= .int .i64 j∧j≤l.length∧zI (l.drop j) (m.drop j)=R∧Below w.heap.size w wr)
  case atStart=>exact⟨0,rfl,rfl,by omega,HR0.out,Below.refl _ _⟩
  case round =>
   obtain⟨j,hgk,rfl,hj,hrs,hbl⟩:=hrel;have HGK:=sqH hgk;have HRS:=sqH hrs;clear hgk hrs hnn;by_cases hlt:j<l.length
   ·have hcc:decide (j<l.length)=true:=decide_eq_true hlt;have hlt2:j<m.length:=by have:=HLN.out;omega
    obtain⟨b,off,B1,c1,rfl,hbb,p0,p1,p2,p3,hs⟩:=(hA.below hbl).ent_at j hlt;obtain⟨b',off',B2,c2,rfl,hbb',q0,q1,q2,q3,hs'⟩:=(hB.below hbl).ent_at j hlt2;have hj0:(0:Int)≤(j:Int):=by omega
    have hj1:(j:Int)<(l.length:Int):=by omega
    have hj2:(j:Int)<(m.length:Int):=by omega
    have hpl:=HP.out l[j] (List.getElem_mem hlt);have hpm:=HQ.out m[j] (List.getElem_mem hlt2);have HST:=sqH (show(xu l[j] m[j]&&zI (l.drop (j+1)) (m.drop (j+1)))=R by rw [←HRS.out,List.drop_eq_getElem_cons hlt,List.drop_eq_getElem_cons hlt2];rfl);generalize l[j]=x at *
    generalize m[j]=y at *
    obtain⟨W,hW,hX,hY,hb⟩:=zB wr 35 (zw x B1 c1) (zw y B2 c2);have HSM:=sqH (vv x y B1 B2 c1 c2 W hpl hpm (hs.below hb) (hs'.below hb));have hba:=(Below.refl wr.heap.size wr).alloc (Nat.le_refl _) (.cells (zw x B1 c1).toArray 35);have q0':=(hba.cell (p:=⟨b',off'+j*4,none⟩) hbb').trans q0;have q1':=(hba.cell (p:=⟨b',off'+j*4+1,none⟩) hbb').trans q1;have q2':=(hba.cell (p:=⟨b',off'+j*4+2,none⟩) hbb').trans q2;have q3':=(hba.cell (p:=⟨b',off'+j*4+3,none⟩) hbb').trans q3;obtain⟨x0,x1,x2,x3⟩:=sqC4 hX;obtain⟨y0,y1,y2,y3⟩:=sqC4 hY;unfold zw at hW q0' q1' q2' q3';dsimp only [List.toArray]at hW q0' q1' q2' q3';rw [hW]at x0 x1 x2 x3 y0 y1 y2 y3;clear hs hs' q0 q1 q2 q3 hba;go_wp2_with fail;rw [←hW]at x0 x1 x2 x3 y0 y1 y2 y3 ⊢
    clear hW x0 x1 x2 x3 y0 y1 y2 y3 p0 p1 p2 p3 q0' q1' q2' q3' hX hY;cases hsm:xu x y with
    | true =>
     rw [hsm]at HSM;have HN:=sqH (show zI (l.drop (j+1)) (m.drop (j+1))=R by rw [←HST.out,hsm];rfl);clear hsm;refine HSM.out.mono ?_;rintro e_ w5 ⟨rfl,hb5⟩;dsimp only;have hb1:=hbl.trans (hb.mono hbl.size);have hb2:=hb1.trans (hb5.mono hb1.size);go_wp2_with fail;go_roundg (l.length - (j+1))
     case measure=>have:=HGK.out;omega
     case rel=>exact⟨j+1,rfl,by go_num,by omega,HN.out,hb2⟩
    | false =>
     rw [hsm]at HSM;have HN:=sqH (show R=false by rw [←HST.out,hsm];rfl);clear hsm;refine HSM.out.mono ?_;rintro e_ w5 ⟨rfl,hb5⟩;dsimp only;have hb1:=hbl.trans (hb.mono hbl.size);have hb2:=hb1.trans (hb5.mono hb1.size);go_wp2_with fail;go_ret;rw [HN.out];exact⟨rfl,hb2⟩
   ·obtain rfl:j=l.length:=by omega
    have hcc:decide (l.length<l.length)=false:=by simp
    have HE:=sqH (show R=true by
     rw [←HRS.out,List.drop_length,List.drop_eq_nil_of_le (by have:=HLN.out;omega)];rfl)
    go_wp2_with fail;go_ret;rw [HE.out];exact⟨rfl,hbl⟩
 ·have hnn:((l.length:Int) != (m.length:Int))=true:=by rw [bne_iff_ne];omega
  have HE:=sqH (show zI l m=false from kY hln);rw [HE.out];go_enter Tryz.func39,Tryz.ntmps39;go_wp2_with fail;go_ret;exact⟨rfl,Below.refl _ _⟩
theorem k8 (A A' B B':Option Addr) (c c' d d':Nat) (l m:List BlobP) (x y:List EntP) (r k:Int) (w:World) (hl:l.length≤1000000) (hm:m.length≤1000000) (hp:∀b∈l,b.data.length≤1000000) (hq:∀b∈m,b.data.length≤1000000)
  (kl:x.length≤1000000) (km:y.length≤1000000) (kp:∀b∈x,b.parts.length≤1000000) (kq:∀b∈y,b.parts.length≤1000000) (hA:Rw BlobS w A l) (hA':Rw BlobS w A' m) (hB:Rw EntS w B x) (hB':Rw EntS w B' y) :
  Calls Tryz.prog 13 #[.agg #[.slice A l.length c,.slice B x.length d,.int .i64 r,.int .i64 k],.agg #[.slice A' m.length c',.slice B' y.length d',.int .i64 r,.int .i64 k]] w fun e w'=>e= .returned (.bool (zA l m&&zI x y))∧Below w.heap.size w w':=by
 obtain⟨W,hW,hX,hY,hb⟩:=zB w 28 [.slice A l.length c,.slice B x.length d,.int .i64 r,.int .i64 k] [.slice A' m.length c',.slice B' y.length d',.int .i64 r,.int .i64 k];have HS:=sqH (yI A A' c c' l m W hl hm hp hq (hA.below hb) (hA'.below hb));have HE:=sqH (fun w' (h:Below W.heap.size W w')=>ja B B' d d' x y w' kl km kp kq ((hB.below hb).below h) ((hB'.below hb).below h));have hrr:(r==r)=true:=by simp
 have hkk:(k==k)=true:=by simp
 have a0:=hX.cell (k:=0) rfl;have b0:=hY.cell (k:=0) rfl;rw [hW]at a0 b0;clear hA hA' hB hB' hp hq kp kq;generalize zA l m=e1 at *
 generalize zI x y=e2 at *
 cases e1 with
 | false =>
  go_enter Tryz.func13,Tryz.ntmps13;go_wp2_with fail;rw [←hW];clear hW a0 b0;refine HS.out.mono ?_;rintro e_ w1 ⟨rfl,hb1⟩;dsimp only;have hb2:=hb.trans (hb1.mono hb.size);go_wp2_with fail;go_ret;exact⟨rfl,hb2⟩
 | true =>
  go_enter Tryz.func13,Tryz.ntmps13;go_wp2_with fail;rw [←hW];clear hW a0 b0;refine HS.out.mono ?_;rintro e_ w1 ⟨rfl,hb1⟩;dsimp only;have hX1:=hX.below hb1;have hY1:=hY.below hb1;have HE1:=sqH (HE.out w1 hb1);have a1:=hX1.cell (k:=1) rfl;have a2:=hX1.cell (k:=2) rfl;have a3:=hX1.cell (k:=3) rfl;have b1:=hY1.cell (k:=1) rfl;have b2:=hY1.cell (k:=2) rfl;have b3:=hY1.cell (k:=3) rfl;have hb2:=hb.trans (hb1.mono hb.size);go_wp2_with fail;refine HE1.out.mono ?_;rintro e_ w2 ⟨rfl,hb3⟩;dsimp only;have hb4:=hb2.trans (hb3.mono hb2.size);go_wp2_with fail;go_ret;exact⟨rfl,hb4⟩
end Go.Proofs.YtfmnggcfhalfnaaGreat
