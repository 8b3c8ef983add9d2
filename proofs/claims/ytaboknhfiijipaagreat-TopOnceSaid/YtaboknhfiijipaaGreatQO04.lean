/- Lemmas, as stated. -/
import Derived.Test.YtaboknhfiijipaaGreatQO01
import Derived.Test.YtaboknhfiijipaaGreatQO03
set_option linter.unusedVariables false
set_option linter.unusedSimpArgs false
set_option maxRecDepth 20000
set_option maxHeartbeats 4000000
open Go.Proofs.Tryz
open Go.Proofs.Tryz renaming prog->zZZ
open Go.Value renaming slice->aA,int->aB,string->aD
open Go.IntKind renaming i64->aC
namespace Go.Proofs.YtaboknhfiijipaaGreat
open Go.RowKit
variable {α:Type} {l:List α} {x y:ai} {f:α->List UInt8}
def pk (n:Int) (m:Nat):Nat:=((if n<0 then -(n+1) else n) % m).toNat
theorem yB (n:Int) {m:Nat} (h:0<m):pk n m<m:=by
 unfold pk;have:=Int.emod_lt_of_pos (if n<0 then -(n+1) else n) (show(0:Int)<m by omega);omega
theorem qi (n:Int) (m:Nat) (M:Int) (hM:M=m) (w:World) (h0: -9223372036854775808<=n) (h1:n<=9223372036854775807) (hm:0<m) (hm2:m<=9223372036854775807) :
  Calls zZZ 26 #[aB aC n,aB aC M] w fun e w'=>e= .returned (aB aC (pk n m:Nat))/\w=w':=by
 by_cases hn:n<0
 ·go_enter func26,ntmps26;go_wp2_with fail;go_ret;refine⟨?_,rfl⟩;show Ending.returned (aB aC (-((n+1).tmod m)))=_;unfold pk;rw [if_pos hn,<-Int.neg_tmod,Int.tmod_eq_emod_of_nonneg wu];have:=Int.emod_nonneg (-(n+1)) (show(m:Int)≠0 by omega)
  congr 2;omega
 ·go_enter func26,ntmps26
  refine wL ?_;intros;go_ret;refine⟨?_,rfl⟩;show Ending.returned (aB aC (n % m))=_;unfold pk;rw [if_neg hn];have:=Int.emod_nonneg n (show(m:Int)≠0 by omega)
  congr 2;omega
structure PartP where
 name:ai
 dig:ai
 size:Nat
def yL (p:PartP):ak:= [aD ⟨p.name.toArray⟩,aD ⟨p.dig.toArray⟩,aB aC p.size]
def pcs (l:List PartP):ak:=l.flatMap yL
theorem XH (l m:List PartP):pcs (l++m)=pcs l++pcs m:=by simp [pcs]
theorem vf:∀(l:List PartP) (k j:Nat) (h:k<l.length) (hj:j<3),(pcs l)[k*3+j]?=(yL l[k])[j]?
 | x::l,0,j,h,hj=>by
  show(yL x++pcs l)[0*3+j]?=(yL x)[j]?
  rw [Nat.zero_mul,Nat.zero_add,List.getElem?_append_left (by simpa [yL] using hj)]
 | x::l,k+1,j,h,hj=>by
  show(yL x++pcs l)[(k+1)*3+j]?=_
  rw [List.getElem?_append_right (by simp [yL];omega),show(k+1)*3+j - (yL x).length=k*3+j by simp [yL];omega,vf l k j (by simpa using h) hj]
  rfl
theorem jI (l:List PartP):∀u∈pcs l,u.oneCell'=true:=by
 intro u hu;simp only [pcs,List.mem_flatMap]at hu;obtain⟨r,_,hu⟩:=hu;simp only [yL,List.mem_cons,List.not_mem_nil,or_false]at hu;rcases hu with rfl | rfl | rfl<;>rfl
theorem YR:El zZZ 27 85 3 40:=El.mk' (z:= .agg #[aD ByteArray.empty,aD ByteArray.empty,aB aC 0]) underlying27 ww rfl wu wu
structure BlobP where
 dig:ai
 data:ai
 aQ:Nat
 mark:Bool
structure EntP where
 key:ai
 aP:List PartP
 aQ:Nat
 aO:Nat
structure StoP where
 aI:List BlobP
 aJ:List EntP
 aL:Nat
 aK:Nat
def qe (b:BlobP) (A:aj) (c:Nat):ak:= [aD ⟨b.dig.toArray⟩,aA A b.data.length c,aB aC b.aQ,.bool b.mark]
def kI (x:EntP) (A:aj) (c:Nat):ak:= [aD ⟨x.key.toArray⟩,aA A x.aP.length c,aB aC x.aQ,aB aC x.aO]
def BlobS:Shp BlobP where
 size:=4
 R w b cs:=∃A c,cs=qe b A c/\Sl w 1 A b.data.length c (bys b.data)
 len:=by rintro w b cs ⟨A,c,rfl,_⟩;rfl
 one:=by
  rintro w b cs ⟨A,c,rfl,_⟩ u hu
  simp only [qe,List.mem_cons,List.not_mem_nil,or_false]at hu
  rcases hu with rfl | rfl | rfl | rfl<;>rfl
 live:=by
  rintro w b cs ⟨A,c,rfl,h⟩ g ⟨a,n,c',hm,rfl⟩
  simp only [qe,List.mem_cons,List.not_mem_nil,or_false,Value.slice.injEq,reduceCtorEq,false_or]at hm
  obtain⟨e1,_⟩:=hm
  exact h.live a e1.symm
 keep:=by
  rintro w w' b cs ⟨A,c,rfl,h⟩ hs hk
  exact⟨A,c,rfl,h.keep hs fun g hg ⟨a,ha,hb⟩=>hk g hg ⟨a,b.data.length,c,by subst ha;simp [qe],hb⟩⟩
def EntS:Shp EntP where
 size:=4
 R w x cs:=∃A c,cs=kI x A c/\Sl w 3 A x.aP.length c (pcs x.aP)
 len:=by rintro w b cs ⟨A,c,rfl,_⟩;rfl
 one:=by
  rintro w b cs ⟨A,c,rfl,_⟩ u hu
  simp only [kI,List.mem_cons,List.not_mem_nil,or_false]at hu
  rcases hu with rfl | rfl | rfl | rfl<;>rfl
 live:=by
  rintro w b cs ⟨A,c,rfl,h⟩ g ⟨a,n,c',hm,rfl⟩
  simp only [kI,List.mem_cons,List.not_mem_nil,or_false,Value.slice.injEq,reduceCtorEq,false_or]at hm
  obtain⟨e1,_⟩:=hm
  exact h.live a e1.symm
 keep:=by
  rintro w w' b cs ⟨A,c,rfl,h⟩ hs hk
  exact⟨A,c,rfl,h.keep hs fun g hg ⟨a,ha,hb⟩=>hk g hg ⟨a,b.aP.length,c,by subst ha;simp [kI],hb⟩⟩
def z4b:Shp (ai) where
 size:=1
 R w s cs:=cs= [aD ⟨s.toArray⟩]
 len:=by rintro w b cs rfl;rfl
 one:=by
  rintro w b cs rfl u hu
  simp only [List.mem_cons,List.not_mem_nil,or_false]at hu
  subst hu;rfl
 live:=by
  rintro w b cs rfl g ⟨a,n,c',hm,rfl⟩
  simp at hm
 keep:=by
  rintro w w' b cs rfl hs hk
  rfl
section
variable {w:World} {A:aj}
theorem Rw.blob_at {l:List BlobP} (h:Rw BlobS w A l) (k:Nat) (hk:k<l.length) :
  ∃b off B c,A=some ⟨b,off,none⟩/\b<w.heap.size/\w.cell? ⟨b,off+k*4,none⟩=some (aD ⟨l[k].dig.toArray⟩)/\w.cell? ⟨b,off+k*4+1,none⟩=some (aA B l[k].data.length c) /\
   w.cell? ⟨b,off+k*4+2,none⟩=some (aB aC (l[k].aQ:Int))/\w.cell? ⟨b,off+k*4+3,none⟩=some (.bool l[k].mark)/\Sl w 1 B l[k].data.length c (bys l[k].data):=by
 obtain⟨b,off,cs,rfl,hb,⟨B,c,rfl,hs⟩,hc⟩:=h.at_ k hk;exact⟨b,off,B,c,rfl,hb,hc 0 _ rfl,hc 1 _ rfl,hc 2 _ rfl,hc 3 _ rfl,hs⟩
theorem Rw.ent_at {l:List EntP} (h:Rw EntS w A l) (k:Nat) (hk:k<l.length) :
  ∃b off B c,A=some ⟨b,off,none⟩/\b<w.heap.size/\w.cell? ⟨b,off+k*4,none⟩=some (aD ⟨l[k].key.toArray⟩)/\w.cell? ⟨b,off+k*4+1,none⟩=some (aA B l[k].aP.length c) /\
   w.cell? ⟨b,off+k*4+2,none⟩=some (aB aC (l[k].aQ:Int))/\w.cell? ⟨b,off+k*4+3,none⟩=some (aB aC (l[k].aO:Int))/\Sl w 3 B l[k].aP.length c (pcs l[k].aP):=by
 obtain⟨b,off,cs,rfl,hb,⟨B,c,rfl,hs⟩,hc⟩:=h.at_ k hk;exact⟨b,off,B,c,rfl,hb,hc 0 _ rfl,hc 1 _ rfl,hc 2 _ rfl,hc 3 _ rfl,hs⟩
theorem KR (ss:List ai):cls (ss.map fun s=>(s, [aD ⟨s.toArray⟩]))=ss.map fun s=> aD ⟨s.toArray⟩:=by
 induction ss with
 | nil=>rfl
 | cons s ss ih=>rw [List.map_cons,qo,ih];rfl
theorem Rw.strs {ss:List ai} (h:Rw z4b w A ss):Rd w 1 A ss.length (ss.map fun s=> aD ⟨s.toArray⟩):=by
 obtain⟨ps,rfl,h2,h3⟩:=h;have e1:ps=(ps.map (·.1)).map fun s=>(s, [aD ⟨s.toArray⟩]):=by
  rw [List.map_map]
  conv=>lhs;rw [<-List.map_id ps]
  refine List.map_congr_left fun p hp=> ?_;have h4:p.2=_:=h2 p hp;exact Prod.ext rfl h4
 have e2:cls ps=(ps.map (·.1)).map fun s=> aD ⟨s.toArray⟩:=by
  conv=>lhs;rw [e1]
  exact KR _
 rw [e2]at h3;exact h3
end
def Yu (w:World) (l:List BlobP) (f:FuncId) (x:Value) (p:BlobP->Bool):Prop :=
 (∀args W,(callFunc f args).run zZZ W= .ok (.enter f args) W)/\∀(b:BlobP) (B:aj) (cb:Nat) (W:World),b∈l->Below w.heap.size w W->Sl W 1 B b.data.length cb (bys b.data) ->
  Calls zZZ f #[.agg #[aD ⟨b.dig.toArray⟩,aA B b.data.length cb,aB aC b.aQ,.bool b.mark],x] W fun e w'=>e= .returned (.bool (p b))/\Below W.heap.size W w'
def UR (w:World) (l:List EntP) (f:FuncId) (x:Value) (p:EntP->Bool):Prop :=
 (∀args W,(callFunc f args).run zZZ W= .ok (.enter f args) W)/\∀(b:EntP) (B:aj) (cb:Nat) (W:World),b∈l->Below w.heap.size w W->Sl W 3 B b.aP.length cb (pcs b.aP) ->
  Calls zZZ f #[.agg #[aD ⟨b.key.toArray⟩,aA B b.aP.length cb,aB aC b.aQ,aB aC b.aO],x] W fun e w'=>e= .returned (.bool (p b))/\Below W.heap.size W w'
def plc (r:Option Nat):Int:=match r with | some i=>(i:Int) | none=> -1
theorem ZS (A:aj) (c:Nat) (l:List BlobP) (f:FuncId) (x:Value) (p:BlobP->Bool) (w:World) (hl:l.length<=1000000) (hA:Rw BlobS w A l) (HC:Yu w l f x p) :
  Calls zZZ 137 #[aA A l.length c,.func (.func f) #[] #[x]] w fun e w'=>e= .returned (aB aC (plc (l.findIdx? p)))/\Below w.heap.size w w':=by
 obtain⟨hcf,hcc0⟩:=HC;have HCC:=sqH hcc0;clear hcc0;generalize hR:l.findIdx? p=R;have HR:=sqH hR;clear hR;go_enter func137,ntmps137;go_wp2_with fail;go_loopg [5,8] l.length (fun gn u i wr=>∃j:Nat,gn=l.length - j/\i= aB aC j/\j<=l.length/\(∀k (h:k<l.length),k<j->p l[k]=false)/\Below w.heap.size w wr)
 case atStart=>exact⟨0,rfl,rfl,wu,fun k _ h=>absurd h wu,Below.refl _ _⟩
 case round =>
  obtain⟨j,hgk,rfl,hj,hno,hbl⟩:=hrel;have HGK:=sqH hgk;have HNO:=sqH hno;clear hgk hno;by_cases hlt:j<l.length
  ·have hcc:decide (j<l.length)=true:=decide_eq_true hlt;obtain⟨b,off,B,cb,rfl,hbb,c0,c1,c2,c3,hs⟩:=(hA.below hbl).blob_at j hlt;have hcl:=HCC.o l[j] B cb wr (List.getElem_mem hlt) hbl hs;have hj0:=we j
   have hj1:(j:Int)<(l.length:Int):=wu;cases hp:p l[j] with
   | true =>
    have HF:=sqH (show R=some j by
     rw [<-HR.o,List.findIdx?_eq_some_iff_getElem];exact⟨hlt,hp,fun k hk=>by rw [HNO.o k wu hk];simp⟩)
    rw [hp]at hcl;have HCL:=sqH hcl;clear hp hs hcl;generalize l[j]=bl at *
    go_wp2_with fail;refine wZ HCL.o fun w5 hb5=>?_;dsimp only;have hb05:=wm hbl hb5;go_wp2_with fail;go_ret;rw [HF.o];exact⟨rfl,hb05⟩
   | false =>
    have HN:=sqH (show ∀k (h:k<l.length),k<j+1->p l[k]=false from fun k h hk=>by
     rcases Nat.lt_or_ge k j with h1 | h1
     ·exact HNO.o k h h1
     ·have:k=j:=by omega
      subst this;exact hp)
    rw [hp]at hcl;have HCL:=sqH hcl;clear hp hs hcl;generalize l[j]=bl at *
    go_wp2_with fail;refine wZ HCL.o fun w5 hb5=>?_;dsimp only;have hb05:=wm hbl hb5;go_wp2_with fail;go_roundg (l.length - (j+1))
    case measure=>exact wc HGK
    case rel=>exact⟨j+1,rfl,by go_num,wu,HN.o,hb05⟩
  ·obtain rfl:j=l.length:=by omega
   have hcc:decide (l.length<l.length)=false:=ab;have HF:=sqH (show R=none by
    rw [<-HR.o,List.findIdx?_eq_none_iff];intro x hx;obtain⟨k,hk,rfl⟩:=List.mem_iff_getElem.1 hx;exact HNO.o k hk hk)
   go_wp2_with fail;go_ret;rw [HF.o];exact⟨rfl,hbl⟩
theorem Jw (A:aj) (c:Nat) (l:List EntP) (f:FuncId) (x:Value) (p:EntP->Bool) (w:World) (hl:l.length<=1000000) (hA:Rw EntS w A l) (HC:UR w l f x p) :
  Calls zZZ 93 #[aA A l.length c,.func (.func f) #[] #[x]] w fun e w'=>e= .returned (aB aC (plc (l.findIdx? p)))/\Below w.heap.size w w':=by
 obtain⟨hcf,hcc0⟩:=HC;have HCC:=sqH hcc0;clear hcc0;generalize hR:l.findIdx? p=R;have HR:=sqH hR;clear hR;go_enter func93,ntmps93;go_wp2_with fail;go_loopg [5,8] l.length (fun gn u i wr=>∃j:Nat,gn=l.length - j/\i= aB aC j/\j<=l.length/\(∀k (h:k<l.length),k<j->p l[k]=false)/\Below w.heap.size w wr)
 case atStart=>exact⟨0,rfl,rfl,wu,fun k _ h=>absurd h wu,Below.refl _ _⟩
 case round =>
  obtain⟨j,hgk,rfl,hj,hno,hbl⟩:=hrel;have HGK:=sqH hgk;have HNO:=sqH hno;clear hgk hno;by_cases hlt:j<l.length
  ·have hcc:decide (j<l.length)=true:=decide_eq_true hlt;obtain⟨b,off,B,cb,rfl,hbb,c0,c1,c2,c3,hs⟩:=(hA.below hbl).ent_at j hlt;have hcl:=HCC.o l[j] B cb wr (List.getElem_mem hlt) hbl hs;have hj0:=we j
   have hj1:(j:Int)<(l.length:Int):=wu;cases hp:p l[j] with
   | true =>
    have HF:=sqH (show R=some j by
     rw [<-HR.o,List.findIdx?_eq_some_iff_getElem];exact⟨hlt,hp,fun k hk=>by rw [HNO.o k wu hk];simp⟩)
    rw [hp]at hcl;have HCL:=sqH hcl;clear hp hs hcl;generalize l[j]=bl at *
    go_wp2_with fail;refine wZ HCL.o fun w5 hb5=>?_;dsimp only;have hb05:=wm hbl hb5;go_wp2_with fail;go_ret;rw [HF.o];exact⟨rfl,hb05⟩
   | false =>
    have HN:=sqH (show ∀k (h:k<l.length),k<j+1->p l[k]=false from fun k h hk=>by
     rcases Nat.lt_or_ge k j with h1 | h1
     ·exact HNO.o k h h1
     ·have:k=j:=by omega
      subst this;exact hp)
    rw [hp]at hcl;have HCL:=sqH hcl;clear hp hs hcl;generalize l[j]=bl at *
    go_wp2_with fail;refine wZ HCL.o fun w5 hb5=>?_;dsimp only;have hb05:=wm hbl hb5;go_wp2_with fail;go_roundg (l.length - (j+1))
    case measure=>exact wc HGK
    case rel=>exact⟨j+1,rfl,by go_num,wu,HN.o,hb05⟩
  ·obtain rfl:j=l.length:=by omega
   have hcc:decide (l.length<l.length)=false:=ab;have HF:=sqH (show R=none by
    rw [<-HR.o,List.findIdx?_eq_none_iff];intro x hx;obtain⟨k,hk,rfl⟩:=List.mem_iff_getElem.1 hx;exact HNO.o k hk hk)
   go_wp2_with fail;go_ret;rw [HF.o];exact⟨rfl,hbl⟩
theorem Je (a b:UInt8):a<b\/a=b\/b<a:=by
 rcases Nat.lt_trichotomy a.toNat b.toNat with h | h | h
 ·exact .inl (UInt8.lt_iff_toNat_lt.2 h)
 ·exact .inr (.inl (UInt8.toNat_inj.1 h))
 ·exact .inr (.inr (UInt8.lt_iff_toNat_lt.2 h))
theorem Kw:∀(x y:ai),Op.bytesLess x y=decide (x<y)
 | [], []=>by simp [Op.bytesLess]
 | _::_, []=>by simp [Op.bytesLess]
 | [],_::_=>by simp [Op.bytesLess]
 | a::x,b::y=>by
  rw [Op.bytesLess,Kw x y]
  simp only [List.cons_lt_cons_iff]
  by_cases h1:a<b<;>by_cases h2:a=b<;>by_cases h3:x<y<;>simp [h1,h2,h3]
theorem yv (x:ai):Op.bytesLess x x=false:=by
 rw [Kw,decide_eq_false_iff_not];exact List.lt_irrefl x
theorem ql {z:ai} (h:Op.bytesLess x y=true) (h':Op.bytesLess y z=true):Op.bytesLess x z=true:=by
 rw [Kw,decide_eq_true_eq] at *
 exact List.lt_trans h h'
theorem uM (x y:ai):Op.bytesLess x y=true\/x=y\/Op.bytesLess y x=true:=by
 by_cases h1:x<y
 ·exact .inl (by rw [Kw,decide_eq_true_eq];exact h1)
 ·by_cases h2:y<x
  ·exact .inr (.inr (by rw [Kw,decide_eq_true_eq];exact h2))
  ·exact .inr (.inl (List.le_antisymm (List.not_lt.1 h2) (List.not_lt.1 h1)))
theorem yu (h:Op.bytesLess x y=true):Op.bytesLess y x=false:=by
 cases h':Op.bytesLess y x with
 | false=>rfl
 | true=>have:=ql h h';rw [yv]at this;cases this
theorem yT (h:Op.bytesLess x y=true):x≠y:=by rintro rfl;rw [yv]at h;cases h
def Rises (l:List ai):Prop:=l.Pairwise fun a b=>Op.bytesLess a b=true
theorem Rises.nodup {l:List ai} (h:Rises l):l.Nodup:=h.imp fun h=>yT h
theorem Rises.uniq:∀ {l m:List ai},Rises l->Rises m->(∀x,x∈l↔x∈m)->l=m
 | [], [],_,_,_=>rfl
 | [],y::m,_,_,h=>absurd ((h y).2 ab) ab
 | x::l, [],_,_,h=>absurd ((h x).1 ab) ab
 | x::l,y::m,h1,h2,h=>by
  have e1:=List.pairwise_cons.1 h1
  have e2:=List.pairwise_cons.1 h2
  have hxy:x=y:=by
   rcases List.mem_cons.1 ((h x).1 ab) with h3 | h3
   ·exact h3
   ·rcases List.mem_cons.1 ((h y).2 ab) with h4 | h4
    ·exact h4.symm
    ·have:=ql (e2.1 x h3) (e1.1 y h4);rw [yv]at this;cases this
  subst hxy;rw [Rises.uniq e1.2 e2.2 fun z=> ?_];constructor
  ·intro hz;rcases List.mem_cons.1 ((h z).1 (by simp [hz])) with h3 | h3
   ·subst h3;have:=e1.1 z hz;rw [yv]at this;cases this
   ·exact h3
  ·intro hz;rcases List.mem_cons.1 ((h z).2 (by simp [hz])) with h3 | h3
   ·subst h3;have:=e2.1 z hz;rw [yv]at this;cases this
   ·exact h3
theorem Rises.perm {l m:List ai} (h1:Rises l) (h2:Rises m) (h:l.Perm m):l=m:=h1.uniq h2 fun _=>h.mem_iff
def RisesBy {α:Type} (f:α->List UInt8) (l:List α):Prop:=l.Pairwise fun a b=>Op.bytesLess (f a) (f b)=true
theorem RisesBy.map (h:RisesBy f l):Rises (l.map f):=List.pairwise_map.2 h
theorem RisesBy.perm:∀ {l m:List α},RisesBy f l->RisesBy f m->l.Perm m->l=m:=fun {l m} h1 h2 h=>by
 refine List.Perm.eq_of_pairwise (le:=fun a b=>Op.bytesLess (f a) (f b)=true) (fun a b _ _ h3 h4=> ?_) h1 h2 h
 have:=ql h3 h4;rw [yv]at this;cases this
theorem RisesBy.inj (h:RisesBy f l) {a b:α} (ha:a∈l) (hb:b∈l) (e:f a=f b):a=b:=by
 induction l with
 | nil=>cases ha
 | cons x l ih =>
  have e1:=List.pairwise_cons.1 h;rcases List.mem_cons.1 ha with h1 | h1<;>rcases List.mem_cons.1 hb with h2 | h2
  ·rw [h1,h2]
  ·subst h1;have:=yT (e1.1 b h2);exact absurd e this
  ·subst h2;have:=yT (e1.1 a h1);exact absurd e.symm this
  ·exact ih e1.2 h1 h2
def srt {α:Type} (f:α->List UInt8) (l:List α):List α:=l.mergeSort fun a b=> !Op.bytesLess (f b) (f a)
theorem qc (f:α->List UInt8) (l:List α):(srt f l).Perm l:=List.mergeSort_perm l _
theorem uu (h:(l.map f).Nodup):RisesBy f (srt f l):=by
 have h1:(srt f l).Pairwise fun a b=>(!Op.bytesLess (f b) (f a))=true:=List.pairwise_mergeSort (fun a b c h1 h2=>by
  simp only [Bool.not_eq_eq_eq_not,Bool.not_true] at *
  rcases uM (f c) (f a) with h3 | h3 | h3
  ·rcases uM (f b) (f a) with h4 | h4 | h4
   ·rw [h4]at h1;cases h1
   ·rw [<-h4]at h3;rw [h3]at h2;cases h2
   ·have:=ql h3 h4;rw [this]at h2;cases h2
  ·rw [h3,yv]
  ·exact yu h3) (fun a b=>by
  rcases uM (f a) (f b) with h3 | h3 | h3
  ·simp [yu h3]
  ·simp [h3,yv]
  ·simp [yu h3]) l
 have h2:((srt f l).map f).Nodup:=((qc f l).map f).nodup_iff.2 h;have h3:(srt f l).Pairwise fun a b=>f a≠f b:=List.pairwise_map.1 h2;refine(h1.and h3).imp fun {a b} h=> ?_;rcases uM (f a) (f b) with h4 | h4 | h4
 ·exact h4
 ·exact absurd h4 h.2
 ·have:=h.1;rw [h4]at this;cases this
end Go.Proofs.YtaboknhfiijipaaGreat
