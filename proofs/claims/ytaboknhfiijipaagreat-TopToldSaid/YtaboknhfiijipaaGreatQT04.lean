/- Lemmas, as stated. -/
import Derived.Test.YtaboknhfiijipaaGreatQT01
import Derived.Test.YtaboknhfiijipaaGreatQT03
set_option linter.unusedVariables false
set_option linter.unusedSimpArgs false
set_option maxRecDepth 20000
set_option maxHeartbeats 4000000
open Go.Proofs.Tryz
open Go.Proofs.Tryz renaming prog->zZZ
open Go.Value renaming slice->ax,int->ay,string->aA
open Go.IntKind renaming i64->az
namespace Go.Proofs.YtaboknhfiijipaaGreat
open Go.RowKit
variable {α:Type} {l:List α} {x y:ae} {f:α->List UInt8}
def pk (n:Int) (m:Nat):Nat:=((if n<0 then -(n+1) else n) % m).toNat
theorem yn (n:Int) {m:Nat} (h:0<m):pk n m<m:=by
 unfold pk;have:=Int.emod_lt_of_pos (if n<0 then -(n+1) else n) (show(0:Int)<m by omega);omega
theorem qe (n:Int) (m:Nat) (M:Int) (hM:M=m) (w:World) (h0: -9223372036854775808<=n) (h1:n<=9223372036854775807) (hm:0<m) (hm2:m<=9223372036854775807) :
  Calls zZZ 26 #[ay az n,ay az M] w fun e w'=>e= .returned (ay az (pk n m:Nat))/\w=w':=by
 by_cases hn:n<0
 ·go_enter func26,ntmps26;go_wp2_with fail;go_ret;refine⟨?_,rfl⟩;show Ending.returned (ay az (-((n+1).tmod m)))=_;unfold pk;rw [if_pos hn,<-Int.neg_tmod,Int.tmod_eq_emod_of_nonneg wm];have:=Int.emod_nonneg (-(n+1)) (show(m:Int)≠0 by omega)
  congr 2;omega
 ·go_enter func26,ntmps26
  refine wH ?_;intros;go_ret;refine⟨?_,rfl⟩;show Ending.returned (ay az (n % m))=_;unfold pk;rw [if_neg hn];have:=Int.emod_nonneg n (show(m:Int)≠0 by omega)
  congr 2;omega
structure PartP where
 name:ae
 dig:ae
 size:Nat
def yI (p:PartP):ag:= [aA ⟨p.name.toArray⟩,aA ⟨p.dig.toArray⟩,ay az p.size]
def pcs (l:List PartP):ag:=l.flatMap yI
theorem XD (l m:List PartP):pcs (l++m)=pcs l++pcs m:=by simp [pcs]
theorem xX:∀(l:List PartP) (k j:Nat) (h:k<l.length) (hj:j<3),(pcs l)[k*3+j]?=(yI l[k])[j]?
 | x::l,0,j,h,hj=>by
  show(yI x++pcs l)[0*3+j]?=(yI x)[j]?
  rw [Nat.zero_mul,Nat.zero_add,List.getElem?_append_left (by simpa [yI] using hj)]
 | x::l,k+1,j,h,hj=>by
  show(yI x++pcs l)[(k+1)*3+j]?=_
  rw [List.getElem?_append_right (by simp [yI];omega),show(k+1)*3+j - (yI x).length=k*3+j by simp [yI];omega,xX l k j (by simpa using h) hj]
  rfl
theorem jD (l:List PartP):∀u∈pcs l,u.oneCell'=true:=by
 intro u hu;simp only [pcs,List.mem_flatMap]at hu;obtain⟨r,_,hu⟩:=hu;simp only [yI,List.mem_cons,List.not_mem_nil,or_false]at hu;rcases hu with rfl | rfl | rfl<;>rfl
theorem YP:El zZZ 27 85 3 40:=El.mk' (z:= .agg #[aA ByteArray.empty,aA ByteArray.empty,ay az 0]) underlying27 wo rfl wm wm
structure BlobP where
 dig:ae
 data:ae
 aN:Nat
 mark:Bool
structure EntP where
 key:ae
 aM:List PartP
 aN:Nat
 aL:Nat
structure StoP where
 aF:List BlobP
 aG:List EntP
 aI:Nat
 aH:Nat
def q8 (b:BlobP) (A:af) (c:Nat):ag:= [aA ⟨b.dig.toArray⟩,ax A b.data.length c,ay az b.aN,.bool b.mark]
def kH (x:EntP) (A:af) (c:Nat):ag:= [aA ⟨x.key.toArray⟩,ax A x.aM.length c,ay az x.aN,ay az x.aL]
def BlobS:Shp BlobP where
 size:=4
 R w b cs:=∃A c,cs=q8 b A c/\Sl w 1 A b.data.length c (bys b.data)
 len:=by rintro w b cs ⟨A,c,rfl,_⟩;rfl
 one:=by
  rintro w b cs ⟨A,c,rfl,_⟩ u hu
  simp only [q8,List.mem_cons,List.not_mem_nil,or_false]at hu
  rcases hu with rfl | rfl | rfl | rfl<;>rfl
 live:=by
  rintro w b cs ⟨A,c,rfl,h⟩ g ⟨a,n,c',hm,rfl⟩
  simp only [q8,List.mem_cons,List.not_mem_nil,or_false,Value.slice.injEq,reduceCtorEq,false_or]at hm
  obtain⟨e1,_⟩:=hm
  exact h.live a e1.symm
 keep:=by
  rintro w w' b cs ⟨A,c,rfl,h⟩ hs hk
  exact⟨A,c,rfl,h.keep hs fun g hg ⟨a,ha,hb⟩=>hk g hg ⟨a,b.data.length,c,by subst ha;simp [q8],hb⟩⟩
def EntS:Shp EntP where
 size:=4
 R w x cs:=∃A c,cs=kH x A c/\Sl w 3 A x.aM.length c (pcs x.aM)
 len:=by rintro w b cs ⟨A,c,rfl,_⟩;rfl
 one:=by
  rintro w b cs ⟨A,c,rfl,_⟩ u hu
  simp only [kH,List.mem_cons,List.not_mem_nil,or_false]at hu
  rcases hu with rfl | rfl | rfl | rfl<;>rfl
 live:=by
  rintro w b cs ⟨A,c,rfl,h⟩ g ⟨a,n,c',hm,rfl⟩
  simp only [kH,List.mem_cons,List.not_mem_nil,or_false,Value.slice.injEq,reduceCtorEq,false_or]at hm
  obtain⟨e1,_⟩:=hm
  exact h.live a e1.symm
 keep:=by
  rintro w w' b cs ⟨A,c,rfl,h⟩ hs hk
  exact⟨A,c,rfl,h.keep hs fun g hg ⟨a,ha,hb⟩=>hk g hg ⟨a,b.aM.length,c,by subst ha;simp [kH],hb⟩⟩
def z3o:Shp (ae) where
 size:=1
 R w s cs:=cs= [aA ⟨s.toArray⟩]
 len:=by rintro w b cs rfl;rfl
 one:=by
  rintro w b cs rfl u hu
  simp only [List.mem_cons,List.not_mem_nil,or_false]at hu
  subst hu;rfl
 live:=by
  rintro w b cs rfl g ⟨a,n,c',hm,rfl⟩
  simp at hm
 keep:=by
  rintro w w' b cs rfl hs hk
  rfl
section
variable {w:World} {A:af}
theorem Rw.blob_at {l:List BlobP} (h:Rw BlobS w A l) (k:Nat) (hk:k<l.length) :
  ∃b off B c,A=some ⟨b,off,none⟩/\b<w.heap.size/\w.cell? ⟨b,off+k*4,none⟩=some (aA ⟨l[k].dig.toArray⟩)/\w.cell? ⟨b,off+k*4+1,none⟩=some (ax B l[k].data.length c) /\
   w.cell? ⟨b,off+k*4+2,none⟩=some (ay az (l[k].aN:Int))/\w.cell? ⟨b,off+k*4+3,none⟩=some (.bool l[k].mark)/\Sl w 1 B l[k].data.length c (bys l[k].data):=by
 obtain⟨b,off,cs,rfl,hb,⟨B,c,rfl,hs⟩,hc⟩:=h.at_ k hk;exact⟨b,off,B,c,rfl,hb,hc 0 _ rfl,hc 1 _ rfl,hc 2 _ rfl,hc 3 _ rfl,hs⟩
theorem Rw.ent_at {l:List EntP} (h:Rw EntS w A l) (k:Nat) (hk:k<l.length) :
  ∃b off B c,A=some ⟨b,off,none⟩/\b<w.heap.size/\w.cell? ⟨b,off+k*4,none⟩=some (aA ⟨l[k].key.toArray⟩)/\w.cell? ⟨b,off+k*4+1,none⟩=some (ax B l[k].aM.length c) /\
   w.cell? ⟨b,off+k*4+2,none⟩=some (ay az (l[k].aN:Int))/\w.cell? ⟨b,off+k*4+3,none⟩=some (ay az (l[k].aL:Int))/\Sl w 3 B l[k].aM.length c (pcs l[k].aM):=by
 obtain⟨b,off,cs,rfl,hb,⟨B,c,rfl,hs⟩,hc⟩:=h.at_ k hk;exact⟨b,off,B,c,rfl,hb,hc 0 _ rfl,hc 1 _ rfl,hc 2 _ rfl,hc 3 _ rfl,hs⟩
theorem KO (ss:List ae):cls (ss.map fun s=>(s, [aA ⟨s.toArray⟩]))=ss.map fun s=> aA ⟨s.toArray⟩:=by
 induction ss with
 | nil=>rfl
 | cons s ss ih=>rw [List.map_cons,qh,ih];rfl
theorem Rw.strs {ss:List ae} (h:Rw z3o w A ss):Rd w 1 A ss.length (ss.map fun s=> aA ⟨s.toArray⟩):=by
 obtain⟨ps,rfl,h2,h3⟩:=h;have e1:ps=(ps.map (·.1)).map fun s=>(s, [aA ⟨s.toArray⟩]):=by
  rw [List.map_map]
  conv=>lhs;rw [<-List.map_id ps]
  refine List.map_congr_left fun p hp=> ?_;have h4:p.2=_:=h2 p hp;exact Prod.ext rfl h4
 have e2:cls ps=(ps.map (·.1)).map fun s=> aA ⟨s.toArray⟩:=by
  conv=>lhs;rw [e1]
  exact KO _
 rw [e2]at h3;exact h3
end
def Yr (w:World) (l:List BlobP) (f:FuncId) (x:Value) (p:BlobP->Bool):Prop :=
 (∀args W,(callFunc f args).run zZZ W= .ok (.enter f args) W)/\∀(b:BlobP) (B:af) (cb:Nat) (W:World),b∈l->Below w.heap.size w W->Sl W 1 B b.data.length cb (bys b.data) ->
  Calls zZZ f #[.agg #[aA ⟨b.dig.toArray⟩,ax B b.data.length cb,ay az b.aN,.bool b.mark],x] W fun e w'=>e= .returned (.bool (p b))/\Below W.heap.size W w'
def UF (w:World) (l:List EntP) (f:FuncId) (x:Value) (p:EntP->Bool):Prop :=
 (∀args W,(callFunc f args).run zZZ W= .ok (.enter f args) W)/\∀(b:EntP) (B:af) (cb:Nat) (W:World),b∈l->Below w.heap.size w W->Sl W 3 B b.aM.length cb (pcs b.aM) ->
  Calls zZZ f #[.agg #[aA ⟨b.key.toArray⟩,ax B b.aM.length cb,ay az b.aN,ay az b.aL],x] W fun e w'=>e= .returned (.bool (p b))/\Below W.heap.size W w'
def plc (r:Option Nat):Int:=match r with | some i=>(i:Int) | none=> -1
theorem ZS (A:af) (c:Nat) (l:List BlobP) (f:FuncId) (x:Value) (p:BlobP->Bool) (w:World) (hl:l.length<=1000000) (hA:Rw BlobS w A l) (HC:Yr w l f x p) :
  Calls zZZ 137 #[ax A l.length c,.func (.func f) #[] #[x]] w fun e w'=>e= .returned (ay az (plc (l.findIdx? p)))/\Below w.heap.size w w':=by
 obtain⟨hcf,hcc0⟩:=HC;have HCC:=sqH hcc0;clear hcc0;generalize hR:l.findIdx? p=R;have HR:=sqH hR;clear hR;go_enter func137,ntmps137;go_wp2_with fail;go_loopg [5,8] l.length (fun gn u i wr=>∃j:Nat,gn=l.length - j/\i= ay az j/\j<=l.length/\(∀k (h:k<l.length),k<j->p l[k]=false)/\Below w.heap.size w wr)
 case atStart=>exact⟨0,rfl,rfl,wm,fun k _ h=>absurd h wm,Below.refl _ _⟩
 case round =>
  obtain⟨j,hgk,rfl,hj,hno,hbl⟩:=hrel;have HGK:=sqH hgk;have HNO:=sqH hno;clear hgk hno;by_cases hlt:j<l.length
  ·have hcc:decide (j<l.length)=true:=decide_eq_true hlt;obtain⟨b,off,B,cb,rfl,hbb,c0,c1,c2,c3,hs⟩:=(hA.below hbl).blob_at j hlt;have hcl:=HCC.o l[j] B cb wr (List.getElem_mem hlt) hbl hs;have hj0:=wY j
   have hj1:(j:Int)<(l.length:Int):=wm;cases hp:p l[j] with
   | true =>
    have HF:=sqH (show R=some j by
     rw [<-HR.o,List.findIdx?_eq_some_iff_getElem];exact⟨hlt,hp,fun k hk=>by rw [HNO.o k wm hk];simp⟩)
    rw [hp]at hcl;have HCL:=sqH hcl;clear hp hs hcl;generalize l[j]=bl at *
    go_wp2_with fail;refine wW HCL.o fun w5 hb5=>?_;dsimp only;have hb05:=wh hbl hb5;go_wp2_with fail;go_ret;rw [HF.o];exact⟨rfl,hb05⟩
   | false =>
    have HN:=sqH (show ∀k (h:k<l.length),k<j+1->p l[k]=false from fun k h hk=>by
     rcases Nat.lt_or_ge k j with h1 | h1
     ·exact HNO.o k h h1
     ·have:k=j:=by omega
      subst this;exact hp)
    rw [hp]at hcl;have HCL:=sqH hcl;clear hp hs hcl;generalize l[j]=bl at *
    go_wp2_with fail;refine wW HCL.o fun w5 hb5=>?_;dsimp only;have hb05:=wh hbl hb5;go_wp2_with fail;go_roundg (l.length - (j+1))
    case measure=>exact wX HGK
    case rel=>exact⟨j+1,rfl,by go_num,wm,HN.o,hb05⟩
  ·obtain rfl:j=l.length:=by omega
   have hcc:decide (l.length<l.length)=false:=wu;have HF:=sqH (show R=none by
    rw [<-HR.o,List.findIdx?_eq_none_iff];intro x hx;obtain⟨k,hk,rfl⟩:=List.mem_iff_getElem.1 hx;exact HNO.o k hk hk)
   go_wp2_with fail;go_ret;rw [HF.o];exact⟨rfl,hbl⟩
theorem Jj (A:af) (c:Nat) (l:List EntP) (f:FuncId) (x:Value) (p:EntP->Bool) (w:World) (hl:l.length<=1000000) (hA:Rw EntS w A l) (HC:UF w l f x p) :
  Calls zZZ 93 #[ax A l.length c,.func (.func f) #[] #[x]] w fun e w'=>e= .returned (ay az (plc (l.findIdx? p)))/\Below w.heap.size w w':=by
 obtain⟨hcf,hcc0⟩:=HC;have HCC:=sqH hcc0;clear hcc0;generalize hR:l.findIdx? p=R;have HR:=sqH hR;clear hR;go_enter func93,ntmps93;go_wp2_with fail;go_loopg [5,8] l.length (fun gn u i wr=>∃j:Nat,gn=l.length - j/\i= ay az j/\j<=l.length/\(∀k (h:k<l.length),k<j->p l[k]=false)/\Below w.heap.size w wr)
 case atStart=>exact⟨0,rfl,rfl,wm,fun k _ h=>absurd h wm,Below.refl _ _⟩
 case round =>
  obtain⟨j,hgk,rfl,hj,hno,hbl⟩:=hrel;have HGK:=sqH hgk;have HNO:=sqH hno;clear hgk hno;by_cases hlt:j<l.length
  ·have hcc:decide (j<l.length)=true:=decide_eq_true hlt;obtain⟨b,off,B,cb,rfl,hbb,c0,c1,c2,c3,hs⟩:=(hA.below hbl).ent_at j hlt;have hcl:=HCC.o l[j] B cb wr (List.getElem_mem hlt) hbl hs;have hj0:=wY j
   have hj1:(j:Int)<(l.length:Int):=wm;cases hp:p l[j] with
   | true =>
    have HF:=sqH (show R=some j by
     rw [<-HR.o,List.findIdx?_eq_some_iff_getElem];exact⟨hlt,hp,fun k hk=>by rw [HNO.o k wm hk];simp⟩)
    rw [hp]at hcl;have HCL:=sqH hcl;clear hp hs hcl;generalize l[j]=bl at *
    go_wp2_with fail;refine wW HCL.o fun w5 hb5=>?_;dsimp only;have hb05:=wh hbl hb5;go_wp2_with fail;go_ret;rw [HF.o];exact⟨rfl,hb05⟩
   | false =>
    have HN:=sqH (show ∀k (h:k<l.length),k<j+1->p l[k]=false from fun k h hk=>by
     rcases Nat.lt_or_ge k j with h1 | h1
     ·exact HNO.o k h h1
     ·have:k=j:=by omega
      subst this;exact hp)
    rw [hp]at hcl;have HCL:=sqH hcl;clear hp hs hcl;generalize l[j]=bl at *
    go_wp2_with fail;refine wW HCL.o fun w5 hb5=>?_;dsimp only;have hb05:=wh hbl hb5;go_wp2_with fail;go_roundg (l.length - (j+1))
    case measure=>exact wX HGK
    case rel=>exact⟨j+1,rfl,by go_num,wm,HN.o,hb05⟩
  ·obtain rfl:j=l.length:=by omega
   have hcc:decide (l.length<l.length)=false:=wu;have HF:=sqH (show R=none by
    rw [<-HR.o,List.findIdx?_eq_none_iff];intro x hx;obtain⟨k,hk,rfl⟩:=List.mem_iff_getElem.1 hx;exact HNO.o k hk hk)
   go_wp2_with fail;go_ret;rw [HF.o];exact⟨rfl,hbl⟩
theorem UY (a b:UInt8):a<b\/a=b\/b<a:=by
 rcases Nat.lt_trichotomy a.toNat b.toNat with h | h | h
 ·exact .inl (UInt8.lt_iff_toNat_lt.2 h)
 ·exact .inr (.inl (UInt8.toNat_inj.1 h))
 ·exact .inr (.inr (UInt8.lt_iff_toNat_lt.2 h))
theorem Kw:∀(x y:ae),Op.bytesLess x y=decide (x<y)
 | [], []=>by simp [Op.bytesLess]
 | _::_, []=>by simp [Op.bytesLess]
 | [],_::_=>by simp [Op.bytesLess]
 | a::x,b::y=>by
  rw [Op.bytesLess,Kw x y]
  simp only [List.cons_lt_cons_iff]
  by_cases h1:a<b<;>by_cases h2:a=b<;>by_cases h3:x<y<;>simp [h1,h2,h3]
theorem yu (x:ae):Op.bytesLess x x=false:=by
 rw [Kw,decide_eq_false_iff_not];exact List.lt_irrefl x
theorem qg {z:ae} (h:Op.bytesLess x y=true) (h':Op.bytesLess y z=true):Op.bytesLess x z=true:=by
 rw [Kw,decide_eq_true_eq] at *
 exact List.lt_trans h h'
theorem uH (x y:ae):Op.bytesLess x y=true\/x=y\/Op.bytesLess y x=true:=by
 by_cases h1:x<y
 ·exact .inl (by rw [Kw,decide_eq_true_eq];exact h1)
 ·by_cases h2:y<x
  ·exact .inr (.inr (by rw [Kw,decide_eq_true_eq];exact h2))
  ·exact .inr (.inl (List.le_antisymm (List.not_lt.1 h2) (List.not_lt.1 h1)))
theorem yt (h:Op.bytesLess x y=true):Op.bytesLess y x=false:=by
 cases h':Op.bytesLess y x with
 | false=>rfl
 | true=>have:=qg h h';rw [yu]at this;cases this
theorem yR (h:Op.bytesLess x y=true):x≠y:=by rintro rfl;rw [yu]at h;cases h
def Rises (l:List ae):Prop:=l.Pairwise fun a b=>Op.bytesLess a b=true
theorem Rises.nodup {l:List ae} (h:Rises l):l.Nodup:=h.imp fun h=>yR h
theorem Rises.uniq:∀ {l m:List ae},Rises l->Rises m->(∀x,x∈l↔x∈m)->l=m
 | [], [],_,_,_=>rfl
 | [],y::m,_,_,h=>absurd ((h y).2 wu) wu
 | x::l, [],_,_,h=>absurd ((h x).1 wu) wu
 | x::l,y::m,h1,h2,h=>by
  have e1:=List.pairwise_cons.1 h1
  have e2:=List.pairwise_cons.1 h2
  have hxy:x=y:=by
   rcases List.mem_cons.1 ((h x).1 wu) with h3 | h3
   ·exact h3
   ·rcases List.mem_cons.1 ((h y).2 wu) with h4 | h4
    ·exact h4.symm
    ·have:=qg (e2.1 x h3) (e1.1 y h4);rw [yu]at this;cases this
  subst hxy;rw [Rises.uniq e1.2 e2.2 fun z=> ?_];constructor
  ·intro hz;rcases List.mem_cons.1 ((h z).1 (by simp [hz])) with h3 | h3
   ·subst h3;have:=e1.1 z hz;rw [yu]at this;cases this
   ·exact h3
  ·intro hz;rcases List.mem_cons.1 ((h z).2 (by simp [hz])) with h3 | h3
   ·subst h3;have:=e2.1 z hz;rw [yu]at this;cases this
   ·exact h3
theorem Rises.perm {l m:List ae} (h1:Rises l) (h2:Rises m) (h:l.Perm m):l=m:=h1.uniq h2 fun _=>h.mem_iff
def RisesBy {α:Type} (f:α->List UInt8) (l:List α):Prop:=l.Pairwise fun a b=>Op.bytesLess (f a) (f b)=true
theorem RisesBy.map (h:RisesBy f l):Rises (l.map f):=List.pairwise_map.2 h
theorem RisesBy.perm:∀ {l m:List α},RisesBy f l->RisesBy f m->l.Perm m->l=m:=fun {l m} h1 h2 h=>by
 refine List.Perm.eq_of_pairwise (le:=fun a b=>Op.bytesLess (f a) (f b)=true) (fun a b _ _ h3 h4=> ?_) h1 h2 h
 have:=qg h3 h4;rw [yu]at this;cases this
theorem RisesBy.inj (h:RisesBy f l) {a b:α} (ha:a∈l) (hb:b∈l) (e:f a=f b):a=b:=by
 induction l with
 | nil=>cases ha
 | cons x l ih =>
  have e1:=List.pairwise_cons.1 h;rcases List.mem_cons.1 ha with h1 | h1<;>rcases List.mem_cons.1 hb with h2 | h2
  ·rw [h1,h2]
  ·subst h1;have:=yR (e1.1 b h2);exact absurd e this
  ·subst h2;have:=yR (e1.1 a h1);exact absurd e.symm this
  ·exact ih e1.2 h1 h2
def srt {α:Type} (f:α->List UInt8) (l:List α):List α:=l.mergeSort fun a b=> !Op.bytesLess (f b) (f a)
theorem q6 (f:α->List UInt8) (l:List α):(srt f l).Perm l:=List.mergeSort_perm l _
theorem um (h:(l.map f).Nodup):RisesBy f (srt f l):=by
 have h1:(srt f l).Pairwise fun a b=>(!Op.bytesLess (f b) (f a))=true:=List.pairwise_mergeSort (fun a b c h1 h2=>by
  simp only [Bool.not_eq_eq_eq_not,Bool.not_true] at *
  rcases uH (f c) (f a) with h3 | h3 | h3
  ·rcases uH (f b) (f a) with h4 | h4 | h4
   ·rw [h4]at h1;cases h1
   ·rw [<-h4]at h3;rw [h3]at h2;cases h2
   ·have:=qg h3 h4;rw [this]at h2;cases h2
  ·rw [h3,yu]
  ·exact yt h3) (fun a b=>by
  rcases uH (f a) (f b) with h3 | h3 | h3
  ·simp [yt h3]
  ·simp [h3,yu]
  ·simp [yt h3]) l
 have h2:((srt f l).map f).Nodup:=((q6 f l).map f).nodup_iff.2 h;have h3:(srt f l).Pairwise fun a b=>f a≠f b:=List.pairwise_map.1 h2;refine(h1.and h3).imp fun {a b} h=> ?_;rcases uH (f a) (f b) with h4 | h4 | h4
 ·exact h4
 ·exact absurd h4 h.2
 ·have:=h.1;rw [h4]at this;cases this
end Go.Proofs.YtaboknhfiijipaaGreat
