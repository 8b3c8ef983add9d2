/- Lemmas, as stated. -/
import Derived.Test.YtaboknhfiijipaaGreatQC01
import Derived.Test.YtaboknhfiijipaaGreatQC03
set_option linter.unusedVariables false
set_option linter.unusedSimpArgs false
set_option maxRecDepth 20000
set_option maxHeartbeats 4000000
open Go.Proofs.Tryz
open Go.Proofs.Tryz renaming prog->zZZ
open Go.Value renaming slice->aB,int->aC,string->aE
open Go.IntKind renaming i64->aD
namespace Go.Proofs.YtaboknhfiijipaaGreat
open Go.RowKit
variable {α:Type} {l:List α} {x y:aj} {f:α->List UInt8}
def pk (n:Int) (m:Nat):Nat:=((if n<0 then -(n+1) else n) % m).toNat
theorem yx (n:Int) {m:Nat} (h:0<m):pk n m<m:=by
 unfold pk;have:=Int.emod_lt_of_pos (if n<0 then -(n+1) else n) (show(0:Int)<m by omega);omega
theorem qf (n:Int) (m:Nat) (M:Int) (hM:M=m) (w:World) (h0: -9223372036854775808<=n) (h1:n<=9223372036854775807) (hm:0<m) (hm2:m<=9223372036854775807) :
  Calls zZZ 26 #[aC aD n,aC aD M] w fun e w'=>e= .returned (aC aD (pk n m:Nat))/\w=w':=by
 by_cases hn:n<0
 ·go_enter func26,ntmps26;go_wp2_with fail;go_ret;refine⟨?_,rfl⟩;show Ending.returned (aC aD (-((n+1).tmod m)))=_;unfold pk;rw [if_pos hn,<-Int.neg_tmod,Int.tmod_eq_emod_of_nonneg ww];have:=Int.emod_nonneg (-(n+1)) (show(m:Int)≠0 by omega)
  congr 2;omega
 ·go_enter func26,ntmps26
  refine wL ?_;intros;go_ret;refine⟨?_,rfl⟩;show Ending.returned (aC aD (n % m))=_;unfold pk;rw [if_neg hn];have:=Int.emod_nonneg n (show(m:Int)≠0 by omega)
  congr 2;omega
structure PartP where
 name:aj
 dig:aj
 size:Nat
def yw (p:PartP):al:= [aE ⟨p.name.toArray⟩,aE ⟨p.dig.toArray⟩,aC aD p.size]
def pcs (l:List PartP):al:=l.flatMap yw
theorem Vq (l m:List PartP):pcs (l++m)=pcs l++pcs m:=by simp [pcs]
theorem yF:∀(l:List PartP) (k j:Nat) (h:k<l.length) (hj:j<3),(pcs l)[k*3+j]?=(yw l[k])[j]?
 | x::l,0,j,h,hj=>by
  show(yw x++pcs l)[0*3+j]?=(yw x)[j]?
  rw [Nat.zero_mul,Nat.zero_add,List.getElem?_append_left (by simpa [yw] using hj)]
 | x::l,k+1,j,h,hj=>by
  show(yw x++pcs l)[(k+1)*3+j]?=_
  rw [List.getElem?_append_right (by simp [yw];omega),show(k+1)*3+j - (yw x).length=k*3+j by simp [yw];omega,yF l k j (by simpa using h) hj]
  rfl
theorem Zc (l:List PartP):∀u∈pcs l,u.oneCell'=true:=by
 intro u hu;simp only [pcs,List.mem_flatMap]at hu;obtain⟨r,_,hu⟩:=hu;simp only [yw,List.mem_cons,List.not_mem_nil,or_false]at hu;rcases hu with rfl | rfl | rfl<;>rfl
theorem XJ:El zZZ 27 85 3 40:=El.mk' (z:= .agg #[aE ByteArray.empty,aE ByteArray.empty,aC aD 0]) underlying27 aa rfl ww ww
structure BlobP where
 dig:aj
 data:aj
 aR:Nat
 mark:Bool
structure EntP where
 key:aj
 aQ:List PartP
 aR:Nat
 aP:Nat
structure StoP where
 aJ:List BlobP
 aK:List EntP
 aM:Nat
 aL:Nat
def zZ (b:BlobP) (A:ak) (c:Nat):al:= [aE ⟨b.dig.toArray⟩,aB A b.data.length c,aC aD b.aR,.bool b.mark]
def kn (x:EntP) (A:ak) (c:Nat):al:= [aE ⟨x.key.toArray⟩,aB A x.aQ.length c,aC aD x.aR,aC aD x.aP]
def BlobS:Shp BlobP where
 size:=4
 R w b cs:=∃A c,cs=zZ b A c/\Sl w 1 A b.data.length c (bys b.data)
 len:=by rintro w b cs ⟨A,c,rfl,_⟩;rfl
 one:=by
  rintro w b cs ⟨A,c,rfl,_⟩ u hu
  simp only [zZ,List.mem_cons,List.not_mem_nil,or_false]at hu
  rcases hu with rfl | rfl | rfl | rfl<;>rfl
 live:=by
  rintro w b cs ⟨A,c,rfl,h⟩ g ⟨a,n,c',hm,rfl⟩
  simp only [zZ,List.mem_cons,List.not_mem_nil,or_false,Value.slice.injEq,reduceCtorEq,false_or]at hm
  obtain⟨e1,_⟩:=hm
  exact h.live a e1.symm
 keep:=by
  rintro w w' b cs ⟨A,c,rfl,h⟩ hs hk
  exact⟨A,c,rfl,h.keep hs fun g hg ⟨a,ha,hb⟩=>hk g hg ⟨a,b.data.length,c,by subst ha;simp [zZ],hb⟩⟩
def EntS:Shp EntP where
 size:=4
 R w x cs:=∃A c,cs=kn x A c/\Sl w 3 A x.aQ.length c (pcs x.aQ)
 len:=by rintro w b cs ⟨A,c,rfl,_⟩;rfl
 one:=by
  rintro w b cs ⟨A,c,rfl,_⟩ u hu
  simp only [kn,List.mem_cons,List.not_mem_nil,or_false]at hu
  rcases hu with rfl | rfl | rfl | rfl<;>rfl
 live:=by
  rintro w b cs ⟨A,c,rfl,h⟩ g ⟨a,n,c',hm,rfl⟩
  simp only [kn,List.mem_cons,List.not_mem_nil,or_false,Value.slice.injEq,reduceCtorEq,false_or]at hm
  obtain⟨e1,_⟩:=hm
  exact h.live a e1.symm
 keep:=by
  rintro w w' b cs ⟨A,c,rfl,h⟩ hs hk
  exact⟨A,c,rfl,h.keep hs fun g hg ⟨a,ha,hb⟩=>hk g hg ⟨a,b.aQ.length,c,by subst ha;simp [kn],hb⟩⟩
def z5r:Shp (aj) where
 size:=1
 R w s cs:=cs= [aE ⟨s.toArray⟩]
 len:=by rintro w b cs rfl;rfl
 one:=by
  rintro w b cs rfl u hu
  simp only [List.mem_cons,List.not_mem_nil,or_false]at hu
  subst hu;rfl
 live:=by
  rintro w b cs rfl g ⟨a,n,c',hm,rfl⟩
  simp at hm
 keep:=by
  rintro w w' b cs rfl hs hk
  rfl
section
variable {w:World} {A:ak}
theorem Rw.blob_at {l:List BlobP} (h:Rw BlobS w A l) (k:Nat) (hk:k<l.length) :
  ∃b off B c,A=some ⟨b,off,none⟩/\b<w.heap.size/\w.cell? ⟨b,off+k*4,none⟩=some (aE ⟨l[k].dig.toArray⟩)/\w.cell? ⟨b,off+k*4+1,none⟩=some (aB B l[k].data.length c) /\
   w.cell? ⟨b,off+k*4+2,none⟩=some (aC aD (l[k].aR:Int))/\w.cell? ⟨b,off+k*4+3,none⟩=some (.bool l[k].mark)/\Sl w 1 B l[k].data.length c (bys l[k].data):=by
 obtain⟨b,off,cs,rfl,hb,⟨B,c,rfl,hs⟩,hc⟩:=h.at_ k hk;exact⟨b,off,B,c,rfl,hb,hc 0 _ rfl,hc 1 _ rfl,hc 2 _ rfl,hc 3 _ rfl,hs⟩
theorem Rw.ent_at {l:List EntP} (h:Rw EntS w A l) (k:Nat) (hk:k<l.length) :
  ∃b off B c,A=some ⟨b,off,none⟩/\b<w.heap.size/\w.cell? ⟨b,off+k*4,none⟩=some (aE ⟨l[k].key.toArray⟩)/\w.cell? ⟨b,off+k*4+1,none⟩=some (aB B l[k].aQ.length c) /\
   w.cell? ⟨b,off+k*4+2,none⟩=some (aC aD (l[k].aR:Int))/\w.cell? ⟨b,off+k*4+3,none⟩=some (aC aD (l[k].aP:Int))/\Sl w 3 B l[k].aQ.length c (pcs l[k].aQ):=by
 obtain⟨b,off,cs,rfl,hb,⟨B,c,rfl,hs⟩,hc⟩:=h.at_ k hk;exact⟨b,off,B,c,rfl,hb,hc 0 _ rfl,hc 1 _ rfl,hc 2 _ rfl,hc 3 _ rfl,hs⟩
theorem YL (ss:List aj):cls (ss.map fun s=>(s, [aE ⟨s.toArray⟩]))=ss.map fun s=> aE ⟨s.toArray⟩:=by
 induction ss with
 | nil=>rfl
 | cons s ss ih=>rw [List.map_cons,qx,ih];rfl
theorem Rw.strs {ss:List aj} (h:Rw z5r w A ss):Rd w 1 A ss.length (ss.map fun s=> aE ⟨s.toArray⟩):=by
 obtain⟨ps,rfl,h2,h3⟩:=h;have e1:ps=(ps.map (·.1)).map fun s=>(s, [aE ⟨s.toArray⟩]):=by
  rw [List.map_map]
  conv=>lhs;rw [<-List.map_id ps]
  refine List.map_congr_left fun p hp=> ?_;have h4:p.2=_:=h2 p hp;exact Prod.ext rfl h4
 have e2:cls ps=(ps.map (·.1)).map fun s=> aE ⟨s.toArray⟩:=by
  conv=>lhs;rw [e1]
  exact YL _
 rw [e2]at h3;exact h3
end
def Xp (w:World) (l:List BlobP) (f:FuncId) (x:Value) (p:BlobP->Bool):Prop :=
 (∀args W,(callFunc f args).run zZZ W= .ok (.enter f args) W)/\∀(b:BlobP) (B:ak) (cb:Nat) (W:World),b∈l->Below w.heap.size w W->Sl W 1 B b.data.length cb (bys b.data) ->
  Calls zZZ f #[.agg #[aE ⟨b.dig.toArray⟩,aB B b.data.length cb,aC aD b.aR,.bool b.mark],x] W fun e w'=>e= .returned (.bool (p b))/\Below W.heap.size W w'
def JJ (w:World) (l:List EntP) (f:FuncId) (x:Value) (p:EntP->Bool):Prop :=
 (∀args W,(callFunc f args).run zZZ W= .ok (.enter f args) W)/\∀(b:EntP) (B:ak) (cb:Nat) (W:World),b∈l->Below w.heap.size w W->Sl W 3 B b.aQ.length cb (pcs b.aQ) ->
  Calls zZZ f #[.agg #[aE ⟨b.key.toArray⟩,aB B b.aQ.length cb,aC aD b.aR,aC aD b.aP],x] W fun e w'=>e= .returned (.bool (p b))/\Below W.heap.size W w'
def plc (r:Option Nat):Int:=match r with | some i=>(i:Int) | none=> -1
theorem Qt (A:ak) (c:Nat) (l:List BlobP) (f:FuncId) (x:Value) (p:BlobP->Bool) (w:World) (hl:l.length<=1000000) (hA:Rw BlobS w A l) (HC:Xp w l f x p) :
  Calls zZZ 137 #[aB A l.length c,.func (.func f) #[] #[x]] w fun e w'=>e= .returned (aC aD (plc (l.findIdx? p)))/\Below w.heap.size w w':=by
 obtain⟨hcf,hcc0⟩:=HC;have HCC:=sqH hcc0;clear hcc0;generalize hR:l.findIdx? p=R;have HR:=sqH hR;clear hR;go_enter func137,ntmps137;go_wp2_with fail;go_loopg [5,8] l.length (fun gn u i wr=>∃j:Nat,gn=l.length - j/\i= aC aD j/\j<=l.length/\(∀k (h:k<l.length),k<j->p l[k]=false)/\Below w.heap.size w wr)
 case atStart=>exact⟨0,rfl,rfl,ww,fun k _ h=>absurd h ww,Below.refl _ _⟩
 case round =>
  obtain⟨j,hgk,rfl,hj,hno,hbl⟩:=hrel;have HGK:=sqH hgk;have HNO:=sqH hno;clear hgk hno;by_cases hlt:j<l.length
  ·have hcc:decide (j<l.length)=true:=decide_eq_true hlt;obtain⟨b,off,B,cb,rfl,hbb,c0,c1,c2,c3,hs⟩:=(hA.below hbl).blob_at j hlt;have hcl:=HCC.o l[j] B cb wr (List.getElem_mem hlt) hbl hs;have hj0:=wg j
   have hj1:(j:Int)<(l.length:Int):=ww;cases hp:p l[j] with
   | true =>
    have HF:=sqH (show R=some j by
     rw [<-HR.o,List.findIdx?_eq_some_iff_getElem];exact⟨hlt,hp,fun k hk=>by rw [HNO.o k ww hk];simp⟩)
    rw [hp]at hcl;have HCL:=sqH hcl;clear hp hs hcl;generalize l[j]=bl at *
    go_wp2_with fail;refine wZ HCL.o fun w5 hb5=>?_;dsimp only;have hb05:=wo hbl hb5;go_wp2_with fail;go_ret;rw [HF.o];exact⟨rfl,hb05⟩
   | false =>
    have HN:=sqH (show ∀k (h:k<l.length),k<j+1->p l[k]=false from fun k h hk=>by
     rcases Nat.lt_or_ge k j with h1 | h1
     ·exact HNO.o k h h1
     ·have:k=j:=by omega
      subst this;exact hp)
    rw [hp]at hcl;have HCL:=sqH hcl;clear hp hs hcl;generalize l[j]=bl at *
    go_wp2_with fail;refine wZ HCL.o fun w5 hb5=>?_;dsimp only;have hb05:=wo hbl hb5;go_wp2_with fail;go_roundg (l.length - (j+1))
    case measure=>exact we HGK
    case rel=>exact⟨j+1,rfl,by go_num,ww,HN.o,hb05⟩
  ·obtain rfl:j=l.length:=by omega
   have hcc:decide (l.length<l.length)=false:=ac;have HF:=sqH (show R=none by
    rw [<-HR.o,List.findIdx?_eq_none_iff];intro x hx;obtain⟨k,hk,rfl⟩:=List.mem_iff_getElem.1 hx;exact HNO.o k hk hk)
   go_wp2_with fail;go_ret;rw [HF.o];exact⟨rfl,hbl⟩
theorem z0m (A:ak) (c:Nat) (l:List EntP) (f:FuncId) (x:Value) (p:EntP->Bool) (w:World) (hl:l.length<=1000000) (hA:Rw EntS w A l) (HC:JJ w l f x p) :
  Calls zZZ 93 #[aB A l.length c,.func (.func f) #[] #[x]] w fun e w'=>e= .returned (aC aD (plc (l.findIdx? p)))/\Below w.heap.size w w':=by
 obtain⟨hcf,hcc0⟩:=HC;have HCC:=sqH hcc0;clear hcc0;generalize hR:l.findIdx? p=R;have HR:=sqH hR;clear hR;go_enter func93,ntmps93;go_wp2_with fail;go_loopg [5,8] l.length (fun gn u i wr=>∃j:Nat,gn=l.length - j/\i= aC aD j/\j<=l.length/\(∀k (h:k<l.length),k<j->p l[k]=false)/\Below w.heap.size w wr)
 case atStart=>exact⟨0,rfl,rfl,ww,fun k _ h=>absurd h ww,Below.refl _ _⟩
 case round =>
  obtain⟨j,hgk,rfl,hj,hno,hbl⟩:=hrel;have HGK:=sqH hgk;have HNO:=sqH hno;clear hgk hno;by_cases hlt:j<l.length
  ·have hcc:decide (j<l.length)=true:=decide_eq_true hlt;obtain⟨b,off,B,cb,rfl,hbb,c0,c1,c2,c3,hs⟩:=(hA.below hbl).ent_at j hlt;have hcl:=HCC.o l[j] B cb wr (List.getElem_mem hlt) hbl hs;have hj0:=wg j
   have hj1:(j:Int)<(l.length:Int):=ww;cases hp:p l[j] with
   | true =>
    have HF:=sqH (show R=some j by
     rw [<-HR.o,List.findIdx?_eq_some_iff_getElem];exact⟨hlt,hp,fun k hk=>by rw [HNO.o k ww hk];simp⟩)
    rw [hp]at hcl;have HCL:=sqH hcl;clear hp hs hcl;generalize l[j]=bl at *
    go_wp2_with fail;refine wZ HCL.o fun w5 hb5=>?_;dsimp only;have hb05:=wo hbl hb5;go_wp2_with fail;go_ret;rw [HF.o];exact⟨rfl,hb05⟩
   | false =>
    have HN:=sqH (show ∀k (h:k<l.length),k<j+1->p l[k]=false from fun k h hk=>by
     rcases Nat.lt_or_ge k j with h1 | h1
     ·exact HNO.o k h h1
     ·have:k=j:=by omega
      subst this;exact hp)
    rw [hp]at hcl;have HCL:=sqH hcl;clear hp hs hcl;generalize l[j]=bl at *
    go_wp2_with fail;refine wZ HCL.o fun w5 hb5=>?_;dsimp only;have hb05:=wo hbl hb5;go_wp2_with fail;go_roundg (l.length - (j+1))
    case measure=>exact we HGK
    case rel=>exact⟨j+1,rfl,by go_num,ww,HN.o,hb05⟩
  ·obtain rfl:j=l.length:=by omega
   have hcc:decide (l.length<l.length)=false:=ac;have HF:=sqH (show R=none by
    rw [<-HR.o,List.findIdx?_eq_none_iff];intro x hx;obtain⟨k,hk,rfl⟩:=List.mem_iff_getElem.1 hx;exact HNO.o k hk hk)
   go_wp2_with fail;go_ret;rw [HF.o];exact⟨rfl,hbl⟩
theorem z03 (a b:UInt8):a<b\/a=b\/b<a:=by
 rcases Nat.lt_trichotomy a.toNat b.toNat with h | h | h
 ·exact .inl (UInt8.lt_iff_toNat_lt.2 h)
 ·exact .inr (.inl (UInt8.toNat_inj.1 h))
 ·exact .inr (.inr (UInt8.lt_iff_toNat_lt.2 h))
theorem QD:∀(x y:aj),Op.bytesLess x y=decide (x<y)
 | [], []=>by simp [Op.bytesLess]
 | _::_, []=>by simp [Op.bytesLess]
 | [],_::_=>by simp [Op.bytesLess]
 | a::x,b::y=>by
  rw [Op.bytesLess,QD x y]
  simp only [List.cons_lt_cons_iff]
  by_cases h1:a<b<;>by_cases h2:a=b<;>by_cases h3:x<y<;>simp [h1,h2,h3]
theorem kM (x:aj):Op.bytesLess x x=false:=by
 rw [QD,decide_eq_false_iff_not];exact List.lt_irrefl x
theorem q6 {z:aj} (h:Op.bytesLess x y=true) (h':Op.bytesLess y z=true):Op.bytesLess x z=true:=by
 rw [QD,decide_eq_true_eq] at *
 exact List.lt_trans h h'
theorem jb (x y:aj):Op.bytesLess x y=true\/x=y\/Op.bytesLess y x=true:=by
 by_cases h1:x<y
 ·exact .inl (by rw [QD,decide_eq_true_eq];exact h1)
 ·by_cases h2:y<x
  ·exact .inr (.inr (by rw [QD,decide_eq_true_eq];exact h2))
  ·exact .inr (.inl (List.le_antisymm (List.not_lt.1 h2) (List.not_lt.1 h1)))
theorem yC (h:Op.bytesLess x y=true):Op.bytesLess y x=false:=by
 cases h':Op.bytesLess y x with
 | false=>rfl
 | true=>have:=q6 h h';rw [kM]at this;cases this
theorem yZ (h:Op.bytesLess x y=true):x≠y:=by rintro rfl;rw [kM]at h;cases h
def Rises (l:List aj):Prop:=l.Pairwise fun a b=>Op.bytesLess a b=true
theorem Rises.nodup {l:List aj} (h:Rises l):l.Nodup:=h.imp fun h=>yZ h
theorem Rises.uniq:∀ {l m:List aj},Rises l->Rises m->(∀x,x∈l↔x∈m)->l=m
 | [], [],_,_,_=>rfl
 | [],y::m,_,_,h=>absurd ((h y).2 ac) ac
 | x::l, [],_,_,h=>absurd ((h x).1 ac) ac
 | x::l,y::m,h1,h2,h=>by
  have e1:=List.pairwise_cons.1 h1
  have e2:=List.pairwise_cons.1 h2
  have hxy:x=y:=by
   rcases List.mem_cons.1 ((h x).1 ac) with h3 | h3
   ·exact h3
   ·rcases List.mem_cons.1 ((h y).2 ac) with h4 | h4
    ·exact h4.symm
    ·have:=q6 (e2.1 x h3) (e1.1 y h4);rw [kM]at this;cases this
  subst hxy;rw [Rises.uniq e1.2 e2.2 fun z=> ?_];constructor
  ·intro hz;rcases List.mem_cons.1 ((h z).1 (by simp [hz])) with h3 | h3
   ·subst h3;have:=e1.1 z hz;rw [kM]at this;cases this
   ·exact h3
  ·intro hz;rcases List.mem_cons.1 ((h z).2 (by simp [hz])) with h3 | h3
   ·subst h3;have:=e2.1 z hz;rw [kM]at this;cases this
   ·exact h3
theorem Rises.perm {l m:List aj} (h1:Rises l) (h2:Rises m) (h:l.Perm m):l=m:=h1.uniq h2 fun _=>h.mem_iff
def RisesBy {α:Type} (f:α->List UInt8) (l:List α):Prop:=l.Pairwise fun a b=>Op.bytesLess (f a) (f b)=true
theorem RisesBy.map (h:RisesBy f l):Rises (l.map f):=List.pairwise_map.2 h
theorem RisesBy.perm:∀ {l m:List α},RisesBy f l->RisesBy f m->l.Perm m->l=m:=fun {l m} h1 h2 h=>by
 refine List.Perm.eq_of_pairwise (le:=fun a b=>Op.bytesLess (f a) (f b)=true) (fun a b _ _ h3 h4=> ?_) h1 h2 h
 have:=q6 h3 h4;rw [kM]at this;cases this
theorem RisesBy.inj (h:RisesBy f l) {a b:α} (ha:a∈l) (hb:b∈l) (e:f a=f b):a=b:=by
 induction l with
 | nil=>cases ha
 | cons x l ih =>
  have e1:=List.pairwise_cons.1 h;rcases List.mem_cons.1 ha with h1 | h1<;>rcases List.mem_cons.1 hb with h2 | h2
  ·rw [h1,h2]
  ·subst h1;have:=yZ (e1.1 b h2);exact absurd e this
  ·subst h2;have:=yZ (e1.1 a h1);exact absurd e.symm this
  ·exact ih e1.2 h1 h2
def srt {α:Type} (f:α->List UInt8) (l:List α):List α:=l.mergeSort fun a b=> !Op.bytesLess (f b) (f a)
theorem q9 (f:α->List UInt8) (l:List α):(srt f l).Perm l:=List.mergeSort_perm l _
theorem uP (h:(l.map f).Nodup):RisesBy f (srt f l):=by
 have h1:(srt f l).Pairwise fun a b=>(!Op.bytesLess (f b) (f a))=true:=List.pairwise_mergeSort (fun a b c h1 h2=>by
  simp only [Bool.not_eq_eq_eq_not,Bool.not_true] at *
  rcases jb (f c) (f a) with h3 | h3 | h3
  ·rcases jb (f b) (f a) with h4 | h4 | h4
   ·rw [h4]at h1;cases h1
   ·rw [<-h4]at h3;rw [h3]at h2;cases h2
   ·have:=q6 h3 h4;rw [this]at h2;cases h2
  ·rw [h3,kM]
  ·exact yC h3) (fun a b=>by
  rcases jb (f a) (f b) with h3 | h3 | h3
  ·simp [yC h3]
  ·simp [h3,kM]
  ·simp [yC h3]) l
 have h2:((srt f l).map f).Nodup:=((q9 f l).map f).nodup_iff.2 h;have h3:(srt f l).Pairwise fun a b=>f a≠f b:=List.pairwise_map.1 h2;refine(h1.and h3).imp fun {a b} h=> ?_;rcases jb (f a) (f b) with h4 | h4 | h4
 ·exact h4
 ·exact absurd h4 h.2
 ·have:=h.1;rw [h4]at this;cases this
end Go.Proofs.YtaboknhfiijipaaGreat
