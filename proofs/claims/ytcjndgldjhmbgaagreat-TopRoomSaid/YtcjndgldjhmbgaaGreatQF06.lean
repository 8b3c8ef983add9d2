/- Lemmas, as stated. -/
import Derived.Test.YtcjndgldjhmbgaaGreatQF03
import Derived.Test.YtcjndgldjhmbgaaGreatQF04
import Derived.Test.YtcjndgldjhmbgaaGreatQF05
set_option linter.unusedVariables false
set_option linter.unusedSimpArgs false
set_option maxRecDepth 100000
set_option maxHeartbeats 16000000
open Go.Proofs.Tryz
open Go.Value renaming slice->aw,int->ax,string->az
open Go.IntKind renaming i64->ay
open Go.Obj renaming cells->aA
open Option renaming some->aC,none->aB
open Go.Proofs.Tryz renaming prog->zZZ
namespace Go.Proofs.YtcjndgldjhmbgaaGreat
open Go.RowKit
variable {x y:EntP} {fn:Func} {l:List EntP} {base cap g i j k:Nat} {P:Program} {s:StoP} {p:Tmp} {e ty:TypeId} {u v1 v2:Value} {w w':World} {A:ae} {N:ai}
theorem z4p (x y:ac):Op.bytesLess y x=(!Op.bytesLess x y&& !(x==y)):=by
 rcases uU x y with h | h | h
 ·rw [h,yA h];rfl
 ·subst h;rw [yB];simp
 ·rw [h,yA h,beq_eq_false_iff_ne.2 (yV h).symm];rfl
theorem Ue (gk:Nat) (d:ac) (l:List BlobP) (w:World) (hk:w.cell? ⟨gk,0,none⟩=aC (az ⟨d.toArray⟩)) (hg:gk<w.heap.size):Xd w l 152 (.pointer (aC ⟨gk,0,none⟩)) (fun b=>Op.bytesLess d b.dig):=by
 refine⟨fun _ _=>wm,fun b B cb W hb hbel hs=> ?_⟩;have hg1:gk<W.heap.size:=Nat.lt_of_lt_of_le hg hbel.size;have hk0:W.cell? ⟨gk,0,none⟩=aC (az ⟨d.toArray⟩):=(hbel.cell (p:=⟨gk,0,none⟩) hg).trans hk;generalize hs1:(⟨b.dig.toArray⟩:ByteArray)=s;generalize hs2:(⟨d.toArray⟩:ByteArray)=t at hk0;have hst:Op.bytesLess d b.dig=(!Op.bytesLess s.toList t.toList&& !(s.toList==t.toList)):=by
  rw [<-hs1,<-hs2,ByteArray.toList_eq,ByteArray.toList_eq];exact z4p _ _
 dsimp only;rw [hst];have hb1:=wi W (aA #[az s,aw B b.data.length cb,ax ay b.aM,.bool b.mark] 88);have hk1:(W.alloc (aA #[az s,aw B b.data.length cb,ax ay b.aM,.bool b.mark] 88)).cell? ⟨gk,0,none⟩=aC (az t):=(World.cell?_alloc_lt W _ ⟨gk,0,none⟩ hg1).trans hk0;clear hst hs1 hs2;go_enter func152,ntmps152;go_wp2_with fail;go_ret;exact⟨rfl,hb1⟩
def xn (r:Option Nat):Value:=match r with | some i=> .tuple #[ax ay i,ax ay 0] | none=> .tuple #[ax ay 0,ax ay 5]
theorem z0g (A:ae) (c:Nat) (l:List BlobP) (d:ac) (w:World) (hl:l.length<=1000000) (hA:Rw BlobS w A l) :
  Calls Tryz.prog 105 #[aw A l.length c,az ⟨d.toArray⟩] w fun e w'=>e= .returned (xn (l.findIdx? (fun b=>Op.bytesLess d b.dig)))/\Below w.heap.size w w':=by
 obtain⟨s,hs⟩:=wU (⟨d.toArray⟩:ByteArray)
 rw [<-hs];have hA1:=Arr.new w 9 [az s];have hb1:=wi w (aA #[az s] 9);have hA1':Arr (w.alloc (aA #[az s] 9)) w.heap.size 9 [az s]:=hA1;have hk:=hA1'.c0;have HI:=Qk A c l _ (.pointer (aC ⟨w.heap.size,0,none⟩)) (fun b=>Op.bytesLess d b.dig) (w.alloc (aA #[az s] 9)) hl (hA.below hb1) (Ue w.heap.size d l _ (by rw [hk,hs]) hA1'.lt);clear hs hA hA1 hA1' hk;cases hf:l.findIdx? (fun b=>Op.bytesLess d b.dig) with
 | none =>
  rw [hf]at HI;have HI:=sqH HI;go_enter func105,ntmps105;go_wp2_with fail;refine wV HI.o fun w2 hb2=>?_;dsimp only;have hb12:=wg hb1 hb2;go_wp2_with fail;go_ret2;exact⟨rfl,hb12⟩
 | some i =>
  rw [hf]at HI;have HI:=sqH HI;have hi:decide ((i:Int)<0)=false:=decide_eq_false wj;go_enter func105,ntmps105;go_wp2_with fail;refine wV HI.o fun w2 hb2=>?_;dsimp only;have hb12:=wg hb1 hb2;go_wp2_with fail;go_ret2;exact⟨rfl,hb12⟩
def yng (x y:EntP):Bool:=decide (x.aK<y.aK)||(decide (x.aK=y.aK)&&Op.bytesLess x.key y.key)
def Yo (l:List EntP) (o:Option Nat) (j:Nat) (x:EntP):Option Nat :=
 if x.aM=0 then (match o with | none=>aC j | some a=>match l[a]? with | none=>aC a | some y=>if yng x y then aC j else aC a) else o
def ZU (l:List EntP):Nat->Option Nat
 | 0=>none
 | j+1=>match l[j]? with | none=>ZU l j | some x=>Yo l (ZU l j) j x
theorem Ve (l:List EntP) (j:Nat) (hj:j<l.length):ZU l (j+1)=Yo l (ZU l j) j l[j]:=by
 rw [ZU,List.getElem?_eq_getElem hj]
theorem xt {a:Nat} (hp:x.aM=0) (hy:l[a]?=aC y):Yo l (aC a) j x=if yng x y then aC j else aC a:=by
 unfold Yo;rw [if_pos hp];show(match l[a]? with | none=>aC a | some y=>if yng x y then aC j else aC a)=_;rw [hy]
theorem x8 (l:List EntP):∀j a,ZU l j=aC a->a<j/\a<l.length
 | 0,a,h=>by cases h
 | j+1,a,h=>by
  rw [ZU]at h
  cases hx:l[j]? with
  | none=>rw [hx]at h;have:=x8 l j a h;omega
  | some x =>
   have hj:j<l.length:=(List.getElem?_eq_some_iff.1 hx).1
   rw [hx]at h
   simp only [Yo]at h
   split at h
   ·cases ho:ZU l j with
    | none=>rw [ho]at h;cases h;omega
    | some b =>
     have hb:=x8 l j b ho
     rw [ho]at h
     simp only [List.getElem?_eq_getElem hb.2]at h
     split at h
     ·cases h;omega
     ·cases h;omega
   ·have:=x8 l j a h;omega
theorem X5 (A:ae) (c:Nat) (l:List EntP) (w:World) (hl:l.length<=1000000) (hA:Rw EntS w A l) :
  Calls Tryz.prog 183 #[aw A l.length c] w fun e w'=>e= .returned (xn (ZU l l.length))/\Below w.heap.size w w':=by
 go_enter func183,ntmps183;go_wp2_with fail;go_loopg [4,5,10] l.length (fun gn u1 u2 i wr=>∃j:Nat,gn=l.length - j/\i= ax ay j/\j<=l.length/\u1= ax ay (((ZU l j).getD 0:Nat):Int)/\u2= .bool (ZU l j).isSome/\Below w.heap.size w wr)
 case atStart=>exact⟨0,rfl,rfl,wj,rfl,rfl,Below.refl _ _⟩
 case round =>
  obtain⟨j,hgk,rfl,hj,rfl,rfl,hbl⟩:=hrel;have HGK:=sqH hgk;clear hgk;by_cases hlt:j<l.length
  ·have hcc:decide (j<l.length)=true:=decide_eq_true hlt;have hA2:=hA.below hbl;obtain⟨b,off,B,cb,rfl,hbb,c0,c1,c2,c3,hs⟩:=hA2.ent_at j hlt;have hj0:=wX j
   have hj1:(j:Int)<(l.length:Int):=wj;have HO:=sqH (Ve l j hlt);have hlo:=x8 l j;clear hs hA;generalize ZU l j=o at *
   have hxe:l[j]?=aC l[j]:=List.getElem?_eq_getElem hlt;generalize l[j]=x at *
   clear hxe;have hb1:=wi wr (aA #[az ⟨x.key.toArray⟩,aw B x.aL.length cb,ax ay x.aM,ax ay x.aK] 109);have hb2:=wg hbl hb1;have hX:Arr (wr.alloc (aA #[az ⟨x.key.toArray⟩,aw B x.aL.length cb,ax ay x.aM,ax ay x.aK] 109)) wr.heap.size 109 [az ⟨x.key.toArray⟩,aw B x.aL.length cb,ax ay x.aM,ax ay x.aK]:=Arr.new wr 109 [az ⟨x.key.toArray⟩,aw B x.aL.length cb,ax ay x.aM,ax ay x.aK];have hA3:=hA2.below hb1;clear hA2 hbl hb1;by_cases hp:x.aM=0
   ·have HP:=sqH hp;have p1:((x.aM:Int)==0)=true:=by rw [hp];rfl
    clear hp;cases o with
    | none =>
     have hos:Yo l none j x=aC j:=by rw [Yo,if_pos HP.o]
     have HOS:=sqH hos;clear hos hlo hA3;have x2:=hX.c2;go_wp2_with fail;go_quiet (fail);go_wp2_with fail;go_roundg (l.length - (j+1))
     case measure=>exact wW HGK
     case rel=>exact⟨j+1,rfl,by go_num,wj,by(rw [HO.o,HOS.o]<;>rfl),by(rw [HO.o,HOS.o]<;>rfl),zN hb2 _⟩
    | some a =>
     obtain⟨ha1,ha2⟩:=hlo a rfl;clear hlo;obtain⟨b',off',B',cb',e4,hbb',d0,d1,d2,d3,hs'⟩:=hA3.ent_at a ha2;cases e4
     have hya:l[a]?=aC l[a]:=List.getElem?_eq_getElem ha2;generalize l[a]=y at *
     have HY:=sqH hya;have ha0:=wX a
     have ha3:(a:Int)<(l.length:Int):=wj;clear hs' hya hA3;simp only [Option.getD_some,Option.isSome_some];have x0:=hX.c0;have x2:=hX.c2;have x3:=hX.c3;obtain⟨xk,hxk⟩:=wU (⟨x.key.toArray⟩:ByteArray)
     obtain⟨yk,hyk⟩:=wU (⟨y.key.toArray⟩:ByteArray)
     have HLK:=sqH (show Op.bytesLess xk.toList yk.toList=Op.bytesLess x.key y.key by rw [hxk,hyk,ByteArray.toList_eq,ByteArray.toList_eq]);rw [<-hxk]at x0 x2 x3 c0 hX hb2;rw [<-hyk]at d0;rw [<-hxk]at d0 d1 d2 d3;clear hxk hyk;by_cases hs1:x.aK<y.aK
     ·have s1:decide ((x.aK:Int)<(y.aK:Int))=true:=decide_eq_true wj;have s1':decide (x.aK<y.aK)=true:=decide_eq_true hs1;have hos:Yo l (aC a) j x=aC j:=by
       rw [xt HP.o HY.o,if_pos (by rw [yng,decide_eq_true hs1];rfl)]
      have HOS:=sqH hos;clear hos hs1;go_wp2_with fail;go_quiet (fail);go_wp2_with fail;go_roundg (l.length - (j+1))
      case measure=>exact wW HGK
      case rel=>exact⟨j+1,rfl,by go_num,wj,by(rw [HO.o,HOS.o]<;>rfl),by(rw [HO.o,HOS.o]<;>rfl),zN hb2 _⟩
     ·have s1:decide ((x.aK:Int)<(y.aK:Int))=false:=decide_eq_false wj;have s1':decide (x.aK<y.aK)=false:=decide_eq_false hs1;by_cases hs2:x.aK=y.aK
      ·have s2:((x.aK:Int)==(y.aK:Int))=true:=by rw [beq_iff_eq];omega
       have s2':(x.aK==y.aK)=true:=by rw [beq_iff_eq];omega
       cases hk:Op.bytesLess x.key y.key with
       | true =>
        have s3:Op.bytesLess xk.toList yk.toList=true:=HLK.o.trans hk;have hos:Yo l (aC a) j x=aC j:=by
         rw [xt HP.o HY.o,if_pos (by rw [yng,decide_eq_false hs1,decide_eq_true hs2,hk];rfl)]
        have HOS:=sqH hos;clear hos hs1 hs2 hk;go_wp2_with fail;go_quiet (fail);go_wp2_with fail;go_roundg (l.length - (j+1))
        case measure=>exact wW HGK
        case rel=>exact⟨j+1,rfl,by go_num,wj,by(rw [HO.o,HOS.o]<;>rfl),by(rw [HO.o,HOS.o]<;>rfl),zN hb2 _⟩
       | false =>
        have s3:Op.bytesLess xk.toList yk.toList=false:=HLK.o.trans hk;have hos:Yo l (aC a) j x=aC a:=by
         rw [xt HP.o HY.o,if_neg (by rw [yng,decide_eq_false hs1,decide_eq_true hs2,hk];simp)]
        have HOS:=sqH hos;clear hos hs1 hs2 hk;go_wp2_with fail;go_quiet (fail);go_wp2_with fail;go_roundg (l.length - (j+1))
        case measure=>exact wW HGK
        case rel=>exact⟨j+1,rfl,by go_num,wj,by(rw [HO.o,HOS.o]<;>rfl),by(rw [HO.o,HOS.o]<;>rfl),zN hb2 _⟩
      ·have s2:((x.aK:Int)==(y.aK:Int))=false:=by rw [beq_eq_false_iff_ne];omega
       have s2':(x.aK==y.aK)=false:=by rw [beq_eq_false_iff_ne];omega
       have hos:Yo l (aC a) j x=aC a:=by
        rw [xt HP.o HY.o,if_neg (by rw [yng,decide_eq_false hs1,decide_eq_false hs2];simp)]
       have HOS:=sqH hos;clear hos hs1 hs2;go_wp2_with fail;go_quiet (fail);go_wp2_with fail;go_roundg (l.length - (j+1))
       case measure=>exact wW HGK
       case rel=>exact⟨j+1,rfl,by go_num,wj,by(rw [HO.o,HOS.o]<;>rfl),by(rw [HO.o,HOS.o]<;>rfl),zN hb2 _⟩
   ·have HP:=sqH hp;have p1:((x.aM:Int)==0)=false:=by rw [beq_eq_false_iff_ne];omega
    have hos:Yo l o j x=o:=by unfold Yo;rw [if_neg hp]
    have HOS:=sqH hos;have x2:=hX.c2;clear hos hlo hA3 hp;go_wp2_with fail;go_quiet (fail);go_wp2_with fail;go_roundg (l.length - (j+1))
    case measure=>exact wW HGK
    case rel=>exact⟨j+1,rfl,by go_num,wj,by(rw [HO.o,HOS.o]<;>rfl),by(rw [HO.o,HOS.o]<;>rfl),zN hb2 _⟩
  ·obtain rfl:j=l.length:=by omega
   have hcc:decide (l.length<l.length)=false:=ws;have hlo:=x8 l l.length;cases ho:ZU l l.length with
   | none =>
    have HO:=sqH ho;clear ho hlo;go_wp2_with fail;go_ret2;rw [HO.o];exact⟨rfl,hbl⟩
   | some a =>
    have HO:=sqH ho;clear ho hlo;go_wp2_with fail;go_ret2;rw [HO.o];exact⟨rfl,hbl⟩
theorem jP:∀x y:ac,Lib.compareBytes x y=0↔x=y
 | [], []=>by simp [Lib.compareBytes]
 | [],_::_=>by simp [Lib.compareBytes]
 | _::_, []=>by simp [Lib.compareBytes]
 | a::x,b::y=>by
  rw [Lib.compareBytes]
  rcases JQ a b with h | h | h
  ·rw [if_pos h]
   exact⟨fun e=>wj,fun e=>by cases e;exact absurd h (UInt8.lt_irrefl _)⟩
  ·subst h
   rw [if_neg (UInt8.lt_irrefl _),if_neg (UInt8.lt_irrefl _),jP x y]
   simp
  ·rw [if_neg (UInt8.lt_asymm h),if_pos h]
   exact⟨fun e=>wj,fun e=>by cases e;exact absurd h (UInt8.lt_irrefl _)⟩
theorem Y1 (s t:ByteArray) (v1 v2 v3:Value) (w:World) :
  Calls zZZ 204 #[.agg #[az s,v1,v2,v3],az t] w fun e w'=>e= .returned (ax ay (Lib.compareBytes s.data.toList t.data.toList))/\Below w.heap.size w w':=by
 have hA1:=Arr.new w 88 [az s,v1,v2,v3];have hA:Arr (w.alloc (aA #[az s,v1,v2,v3] 88)) w.heap.size 88 [az s,v1,v2,v3]:=hA1;have hb:=wi w (aA #[az s,v1,v2,v3] 88);have a0:=hA.c0;have HC:=sqH (fun W=>Tryz.strings_Compare s t W);clear hA1 hA;go_enter func204,ntmps204;go_wp2_with fail;generalize w.alloc (aA #[az s,v1,v2,v3] 88)=W at *
 refine(HC.o W).mono ?_;rintro e_ w1 ⟨rfl,rfl⟩;dsimp only;go_wp2_with fail;go_ret;exact⟨rfl,hb⟩
theorem Y2 (s t:ByteArray) (v1 v2 v3:Value) (w:World) :
  Calls zZZ 224 #[.agg #[az s,v1,v2,v3],az t] w fun e w'=>e= .returned (ax ay (Lib.compareBytes s.data.toList t.data.toList))/\Below w.heap.size w w':=by
 have hA1:=Arr.new w 109 [az s,v1,v2,v3];have hA:Arr (w.alloc (aA #[az s,v1,v2,v3] 109)) w.heap.size 109 [az s,v1,v2,v3]:=hA1;have hb:=wi w (aA #[az s,v1,v2,v3] 109);have a0:=hA.c0;have HC:=sqH (fun W=>Tryz.strings_Compare s t W);clear hA1 hA;go_enter func224,ntmps224;go_wp2_with fail;generalize w.alloc (aA #[az s,v1,v2,v3] 109)=W at *
 refine(HC.o W).mono ?_;rintro e_ w1 ⟨rfl,rfl⟩;dsimp only;go_wp2_with fail;go_ret;exact⟨rfl,hb⟩
theorem Jx (A:ae) (c:Nat) (l:List BlobP) (d:ac) (w:World) (hl:l.length<=100000) (hris:RisesBy (·.dig) l) (hA:Rw BlobS w A l) :
  Calls zZZ 203 #[aw A l.length c,az ⟨d.toArray⟩,.func (.func 204) #[] #[]] w fun e w' =>
   ∃i f,e= .returned (.tuple #[ax ay ((i:Nat):Int),.bool f])/\i<=l.length/\(∀k (h:k<l.length),k<i->Op.bytesLess l[k].dig d=true)/\(∀k (h:k<l.length),i<=k->Op.bytesLess l[k].dig d=false)/\(f=true↔∃h:i<l.length,l[i].dig=d)/\Below w.heap.size w w':=by
 obtain⟨t,ht⟩:=wU (⟨d.toArray⟩:ByteArray)
 rw [<-ht];have HT:=sqH ht;have HRI:=sqH hris;clear ht hris;have HCM:=sqH (fun (x:BlobP) (A':ae) (c':Nat) W=>Y1 ⟨x.dig.toArray⟩ t (aw A' x.data.length c') (ax ay x.aM) (.bool x.mark) W);go_enter func203,ntmps203
 refine wH ?_;intros;go_loopg [9,10] l.length (fun gn u v wr=>∃i j:Nat,gn=j - i/\u= ax ay i/\v= ax ay j/\i<=j/\j<=l.length/\(∀k (h:k<l.length),k<i->Op.bytesLess l[k].dig d=true)/\(∀k (h:k<l.length),j<=k->Op.bytesLess l[k].dig d=false)/\Below w.heap.size w wr)
 case atStart=>exact⟨0,l.length,rfl,rfl,rfl,wj,wj,fun k _ h=>absurd h wj,fun k h h'=>absurd h wj,Below.refl _ _⟩
 case round =>
  obtain⟨i,j,hgk,rfl,rfl,hij,hjl,h1,h2,hbl⟩:=hrel;obtain⟨HGK,H1,H2⟩:=sqJ3 hgk h1 h2;clear hgk h1 h2;by_cases hlt:i<j
  ·have hcc:decide (i<j)=true:=decide_eq_true hlt;have hhl:(i+j) / 2<l.length:=wj
   obtain⟨b,off,B,cb,rfl,hbb,c0,c1,c2,c3,hs⟩:=(hA.below hbl).blob_at ((i+j) / 2) hhl;have hcm:=HCM.o l[(i+j) / 2] B cb wr;have HM:=sqH (show(((i:Int)+(j:Int)) / 2=(((i+j) / 2:Nat):Int))/\(((i:Int)+(j:Int)) / 2+1=(((i+j) / 2+1:Nat):Int)) from⟨wj,wj⟩);have hps:=List.pairwise_iff_getElem.1 HRI.o;obtain⟨sx,hsx⟩:=wU (⟨(l[(i+j) / 2]).dig.toArray⟩:ByteArray)
   rw [<-hsx]at c0 hcm;have hcp:Lib.compareBytes sx.data.toList t.data.toList=Lib.compareBytes (l[(i+j) / 2]).dig d:=by rw [hsx,HT.o]
   rw [hcp]at hcm;cases hle:Op.bytesLess (l[(i+j) / 2]).dig d with
   | true =>
    have hz:=j5 hle;have HP:=sqH (show ∀k (h:k<l.length),k<(i+j) / 2+1->Op.bytesLess l[k].dig d=true from fun k h hk=>by
     rcases Nat.lt_or_ge k ((i+j) / 2) with h1 | h1
     ·exact qj (hps k _ h hhl h1) hle
     ·have:k=(i+j) / 2:=by omega
      subst this;exact hle)
    clear hps hle hsx hcp hs;generalize Lib.compareBytes (l[(i+j) / 2]).dig d=z at *
    generalize l[(i+j) / 2]=x at *
    have hz1:decide (z<0)=true:=decide_eq_true hz;have HCL:=sqH hcm;clear hcm;go_wp2_with fail;refine wV HCL.o fun w5 hb5=>?_;dsimp only;have hbl5:=wg hbl hb5;go_wp2_with fail;go_roundg (j - ((i+j) / 2+1))
    case measure=>exact wW HGK
    case rel=>exact⟨(i+j) / 2+1,j,rfl,by rw [HM.o.2],rfl,wj,hjl,HP.o,H2.o,hbl5⟩
   | false =>
    have hz:=j0 hle;have HP:=sqH (show ∀k (h:k<l.length),(i+j) / 2<=k->Op.bytesLess l[k].dig d=false from fun k h hk=>by
     rcases Nat.lt_or_ge ((i+j) / 2) k with h1 | h1
     ·cases hq:Op.bytesLess l[k].dig d with
      | false=>rfl
      | true=>have:=qj (hps _ k hhl h h1) hq;rw [hle]at this;cases this
     ·have:k=(i+j) / 2:=by omega
      subst this;exact hle)
    clear hps hle hsx hcp hs;generalize Lib.compareBytes (l[(i+j) / 2]).dig d=z at *
    generalize l[(i+j) / 2]=x at *
    have hz1:decide (z<0)=false:=decide_eq_false hz;have HCL:=sqH hcm;clear hcm;go_wp2_with fail;refine wV HCL.o fun w5 hb5=>?_;dsimp only;have hbl5:=wg hbl hb5;go_wp2_with fail;go_roundg ((i+j) / 2 - i)
    case measure=>exact wW HGK
    case rel=>exact⟨i,(i+j) / 2,rfl,rfl,by rw [HM.o.1],wj,wj,H1.o,HP.o,hbl5⟩
  ·obtain rfl:i=j:=by omega
   have hcc:decide (i<i)=false:=ws;by_cases hin:i<l.length
   ·have hcd:decide (i<l.length)=true:=decide_eq_true hin;have hi0:=wX i
    have hi1:(i:Int)<(l.length:Int):=wj;obtain⟨b,off,B,cb,rfl,hbb,c0,c1,c2,c3,hs⟩:=(hA.below hbl).blob_at i hin;have hcm:=HCM.o l[i] B cb wr;obtain⟨sx,hsx⟩:=wU (⟨(l[i]).dig.toArray⟩:ByteArray)
    rw [<-hsx]at c0 hcm;have hcp:Lib.compareBytes sx.data.toList t.data.toList=Lib.compareBytes (l[i]).dig d:=by rw [hsx,HT.o]
    rw [hcp]at hcm;have HQ:=sqH (jP (l[i]).dig d);have HE:=sqH (show((∃h:i<l.length,l[i].dig=d)↔l[i].dig=d) from⟨fun ⟨_,h⟩=>h,fun h=>⟨hin,h⟩⟩);clear hsx hcp hs;generalize Lib.compareBytes (l[i]).dig d=z at *
    generalize l[i]=x at *
    have HCL:=sqH hcm;clear hcm;go_wp2_with fail;refine wV HCL.o fun w5 hb5=>?_;dsimp only;have hbl5:=wg hbl hb5;go_wp2_with fail;go_ret2;refine⟨i,z==0,rfl,wj,H1.o,H2.o,?_,hbl5⟩;rw [HE.o,beq_iff_eq,HQ.o]
   ·have hcd:decide (i<l.length)=false:=decide_eq_false hin
    refine wH ?_;intros;go_ret2;refine⟨i,false,rfl,wj,H1.o,H2.o,⟨fun h=>(by cases h),fun ⟨h,_⟩=>absurd h hin⟩,hbl⟩
theorem z2l (A:ae) (c:Nat) (l:List EntP) (d:ac) (w:World) (hl:l.length<=100000) (hris:RisesBy (·.key) l) (hA:Rw EntS w A l) :
  Calls zZZ 223 #[aw A l.length c,az ⟨d.toArray⟩,.func (.func 224) #[] #[]] w fun e w' =>
   ∃i f,e= .returned (.tuple #[ax ay ((i:Nat):Int),.bool f])/\i<=l.length/\(∀k (h:k<l.length),k<i->Op.bytesLess l[k].key d=true)/\(∀k (h:k<l.length),i<=k->Op.bytesLess l[k].key d=false)/\(f=true↔∃h:i<l.length,l[i].key=d)/\Below w.heap.size w w':=by
 obtain⟨t,ht⟩:=wU (⟨d.toArray⟩:ByteArray)
 rw [<-ht];have HT:=sqH ht;have HRI:=sqH hris;clear ht hris;have HCM:=sqH (fun (x:EntP) (A':ae) (c':Nat) W=>Y2 ⟨x.key.toArray⟩ t (aw A' x.aL.length c') (ax ay x.aM) (ax ay x.aK) W);go_enter func223,ntmps223
 refine wH ?_;intros;go_loopg [9,10] l.length (fun gn u v wr=>∃i j:Nat,gn=j - i/\u= ax ay i/\v= ax ay j/\i<=j/\j<=l.length/\(∀k (h:k<l.length),k<i->Op.bytesLess l[k].key d=true)/\(∀k (h:k<l.length),j<=k->Op.bytesLess l[k].key d=false)/\Below w.heap.size w wr)
 case atStart=>exact⟨0,l.length,rfl,rfl,rfl,wj,wj,fun k _ h=>absurd h wj,fun k h h'=>absurd h wj,Below.refl _ _⟩
 case round =>
  obtain⟨i,j,hgk,rfl,rfl,hij,hjl,h1,h2,hbl⟩:=hrel;obtain⟨HGK,H1,H2⟩:=sqJ3 hgk h1 h2;clear hgk h1 h2;by_cases hlt:i<j
  ·have hcc:decide (i<j)=true:=decide_eq_true hlt;have hhl:(i+j) / 2<l.length:=wj
   obtain⟨b,off,B,cb,rfl,hbb,c0,c1,c2,c3,hs⟩:=(hA.below hbl).ent_at ((i+j) / 2) hhl;have hcm:=HCM.o l[(i+j) / 2] B cb wr;have HM:=sqH (show(((i:Int)+(j:Int)) / 2=(((i+j) / 2:Nat):Int))/\(((i:Int)+(j:Int)) / 2+1=(((i+j) / 2+1:Nat):Int)) from⟨wj,wj⟩);have hps:=List.pairwise_iff_getElem.1 HRI.o;obtain⟨sx,hsx⟩:=wU (⟨(l[(i+j) / 2]).key.toArray⟩:ByteArray)
   rw [<-hsx]at c0 hcm;have hcp:Lib.compareBytes sx.data.toList t.data.toList=Lib.compareBytes (l[(i+j) / 2]).key d:=by rw [hsx,HT.o]
   rw [hcp]at hcm;cases hle:Op.bytesLess (l[(i+j) / 2]).key d with
   | true =>
    have hz:=j5 hle;have HP:=sqH (show ∀k (h:k<l.length),k<(i+j) / 2+1->Op.bytesLess l[k].key d=true from fun k h hk=>by
     rcases Nat.lt_or_ge k ((i+j) / 2) with h1 | h1
     ·exact qj (hps k _ h hhl h1) hle
     ·have:k=(i+j) / 2:=by omega
      subst this;exact hle)
    clear hps hle hsx hcp hs;generalize Lib.compareBytes (l[(i+j) / 2]).key d=z at *
    generalize l[(i+j) / 2]=x at *
    have hz1:decide (z<0)=true:=decide_eq_true hz;have HCL:=sqH hcm;clear hcm;go_wp2_with fail;refine wV HCL.o fun w5 hb5=>?_;dsimp only;have hbl5:=wg hbl hb5;go_wp2_with fail;go_roundg (j - ((i+j) / 2+1))
    case measure=>exact wW HGK
    case rel=>exact⟨(i+j) / 2+1,j,rfl,by rw [HM.o.2],rfl,wj,hjl,HP.o,H2.o,hbl5⟩
   | false =>
    have hz:=j0 hle;have HP:=sqH (show ∀k (h:k<l.length),(i+j) / 2<=k->Op.bytesLess l[k].key d=false from fun k h hk=>by
     rcases Nat.lt_or_ge ((i+j) / 2) k with h1 | h1
     ·cases hq:Op.bytesLess l[k].key d with
      | false=>rfl
      | true=>have:=qj (hps _ k hhl h h1) hq;rw [hle]at this;cases this
     ·have:k=(i+j) / 2:=by omega
      subst this;exact hle)
    clear hps hle hsx hcp hs;generalize Lib.compareBytes (l[(i+j) / 2]).key d=z at *
    generalize l[(i+j) / 2]=x at *
    have hz1:decide (z<0)=false:=decide_eq_false hz;have HCL:=sqH hcm;clear hcm;go_wp2_with fail;refine wV HCL.o fun w5 hb5=>?_;dsimp only;have hbl5:=wg hbl hb5;go_wp2_with fail;go_roundg ((i+j) / 2 - i)
    case measure=>exact wW HGK
    case rel=>exact⟨i,(i+j) / 2,rfl,rfl,by rw [HM.o.1],wj,wj,H1.o,HP.o,hbl5⟩
  ·obtain rfl:i=j:=by omega
   have hcc:decide (i<i)=false:=ws;by_cases hin:i<l.length
   ·have hcd:decide (i<l.length)=true:=decide_eq_true hin;have hi0:=wX i
    have hi1:(i:Int)<(l.length:Int):=wj;obtain⟨b,off,B,cb,rfl,hbb,c0,c1,c2,c3,hs⟩:=(hA.below hbl).ent_at i hin;have hcm:=HCM.o l[i] B cb wr;obtain⟨sx,hsx⟩:=wU (⟨(l[i]).key.toArray⟩:ByteArray)
    rw [<-hsx]at c0 hcm;have hcp:Lib.compareBytes sx.data.toList t.data.toList=Lib.compareBytes (l[i]).key d:=by rw [hsx,HT.o]
    rw [hcp]at hcm;have HQ:=sqH (jP (l[i]).key d);have HE:=sqH (show((∃h:i<l.length,l[i].key=d)↔l[i].key=d) from⟨fun ⟨_,h⟩=>h,fun h=>⟨hin,h⟩⟩);clear hsx hcp hs;generalize Lib.compareBytes (l[i]).key d=z at *
    generalize l[i]=x at *
    have HCL:=sqH hcm;clear hcm;go_wp2_with fail;refine wV HCL.o fun w5 hb5=>?_;dsimp only;have hbl5:=wg hbl hb5;go_wp2_with fail;go_ret2;refine⟨i,z==0,rfl,wj,H1.o,H2.o,?_,hbl5⟩;rw [HE.o,beq_iff_eq,HQ.o]
   ·have hcd:decide (i<l.length)=false:=decide_eq_false hin
    refine wH ?_;intros;go_ret2;refine⟨i,false,rfl,wj,H1.o,H2.o,⟨fun h=>(by cases h),fun ⟨h,_⟩=>absurd h hin⟩,hbl⟩
theorem KS (gk:Nat) (d:ac) (l:List EntP) (w:World) (hk:w.cell? ⟨gk,0,aB⟩=aC (az ⟨d.toArray⟩)) (hg:gk<w.heap.size):Jy w l 95 (.pointer (aC ⟨gk,0,aB⟩)) (fun b=>b.key==d):=by
 refine⟨fun _ _=>wm,fun b B cb W hb hbel hs=> ?_⟩;have hg1:gk<W.heap.size:=Nat.lt_of_lt_of_le hg hbel.size;have hk0:W.cell? ⟨gk,0,aB⟩=aC (az ⟨d.toArray⟩):=(hbel.cell (p:=⟨gk,0,aB⟩) hg).trans hk;generalize hs1:(⟨b.key.toArray⟩:ByteArray)=s;generalize hs2:(⟨d.toArray⟩:ByteArray)=t at hk0;have hst:(b.key==d)=(s.toList==t.toList):=by
  rw [<-hs1,<-hs2,ByteArray.toList_eq,ByteArray.toList_eq]
 dsimp only;rw [hst];have hb1:=wi W (aA #[az s,aw B b.aL.length cb,ax ay b.aM,(ax ay b.aK)] 109);have hk1:(W.alloc (aA #[az s,aw B b.aL.length cb,ax ay b.aM,(ax ay b.aK)] 109)).cell? ⟨gk,0,aB⟩=aC (az t):=(World.cell?_alloc_lt W _ ⟨gk,0,aB⟩ hg1).trans hk0;clear hst hs1 hs2;go_enter func95,ntmps95;go_wp2_with fail;go_ret;exact⟨rfl,hb1⟩
theorem kI (A:ae) (c:Nat) (l:List EntP) (d:ac) (w:World) (hl:l.length<=1000000) (hA:Rw EntS w A l) :
  Calls zZZ 46 #[aw A l.length c,az ⟨d.toArray⟩] w fun e w'=>e= .returned (xn (l.findIdx? (fun x=>x.key==d)))/\Below w.heap.size w w':=by
 obtain⟨s,hs⟩:=wU (⟨d.toArray⟩:ByteArray)
 rw [<-hs];have hA1:=Arr.new w 9 [az s];have hb1:=wi w (aA #[az s] 9);have hA1':Arr (w.alloc (aA #[az s] 9)) w.heap.size 9 [az s]:=hA1;have hk:=hA1'.c0;have HI:=z0a A c l _ (.pointer (aC ⟨w.heap.size,0,aB⟩)) (fun x=>x.key==d) (w.alloc (aA #[az s] 9)) hl (hA.below hb1) (KS w.heap.size d l _ (by rw [hk,hs]) hA1'.lt);clear hs hA hA1 hA1' hk;cases hf:l.findIdx? (fun x=>x.key==d) with
 | none =>
  rw [hf]at HI;have HI:=sqH HI;go_enter func46,ntmps46;go_wp2_with fail;refine wV HI.o fun w2 hb2=>?_;dsimp only;have hb12:=wg hb1 hb2;go_wp2_with fail;go_ret2;exact⟨rfl,hb12⟩
 | some i =>
  rw [hf]at HI;have HI:=sqH HI;have hi:decide ((i:Int)<0)=false:=decide_eq_false wj;go_enter func46,ntmps46;go_wp2_with fail;refine wV HI.o fun w2 hb2=>?_;dsimp only;have hb12:=wg hb1 hb2;go_wp2_with fail;go_ret2;exact⟨rfl,hb12⟩
theorem z0i (A:ae) (c:Nat) (l:List EntP) (x:EntP) (PA:ae) (pc:Nat) (w:World) (hg:GoodE l) (hx:GoodE1 x) (hlen:l.length<10) (hA:Rw EntS w A l) (hP:Sl w 3 PA x.aL.length pc (pcs x.aL)) :
  Calls zZZ 208 #[aw A l.length c,.agg #[az ⟨x.key.toArray⟩,aw PA x.aL.length pc,ax ay x.aM,ax ay x.aK]] w fun e w' =>
   ∃v,e= .returned (.tuple #[v,ax ay 0])/\RwX EntS 109 w' w.heap.size v (x9 l x) (fun b=>b<w.heap.size)/\Below w.heap.size w w':=by
 have HGD:=sqH (ZZ hg hx hlen);have hpl:x.aL.length<=8:=(zk hx.2.1).1;have hg1:=hg.ris;obtain⟨sx,hsx⟩:=wU (⟨x.key.toArray⟩:ByteArray)
 rw [<-hsx];have hX:Arr (w.alloc (aA #[az sx,aw PA x.aL.length pc,ax ay x.aM,ax ay x.aK] 109)) w.heap.size 109 [az sx,aw PA x.aL.length pc,ax ay x.aM,ax ay x.aK]:=Arr.new w 109 _;have hb1:=wi w (aA #[az sx,aw PA x.aL.length pc,ax ay x.aM,ax ay x.aK] 109);have HC1:=sqH (xf A c l _ hg (hA.below hb1));have hA1:=hA.below hb1;have hP1:=hP.below hb1;have HSX:=sqH hsx;obtain⟨H,hH⟩:=wU w.heap.size
 have hlt1:=hX.lt;rw [<-hH]at hX hlt1;have hgl:l.length<=10:=hg.len;have HPL:=sqH (show ∀y∈l,y.aL.length<=1000000 from fun y hy=>by have:=(zk (hg.one y hy).2.1).1;omega);have HA0:=sqH hA;clear hg hx hA hP hsx;go_enter func208,ntmps208;go_wp2_with fail;rw [<-hH];have HH:=sqH hH;clear hH;generalize w.alloc (aA #[az sx,aw PA x.aL.length pc,ax ay x.aM,ax ay x.aK] 109)=w1 at *
 refine wV HC1.o fun w2 hb2=>?_;dsimp only;have hb12:=wg hb1 hb2;have hX2:=hX.below hb2;have hA2:=hA1.below hb2;have hP2:=hP1.below hb2;have k0:=hX2.c0;have HBS:=z2l A c l x.key w2 wj hg1 hA2;rw [<-HSX.o]at HBS;have HBS:=sqH HBS;clear hX hA1 hP1;go_wp2_with fail;clear k0;refine HBS.o.mono ?_;rintro e_ w3 ⟨i,f,rfl,hil,P1,P2,hf,hb3⟩;dsimp only;have hb13:=wg hb12 hb3;have hX3:=hX2.below hb3;have hA3:=hA2.below hb3;have hP3:=hP2.below hb3;obtain⟨HF,HP1,HP2,HG1,HCP⟩:=sqJ5 hf P1 P2 hg1 (QW A c l w3 wj (fun y hy=>HPL.o y hy) hA3);clear hX2 hA2 hP2 hf P1 P2 hg1;go_wp2_with fail;refine HCP.o.mono ?_;rintro e_ w4 ⟨g,rfl,hx4,hb4⟩;dsimp only;have hb14:=wg hb13 hb4;have hX4:=hX3.below hb4;have hP4:=hP3.below hb4;have hH3:=hX3.lt;have y1:=hX4.c1;have HCN:=sqH (yy PA x.aL.length pc (pcs x.aL) w4 wj hP4.rd (jZ _));have hg3:=(hx4.rwo.blk rfl)
 clear hX3 hA3 hP3;go_wp2_with fail;clear y1;refine HCN.o.mono ?_;rintro e_ w5 ⟨v5,rfl,ho5,hb5⟩;dsimp only;obtain⟨A5,c5,rfl,hs5,hl5⟩:=vQ ho5;have hX5:=hX4.below hb5;have hx5:=hx4.below hb5;have hb15:=wg hb14 hb5;have f1:=hX5.frozen 1;have y1:=hX5.c1;have hx6:=hx5.set (g:=H) (k:=1) hH3 hH3 (aw A5 x.aL.length c5);have hX6:=hX5.set (k:=1) ws (aw A5 x.aL.length c5);have hs6:=hs5.other (g:=H) (k:=1) (fun a ha=>by have:=hl5 a ha;have:=hX4.lt;omega) (aw A5 x.aL.length c5);have hb06:=hb15.setCell (p:=⟨H,1,aB⟩) (by rw [<-HH.o];exact Nat.le_refl _) (aw A5 x.aL.length c5);have hsz4:w4.heap.size<=w5.heap.size:=hb5.size;have hgb:g<w4.heap.size:=hg3.2;have hw03:w.heap.size<=w3.heap.size:=hb13.size;have hw34:w3.heap.size<=w4.heap.size:=hb4.size;clear hx4 hx5 hX4 hX5 hP4 ho5 hs5 hb4 hb5 hb15 hb14 hb13;have hX6':Arr (w5.setCell ⟨H,1,aB⟩ (aw A5 x.aL.length c5)) H 109 [az sx,aw A5 x.aL.length c5,ax ay x.aM,ax ay x.aK]:=hX6;clear hX6;cases f with
 | true =>
  obtain⟨hi,he⟩:=HF.o.1 rfl;have HPE:=sqH (show x9 l x=l.set i { x with aM:=l[i].aM } by
   unfold x9;rw [jO (f:=fun y:EntP=>y.key) HP1.o hi he];show l.set i { x with aM:=(match l[i]? with | some y=>y.aM | none=>0) }=_;rw [List.getElem?_eq_getElem hi])
  obtain⟨b,off,B,cb,rfl,hbb,d0,d1,d2,d3,_⟩:=(HA0.o.below hb06).ent_at i hi;have hi0:=wX i
  have hi1:(i:Int)<(l.length:Int):=wj;clear he;generalize l[i].aM=pn at *
  have f2:=hX6'.frozen 2;have y2:=hX6'.c2;have hX7:Arr ((w5.setCell ⟨H,1,aB⟩ (aw A5 x.aL.length c5)).setCell ⟨H,2,aB⟩ (ax ay pn)) H 109 [az sx,aw A5 x.aL.length c5,ax ay pn,ax ay x.aK]:=hX6'.set (k:=2) ws _;have hx7:=hx6.set (g:=H) (k:=2) hH3 hH3 (ax ay pn);have hs7:=hs6.other (g:=H) (k:=2) (fun a ha=>by have:=hl5 a ha;omega) (ax ay pn);have hb07:=hb06.setCell (p:=⟨H,2,aB⟩) (by rw [<-HH.o];exact Nat.le_refl _) (ax ay pn);obtain⟨ps7,hx7o,hx7l⟩:∃cs,Arr ((w5.setCell ⟨H,1,aB⟩ (aw A5 x.aL.length c5)).setCell ⟨H,2,aB⟩ (ax ay pn)) g 109 cs/\cs.length=l.length*4:=by
   obtain⟨ps,_,_,h3,_⟩:=hx7;obtain⟨g',cap',cs,e1,_,h4,_,_,h5,_⟩:=yq h3 wj;injection e1 with e11 _ e13;injection e11 with e11;injection e11 with e11;subst e11 e13;exact⟨cs,h4,h5⟩
  have q0:=hx7o.cell (k:=i*4) (List.getElem?_eq_getElem wj);have q1:=hx7o.cell (k:=i*4+1) (List.getElem?_eq_getElem wj);have q2:=hx7o.cell (k:=i*4+2) (List.getElem?_eq_getElem wj);have q3:=hx7o.cell (k:=i*4+3) (List.getElem?_eq_getElem wj);have p0:=hx7o.frozen (i*4);have p1:=hx7o.frozen (i*4+1);have p2:=hx7o.frozen (i*4+2);have p3:=hx7o.frozen (i*4+3);obtain⟨k0,k1,k2,k3⟩:=sqC4 hX7;obtain⟨hx8,hg8⟩:=hx7.put4 (x:= { x with aM:=pn }) (u0:= az sx) (u1:= aw A5 x.aL.length c5) (u2:= ax ay pn) (u3:= ax ay x.aK) rfl hi ⟨A5,c5,by rw [HSX.o];rfl,hs7⟩ (fun b hb ⟨a,n',c',hm,e⟩=>by
   simp only [List.mem_cons,List.not_mem_nil,or_false,Value.slice.injEq,reduceCtorEq,false_or]at hm;have:=hl5 a hm.1.symm;rcases hb with hb | hb<;>omega)
  have hb08:=hb07.grown hg8 hb07.size (fun k hk=>by cases hk;exact Nat.le_trans hw03 hg3.1);rw [show l.set i { x with aM:=pn }=x9 l x from HPE.o.symm]at hx8;have hlen8:(x9 l x).length=l.length:=by rw [HPE.o,List.length_set]
  rw [put4]at hx8 hg8 hb08;clear hx7o hx6 hs6 hX6' hx7 hs7 hb06 hb07 hg8 hX7;go_wp2_with fail;clear d0 d1 d2 d3 f2 y2 q0 q1 q2 q3 p0 p1 p2 p3 k0 k1 k2 k3 hx7l;generalize (((((w5.setCell ⟨H,1,aB⟩ (aw A5 x.aL.length c5)).setCell ⟨H,2,aB⟩ (ax ay pn)).setCell ⟨g,i*4,aB⟩ (az sx)).setCell ⟨g,i*4+1,aB⟩ (aw A5 x.aL.length c5)).setCell ⟨g,i*4+2,aB⟩ (ax ay pn)).setCell ⟨g,i*4+3,aB⟩ (ax ay x.aK)=w8 at *
  have HC8:=xf (aC ⟨g,0,aB⟩) l.length (x9 l x) w8 HGD.o (by
   obtain⟨A',c',e1,_,_,h⟩:=hx8.rwo.rows;injection e1 with e2;rw [e2];exact h)
  rw [hlen8]at HC8;have HC8:=sqH HC8;refine wV HC8.o fun w9 hb9=>?_;dsimp only;have hx9:=((hx8.below hb9).lower hw03).wider (N':=fun b=>b<w.heap.size) (fun b hb=> .inl (Nat.lt_of_lt_of_le hb hw03));have hb09:=wg hb08 hb9;clear hx8 hb08 hb9;go_wp2_with fail;go_ret2;exact⟨_,rfl,hx9,hb09⟩
 | false =>
  have hn:¬ ∃h:i<l.length,l[i].key=x.key:=fun h=>by have:=HF.o.2 h;cases this
  have HPE:=sqH (show x9 l x=l.take i++x::l.drop i by
   unfold x9;rw [JB (f:=fun y:EntP=>y.key) HG1.o HP1.o HP2.o hn];exact(JC (f:=fun y:EntP=>y.key) HG1.o HP1.o HP2.o hn rfl).symm)
  obtain⟨k0,k1,k2,k3⟩:=sqC4 hX6';clear hn HF;have hg31:w3.heap.size<=g:=hg3.1;have hz6:(w5.setCell ⟨H,1,aB⟩ (aw A5 x.aL.length c5)).heap.size=w5.heap.size:=by simp [World.setCell]
  have hV:Arr ((w5.setCell ⟨H,1,aB⟩ (aw A5 x.aL.length c5)).alloc (aA #[az sx,aw A5 x.aL.length c5,ax ay x.aM,ax ay x.aK] 109)) (w5.setCell ⟨H,1,aB⟩ (aw A5 x.aL.length c5)).heap.size 109 (kn x A5 c5):=by
   rw [kn,<-HSX.o];exact Arr.new (w5.setCell ⟨H,1,aB⟩ (aw A5 x.aL.length c5)) 109 _
  have hba:=(Below.refl (w5.setCell ⟨H,1,aB⟩ (aw A5 x.aL.length c5)).heap.size (w5.setCell ⟨H,1,aB⟩ (aw A5 x.aL.length c5))).alloc ab (aA #[az sx,aw A5 x.aL.length c5,ax ay x.aM,ax ay x.aK] 109);have hx7:=hx6.below hba;have hs7:=hs6.below hba;have hb07:=wg hb06 hba;have hgsz:g<(w5.setCell ⟨H,1,aB⟩ (aw A5 x.aL.length c5)).heap.size:=(hx6.rwo.blk rfl).2;have hbs7:w3.heap.size<=((w5.setCell ⟨H,1,aB⟩ (aw A5 x.aL.length c5)).alloc (aA #[az sx,aw A5 x.aL.length c5,ax ay x.aM,ax ay x.aK] 109)).heap.size:=by rw [World.size_alloc];omega
  clear hx6 hs6 hX6' hba hb06;go_wp2_with fail;rw [<-hz6];clear k0 k1 k2 k3;generalize hw6:(w5.setCell ⟨H,1,aB⟩ (aw A5 x.aL.length c5))=w6 at *
  clear hw6 hz6;generalize w6.alloc (aA #[az sx,aw A5 x.aL.length c5,ax ay x.aM,ax ay x.aK] 109)=w7 at *
  have HIN:=sqH (KZ l g i x A5 c5 w6.heap.size 1 w7 w3.heap.size (fun b=>b<w3.heap.size) hil wj hbs7 hx7 hV ⟨A5,c5,rfl,hs7⟩ (fun b hb hle=>by
   obtain⟨a,e1,e2⟩:=UL hle;have:=hl5 a e1;rcases hb with hb | hb<;>omega))
  clear hV hx7 hs7 hbs7;refine HIN.o.mono ?_;rintro e_ w8 ⟨v8,rfl,hx8,hg8⟩;dsimp only;have hb08:=hb07.grown hg8 hb07.size (fun k hk=>by cases hk;exact Nat.le_trans hw03 hg3.1);rw [show l.take i++x::l.drop i=x9 l x from HPE.o.symm]at hx8;have hlp:(x9 l x).length<=10:=HGD.o.len;have HCL:=sqH (YH v8 (x9 l x) w8 w3.heap.size _ wj hx8);obtain⟨A8,c8,rfl,_,_,_⟩:=hx8.rwo.rows;clear hx8 hg8 hb07;go_wp2_with fail;refine HCL.o.mono ?_;rintro e_ w9 ⟨v9,rfl,hx9,hb9⟩;dsimp only;have hb09:=wg hb08 hb9;have hw8:w.heap.size<=w8.heap.size:=hb08.size;obtain⟨A9,c9,rfl,_,_,hR9⟩:=hx9.rwo.rows;have HC8:=sqH (xf A9 c9 (x9 l x) w9 HGD.o hR9);clear hb9 hb08 hR9;go_wp2_with fail;refine wV HC8.o fun w10 hb10=>?_;dsimp only;have hx10:=((hx9.below hb10).lower hw8).wider (N':=fun b=>b<w.heap.size) (fun b hb=> .inl (Nat.lt_of_lt_of_le hb hw03));have hb010:=wg hb09 hb10;clear hx9 hb09 hb10;go_wp2_with fail;go_ret2;exact⟨_,rfl,hx10,hb010⟩
theorem xu (l:List BlobP) (d:ac):(putB l d).length<=l.length+1:=by
 unfold putB;cases hf:l.findIdx? (fun b=>b.dig==shaS d) with
 | none=>show(srt _ _).length<=_;rw [(q9 _ _).length_eq];simp
 | some i=>show l.length<=_;omega
theorem KR (gk:Nat) (d:ac) (l:List BlobP) (w:World) (hk:w.cell? ⟨gk,0,aB⟩=aC (az ⟨d.toArray⟩)) (hg:gk<w.heap.size):Xd w l 170 (.pointer (aC ⟨gk,0,aB⟩)) (fun b=>b.dig==d):=by
 refine⟨fun _ _=>wm,fun b B cb W hb hbel hs=> ?_⟩;have hg1:gk<W.heap.size:=Nat.lt_of_lt_of_le hg hbel.size;have hk0:W.cell? ⟨gk,0,aB⟩=aC (az ⟨d.toArray⟩):=(hbel.cell (p:=⟨gk,0,aB⟩) hg).trans hk;generalize hs1:(⟨b.dig.toArray⟩:ByteArray)=s;generalize hs2:(⟨d.toArray⟩:ByteArray)=t at hk0;have hst:(b.dig==d)=(s.toList==t.toList):=by
  rw [<-hs1,<-hs2,ByteArray.toList_eq,ByteArray.toList_eq]
 dsimp only;rw [hst];have hb1:=wi W (aA #[az s,aw B b.data.length cb,ax ay b.aM,(.bool b.mark)] 88);have hk1:(W.alloc (aA #[az s,aw B b.data.length cb,ax ay b.aM,(.bool b.mark)] 88)).cell? ⟨gk,0,aB⟩=aC (az t):=(World.cell?_alloc_lt W _ ⟨gk,0,aB⟩ hg1).trans hk0;clear hst hs1 hs2;go_enter func170,ntmps170;go_wp2_with fail;go_ret;exact⟨rfl,hb1⟩
theorem ku (A:ae) (c:Nat) (l:List BlobP) (d:ac) (w:World) (hl:l.length<=1000000) (hA:Rw BlobS w A l) :
  Calls zZZ 145 #[aw A l.length c,az ⟨d.toArray⟩] w fun e w'=>e= .returned (xn (l.findIdx? (fun x=>x.dig==d)))/\Below w.heap.size w w':=by
 obtain⟨s,hs⟩:=wU (⟨d.toArray⟩:ByteArray)
 rw [<-hs];have hA1:=Arr.new w 9 [az s];have hb1:=wi w (aA #[az s] 9);have hA1':Arr (w.alloc (aA #[az s] 9)) w.heap.size 9 [az s]:=hA1;have hk:=hA1'.c0;have HI:=Qk A c l _ (.pointer (aC ⟨w.heap.size,0,aB⟩)) (fun x=>x.dig==d) (w.alloc (aA #[az s] 9)) hl (hA.below hb1) (KR w.heap.size d l _ (by rw [hk,hs]) hA1'.lt);clear hs hA hA1 hA1' hk;cases hf:l.findIdx? (fun x=>x.dig==d) with
 | none =>
  rw [hf]at HI;have HI:=sqH HI;go_enter func145,ntmps145;go_wp2_with fail;refine wV HI.o fun w2 hb2=>?_;dsimp only;have hb12:=wg hb1 hb2;go_wp2_with fail;go_ret2;exact⟨rfl,hb12⟩
 | some i =>
  rw [hf]at HI;have HI:=sqH HI;have hi:decide ((i:Int)<0)=false:=decide_eq_false wj;go_enter func145,ntmps145;go_wp2_with fail;refine wV HI.o fun w2 hb2=>?_;dsimp only;have hb12:=wg hb1 hb2;go_wp2_with fail;go_ret2;exact⟨rfl,hb12⟩
theorem X9 (A:ae) (c:Nat) (l:List BlobP) (D:ac) (DA:ae) (dc:Nat) (w:World) (hg:GoodB l) (hd:D.length<=300) (hlen:l.length<24\/(l.findIdx? (fun b=>b.dig==shaS D)).isSome=true) (hA:Rw BlobS w A l) (hD:Sl w 1 DA D.length dc (bys D)) :
  Calls zZZ 178 #[aw A l.length c,aw DA D.length dc] w fun e w' =>
   ∃v,e= .returned (.tuple #[v,az ⟨(shaS D).toArray⟩,ax ay 0])/\RwX BlobS 88 w' w.heap.size v (putB l D) (fun b=>b<w.heap.size)/\Below w.heap.size w w':=by
 have hgl:l.length<=24:=hg.len;obtain⟨HPL,HC1,HG1,HLN⟩:=sqJ4 (show ∀b∈l,b.data.length<=1000000 from fun b hb=>by have:=(hg.one b hb).2.1;omega) (vM A c l w hg hA) hg.ris hlen;have s1:decide ((D.length:Int)>300)=false:=decide_eq_false wj;have s2:decide ((300:Int)<(D.length:Int))=false:=decide_eq_false wj;have s3:decide (300<D.length)=false:=decide_eq_false wj;have hpl:(putB l D).length<=25:=by have:=xu l D;omega
 obtain⟨sd,hsd⟩:=wU (⟨(shaS D).toArray⟩:ByteArray)
 rw [<-hsd];have HSD:=sqH hsd;clear hg hlen hsd;go_enter func178,ntmps178;go_wp2_with fail;refine wV HC1.o fun w1 hb1=>?_;dsimp only;have hA1:=hA.below hb1;have hD1:=hD.below hb1;have HSM:=Xc DA D.length dc D w1 rfl wj hD1.cap hD1.rd;rw [<-HSD.o]at HSM;have HSM:=sqH HSM;clear hA hD;go_wp2_with fail;refine wV HSM.o fun w2 hb2=>?_;dsimp only;have hb12:=wg hb1 hb2;have hA2:=hA1.below hb2;have hD2:=hD1.below hb2;have HBS:=Jx A c l (shaS D) w2 wj HG1.o hA2;rw [<-HSD.o]at HBS;have HBS:=sqH HBS;clear hA1 hD1 hb1 hb2;go_wp2_with fail;refine HBS.o.mono ?_;rintro e_ w3 ⟨i,f,rfl,hil,P1,P2,hf,hb3⟩;dsimp only;have hb13:=wg hb12 hb3;have hA3:=hA2.below hb3;have hD3:=hD2.below hb3;obtain⟨HF,HP1,HP2,HCP⟩:=sqJ4 hf P1 P2 (vx A c l w3 wj (fun y hy=>HPL.o y hy) hA3);clear hA2 hD2 hf P1 P2 hb12 hb3;go_wp2_with fail;refine HCP.o.mono ?_;rintro e_ w4 ⟨g,rfl,hx4,hb4⟩;dsimp only;have hb14:=wg hb13 hb4;have hD4:=hD3.below hb4;have hw03:w.heap.size<=w3.heap.size:=hb13.size;have hw34:w3.heap.size<=w4.heap.size:=hb4.size;have hg3:w3.heap.size<=g/\g<w4.heap.size:=hx4.rwo.blk rfl;clear hA3 hD3 hb13 hb4;cases f with
 | true =>
  obtain⟨hi,he⟩:=HF.o.1 rfl;have HPE:=sqH (show putB l D=l by
   unfold putB;rw [jO (f:=fun y:BlobP=>y.dig) HP1.o hi he])
  have hx5:=(hx4.lower hw03).wider (N':=fun b=>b<w.heap.size) (fun b hb=> .inl (Nat.lt_of_lt_of_le hb hw03));clear he hx4;go_wp2_with fail;go_ret3;rw [HPE.o];exact⟨_,rfl,hx5,hb14⟩
 | false =>
  have hn:¬ ∃h:i<l.length,l[i].dig=shaS D:=fun h=>by have:=HF.o.2 h;cases this
  have hno:=JB (f:=fun y:BlobP=>y.dig) HG1.o HP1.o HP2.o hn;have hlt24:l.length<24:=by
   rcases HLN.o with h | h
   ·exact h
   ·rw [hno]at h;cases h
  have HPE:=sqH (show putB l D=l.take i++⟨shaS D,D,0,false⟩::l.drop i by
   unfold putB;rw [hno];exact(JC (f:=fun y:BlobP=>y.dig) (x:=⟨shaS D,D,0,false⟩) HG1.o HP1.o HP2.o hn rfl).symm)
  have t1:decide ((l.length:Int)≥24)=false:=decide_eq_false wj;have t2:decide ((24:Int)<=(l.length:Int))=false:=decide_eq_false wj;have t3:decide (24<=l.length)=false:=decide_eq_false wj;have HCN:=sqH (yc DA D.length dc D w4 rfl hD4.cap wj hD4.rd);clear hn HF hno;go_wp2_with fail;refine HCN.o.mono ?_;rintro e_ w5 ⟨v5,rfl,ho5,hb5⟩;dsimp only;obtain⟨A5,c5,rfl,hs5,hl5⟩:=vQ ho5;have hb15:=wg hb14 hb5;have hx5:=hx4.below hb5;have hsz5:w4.heap.size<=w5.heap.size:=hb5.size;have hV:Arr (w5.alloc (aA #[az sd,aw A5 D.length c5,ax ay 0,.bool false] 88)) w5.heap.size 88 (zZ ⟨shaS D,D,0,false⟩ A5 c5):=by
   rw [zZ,<-HSD.o];exact Arr.new w5 88 _
  have hba:=wi w5 (aA #[az sd,aw A5 D.length c5,ax ay 0,.bool false] 88);have hx6:=hx5.below hba;have hs6:=hs5.below hba;have hb06:=wg hb15 hba;have hbs6:w3.heap.size<=(w5.alloc (aA #[az sd,aw A5 D.length c5,ax ay 0,.bool false] 88)).heap.size:=by rw [World.size_alloc];omega
  clear hx4 hx5 hs5 ho5 hb5 hb15 hb14 hba hD4;go_wp2_with fail;generalize w5.alloc (aA #[az sd,aw A5 D.length c5,ax ay 0,.bool false] 88)=w6 at *
  have HIN:=sqH (KY l g i ⟨shaS D,D,0,false⟩ A5 c5 w5.heap.size 1 w6 w3.heap.size (fun b=>b<w3.heap.size) hil wj hbs6 hx6 hV ⟨A5,c5,rfl,hs6⟩ (fun b hb hle=>by
   obtain⟨a,e1,e2⟩:=Zt hle;have:=hl5 a e1;rcases hb with hb | hb<;>omega))
  clear hV hx6 hs6 hbs6;refine HIN.o.mono ?_;rintro e_ w8 ⟨v8,rfl,hx8,hg8⟩;dsimp only;have hb08:=hb06.grown hg8 hb06.size (fun k hk=>by cases hk;exact Nat.le_trans hw03 hg3.1);rw [show l.take i++⟨shaS D,D,0,false⟩::l.drop i=putB l D from HPE.o.symm]at hx8;have HCL:=sqH (YG v8 (putB l D) w8 w3.heap.size _ wj hx8);obtain⟨A8,c8,rfl,_,_,_⟩:=hx8.rwo.rows;clear hx8 hg8 hb06;go_wp2_with fail;refine HCL.o.mono ?_;rintro e_ w9 ⟨v9,rfl,hx9,hb9⟩;dsimp only;have hb09:=wg hb08 hb9;have hw8:w.heap.size<=w8.heap.size:=hb08.size;have hx10:=(hx9.lower hw8).wider (N':=fun b=>b<w.heap.size) (fun b hb=> .inl (Nat.lt_of_lt_of_le hb hw03));clear hx9 hb9 hb08;go_wp2_with fail;go_ret3;exact⟨_,rfl,hx10,hb09⟩
theorem Qj (A:ae) (c:Nat) (l:List BlobP) (PA:ae) (pc:Nat) (ps:List PartP) (w:World) (hl:l.length<=1000000) (hp:ps.length<=1000000) (hA:Rw BlobS w A l) (hP:Rd w 3 PA ps.length (pcs ps)) :
  Calls zZZ 99 #[aw A l.length c,aw PA ps.length pc] w fun e w'=>e= .returned (ax ay (qL l ps:Int))/\Below w.heap.size w w':=by
 generalize hR:qL l ps=R;have HR0:=sqH hR;clear hR;go_enter func99,ntmps99;go_wp2_with fail;go_loopg [11] ps.length (fun gn i wr=>∃j:Nat,gn=ps.length - j/\i= ax ay j/\j<=ps.length/\qL l (ps.drop j)=R/\Below w.heap.size w wr)
 case atStart=>exact⟨0,rfl,rfl,wj,by rw [List.drop_zero];exact HR0.o,Below.refl _ _⟩
 case round =>
  obtain⟨j,hgk,rfl,hj,hrest,hbl⟩:=hrel;have HGK:=sqH hgk;have HRS:=sqH hrest;clear hgk hrest;by_cases hlt:j<ps.length
  ·have hcc:decide (j<ps.length)=true:=decide_eq_true hlt;obtain⟨b,off,rfl,hbb,hcell⟩:=(hP.below hbl).2 wj;have hj0:=wX j
   have hj1:(j:Int)<(ps.length:Int):=wj;have hat:=fun k (hk:k<3)=>yE ps j k hlt hk;have HDR:=sqH (show qL l (ps[j]::ps.drop (j+1))=R by rw [<-List.drop_eq_getElem_cons hlt];exact HRS.o);generalize ps[j]=p at *
   have c0:=hcell (j*3+0) _ (hat 0 wj);have c1:=hcell (j*3+1) _ (hat 1 wj);have c2:=hcell (j*3+2) _ (hat 2 wj);rw [Nat.add_zero]at c0;rw [show off+(j*3+1)=off+j*3+1 by omega]at c1;rw [show off+(j*3+2)=off+j*3+2 by omega]at c2
   try dsimp only [yv,List.getElem?_cons_zero,List.getElem?_cons_succ]at c0 c1 c2
   obtain⟨sn,hsn⟩:=wU (⟨p.name.toArray⟩:ByteArray)
   obtain⟨sp,hsp⟩:=wU (⟨p.dig.toArray⟩:ByteArray)
   rw [<-hsn]at c0;rw [<-hsp]at c1;have HSP:=sqH hsp;have hX:Arr (wr.alloc (aA #[az sn,az sp,ax ay p.size] 51)) wr.heap.size 51 [az sn,az sp,ax ay p.size]:=Arr.new wr 51 _;have hba:=wi wr (aA #[az sn,az sp,ax ay p.size] 51);have hb2:=wg hbl hba;have x1:=hX.c1;clear hat hcell hbl hba hsn hsp;go_wp2_with fail;generalize wr.alloc (aA #[az sn,az sp,ax ay p.size] 51)=w2 at *
   generalize wr.heap.size=gx at *
   clear c0 c1 c2 x1;have hA2:=hA.below hb2;have HFN:=ku A c l p.dig w2 hl hA2;rw [<-HSP.o]at HFN;cases hf:l.findIdx? (fun x=>x.dig==p.dig) with
   | none =>
    rw [hf,xn]at HFN;have HFN:=sqH HFN;have HE:=sqH (show R=5 by rw [<-HDR.o,qL,hf]);clear hf hA2;refine wV HFN.o fun w3 hb3=>?_;dsimp only;have hb23:=wg hb2 hb3;go_wp2_with fail;go_ret;rw [HE.o];exact⟨rfl,hb23⟩
   | some i =>
    obtain⟨hi,_,_⟩:=List.findIdx?_eq_some_iff_getElem.1 hf;rw [hf,xn]at HFN;have HFN:=sqH HFN;have HRR:=sqH (show R=if l[i].data.length=p.size then qL l (ps.drop (j+1)) else 4 by
     rw [<-HDR.o,qL,hf];show(if (match l[i]? with | some b=>b.data.length | none=>0)=p.size then _ else _)=_;rw [List.getElem?_eq_getElem hi])
    clear hf;refine wV HFN.o fun w3 hb3=>?_;dsimp only;have hb23:=wg hb2 hb3;have hX3:=hX.below hb3;obtain⟨b',off',B,cb,rfl,hbb',d0,d1,d2,d3,_⟩:=(hA2.below hb3).blob_at i hi;have hi0:=wX i
    have hi1:(i:Int)<(l.length:Int):=wj;have x2:=hX3.c2;generalize l[i].data.length=m at *
    clear hA2 hX hb2 hb3 d0 d2 d3;by_cases hm:m=p.size
    ·have hne:((m:Int) != (p.size:Int))=false:=by rw [bne_eq_false_iff_eq];omega
     have HN:=sqH (show qL l (ps.drop (j+1))=R by rw [HRR.o,if_pos hm]);go_wp2_with fail;go_quiet (fail);go_wp2_with fail;go_roundg (ps.length - (j+1))
     case measure=>exact wW HGK
     case rel=>exact⟨j+1,rfl,by go_num,wj,HN.o,zN hb23 _⟩
    ·have hne:((m:Int) != (p.size:Int))=true:=by rw [bne_iff_ne];omega
     have HN:=sqH (show R=4 by rw [HRR.o,if_neg hm]);go_wp2_with fail;go_quiet (fail);go_wp2_with fail;go_ret;rw [HN.o];exact⟨rfl,zN hb23 _⟩
  ·obtain rfl:j=ps.length:=by omega
   have hcc:decide (ps.length<ps.length)=false:=ws;have HE:=sqH (show R=0 by rw [<-HRS.o,List.drop_length,qL]);go_wp2_with fail;go_ret;rw [HE.o];exact⟨rfl,hbl⟩
theorem z4q (k:Int) (h:k=0\/k=1\/k=2) (w:World):(Instr.index 151 (.agg #[ax ay 0,ax ay 0,ax ay 0]) (ax ay k)).run zZZ w= .ok (ax ay 0) w:=by
 rcases h with rfl | rfl | rfl<;>kernel_rfl
theorem zI {u:Tmp} (h:fn.results=#[.cell p ty,.tmp u]) (tmps:Array Value) (w:World) (g:Nat) (t:TypeId) (cs:Array Value) (fr:Nat×Nat) (d:TypeDesc)
  (hp:tmps.getD p undef= .pointer (aC ⟨g,0,aB⟩)) (hg:w.heap[g]?=aC (.cells cs t fr))
  (hu:P.underlying ty=aC d) (hd:(match d with | .struct _ | .array _ _=>true | _=>false)=true) (hi:(P.info? ty).map (·.size)=aC cs.size) :
  (results fn tmps).run P w= .ok (.tuple #[.agg cs,tmps.getD u undef]) w:=by
 have hp':tmps[p]?.getD undef= .pointer (aC ⟨g,0,aB⟩):=by simpa using hp
 simp [results,h,hp',asAddr,run_loadVar_row w g t ty cs fr d hg hu hd hi]
theorem zA {u z:Tmp} (h:fn.results=#[.cell p ty,.tmp u,.tmp z]) (tmps:Array Value) (w:World) (g:Nat) (t:TypeId) (cs:Array Value) (fr:Nat×Nat) (d:TypeDesc)
  (hp:tmps.getD p undef= .pointer (aC ⟨g,0,aB⟩)) (hg:w.heap[g]?=aC (.cells cs t fr))
  (hu:P.underlying ty=aC d) (hd:(match d with | .struct _ | .array _ _=>true | _=>false)=true) (hi:(P.info? ty).map (·.size)=aC cs.size) :
  (results fn tmps).run P w= .ok (.tuple #[.agg cs,tmps.getD u undef,tmps.getD z undef]) w:=by
 have hp':tmps[p]?.getD undef= .pointer (aC ⟨g,0,aB⟩):=by simpa using hp
 simp [results,h,hp',asAddr,run_loadVar_row w g t ty cs fr d hg hu hd hi]
abbrev stV (v1 v2:Value) (s:StoP):Value:= .agg #[v1,v2,ax ay s.aH,ax ay s.aG]
structure OwSt (w:World) (base:Nat) (v1 v2:Value) (s:StoP) (N:ai):Prop where
 b:RwX BlobS 88 w base v1 s.aE (fun g=>N g\/v2.ownBlock=aC g)
 e:RwX EntS 109 w base v2 s.aF (fun g=>N g\/v1.ownBlock=aC g)
 ne:∀g,v1.ownBlock=aC g->v2.ownBlock≠aC g
theorem OwSt.below (h:OwSt w base v1 v2 s N) (hb:Below w.heap.size w w'):OwSt w' base v1 v2 s N:=⟨h.b.below hb,h.e.below hb,h.ne⟩
theorem OwSt.lower {base':Nat} (h:OwSt w base v1 v2 s N) (hb:base'<=base):OwSt w base' v1 v2 s N:=⟨h.b.lower hb,h.e.lower hb,h.ne⟩
theorem OwSt.wider {N':ai} (h:OwSt w base v1 v2 s N) (hN:∀b,N' b->N b\/w.heap.size<=b):OwSt w base v1 v2 s N' :=
 ⟨h.b.wider fun b hb=>hb.elim (fun h1=>(hN b h1).imp .inl id) (fun h1=> .inl (.inr h1)),h.e.wider fun b hb=>hb.elim (fun h1=>(hN b h1).imp .inl id) (fun h1=> .inl (.inr h1)),h.ne⟩
structure RdSt (w:World) (A:ae) (c:Nat) (B:ae) (d:Nat) (s:StoP):Prop where
 b:Rw BlobS w A s.aE
 e:Rw EntS w B s.aF
 bc:s.aE.length<=c
 bm:c<=maxLen
 ec:s.aF.length<=d
 em:d<=maxLen
theorem RdSt.below {B:ae} {c d:Nat} (h:RdSt w A c B d s) (hb:Below w.heap.size w w'):RdSt w' A c B d s:=⟨h.b.below hb,h.e.below hb,h.bc,h.bm,h.ec,h.em⟩
theorem OwSt.rows (h:OwSt w base v1 v2 s N):∃A c B d,v1= aw A s.aE.length c/\v2= aw B s.aF.length d/\RdSt w A c B d s:=by
 obtain⟨A,c,e1,h1,h2,h3⟩:=h.b.rwo.rows;obtain⟨B,d,e2,k1,k2,k3⟩:=h.e.rwo.rows;exact⟨A,c,B,d,e1,e2,h3,k3,h1,h2,k1,k2⟩
theorem zF (A:ae) (c:Nat) (B:ae) (d:Nat) (s:StoP) (w:World) (hg:GoodS s) (hr:RdSt w A c B d s) :
  Calls zZZ 51 #[.agg #[aw A s.aE.length c,aw B s.aF.length d,ax ay s.aH,ax ay s.aG]] w fun e w'=>e= .returned (ax ay 0)/\Below w.heap.size w w':=by
 have hlb:s.aE.length<=24:=hg.b.len;have hle:s.aF.length<=10:=hg.e.len;have hus:usd s.aE<=4000:=Nat.le_trans hg.used hg.aH;have hrm:=hg.aH;have hck:=hg.aG;obtain⟨w0,hw0⟩:=wU (w.alloc (aA #[aw A s.aE.length c,aw B s.aF.length d,ax ay s.aH,ax ay s.aG] 27))
 obtain⟨H,hH⟩:=wU w.heap.size
 have hS:Arr w0 H 27 [aw A s.aE.length c,aw B s.aF.length d,ax ay s.aH,ax ay s.aG]:=by rw [hw0,hH];exact Arr.new w 27 _
 have hb0:Below w.heap.size w w0:=by rw [hw0];exact(Below.refl _ _).alloc ab _
 have hA0:=hr.b.below hb0;have hE0:=hr.e.below hb0;have HSB:=sqH (show ∀W,Below w0.heap.size w0 W->wC W H (aw A s.aE.length c) (aw B s.aF.length d) (ax ay s.aH) from fun W h =>
  sqC3 (hS.below h))
 have HCB:=sqH (fun W (h:Below w0.heap.size w0 W)=>vM A c s.aE W hg.b (hA0.below h));have HCE:=sqH (fun W (h:Below w0.heap.size w0 W)=>xf B d s.aF W hg.e (hE0.below h));have HCF:=sqH (show ∀W,Below w0.heap.size w0 W->Calls zZZ 98 #[aw A s.aE.length c,ax ay s.aH,ax ay 0] W fun e w'=>e= .returned (ax ay 0)/\Below W.heap.size W w' from fun W h=>by
  have:=Qg A c s.aE s.aH 0 W wj wj hrm wj (hA0.below h);rw [if_pos (by have:=hg.used;omega)]at this;exact this)
 have HEN:=sqH (show ∀x∈s.aF,x.aK<=s.aG/\qL s.aE x.aL=0/\x.aL.length<=8 from fun x hx =>
  ⟨(hg.ent x hx).1,ZJ hg.b.ris (hg.ent x hx).2,(zk (hg.e.one x hx).2.1).1⟩)
 have ck1:decide ((s.aG:Int)<0)=false:=decide_eq_false wj;have ck2:decide ((s.aG:Int)>1099511627776)=false:=decide_eq_false wj;have ck3:decide ((1099511627776:Int)<(s.aG:Int))=false:=decide_eq_false wj;have ck4:decide (1099511627776<s.aG)=false:=decide_eq_false wj;clear hg hr;go_enter func51,ntmps51;go_wp2_with fail;rw [<-hw0];rw [<-hH];clear hw0;have HH:=sqH hH;clear hH;refine wp_region_held_drew (S:=(fun w'=>wC w' H (aw A s.aE.length c) (aw B s.aF.length d) (ax ay s.aH))) wm ?_ (fun hHeld=> ?_)
 ·exact HSB.o _ (Below.refl _ w0).drew
 have hB:=(Below.refl w0.heap.size w0).drew;generalize w0.drew=wn0 at *
 refine wM 0 ?_;refine wM 1 ?_;refine wM 3 ?_;refine wM 4 ?_;refine wM 6 ?_;refine wM 7 ?_;refine wM 8 ?_;refine wM 9 ?_;refine wM 12 ?_;refine wQ 2 fun K hK=>?_;go_simp;refine(HCB.o wn0 hB).mono ?_;rintro e5 w5 ⟨rfl,hb5⟩;dsimp only;refine ka hK ?_ (Below wn0.heap.size wn0) (fun W=>True) ?_ ?_ (fun wn1 hHeld hst hnew=> ?_)
 ·(exact HSB.o _ (wg hB hb5))
 ·(exact hb5)
 ·(trivial)
 have hB:=wg hB hst;clear hst;clear hK K
 try simp only [sqP]
 refine wQ 5 fun K hK=>?_;go_simp;refine(HCE.o wn1 hB).mono ?_;rintro e5 w5 ⟨rfl,hb5⟩;dsimp only;refine ka hK ?_ (Below wn1.heap.size wn1) (fun W=>True) ?_ ?_ (fun wn2 hHeld hst hnew=> ?_)
 ·(exact HSB.o _ (wg hB hb5))
 ·(exact hb5)
 ·(trivial)
 have hB:=wg hB hst;clear hst;clear hK K
 try simp only [sqP]
 refine wQ 10 fun K hK=>?_;go_simp;refine(HCF.o wn2 hB).mono ?_;rintro e5 w5 ⟨rfl,hb5⟩;dsimp only;refine ka hK ?_ (Below wn2.heap.size wn2) (fun W=>True) ?_ ?_ (fun wn3 hHeld hst hnew=> ?_)
 ·(exact HSB.o _ (wg hB hb5))
 ·(exact hb5)
 ·(trivial)
 have hB:=wg hB hst;clear hst;clear hK K
 refine wM 11 ?_;refine wpAnyH_done wm ?_ _;dsimp only [Exit.then];clear hHeld;have hb1:=wg hb0 hB;have hS1:=hS.below hB;have hA1:=hA0.below hB;have hE1:=hE0.below hB;clear hB hS hA0 hE0 hb0;generalize wn3=w1 at *
 go_wp2_with fail;go_loopg [19] 3 (fun gn i wr=>∃j:Int,i= ax ay j/\(j=0\/j=1\/j=2\/j=3)/\gn=(3 - j).toNat/\wr=w1)
 case atStart=>exact⟨0,rfl,wj,rfl,rfl⟩
 case round =>
  obtain⟨j,rfl,hj,hgn,hwr⟩:=hrel;subst hwr;have ix0:=z4q 0 wj wr;have ix1:=z4q 1 wj wr;have ix2:=z4q 2 wj wr;rcases hj with rfl | rfl | rfl | rfl
  ·go_wp2_with fail;go_roundg 2
   case measure=>omega
   case rel=>exact⟨1,rfl,wj,rfl,rfl⟩
  ·go_wp2_with fail;go_roundg 1
   case measure=>omega
   case rel=>exact⟨2,rfl,wj,rfl,rfl⟩
  ·go_wp2_with fail;go_roundg 0
   case measure=>omega
   case rel=>exact⟨3,rfl,wj,rfl,rfl⟩
  ·clear hgn ix0 ix1 ix2;generalize wr=wr0 at *
   have d3:=hS1.c3;have d1:=hS1.c1;go_wp2_with fail;clear d3 d1;go_loopg [37] s.aF.length (fun gn i wr=>∃j:Nat,gn=s.aF.length - j/\i= ax ay j/\j<=s.aF.length/\Below wr0.heap.size wr0 wr)
   case atStart=>exact⟨0,rfl,rfl,wj,Below.refl _ _⟩
   case round =>
    obtain⟨j,hgk,rfl,hj,hbl⟩:=hrel;have HGK:=sqH hgk;clear hgk;by_cases hlt:j<s.aF.length
    ·have hcc:decide (j<s.aF.length)=true:=decide_eq_true hlt;obtain⟨b,off,PB,cb,rfl,hbb,c0,c1,c2,c3,hs⟩:=(hE1.below hbl).ent_at j hlt;have hj0:=wX j
     have hj1:(j:Int)<(s.aF.length:Int):=wj;obtain⟨g1,g2,g3⟩:=HEN.o s.aF[j] (List.getElem_mem hlt);have HG2:=sqH g2;generalize s.aF[j]=x at *
     obtain⟨sx,hsx⟩:=wU (⟨x.key.toArray⟩:ByteArray)
     rw [<-hsx]at c0;have st1:decide ((x.aK:Int)>(s.aG:Int))=false:=decide_eq_false wj;have st2:decide ((s.aG:Int)<(x.aK:Int))=false:=decide_eq_false wj;have st3:decide (s.aG<x.aK)=false:=decide_eq_false wj;have hX:Arr (wr.alloc (aA #[az sx,aw PB x.aL.length cb,ax ay x.aM,ax ay x.aK] 109)) wr.heap.size 109 [az sx,aw PB x.aL.length cb,ax ay x.aM,ax ay x.aK]:=Arr.new wr 109 _;have hba:=wi wr (aA #[az sx,aw PB x.aL.length cb,ax ay x.aM,ax ay x.aK] 109);have hbl2:=wg hbl hba;have hs2:=hs.below hba;have hS2:=hS1.below hbl2;have hA2:=hA1.below hbl2;have x1:=hX.c1;have x3:=hX.c3;have y0:=hS2.c0;have y3:=hS2.c3;clear hsx hs hba hbl g2;go_wp2_with fail;generalize wr.alloc (aA #[az sx,aw PB x.aL.length cb,ax ay x.aM,ax ay x.aK] 109)=w2 at *
     generalize wr.heap.size=gx at *
     clear c0 c1 c2 c3 x1 x3 y0 y3;have HHV:=Qj A c s.aE PB cb x.aL w2 wj wj hA2 hs2.rd;rw [HG2.o]at HHV;have HHV:=sqH HHV;clear hA2 hs2 hS2 hX;refine wV HHV.o fun w3 hb3=>?_;dsimp only;have hbl3:=wg hbl2 hb3;go_wp2_with fail;go_roundg (s.aF.length - (j+1))
     case measure=>exact wW HGK
     case rel=>exact⟨j+1,rfl,by go_num,wj,hbl3⟩
    ·obtain rfl:j=s.aF.length:=by omega
     have hcc:decide (s.aF.length<s.aF.length)=false:=ws;go_wp2_with fail;go_ret;exact⟨rfl,wg hb1 hbl⟩
theorem OwSt.set (h:OwSt w base v1 v2 s N) (hg:g<base) (hN:N g) (u:Value):OwSt (w.setCell ⟨g,k,aB⟩ u) base v1 v2 s N:=⟨h.b.set hg (.inl hN) u,h.e.set hg (.inl hN) u,h.ne⟩
theorem qM (A:ae) (c:Nat) (B:ae) (d:Nat) (s:StoP) (w:World) (hl:s.aE.length<=100000) (he:s.aF.length<=100000) (hd:∀b∈s.aE,b.data.length<=1000000) (hp:∀x∈s.aF,x.aL.length<=1000000) (hr:RdSt w A c B d s) :
  Calls zZZ 52 #[.agg #[aw A s.aE.length c,aw B s.aF.length d,ax ay s.aH,ax ay s.aG]] w fun e w'=>∃g1 g2,e= .returned (.agg #[aw (aC ⟨g1,0,aB⟩) s.aE.length s.aE.length,aw (aC ⟨g2,0,aB⟩) s.aF.length s.aF.length,ax ay s.aH,ax ay s.aG])/\OwSt w' w.heap.size (aw (aC ⟨g1,0,aB⟩) s.aE.length s.aE.length) (aw (aC ⟨g2,0,aB⟩) s.aF.length s.aF.length) s (fun b=>b<w.heap.size)/\Below w.heap.size w w':=by
 obtain⟨w0,hw0,hS,hR,hb0⟩:=zY w 27 [aw A s.aE.length c,aw B s.aF.length d,ax ay s.aH,ax ay s.aG] [aw aB 0 0,aw aB 0 0,ax ay 0,ax ay 0];obtain⟨H,hH⟩:=wU w.heap.size
 have hA0:=hr.b.below hb0;have hE0:=hr.e.below hb0;rw [<-hH]at hS hR hb0 ⊢
 have hHl:H<w0.heap.size:=hS.lt;have hHr:H+1<w0.heap.size:=hR.lt;have HSB:=sqH (show ∀W,Below w0.heap.size w0 W->W.cell? ⟨H,1,aB⟩=aC (aw B s.aF.length d) from fun W h=>(hS.below h).c1);have HC0:=sqH (show ∀W,Below w0.heap.size w0 W->W.cell? ⟨H,0,aB⟩=aC (aw A s.aE.length c) from fun W h=>(hS.below h).c0);have HCB:=sqH (show ∀W,Below w0.heap.size w0 W->Calls zZZ 100 #[aw A s.aE.length c] W fun e w'=>∃g,e= .returned (aw (aC ⟨g,0,aB⟩) s.aE.length s.aE.length)/\RwX BlobS 88 w' w0.heap.size (aw (aC ⟨g,0,aB⟩) s.aE.length s.aE.length) s.aE (fun b=>b<w0.heap.size)/\Below W.heap.size W w' from fun W h =>
  (vx A c s.aE W hl hd (hA0.below h)).mono fun e w' ⟨g,h1,h2,h3⟩=>⟨g,h1,(h2.lower h.size).wider (fun b hb=> .inl (Nat.lt_of_lt_of_le hb h.size)),h3⟩)
 have HCE:=sqH (show ∀W v1,Below w0.heap.size w0 W->RwX BlobS 88 W w0.heap.size v1 s.aE (fun b=>b<w0.heap.size)->Calls zZZ 101 #[aw B s.aF.length d] W fun e w'=>∃g,e= .returned (aw (aC ⟨g,0,aB⟩) s.aF.length s.aF.length)/\OwSt w' w0.heap.size v1 (aw (aC ⟨g,0,aB⟩) s.aF.length s.aF.length) s (fun b=>b<w0.heap.size)/\Below W.heap.size W w' from fun W v1 h hv =>
  (QW B d s.aF W he hp (hE0.below h)).mono fun e w' ⟨g,h1,h2,h3⟩=>by
   have hge:W.heap.size<=g:=(h2.rwo.blk rfl).1;refine⟨g,h1,⟨(hv.wider (fun b hb=>hb.imp id (fun e=>by cases e;exact hge))).below h3,(h2.lower h.size).wider (fun b hb=> .inl ?_),fun g' e1 e2=> ?_⟩,h3⟩
   ·rcases hb with hb | hb
    ·exact Nat.lt_of_lt_of_le hb h.size
    ·exact(hv.rwo.blk hb).2
   ·have:=(hv.rwo.blk e1).2;have e3:aC g=aC g':=e2;cases e3;omega)
 clear hr hd hp hA0 hE0;go_enter func52,ntmps52;go_wp2_with fail;rw [<-hw0];rw [<-hH];clear hw0 hH;refine yP 9 (S:=(fun w'=>w'.cell? ⟨H,1,aB⟩=aC (aw B s.aF.length d))) wm ?_ (fun hHeld=> ?_)
 ·exact HSB.o _ (Below.refl _ w0).drew
 have hB:=(Below.refl w0.heap.size w0).drew;generalize w0.drew=wn0 at *
 refine wN 0 ?_;refine wN 3 ?_;refine wN 4 ?_;refine wR 1 fun K hK=>?_;have c0:=HC0.o _ hB;go_simp;refine z4e hK ?_ (Below wn0.heap.size wn0) (fun W=>True) ?_ ?_ (fun wn1 hHeld hst hnew=> ?_)
 ·(exact HSB.o _ (hB.trans (Below.mono (show Below wn0.heap.size wn0 _ from by(first | exact hb5 | exact Below.refl _ _)) hB.size)))
 ·(first | exact hb5 | exact Below.refl _ _)
 ·(trivial)
 have hB:=wg hB hst;clear hst;clear hK K
 try simp only [sqP]
 refine wR 2 fun K hK=>?_;go_simp;refine(HCB.o wn1 hB).mono ?_;rintro e5 w5 ⟨g1,rfl,hx5,hb5⟩;dsimp only;refine z4e hK ?_ (Below wn1.heap.size wn1) (fun W=>RwX BlobS 88 W w0.heap.size (aw (aC ⟨g1,0,aB⟩) s.aE.length s.aE.length) s.aE (fun b=>b<w0.heap.size)) ?_ ?_ (fun wn2 hHeld hst hnew=> ?_)
 ·(exact HSB.o _ (hB.trans (Below.mono (show Below wn1.heap.size wn1 _ from by(first | exact hb5 | exact Below.refl _ _)) hB.size)))
 ·(first | exact hb5 | exact Below.refl _ _)
 ·(exact hx5)
 have hB:=wg hB hst;have hv1:=hnew;clear hnew;clear hst;clear hK K
 refine wN 6 ?_;refine wR 5 fun K hK=>?_;go_simp;refine(HCE.o wn2 _ hB hv1).mono ?_;rintro e5 w5 ⟨g2,rfl,hx5,hb5⟩;dsimp only;refine z4e hK ?_ (Below wn2.heap.size wn2) (fun W=>OwSt W w0.heap.size (aw (aC ⟨g1,0,aB⟩) s.aE.length s.aE.length) (aw (aC ⟨g2,0,aB⟩) s.aF.length s.aF.length) s (fun b=>b<w0.heap.size)) ?_ ?_ (fun wn3 hHeld hst hnew=> ?_)
 ·(exact HSB.o _ (hB.trans (Below.mono (show Below wn2.heap.size wn2 _ from by(first | exact hb5 | exact Below.refl _ _)) hB.size)))
 ·(first | exact hb5 | exact Below.refl _ _)
 ·(exact hx5)
 have hB:=wg hB hst;have ho:=hnew;clear hnew hv1;clear hst;clear hK K
 try simp only [sqP]
 refine wR 7 fun K hK=>?_;have fz:=(hS.below hB).frozen 0;have cz:=(hS.below hB).c0;go_simp;clear fz cz;refine z4e hK ?_ (fun W=>Arr W H 27 [(aw (aC ⟨g1,0,aB⟩) s.aE.length s.aE.length),aw B s.aF.length d,ax ay s.aH,ax ay s.aG]/\Arr W (H+1) 27 [aw aB 0 0,aw aB 0 0,ax ay 0,ax ay 0]) (fun W=>OwSt W w0.heap.size (aw (aC ⟨g1,0,aB⟩) s.aE.length s.aE.length) (aw (aC ⟨g2,0,aB⟩) s.aF.length s.aF.length) s (fun b=>b<w0.heap.size)/\Below H w W) ?_ ?_ (fun wn4 hHeld hF hG=> ?_)
 ·exact((hS.below hB).set (k:=0) ws (aw (aC ⟨g1,0,aB⟩) s.aE.length s.aE.length)).c1
 ·exact⟨(hS.below hB).set (k:=0) ws (aw (aC ⟨g1,0,aB⟩) s.aE.length s.aE.length),(hR.below hB).other wj (aw (aC ⟨g1,0,aB⟩) s.aE.length s.aE.length)⟩
 ·exact⟨ho.set hHl hHl (aw (aC ⟨g1,0,aB⟩) s.aE.length s.aE.length),(hb0.trans (hB.mono (Nat.le_of_lt hHl))).setCell (p:=⟨H,0,aB⟩) ab (aw (aC ⟨g1,0,aB⟩) s.aE.length s.aE.length)⟩
 clear hB ho;clear hK K
 refine wN 8 ?_;refine kj (rs:= [9]) wm ws ?_;refine zM.last (o:=_) rfl (fun K hK=> ?_);have fz:=hF.1.frozen 1;have cz:=hF.1.c1;go_simp;clear fz cz;refine z5i hK ?_;clear hK K
 try simp only [sqP]
 refine QQ wm ?_ _;dsimp only [Exit.then];clear hHeld;obtain⟨hS7,hR7⟩:=hF;obtain⟨ho7,hb7⟩:=hG;have hS9:Arr (wn4.setCell ⟨H,1,aB⟩ (aw (aC ⟨g2,0,aB⟩) s.aF.length s.aF.length)) H 27 [(aw (aC ⟨g1,0,aB⟩) s.aE.length s.aE.length),(aw (aC ⟨g2,0,aB⟩) s.aF.length s.aF.length),ax ay s.aH,ax ay s.aG]:=hS7.set (k:=1) ws (aw (aC ⟨g2,0,aB⟩) s.aF.length s.aF.length);have hR9:=hR7.other (g':=H) (k:=1) wj (aw (aC ⟨g2,0,aB⟩) s.aF.length s.aF.length);have ho9:=ho7.set (k:=1) hHl hHl (aw (aC ⟨g2,0,aB⟩) s.aF.length s.aF.length);have hb9:=hb7.setCell (p:=⟨H,1,aB⟩) ab (aw (aC ⟨g2,0,aB⟩) s.aF.length s.aF.length);clear hS7 hR7 ho7 hb7 hS hR;generalize wn4.setCell ⟨H,1,aB⟩ (aw (aC ⟨g2,0,aB⟩) s.aF.length s.aF.length)=w9 at *
 obtain⟨z0,z1,z2,z3⟩:=sqC4 hS9;obtain⟨f0,f1,f2,f3⟩:=sqF4 hR9;obtain⟨y0,y1,y2,y3⟩:=sqC4 hR9;have hfin:=hR9.all4 (aw (aC ⟨g1,0,aB⟩) s.aE.length s.aE.length) (aw (aC ⟨g2,0,aB⟩) s.aF.length s.aF.length) (ax ay s.aH) (ax ay s.aG);have ho10:=(((ho9.set (g:=H+1) (k:=0) wj wj (aw (aC ⟨g1,0,aB⟩) s.aE.length s.aE.length)).set (g:=H+1) (k:=1) wj wj (aw (aC ⟨g2,0,aB⟩) s.aF.length s.aF.length)).set (g:=H+1) (k:=2) wj wj (ax ay s.aH)).set (g:=H+1) (k:=3) wj wj (ax ay s.aG);have hb10:=(((hb9.setCell (p:=⟨H+1,0,aB⟩) ww (aw (aC ⟨g1,0,aB⟩) s.aE.length s.aE.length)).setCell (p:=⟨H+1,1,aB⟩) ww (aw (aC ⟨g2,0,aB⟩) s.aF.length s.aF.length)).setCell (p:=⟨H+1,2,aB⟩) ww (ax ay s.aH)).setCell (p:=⟨H+1,3,aB⟩) ww (ax ay s.aG);clear hR9 ho9 hb9 hS9;go_wp2_with fail;clear z0 z1 z2 z3 f0 f1 f2 f3 y0 y1 y2 y3;refine bodyPost_ret (results_cell_row rfl _ _ (H+1) _ _ _ _ wu hfin underlying27 rfl wm) rfl ?_;exact⟨g1,g2,rfl,(ho10.lower (base':=H) wj).wider (N':=fun b=>b<H) (fun b hb=> .inl wj),hb10⟩
section
variable {w w6 w7 w8:World} {base:Nat} {v1 v1' v2 v2':Value} {s:StoP} {N:ai}
theorem OwSt.mixB {l:List BlobP} (hv:RwX BlobS 88 w6 base v1 l N) (hN:∀b,N b->b<w6.heap.size) (hb:base<=w6.heap.size) (h:OwSt w7 w6.heap.size v1' v2 s (fun b=>b<w6.heap.size)) (hbl:Below w6.heap.size w6 w7):OwSt w7 base v1 v2 { s with aE:=l } N :=
 ⟨(hv.wider (fun b hb=>hb.imp id (fun e=>(h.e.rwo.blk e).1))).below hbl,(h.e.lower hb).wider (fun b hb=> .inl (.inl (hb.elim (hN b) (fun e=>(hv.rwo.blk e).2)))),fun g e1 e2=>by
  have:=(hv.rwo.blk e1).2;have:=(h.e.rwo.blk e2).1;omega⟩
theorem OwSt.mixE (h:OwSt w7 base v1 v2 s N) (hN:∀b,N b->b<w7.heap.size) (hv:RwX EntS 109 w8 w7.heap.size v2' l (fun b=>b<w7.heap.size)) (hbs:base<=w7.heap.size) (hbl:Below w7.heap.size w7 w8):OwSt w8 base v1 v2' { s with aF:=l } N:=by
 have h1:∀g,v2'.ownBlock=aC g->w7.heap.size<=g:=fun g e=>(hv.rwo.blk e).1;have h2:∀g,v1.ownBlock=aC g->g<w7.heap.size:=fun g e=>(h.b.rwo.blk e).2;refine⟨RwX.below (RwX.wider h.b (N':=fun g=>N g\/v2'.ownBlock=aC g) fun b hb=> ?_) hbl,RwX.wider (hv.lower hbs) (N':=fun g=>N g\/v1.ownBlock=aC g) fun b hb=> .inl ?_,fun g e1 e2=> ?_⟩
 ·rcases hb with hb | hb
  ·exact .inl (.inl hb)
  ·exact .inr (h1 b hb)
 ·rcases hb with hb | hb
  ·exact hN b hb
  ·exact h2 b hb
 ·have:=h1 g e2;have:=h2 g e1;omega
theorem OwSt.setX (h:OwSt w base v1 v2 s N) (hN:N g) (h1:v1.ownBlock≠aC g) (h2:v2.ownBlock≠aC g) (u:Value):OwSt (w.setCell ⟨g,k,aB⟩ u) base v1 v2 s N:=by
 have hg:=zT w g k u;have e1:∀b,aC g=aC b->v1.ownBlock≠aC b:=fun b e=>by rw [<-e];exact h1
 have e2:∀b,aC g=aC b->v2.ownBlock≠aC b:=fun b e=>by rw [<-e];exact h2
 have e3:∀b,aC g=aC b->N b:=fun b e=>by cases e;exact hN
 exact⟨RwX.other h.b hg e1 fun b e=> .inl (e3 b e),RwX.other h.e hg e2 fun b e=> .inl (e3 b e),h.ne⟩
theorem OwSt.clk (h:OwSt w base v1 v2 s N) (r k:Nat):OwSt w base v1 v2 { s with aH:=r,aG:=k } N:=⟨h.b,h.e,h.ne⟩
theorem RwX.set1 {α:Type} {S:Shp α} {y:α} {l:List α} (h:RwX S e w base (aw (aC ⟨g,0,aB⟩) l.length cap) l N) (hi:i<l.length) (hj:j<S.size)
  (hR:∀W cs,S.R W l[i] cs->S.R W y (cs.set j u)) (hlead:∀b,¬leads b [u]) :
  (∃v0,w.cell? ⟨g,i*S.size+j,aB⟩=aC v0)/\w.frozen? ⟨g,i*S.size+j,aB⟩=false /\
   RwX S e (w.setCell ⟨g,i*S.size+j,aB⟩ u) base (aw (aC ⟨g,0,aB⟩) l.length cap) (l.set i y) N/\w.grownBy (w.setCell ⟨g,i*S.size+j,aB⟩ u) (aC g):=by
 obtain⟨h1,h2,h3,h4⟩:=RwO.set1 (S:=S.off N) (u:=u) (y:=y) h.off hi hj (fun W cs h=>⟨hR W cs h.1,fun b hb ⟨a,n,c,hm,e2⟩=>by
  rcases List.mem_or_eq_of_mem_set hm with h5 | h5
  ·exact h.2 b hb ⟨a,n,c,h5,e2⟩
  ·exact hlead b ⟨a,n,c,by simp [h5],e2⟩⟩) (fun b hb=>absurd hb (hlead b))
 exact⟨h1,h2,h3.on,h4⟩
theorem ym (z:Int) (b:Nat):¬leads b [ax ay z]:=fun ⟨a,n,c,hm,_⟩=>by simp at hm
theorem kM (z:Bool) (b:Nat):¬leads b [.bool z]:=fun ⟨a,n,c,hm,_⟩=>by simp at hm
theorem OwSt.setB {y:BlobP} (h:OwSt w base (aw (aC ⟨g,0,aB⟩) s.aE.length cap) v2 s N) (hi:i<s.aE.length) (hj:j<4)
  (hR:∀W cs,BlobS.R W s.aE[i] cs->BlobS.R W y (cs.set j u)) (hlead:∀b,¬leads b [u]) :
  (∃v0,w.cell? ⟨g,i*4+j,aB⟩=aC v0)/\w.frozen? ⟨g,i*4+j,aB⟩=false /\
   OwSt (w.setCell ⟨g,i*4+j,aB⟩ u) base (aw (aC ⟨g,0,aB⟩) s.aE.length cap) v2 { s with aE:=s.aE.set i y } N/\w.grownBy (w.setCell ⟨g,i*4+j,aB⟩ u) (aC g):=by
 obtain⟨h1,h2,h3,h4⟩:=RwX.set1 (S:=BlobS) (u:=u) (y:=y) h.b hi hj hR hlead;refine⟨h1,h2,⟨h3,h.e.other h4 (fun b e1 e2=> ?_) (fun b e=> ?_),h.ne⟩,h4⟩
 ·cases e1;exact h.ne g rfl e2
 ·cases e;exact .inr rfl
theorem OwSt.setE (h:OwSt w base v1 (aw (aC ⟨g,0,aB⟩) s.aF.length cap) s N) (hi:i<s.aF.length) (hj:j<4)
  (hR:∀W cs,EntS.R W s.aF[i] cs->EntS.R W y (cs.set j u)) (hlead:∀b,¬leads b [u]) :
  (∃v0,w.cell? ⟨g,i*4+j,aB⟩=aC v0)/\w.frozen? ⟨g,i*4+j,aB⟩=false /\
   OwSt (w.setCell ⟨g,i*4+j,aB⟩ u) base v1 (aw (aC ⟨g,0,aB⟩) s.aF.length cap) { s with aF:=s.aF.set i y } N/\w.grownBy (w.setCell ⟨g,i*4+j,aB⟩ u) (aC g):=by
 obtain⟨h1,h2,h3,h4⟩:=RwX.set1 (S:=EntS) (u:=u) (y:=y) h.e hi hj hR hlead;refine⟨h1,h2,⟨h.b.other h4 (fun b e1 e2=> ?_) (fun b e=> ?_),h3,h.ne⟩,h4⟩
 ·cases e1;exact h.ne g e2 rfl
 ·cases e;exact .inr rfl
theorem Xq (b:BlobP) (n:Nat) (W:World) (cs:af) (h:BlobS.R W b cs):BlobS.R W { b with aM:=n } (cs.set 2 (ax ay n)):=by
 obtain⟨A,c,rfl,hs⟩:=h;exact⟨A,c,rfl,hs⟩
theorem vU (b:BlobP) (m:Bool) (W:World) (cs:af) (h:BlobS.R W b cs):BlobS.R W { b with mark:=m } (cs.set 3 (.bool m)):=by
 obtain⟨A,c,rfl,hs⟩:=h;exact⟨A,c,rfl,hs⟩
theorem UO (b:EntP) (n:Nat) (W:World) (cs:af) (h:EntS.R W b cs):EntS.R W { b with aM:=n } (cs.set 2 (ax ay n)):=by
 obtain⟨A,c,rfl,hs⟩:=h;exact⟨A,c,rfl,hs⟩
theorem XE (b:EntP) (n:Nat) (W:World) (cs:af) (h:EntS.R W b cs):EntS.R W { b with aK:=n } (cs.set 3 (ax ay n)):=by
 obtain⟨A,c,rfl,hs⟩:=h;exact⟨A,c,rfl,hs⟩
end
theorem Uy (g:Nat) (x0 x1 x2:Value) (z:Int) (w:World) (h0:0<=z) (hk:z<1099511627776) (hS:Arr w g 27 [x0,x1,x2,ax ay z]) :
  Calls zZZ 163 #[.pointer (aC ⟨g,0,aB⟩)] w fun e w'=>e= .returned (ax ay 0)/\w'=w.setCell ⟨g,3,aB⟩ (ax ay (z+1)):=by
 have c3:=hS.c3;have f3:=hS.frozen 3;have hne:(z==1099511627776)=false:=by rw [beq_eq_false_iff_ne];omega
 have hw:IntKind.i64.wrap (z+1)=z+1:=IntWalk.i64_in _ wj;clear hS;go_enter func163,ntmps163;go_wp2_with fail;go_ret;exact⟨rfl,rfl⟩
theorem Xi (g:Nat) (x0 x1 x2:Value) (k:Nat) (w:World) (hk:k<1099511627776) (hS:Arr w g 27 [x0,x1,x2,ax ay k]) :
  Calls zZZ 163 #[.pointer (aC ⟨g,0,aB⟩)] w fun e w'=>e= .returned (ax ay 0)/\w'=w.setCell ⟨g,3,aB⟩ (ax ay ((k+1:Nat):Int)):=by
 have hz:((k+1:Nat):Int)=(k:Int)+1:=wj;rw [hz];exact Uy g x0 x1 x2 (k:Int) w wj wj hS
theorem KT (A:ae) (c:Nat) (B:ae) (d:Nat) (s:StoP) (dg:ac) (i:Nat) (w:World) (hg:GoodS s) (hr:RdSt w A c B d s) (hi:i<s.aE.length) (hk:s.aE[i].dig=dg) :
  Calls zZZ 124 #[.agg #[aw A s.aE.length c,aw B s.aF.length d,ax ay s.aH,ax ay s.aG],az ⟨dg.toArray⟩] w fun e w' =>
   ∃v,e= .returned (.tuple #[v,ax ay 0])/\w'.ownsRow w.heap.size 5 1 v s.aE[i].data.length (bys s.aE[i].data)/\Below w.heap.size w w':=by
 have hlb:s.aE.length<=24:=hg.b.len;obtain⟨D,hD⟩:=wU (s.aE[i].data)
 rw [<-hD];have hdl:=(hg.b.one _ (List.getElem_mem hi)).2.1;rw [<-hD]at hdl;have HD:=sqH hD;clear hD;obtain⟨w0,hw0⟩:=wU (w.alloc (aA #[aw A s.aE.length c,aw B s.aF.length d,ax ay s.aH,ax ay s.aG] 27))
 have hb0:Below w.heap.size w w0:=by rw [hw0];exact(Below.refl _ _).alloc ab _
 have hr0:=hr.below hb0;obtain⟨H,hH⟩:=wU w.heap.size
 have hS:Arr w0 H 27 [aw A s.aE.length c,aw B s.aF.length d,ax ay s.aH,ax ay s.aG]:=by rw [hw0,hH];exact Arr.new w 27 _
 have HCK:=sqH (zF A c B d s w0 hg hr0);have HF:=sqH (show s.aE.findIdx? (fun x=>x.dig==dg)=aC i by
  obtain⟨j,hj,h1,h2⟩:=Vq (f:=fun b:BlobP=>b.dig) hg.b.ris (List.getElem_mem hi) hk;rw [h1];have:=List.pairwise_iff_getElem.1 hg.b.ris;rcases Nat.lt_trichotomy j i with h3 | h3 | h3
  ·have h4:=yV (this j i hj hi h3);rw [h2]at h4;exact absurd rfl h4
  ·rw [h3]
  ·have h4:=yV (this i j hi hj h3);rw [h2]at h4;exact absurd rfl h4)
 obtain⟨sd,hsd⟩:=wU (⟨dg.toArray⟩:ByteArray)
 rw [<-hsd];have HSD:=sqH hsd;rw [<-hH]at hb0 ⊢
 have hHl:H<w0.heap.size:=hS.lt;obtain⟨x0,x1,x2,x3⟩:=sqC4 hS;rw [hw0,hH]at x0 x1 x2 x3;clear hg hr hk hsd;go_enter func124,ntmps124;go_wp2_with fail;rw [<-hw0,<-hH];clear hw0 hH x0 x1 x2 x3;refine wV HCK.o fun w1 hb1=>?_;dsimp only;have hr1:=hr0.below hb1;have hS1:=hS.below hb1;have y0:=hS1.c0;have HFN:=ku A c s.aE dg w1 wj hr1.b;rw [HF.o,xn,<-HSD.o]at HFN;have HFN:=sqH HFN;clear hr0 hS;go_wp2_with fail;clear y0;refine wV HFN.o fun w2 hb2=>?_;dsimp only;have hc2:=wg hb1 hb2;have hb02:=hb0.trans (hc2.mono (Nat.le_of_lt hHl));have hsz2:H<=w2.heap.size:=Nat.le_trans (Nat.le_of_lt hHl) hc2.size;have hr2:=hr1.below hb2;have hS2:=hS1.below hb2;have y0:=hS2.c0;obtain⟨b,off,DB,cb,e1,hbb,d0,d1,d2,d3,hsl⟩:=hr2.b.blob_at i hi;have hi0:=wX i
 have hi1:(i:Int)<(s.aE.length:Int):=wj;rw [<-HD.o]at d1 hsl;have HCL:=sqH (yc DB D.length cb D w2 rfl hsl.cap wj hsl.rd);subst e1;clear hr1 hr2 hS1 hS2 hb2 hc2 d0 d2 d3 hsl;go_wp2_with fail;clear y0 d1;refine HCL.o.mono ?_;rintro e_ w3 ⟨v3,rfl,ho3,hb3⟩;dsimp only;have hb03:=hb02.trans (hb3.mono hsz2);have ho:=zb ho3 hsz2;clear ho3 hb3;go_wp2_with fail;go_ret2;exact⟨v3,rfl,ho,hb03⟩
theorem Zi (A:ae) (c:Nat) (B:ae) (d:Nat) (s:StoP) (dg:ac) (w:World) (hg:GoodS s) (hr:RdSt w A c B d s) (hk:∀b∈s.aE,b.dig≠dg) :
  Calls zZZ 124 #[.agg #[aw A s.aE.length c,aw B s.aF.length d,ax ay s.aH,ax ay s.aG],az ⟨dg.toArray⟩] w fun e w' =>
   e= .returned (.tuple #[aw aB 0 0,ax ay 5])/\Below w.heap.size w w':=by
 have hlb:s.aE.length<=24:=hg.b.len;obtain⟨w0,hw0⟩:=wU (w.alloc (aA #[aw A s.aE.length c,aw B s.aF.length d,ax ay s.aH,ax ay s.aG] 27))
 have hb0:Below w.heap.size w w0:=by rw [hw0];exact(Below.refl _ _).alloc ab _
 have hr0:=hr.below hb0;obtain⟨H,hH⟩:=wU w.heap.size
 have hS:Arr w0 H 27 [aw A s.aE.length c,aw B s.aF.length d,ax ay s.aH,ax ay s.aG]:=by rw [hw0,hH];exact Arr.new w 27 _
 have HCK:=sqH (zF A c B d s w0 hg hr0);have HF:=sqH (show s.aE.findIdx? (fun x=>x.dig==dg)=aB by
  rw [List.findIdx?_eq_none_iff];intro x hx;simp [hk x hx])
 obtain⟨sd,hsd⟩:=wU (⟨dg.toArray⟩:ByteArray)
 rw [<-hsd];have HSD:=sqH hsd;rw [<-hH]at hb0 ⊢
 have hHl:H<w0.heap.size:=hS.lt;obtain⟨x0,x1,x2,x3⟩:=sqC4 hS;rw [hw0,hH]at x0 x1 x2 x3;clear hg hr hk hsd;go_enter func124,ntmps124;go_wp2_with fail;rw [<-hw0,<-hH];clear hw0 hH x0 x1 x2 x3;refine wV HCK.o fun w1 hb1=>?_;dsimp only;have hr1:=hr0.below hb1;have hS1:=hS.below hb1;have y0:=hS1.c0;have HFN:=ku A c s.aE dg w1 wj hr1.b;rw [HF.o,xn,<-HSD.o]at HFN;have HFN:=sqH HFN;clear hr0 hS;go_wp2_with fail;clear y0;refine wV HFN.o fun w2 hb2=>?_;dsimp only;have hc2:=wg hb1 hb2;have hb02:=hb0.trans (hc2.mono (Nat.le_of_lt hHl));clear hr1 hS1 hb1 hb2 hc2;go_wp2_with fail;go_ret2;exact⟨rfl,hb02⟩
theorem Y0 (A:ae) (c:Nat) (B:ae) (d:Nat) (s:StoP) (D:ac) (DA:ae) (dc:Nat) (w:World) (hg:GoodS s) (hr:RdSt w A c B d s) (hd:D.length<=300) (hlen:s.aE.length<24\/(s.aE.findIdx? (fun b=>b.dig==shaS D)).isSome=true) (hus:usd (putB s.aE D)<=s.aH) (hD:Sl w 1 DA D.length dc (bys D)) :
  Calls zZZ 158 #[.agg #[aw A s.aE.length c,aw B s.aF.length d,ax ay s.aH,ax ay s.aG],aw DA D.length dc] w fun e w' =>
   ∃v1 v2,e= .returned (.tuple #[.agg #[v1,v2,ax ay s.aH,ax ay s.aG],az ⟨(shaS D).toArray⟩,ax ay 0])/\OwSt w' w.heap.size v1 v2 (zH s D) (fun b=>b<w.heap.size)/\Below w.heap.size w w':=by
 have hlb:s.aE.length<=24:=hg.b.len;have hle:s.aF.length<=10:=hg.e.len;have hrm:=hg.aH;have hpl:=xu s.aE D;have HGB:=sqH hg.b;obtain⟨sd,hsd⟩:=wU (⟨(shaS D).toArray⟩:ByteArray)
 rw [<-hsd];obtain⟨HSD,HLN,HDD⟩:=sqJ3 hsd hlen (fun W (h:Below w.heap.size w W)=>hD.below h);clear hD hsd hlen;obtain⟨w0,hw0,hS,hR,hb0⟩:=zY w 27 [aw A s.aE.length c,aw B s.aF.length d,ax ay s.aH,ax ay s.aG] [aw aB 0 0,aw aB 0 0,ax ay 0,ax ay 0];have hr0:=hr.below hb0;obtain⟨H,hH⟩:=wU w.heap.size
 have HCK:=sqH (zF A c B d s w0 hg hr0);rw [<-hH]at hS hR hb0 ⊢
 have hHl:H<w0.heap.size:=hS.lt;have hHr:H+1<w0.heap.size:=hR.lt;obtain⟨x0,x1,x2,x3⟩:=sqC4 hS;rw [hw0,hH]at x0 x1 x2 x3;obtain⟨HPL,HQL,HG⟩:=sqJ3 (show ∀b∈s.aE,b.data.length<=1000000 from fun b hb=>by have:=(hg.b.one b hb).2.1;omega) (show ∀x∈s.aF,x.aL.length<=1000000 from fun x hx=>by have:=(zk (hg.e.one x hx).2.1).1;omega) hg;clear hg hr;go_enter func158,ntmps158;go_wp2_with fail;rw [<-hw0,<-hH];have HH:=sqH hH;clear hw0 hH x0 x1 x2 x3;have hD0:=HDD.o w0 (by rw [<-HH.o];exact hb0);refine wV HCK.o fun w1 hb1=>?_;dsimp only;have hr1:=hr0.below hb1;have hS1:=hS.below hb1;have y0:=hS1.c0;have HPT:=X9 A c s.aE D DA dc w1 HGB.o hd HLN.o hr1.b (hD0.below hb1);rw [<-HSD.o]at HPT;have HPT:=sqH HPT;clear hr0 hS hD0;go_wp2_with fail;clear y0;refine HPT.o.mono ?_;rintro e_ w2 ⟨v2,rfl,hx2,hb2⟩;dsimp only;have hc2:=wg hb1 hb2;have hr2:=hr1.below hb2;have hS2:=hS1.below hb2;obtain⟨A2,c2,e2,h21,h22,hR2⟩:=hx2.rwo.rows;subst e2;have y2:=hS2.c2;have HFT:=Qg A2 c2 (putB s.aE D) s.aH 0 w2 wj wj hrm wj hR2;rw [if_pos wj]at HFT;have HFT:=sqH HFT;clear hr1 hS1 hR2;go_wp2_with fail;clear y2;refine wV HFT.o fun w3 hb3=>?_;dsimp only;have hc3:=wg hc2 hb3;have hr3:=hr2.below hb3;have hS3:=hS2.below hb3;have hx3:=hx2.below hb3;obtain⟨z0,z1,z2,z3⟩:=sqC4 hS3;have HCP:=sqH (qM A c B d s w3 wj wj HPL.o HQL.o hr3);have q12:=hb2.size;have q23:=hb3.size;clear hr2 hS2 hx2 hb2 hb3 hr3;go_wp2_with fail;clear z0 z1 z2 z3;refine HCP.o.mono ?_;rintro e_ w4 ⟨q1,q2,rfl,ho4',hb4⟩;dsimp only;have hc4:=wg hc3 hb4;have ho4:=((OwSt.mixB hx3 (fun b hb=>Nat.lt_of_lt_of_le hb (Nat.le_trans q12 q23)) (Nat.le_trans q12 q23) ho4' hb4).lower hb1.size).wider (N':=fun b=>b<w0.heap.size) (fun b hb=> .inl (Nat.lt_of_lt_of_le hb hb1.size));clear ho4' hx3 hc3 hb4 hS3 hc2;have h41:∀b,(aw A2 (putB s.aE D).length c2).ownBlock=aC b->b<w4.heap.size:=fun b e=>(ho4.b.rwo.blk e).2;have h42:∀b,(aw (aC ⟨q2,0,aB⟩) s.aF.length s.aF.length).ownBlock=aC b->b<w4.heap.size:=fun b e=>(ho4.e.rwo.blk e).2;have hG:w0.heap.size<=w4.heap.size:=hc4.size;obtain⟨G,hGe⟩:=wU w4.heap.size
 rw [<-hGe]at h41 h42 hG;have hba:=wi w4 (aA #[(aw A2 (putB s.aE D).length c2),(aw (aC ⟨q2,0,aB⟩) s.aF.length s.aF.length),ax ay s.aH,ax ay s.aG] 27);have hX:Arr (w4.alloc (aA #[(aw A2 (putB s.aE D).length c2),(aw (aC ⟨q2,0,aB⟩) s.aF.length s.aF.length),ax ay s.aH,ax ay s.aG] 27)) G 27 [(aw A2 (putB s.aE D).length c2),(aw (aC ⟨q2,0,aB⟩) s.aF.length s.aF.length),ax ay s.aH,ax ay s.aG]:=by rw [hGe];exact Arr.new w4 27 _
 have ho:=(ho4.wider (N':=fun b=>b<w0.heap.size\/b=G) (fun b hb=>hb.imp id (fun e=>wj))).below hba;have hR5:=(hR.below hc4).below hba;have hb5:=(hb0.trans (hc4.mono (Nat.le_of_lt hHl))).alloc wj (aA #[(aw A2 (putB s.aE D).length c2),(aw (aC ⟨q2,0,aB⟩) s.aF.length s.aF.length),ax ay s.aH,ax ay s.aG] 27);clear hR ho4 hc4 hba hb0;have hR:=hR5;clear hR5;have hb:=hb5;clear hb5;obtain⟨z0,z1,z2,z3⟩:=sqC4 hX;obtain⟨f0,f1,f2,f3⟩:=sqF4 hR;obtain⟨y0,y1,y2,y3⟩:=sqC4 hR;have hfin:=hR.all4 (aw A2 (putB s.aE D).length c2) (aw (aC ⟨q2,0,aB⟩) s.aF.length s.aF.length) (ax ay s.aH) (ax ay s.aG);have hoF:=(((ho.set (g:=H+1) (k:=0) hHr (.inl hHr) (aw A2 (putB s.aE D).length c2)).set (g:=H+1) (k:=1) hHr (.inl hHr) (aw (aC ⟨q2,0,aB⟩) s.aF.length s.aF.length)).set (g:=H+1) (k:=2) hHr (.inl hHr) (ax ay s.aH)).set (g:=H+1) (k:=3) hHr (.inl hHr) (ax ay s.aG);have hbF:=(((hb.setCell (p:=⟨H+1,0,aB⟩) ww (aw A2 (putB s.aE D).length c2)).setCell (p:=⟨H+1,1,aB⟩) ww (aw (aC ⟨q2,0,aB⟩) s.aF.length s.aF.length)).setCell (p:=⟨H+1,2,aB⟩) ww (ax ay s.aH)).setCell (p:=⟨H+1,3,aB⟩) ww (ax ay s.aG);clear hR ho hb hX;subst hGe;go_wp2_with fail;refine bodyPost_ret (zA rfl _ _ (H+1) _ _ _ _ wu hfin underlying27 rfl wm) rfl ?_;exact⟨_,_,rfl,(hoF.lower (base':=H) wj).wider (N':=fun b=>b<H) (fun b hb=> .inl (.inl wj)),hbF⟩
theorem z4d (k:Int) (h:k=0\/k=1\/k=2\/k=3) (w:World):(Instr.index 276 (.agg #[ax ay 0,ax ay 0,ax ay 0,ax ay 0]) (ax ay k)).run zZZ w= .ok (ax ay 0) w:=by
 rcases h with rfl | rfl | rfl | rfl<;>kernel_rfl
theorem z0j (A:ae) (c:Nat) (B:ae) (d:Nat) (s:StoP) (key:ac) (ps:List PartP) (PA:ae) (pc:Nat) (w:World) (hg:GoodS s) (hr:RdSt w A c B d s) (hk:hexC key=0) (hpz:chk ps=0) (hhv:qL s.aE ps=0) (hclk:s.aG<1099511627776) (hlen:s.aF.length<10) (hP:Sl w 3 PA ps.length pc (pcs ps)) :
  Calls zZZ 180 #[.agg #[aw A s.aE.length c,aw B s.aF.length d,ax ay s.aH,ax ay s.aG],az ⟨key.toArray⟩,aw PA ps.length pc] w fun e w' =>
   ∃v1 v2,e= .returned (.tuple #[.agg #[v1,v2,ax ay s.aH,ax ay ((s.aG+1:Nat):Int)],ax ay 0])/\OwSt w' w.heap.size v1 v2 (xw s key ps) (fun b=>b<w.heap.size)/\Below w.heap.size w w':=by
 have hlb:s.aE.length<=24:=hg.b.len;obtain⟨w0,hw0,hS,hR,hb0⟩:=zY w 27 [aw A s.aE.length c,aw B s.aF.length d,ax ay s.aH,ax ay s.aG] [aw aB 0 0,aw aB 0 0,ax ay 0,ax ay 0];have hr0:=hr.below hb0;have hP0:=hP.below hb0;obtain⟨H,hH⟩:=wU w.heap.size
 have HCK:=sqH (fun W (h:Below w0.heap.size w0 W)=>zF A c B d s W hg (hr0.below h));have hkl:=qO hk;have HKX:=sqH (show ∀W,Below w0.heap.size w0 W->Calls zZZ 90 #[az ⟨key.toArray⟩] W fun e w'=>e= .returned (ax ay 0)/\Below W.heap.size W w' from fun W _=>by
  have:=kC ⟨key.toArray⟩ W (by show(key.toArray).size<=_;rw [List.size_toArray];omega);rw [show(⟨key.toArray⟩:ByteArray).data.toList=key from rfl,hk]at this;exact this)
 have HPC:=sqH (show ∀W,Below w0.heap.size w0 W->Calls zZZ 113 #[aw PA ps.length pc] W fun e w'=>e= .returned (ax ay 0)/\Below W.heap.size W w' from fun W h=>by
  have:=xg PA ps.length pc ps W rfl hP0.cap (by have:=(zk hpz).1;omega) (vI hpz) (hP0.below h).rd
  rwa [hpz]at this)
 have hpl8:=(zk hpz).1;obtain⟨HHV,HGX,HPL,HQL⟩:=sqJ4 (fun W (h:Below w0.heap.size w0 W)=>Qj A c s.aE PA pc ps W wj wj (hr0.b.below h) (hP0.below h).rd) hg (show ∀b∈s.aE,b.data.length<=1000000 from fun b hb=>by have:=(hg.b.one b hb).2.1;omega) (show ∀x∈s.aF,x.aL.length<=1000000 from fun x hx=>by have:=(zk (hg.e.one x hx).2.1).1;omega);have HSB:=sqH (show ∀W,Below w0.heap.size w0 W->wD W H (aw A s.aE.length c) (aw B s.aF.length d) (ax ay s.aH) (ax ay s.aG) from fun W h=>by
  rw [hH];exact sqC4 (hS.below h))
 have HKK:=sqH hk;have HPZ:=sqH hpz;rw [<-hH]at hS hR hb0 ⊢
 have hHl:H<w0.heap.size:=hS.lt;have hHr:H+1<w0.heap.size:=hR.lt;obtain⟨sk,hsk⟩:=wU (⟨key.toArray⟩:ByteArray)
 rw [<-hsk]at HKX ⊢
 have HSK:=sqH hsk;clear hg hr hk hP hpz hsk;go_enter func180,ntmps180;go_wp2_with fail;rw [<-hw0,<-hH];have HH:=sqH hH;clear hw0 hH;rw [hhv]at HHV;refine wp_region_held_drew (S:=(fun w'=>wD w' H (aw A s.aE.length c) (aw B s.aF.length d) (ax ay s.aH) (ax ay s.aG))) wm ?_ (fun hHeld=> ?_)
 ·exact HSB.o _ (Below.refl _ w0).drew
 have hB:=(Below.refl w0.heap.size w0).drew;generalize w0.drew=wn0 at *
 refine wM 0 ?_;refine wM 2 ?_;refine wM 4 ?_;refine wM 6 ?_;refine wM 7 ?_;refine wM 8 ?_;refine wM 11 ?_;refine wQ 1 fun K hK=>?_;go_simp;refine(HCK.o wn0 hB).mono ?_;rintro e5 w5 ⟨rfl,hb5⟩;dsimp only;refine ka hK ?_ (Below wn0.heap.size wn0) (fun W=>True) ?_ ?_ (fun wn1 hHeld hst hnew=> ?_)
 ·(exact HSB.o _ (wg hB hb5))
 ·(exact hb5)
 ·(trivial)
 have hB:=wg hB hst;clear hst;clear hK K
 try simp only [sqP]
 refine wQ 3 fun K hK=>?_;go_simp;refine(HKX.o wn1 hB).mono ?_;rintro e5 w5 ⟨rfl,hb5⟩;dsimp only;refine ka hK ?_ (Below wn1.heap.size wn1) (fun W=>True) ?_ ?_ (fun wn2 hHeld hst hnew=> ?_)
 ·(exact HSB.o _ (wg hB hb5))
 ·(exact hb5)
 ·(trivial)
 have hB:=wg hB hst;clear hst;clear hK K
 try simp only [sqP]
 refine wQ 5 fun K hK=>?_;go_simp;refine(HPC.o wn2 hB).mono ?_;rintro e5 w5 ⟨rfl,hb5⟩;dsimp only;refine ka hK ?_ (Below wn2.heap.size wn2) (fun W=>True) ?_ ?_ (fun wn3 hHeld hst hnew=> ?_)
 ·(exact HSB.o _ (wg hB hb5))
 ·(exact hb5)
 ·(trivial)
 have hB:=wg hB hst;clear hst;clear hK K
 try simp only [sqP]
 refine wQ 9 fun K hK=>?_;go_simp;refine(HHV.o wn3 hB).mono ?_;rintro e5 w5 ⟨rfl,hb5⟩;dsimp only;refine ka hK ?_ (Below wn3.heap.size wn3) (fun W=>True) ?_ ?_ (fun wn4 hHeld hst hnew=> ?_)
 ·(exact HSB.o _ (wg hB hb5))
 ·(exact hb5)
 ·(trivial)
 have hB:=wg hB hst;clear hst;clear hK K
 refine wM 10 ?_;refine wpAnyH_done wm ?_ _;dsimp only [Exit.then];clear hHeld;generalize wn4=w1 at *
 go_wp2_with fail;go_loopg [25] 4 (fun gn i wr=>∃j:Int,i= ax ay j/\(j=0\/j=1\/j=2\/j=3\/j=4)/\gn=(4 - j).toNat/\wr=w1)
 case atStart=>exact⟨0,rfl,wj,rfl,rfl⟩
 case round =>
  obtain⟨j,rfl,hj,hgn,hwr⟩:=hrel;subst hwr;have ix0:=z4d 0 wj wr;have ix1:=z4d 1 wj wr;have ix2:=z4d 2 wj wr;have ix3:=z4d 3 wj wr;rcases hj with rfl | rfl | rfl | rfl | rfl
  ·go_wp2_with fail;go_roundg 3
   case measure=>omega
   case rel=>exact⟨1,rfl,wj,rfl,rfl⟩
  ·go_wp2_with fail;go_roundg 2
   case measure=>omega
   case rel=>exact⟨2,rfl,wj,rfl,rfl⟩
  ·go_wp2_with fail;go_roundg 1
   case measure=>omega
   case rel=>exact⟨3,rfl,wj,rfl,rfl⟩
  ·go_wp2_with fail;go_roundg 0
   case measure=>omega
   case rel=>exact⟨4,rfl,wj,rfl,rfl⟩
  ·clear hgn ix0 ix1 ix2 ix3;generalize wr=wr0 at *
   obtain⟨z0,z1,z2,z3⟩:=HSB.o wr0 hB;have hr1:=hr0.below hB;have HCP:=sqH (qM A c B d s wr0 wj wj HPL.o HQL.o hr1);have hP1:=hP0.below hB;clear hr0 hP0 hS;go_wp2_with fail;clear z0 z1 z2 z3;refine HCP.o.mono ?_;rintro e_ w4 ⟨q1,q2,rfl,ho4',hb4⟩;dsimp only;have hc4:=wg hB hb4;have hP4:=hP1.below hb4;have ho4:=(ho4'.lower hB.size).wider (N':=fun b=>b<w0.heap.size) (fun b hb=> .inl (Nat.lt_of_lt_of_le hb hB.size));have hPl:=hP4.live;clear ho4' hB hb4 hP1;have h41:∀b,(aw (aC ⟨q1,0,aB⟩) s.aE.length s.aE.length).ownBlock=aC b->b<w4.heap.size:=fun b e=>(ho4.b.rwo.blk e).2;have h42:∀b,(aw (aC ⟨q2,0,aB⟩) s.aF.length s.aF.length).ownBlock=aC b->b<w4.heap.size:=fun b e=>(ho4.e.rwo.blk e).2;have hG:w0.heap.size<=w4.heap.size:=hc4.size;obtain⟨G,hGe⟩:=wU w4.heap.size
   rw [<-hGe]at h41 h42 hG;have hba:=wi w4 (aA #[(aw (aC ⟨q1,0,aB⟩) s.aE.length s.aE.length),(aw (aC ⟨q2,0,aB⟩) s.aF.length s.aF.length),ax ay s.aH,ax ay s.aG] 27);have hX:Arr (w4.alloc (aA #[(aw (aC ⟨q1,0,aB⟩) s.aE.length s.aE.length),(aw (aC ⟨q2,0,aB⟩) s.aF.length s.aF.length),ax ay s.aH,ax ay s.aG] 27)) G 27 [(aw (aC ⟨q1,0,aB⟩) s.aE.length s.aE.length),(aw (aC ⟨q2,0,aB⟩) s.aF.length s.aF.length),ax ay s.aH,ax ay s.aG]:=by rw [hGe];exact Arr.new w4 27 _
   have ho:=(ho4.wider (N':=fun b=>b<w0.heap.size\/b=G) (fun b hb=>hb.imp id (fun e=>wj))).below hba;have hR5:=(hR.below hc4).below hba;have hb5:=(hb0.trans (hc4.mono (Nat.le_of_lt hHl))).alloc wj (aA #[(aw (aC ⟨q1,0,aB⟩) s.aE.length s.aE.length),(aw (aC ⟨q2,0,aB⟩) s.aF.length s.aF.length),ax ay s.aH,ax ay s.aG] 27);clear hR ho4 hc4 hba hb0;have hR:=hR5;clear hR5;have hb:=hb5;clear hb5;have hP5:=hP4.below (wi w4 (aA #[(aw (aC ⟨q1,0,aB⟩) s.aE.length s.aE.length),(aw (aC ⟨q2,0,aB⟩) s.aF.length s.aF.length),ax ay s.aH,ax ay s.aG] 27));have HTK:=sqH (Xi G (aw (aC ⟨q1,0,aB⟩) s.aE.length s.aE.length) (aw (aC ⟨q2,0,aB⟩) s.aF.length s.aF.length) (ax ay s.aH) s.aG _ hclk hX);have hPG:∀a,PA=aC a->a.block≠G:=fun a ha=>by have:=hPl a ha;omega
   clear hP4 hPl;go_wp2_with fail;rw [<-hGe];clear hGe;generalize w4.alloc (aA #[(aw (aC ⟨q1,0,aB⟩) s.aE.length s.aE.length),(aw (aC ⟨q2,0,aB⟩) s.aF.length s.aF.length),ax ay s.aH,ax ay s.aG] 27)=w5 at *
   refine HTK.o.mono ?_;rintro e_ _ ⟨rfl,rfl⟩;dsimp only;have hX6:Arr (w5.setCell ⟨G,3,aB⟩ (ax ay ((s.aG+1:Nat):Int))) G 27 [(aw (aC ⟨q1,0,aB⟩) s.aE.length s.aE.length),(aw (aC ⟨q2,0,aB⟩) s.aF.length s.aF.length),ax ay s.aH,ax ay ((s.aG+1:Nat):Int)]:=hX.set (k:=3) ws (ax ay ((s.aG+1:Nat):Int));have hR6:=hR.other (g':=G) (k:=3) wj (ax ay ((s.aG+1:Nat):Int));have ho6:=ho.setX (g:=G) (k:=3) (.inr rfl) (fun e=>by have:=h41 _ e;omega) (fun e=>by have:=h42 _ e;omega) (ax ay ((s.aG+1:Nat):Int));have hb6:=hb.setCell (p:=⟨G,3,aB⟩) ww (ax ay ((s.aG+1:Nat):Int));have hP6:=hP5.other (g:=G) (k:=3) hPG (ax ay ((s.aG+1:Nat):Int));have hGl:G<(w5.setCell ⟨G,3,aB⟩ (ax ay ((s.aG+1:Nat):Int))).heap.size:=hX6.lt;clear hX hR ho hb hP5 HTK;generalize w5.setCell ⟨G,3,aB⟩ (ax ay ((s.aG+1:Nat):Int))=w6 at *
   obtain⟨A',c',e1,_,_,hRe6⟩:=ho6.e.rwo.rows;cases e1
   have hgx:GoodE1 ⟨key,ps,0,s.aG+1⟩:=⟨HKK.o,HPZ.o,by show 0<=5;omega,by show s.aG+1<=_;omega⟩
   have HPT:=z0i (aC ⟨q2,0,aB⟩) s.aF.length s.aF ⟨key,ps,0,s.aG+1⟩ PA pc w6 HGX.o.e hgx hlen hRe6 hP6;dsimp only at HPT;rw [<-HSK.o]at HPT;have HPT:=sqH HPT;have x1:=hX6.c1;have x3:=hX6.c3;clear hRe6 hP6 hgx;go_wp2_with fail;clear x1 x3;refine HPT.o.mono ?_;rintro e_ w7 ⟨v3,rfl,hx7,hb7⟩;dsimp only;have hN6:∀b,(b<w0.heap.size\/b=G)->b<w6.heap.size:=fun b hb=>by omega
   have ho7:=((OwSt.mixE ho6 hN6 hx7 wj hb7).clk s.aH (s.aG+1))
   have hX7:=hX6.below hb7;have hR7:=hR6.below hb7;have hb7':=hb6.trans (hb7.mono wj);have h43:∀b,v3.ownBlock=aC b->w6.heap.size<=b:=fun b e=>(hx7.rwo.blk e).1;obtain⟨A3,c3,e3,_,_,_⟩:=hx7.rwo.rows;subst e3;clear hX6 hR6 ho6 hb6 hx7 hb7;have f1:=hX7.frozen 1;have x1:=hX7.c1;have hX:Arr (w7.setCell ⟨G,1,aB⟩ (aw A3 (x9 s.aF ⟨key,ps,0,s.aG+1⟩).length c3)) G 27 [(aw (aC ⟨q1,0,aB⟩) s.aE.length s.aE.length),aw A3 (x9 s.aF ⟨key,ps,0,s.aG+1⟩).length c3,ax ay s.aH,ax ay ((s.aG+1:Nat):Int)]:=hX7.set (k:=1) ws _;have hR:=hR7.other (g':=G) (k:=1) wj (aw A3 (x9 s.aF ⟨key,ps,0,s.aG+1⟩).length c3);have ho:=ho7.setX (g:=G) (k:=1) (.inr rfl) (fun e=>by have:=h41 _ e;omega) (fun e=>by have:=h43 _ e;omega) (aw A3 (x9 s.aF ⟨key,ps,0,s.aG+1⟩).length c3);have hb:=hb7'.setCell (p:=⟨G,1,aB⟩) ww (aw A3 (x9 s.aF ⟨key,ps,0,s.aG+1⟩).length c3);clear hX7 hR7 ho7 hb7';obtain⟨z0,z1,z2,z3⟩:=sqC4 hX;obtain⟨f0,f1,f2,f3⟩:=sqF4 hR;obtain⟨y0,y1,y2,y3⟩:=sqC4 hR;have hfin:=hR.all4 (aw (aC ⟨q1,0,aB⟩) s.aE.length s.aE.length) (aw A3 (x9 s.aF ⟨key,ps,0,s.aG+1⟩).length c3) (ax ay s.aH) (ax ay ((s.aG+1:Nat):Int));have hoF:=(((ho.set (g:=H+1) (k:=0) hHr (.inl hHr) (aw (aC ⟨q1,0,aB⟩) s.aE.length s.aE.length)).set (g:=H+1) (k:=1) hHr (.inl hHr) (aw A3 (x9 s.aF ⟨key,ps,0,s.aG+1⟩).length c3)).set (g:=H+1) (k:=2) hHr (.inl hHr) (ax ay s.aH)).set (g:=H+1) (k:=3) hHr (.inl hHr) (ax ay ((s.aG+1:Nat):Int));have hbF:=(((hb.setCell (p:=⟨H+1,0,aB⟩) ww (aw (aC ⟨q1,0,aB⟩) s.aE.length s.aE.length)).setCell (p:=⟨H+1,1,aB⟩) ww (aw A3 (x9 s.aF ⟨key,ps,0,s.aG+1⟩).length c3)).setCell (p:=⟨H+1,2,aB⟩) ww (ax ay s.aH)).setCell (p:=⟨H+1,3,aB⟩) ww (ax ay ((s.aG+1:Nat):Int));clear hR ho hb hX;go_wp2_with fail;refine bodyPost_ret (zI rfl _ _ (H+1) _ _ _ _ wu hfin underlying27 rfl wm) rfl ?_;exact⟨_,_,rfl,(hoF.lower (base':=H) wj).wider (N':=fun b=>b<H) (fun b hb=> .inl (.inl wj)),hbF⟩
theorem kS {g':Nat} (h:g≠g') {a b c d:Value}:((((w.setCell ⟨g',0,aB⟩ a).setCell ⟨g',1,aB⟩ b).setCell ⟨g',2,aB⟩ c).setCell ⟨g',3,aB⟩ d).cell? ⟨g,k,aB⟩=w.cell? ⟨g,k,aB⟩:=by
 refine(World.cell?_of_block (Below.heap_setCell _ _ d g h)).trans ((World.cell?_of_block (Below.heap_setCell _ _ c g h)).trans ((World.cell?_of_block (Below.heap_setCell _ _ b g h)).trans (World.cell?_of_block (Below.heap_setCell _ _ a g h))))
theorem Vh {n:Nat} {size:Nat} {v:Value} {xs:af} (h:w.ownsRow base e size v n xs) (hg:g<base) (a b c d:Value) :
  ((((w.setCell ⟨g,0,aB⟩ a).setCell ⟨g,1,aB⟩ b).setCell ⟨g,2,aB⟩ c).setCell ⟨g,3,aB⟩ d).ownsRow base e size v n xs:=by
 have hne:v.ownBlock≠aC g:=fun e=>by have:=(h.lt g e).1;omega
 exact zd (zd (zd (zd h hne) hne) hne) hne
theorem z19 {k:ac} (hr:RisesBy (·.key) l) (hi:i<l.length) (hk:l[i].key=k):l.findIdx? (fun x=>x.key==k)=aC i:=by
 rw [List.findIdx?_eq_some_iff_getElem];refine⟨hi,by simp [hk],fun j hj=> ?_⟩;have:=List.pairwise_iff_getElem.1 hr j i wj hi hj;rw [<-hk];simpa using yV this
theorem z3d {l:List BlobP} {k:ac} (hr:RisesBy (·.dig) l) (hi:i<l.length) (hk:l[i].dig=k):l.findIdx? (fun x=>x.dig==k)=aC i:=by
 rw [List.findIdx?_eq_some_iff_getElem];refine⟨hi,by simp [hk],fun j hj=> ?_⟩;have:=List.pairwise_iff_getElem.1 hr j i wj hi hj;rw [<-hk];simpa using yV this
theorem Rw.ent_at' (h:Rw EntS w A l) (hx:l[k]?=aC x) :
  ∃b off B c,A=aC ⟨b,off,aB⟩/\b<w.heap.size/\w.cell? ⟨b,off+k*4,aB⟩=aC (az ⟨x.key.toArray⟩)/\w.cell? ⟨b,off+k*4+1,aB⟩=aC (aw B x.aL.length c) /\
   w.cell? ⟨b,off+k*4+2,aB⟩=aC (ax ay x.aM)/\w.cell? ⟨b,off+k*4+3,aB⟩=aC (ax ay x.aK)/\Sl w 3 B x.aL.length c (pcs x.aL):=by
 obtain⟨hk,rfl⟩:=List.getElem?_eq_some_iff.1 hx;exact h.ent_at k hk
theorem z1c (s:StoP) (i:Nat) (x:EntP) (hi:i<s.aF.length):(kz s i x).aF[i]?=aC { x with aK:=s.aG+1 }:=by
 unfold kz;simp [hi]
theorem YS (A:ae) (c:Nat) (B:ae) (d:Nat) (s:StoP) (key:ac) (i:Nat) (w:World) (hg:GoodS s) (hr:RdSt w A c B d s) (hi:i<s.aF.length) (hk:s.aF[i].key=key) (hclk:s.aG<1099511627776) :
  Calls zZZ 128 #[.agg #[aw A s.aE.length c,aw B s.aF.length d,ax ay s.aH,ax ay s.aG],az ⟨key.toArray⟩] w fun e w' =>
   ∃v1 v2 v3,e= .returned (.tuple #[.agg #[v1,v2,ax ay s.aH,ax ay ((s.aG+1:Nat):Int)],v3,ax ay 0])/\OwSt w' w.heap.size v1 v2 (kz s i s.aF[i]) (fun b=>b<w.heap.size)/\w'.ownsRow w.heap.size 51 3 v3 s.aF[i].aL.length (pcs s.aF[i].aL)/\Below w.heap.size w w':=by
 obtain⟨z,hz⟩:=wU (s.aG+1)
 rw [<-hz];have HZ:=sqH hz;clear hz;have hlb:s.aE.length<=24:=hg.b.len;have hle:s.aF.length<=10:=hg.e.len;have HPN:=sqH (show s.aF[i].aL.length<=8 from(zk (hg.e.one _ (List.getElem_mem hi)).2.1).1);have HFX:=sqH (z19 hg.e.ris hi hk);obtain⟨sk,hsk⟩:=wU (⟨key.toArray⟩:ByteArray)
 rw [<-hsk];have HSK:=sqH hsk;clear hk hsk;obtain⟨w0,hw0,hS,hR,hb0⟩:=zY w 27 [aw A s.aE.length c,aw B s.aF.length d,ax ay s.aH,ax ay s.aG] [aw aB 0 0,aw aB 0 0,ax ay 0,ax ay 0];have hr0:=hr.below hb0;obtain⟨H,hH⟩:=wU w.heap.size
 have HCK:=sqH (zF A c B d s w0 hg hr0);rw [<-hH]at hS hR hb0 ⊢
 have hHl:H<w0.heap.size:=hS.lt;have hHr:H+1<w0.heap.size:=hR.lt;obtain⟨x0,x1,x2,x3⟩:=sqC4 hS;rw [hw0,hH]at x0 x1 x2 x3;obtain⟨HPL,HQL,HG⟩:=sqJ3 (show ∀b∈s.aE,b.data.length<=1000000 from fun b hb=>by have:=(hg.b.one b hb).2.1;omega) (show ∀x∈s.aF,x.aL.length<=1000000 from fun x hx=>by have:=(zk (hg.e.one x hx).2.1).1;omega) hg;clear hg hr;go_enter func128,ntmps128;go_wp2_with fail;rw [<-hw0,<-hH];have HH:=sqH hH;clear hw0 hH x0 x1 x2 x3;refine wV HCK.o fun w1 hb1=>?_;dsimp only;have hr1:=hr0.below hb1;have hS1:=hS.below hb1;have y0:=hS1.c1;have HFN:=kI B d s.aF key w1 wj hr1.e;rw [HFX.o,xn,<-HSK.o]at HFN;have HFN:=sqH HFN;clear hr0 hS;go_wp2_with fail;clear y0;refine wV HFN.o fun w2 hb2=>?_;dsimp only;have hc2:=wg hb1 hb2;have hr2:=hr1.below hb2;have hS2:=hS1.below hb2;obtain⟨z0,z1,z2,z3⟩:=sqC4 hS2;have HCP:=sqH (qM A c B d s w2 wj wj HPL.o HQL.o hr2);clear hr1 hS1 hb1 hb2 hr2;go_wp2_with fail;clear z0 z1 z2 z3;refine HCP.o.mono ?_;rintro e_ w4 ⟨q1,q2,rfl,ho4',hb4⟩;dsimp only;have hc4:=wg hc2 hb4;have ho4:=(ho4'.lower hc2.size).wider (N':=fun b=>b<w0.heap.size) (fun b hb=> .inl (Nat.lt_of_lt_of_le hb hc2.size));clear ho4' hc2 hb4 hS2;have h41:∀b,(aw (aC ⟨q1,0,aB⟩) s.aE.length s.aE.length).ownBlock=aC b->b<w4.heap.size:=fun b e=>(ho4.b.rwo.blk e).2;have h42:∀b,(aw (aC ⟨q2,0,aB⟩) s.aF.length s.aF.length).ownBlock=aC b->b<w4.heap.size:=fun b e=>(ho4.e.rwo.blk e).2;have hG:w0.heap.size<=w4.heap.size:=hc4.size;obtain⟨G,hGe⟩:=wU w4.heap.size
 rw [<-hGe]at h41 h42 hG;have hba:=wi w4 (aA #[(aw (aC ⟨q1,0,aB⟩) s.aE.length s.aE.length),(aw (aC ⟨q2,0,aB⟩) s.aF.length s.aF.length),ax ay s.aH,ax ay s.aG] 27);have hX:Arr (w4.alloc (aA #[(aw (aC ⟨q1,0,aB⟩) s.aE.length s.aE.length),(aw (aC ⟨q2,0,aB⟩) s.aF.length s.aF.length),ax ay s.aH,ax ay s.aG] 27)) G 27 [(aw (aC ⟨q1,0,aB⟩) s.aE.length s.aE.length),(aw (aC ⟨q2,0,aB⟩) s.aF.length s.aF.length),ax ay s.aH,ax ay s.aG]:=by rw [hGe];exact Arr.new w4 27 _
 have ho:=(ho4.wider (N':=fun b=>b<w0.heap.size\/b=G) (fun b hb=>hb.imp id (fun e=>wj))).below hba;have hR5:=(hR.below hc4).below hba;have hb5:=(hb0.trans (hc4.mono (Nat.le_of_lt hHl))).alloc wj (aA #[(aw (aC ⟨q1,0,aB⟩) s.aE.length s.aE.length),(aw (aC ⟨q2,0,aB⟩) s.aF.length s.aF.length),ax ay s.aH,ax ay s.aG] 27);clear hR ho4 hc4 hba hb0;have hR:=hR5;clear hR5;have hb:=hb5;clear hb5;have htk:=(Xi G (aw (aC ⟨q1,0,aB⟩) s.aE.length s.aE.length) (aw (aC ⟨q2,0,aB⟩) s.aF.length s.aF.length) (ax ay s.aH) s.aG _ hclk hX)
 rw [<-HZ.o]at htk;have HTK:=sqH htk;clear htk;have hq2:w0.heap.size<=q2:=(ho.e.rwo.blk rfl).1;have hqG:q2<G:=h42 _ rfl;go_wp2_with fail;rw [<-hGe];clear hGe;generalize w4.alloc (aA #[(aw (aC ⟨q1,0,aB⟩) s.aE.length s.aE.length),(aw (aC ⟨q2,0,aB⟩) s.aF.length s.aF.length),ax ay s.aH,ax ay s.aG] 27)=w5 at *
 refine HTK.o.mono ?_;rintro e_ _ ⟨rfl,rfl⟩;dsimp only;have hX6:Arr (w5.setCell ⟨G,3,aB⟩ (ax ay z)) G 27 [(aw (aC ⟨q1,0,aB⟩) s.aE.length s.aE.length),(aw (aC ⟨q2,0,aB⟩) s.aF.length s.aF.length),ax ay s.aH,ax ay z]:=hX.set (k:=3) ws (ax ay z);have hR6:=hR.other (g':=G) (k:=3) wj (ax ay z);have ho6:=(ho.setX (g:=G) (k:=3) (.inr rfl) (fun e=>by have:=h41 _ e;omega) (fun e=>by have:=h42 _ e;omega) (ax ay z))
 have hb6:=hb.setCell (p:=⟨G,3,aB⟩) ww (ax ay z);clear hX hR ho hb HTK;generalize w5.setCell ⟨G,3,aB⟩ (ax ay z)=w6 at *
 obtain⟨⟨v0,k3⟩,f3,ho7',hg7⟩:=ho6.setE (j:=3) (u:= ax ay z) (y:= { s.aF[i] with aK:=s.aG+1 }) hi wj (fun W cs h=>by rw [HZ.o];exact XE _ _ W cs h) (ym _);have x1:=hX6.c1;have x3:=hX6.c3;have hi0:=wX i
 have hi1:(i:Int)<(s.aF.length:Int):=wj;have hX7:=hX6.other (g':=q2) (k:=i*4+3) wj (ax ay z);have hR7:=hR6.other (g':=q2) (k:=i*4+3) wj (ax ay z);have hb7:=hb6.setCell (p:=⟨q2,i*4+3,aB⟩) ww (ax ay z);have ho7:OwSt (w6.setCell ⟨q2,i*4+3,aB⟩ (ax ay z)) w0.heap.size (aw (aC ⟨q1,0,aB⟩) s.aE.length s.aE.length) (aw (aC ⟨q2,0,aB⟩) s.aF.length s.aF.length) (kz s i s.aF[i]) (fun b=>b<w0.heap.size\/b=G):=ho7'.clk s.aH (s.aG+1);have hw7:H<=(w6.setCell ⟨q2,i*4+3,aB⟩ (ax ay z)).heap.size:=by have:=hR7.lt;omega
 clear hX6 hR6 ho6 hb6 ho7' hg7;go_wp2_with fail;clear x1 x3 k3 f3;generalize w6.setCell ⟨q2,i*4+3,aB⟩ (ax ay z)=w7 at *
 have hX:=hX7;have hR:=hR7;have ho:=ho7;have hb:=hb7;clear hX7 hR7 ho7 hb7;obtain⟨A',c',e1,_,_,hRe7⟩:=ho.e.rwo.rows;obtain⟨b',off',XB,xc,e2,_,_,k1,_,_,hsl⟩:=hRe7.ent_at' (z1c s i s.aF[i] hi);dsimp only at k1 hsl;injection e1 with e11 e12 e13;clear e12 e13;subst e11;cases e2
 rw [Nat.zero_add]at k1;have HSB:=sqH (show ∀W,Below w7.heap.size w7 W->(W.cell? ⟨G,0,aB⟩=aC (aw (aC ⟨q1,0,aB⟩) s.aE.length s.aE.length)/\W.cell? ⟨G,1,aB⟩=aC (aw (aC ⟨q2,0,aB⟩) s.aF.length s.aF.length)/\W.cell? ⟨G,2,aB⟩=aC (ax ay s.aH)/\W.cell? ⟨G,3,aB⟩=aC (ax ay z))/\W.cell? ⟨q2,i*4+1,aB⟩=aC (aw XB s.aF[i].aL.length xc) from fun W h =>
  ⟨sqC4 (hX.below h),(h.cell (p:=⟨q2,i*4+1,aB⟩) (ho.e.rwo.blk rfl).2).trans k1⟩)
 have HCL:=sqH (show ∀W,Below w7.heap.size w7 W->Calls zZZ 146 #[aw XB s.aF[i].aL.length xc] W fun e w'=>∃v,e= .returned v/\w'.ownsRow W.heap.size 51 3 v s.aF[i].aL.length (pcs s.aF[i].aL)/\Below W.heap.size W w' from fun W h =>
  yy XB s.aF[i].aL.length xc (pcs s.aF[i].aL) W (wW HPN) (hsl.below h).rd (jZ _))
 have hGH:G≠H+1:=wj;have hqH:q2≠H+1:=wj;have hH7:H+1<w7.heap.size:=hR.lt;clear hRe7 hsl k1 hX;refine wp_region_held_drew (S:=(fun w'=>(w'.cell? ⟨G,0,aB⟩=aC (aw (aC ⟨q1,0,aB⟩) s.aE.length s.aE.length)/\w'.cell? ⟨G,1,aB⟩=aC (aw (aC ⟨q2,0,aB⟩) s.aF.length s.aF.length)/\w'.cell? ⟨G,2,aB⟩=aC (ax ay s.aH)/\w'.cell? ⟨G,3,aB⟩=aC (ax ay z))/\w'.cell? ⟨q2,i*4+1,aB⟩=aC (aw XB s.aF[i].aL.length xc))) wm ?_ (fun hHeld=> ?_)
 ·exact HSB.o _ (Below.refl _ w7).drew
 have hB:=(Below.refl w7.heap.size w7).drew;generalize w7.drew=wn0 at *
 refine wM 0 ?_;refine wM 1 ?_;refine wM 2 ?_;refine wM 3 ?_;refine wM 4 ?_;refine wM 5 ?_;refine wM 6 ?_;refine wQ 7 fun K hK=>?_;go_simp;refine(HCL.o wn0 hB).mono ?_;rintro e9 w9 ⟨v9,rfl,ho9,hb9⟩;dsimp only;refine ka hK ?_ (Below wn0.heap.size wn0) (fun W=>W.ownsRow w7.heap.size 51 3 v9 s.aF[i].aL.length (pcs s.aF[i].aL)) ?_ ?_ (fun wn1 hHeld hst hnew=> ?_)
 ·(exact HSB.o _ (wg hB hb9))
 ·(exact hb9)
 ·(exact zb ho9 hB.size)
 have hB:=wg hB hst;have ho9':=hnew;clear hnew;clear hst;clear hK K
 try simp only [sqP]
 refine wQ 8 fun K hK=>?_;obtain⟨f0,f1,f2,f3⟩:=sqF4 (hR.below hB);obtain⟨y0,y1,y2,y3⟩:=sqC4 (hR.below hB);go_simp;clear f0 f1 f2 f3 y0 y1 y2 y3;have hB1:=hB;have hfin:=(hR.below hB).all4 (aw (aC ⟨q1,0,aB⟩) s.aE.length s.aE.length) (aw (aC ⟨q2,0,aB⟩) s.aF.length s.aF.length) (ax ay s.aH) (ax ay z);have ho1:=ho.below hB;have hoF:=(((ho1.set (g:=H+1) (k:=0) hHr (.inl hHr) (aw (aC ⟨q1,0,aB⟩) s.aE.length s.aE.length)).set (g:=H+1) (k:=1) hHr (.inl hHr) (aw (aC ⟨q2,0,aB⟩) s.aF.length s.aF.length)).set (g:=H+1) (k:=2) hHr (.inl hHr) (ax ay s.aH)).set (g:=H+1) (k:=3) hHr (.inl hHr) (ax ay z);have hb1:=hb.trans (hB.mono hw7);have hbF:=(((hb1.setCell (p:=⟨H+1,0,aB⟩) ww (aw (aC ⟨q1,0,aB⟩) s.aE.length s.aE.length)).setCell (p:=⟨H+1,1,aB⟩) ww (aw (aC ⟨q2,0,aB⟩) s.aF.length s.aF.length)).setCell (p:=⟨H+1,2,aB⟩) ww (ax ay s.aH)).setCell (p:=⟨H+1,3,aB⟩) ww (ax ay z);have ho9F:=Vh ho9' (g:=H+1) wj (aw (aC ⟨q1,0,aB⟩) s.aE.length s.aE.length) (aw (aC ⟨q2,0,aB⟩) s.aF.length s.aF.length) (ax ay s.aH) (ax ay z);have hne:w7.heap.size<=wn1.heap.size:=hB.size;refine ka hK ?_ (fun W=>Arr W (H+1) 27 [(aw (aC ⟨q1,0,aB⟩) s.aE.length s.aE.length),(aw (aC ⟨q2,0,aB⟩) s.aF.length s.aF.length),ax ay s.aH,ax ay z]) (fun W=>OwSt W w0.heap.size (aw (aC ⟨q1,0,aB⟩) s.aE.length s.aE.length) (aw (aC ⟨q2,0,aB⟩) s.aF.length s.aF.length) (kz s i s.aF[i]) (fun b=>b<w0.heap.size\/b=G)/\Below H w W/\W.ownsRow w7.heap.size 51 3 v9 s.aF[i].aL.length (pcs s.aF[i].aL)) ?_ ?_ (fun wn2 hHeld hF hG=> ?_)
 ·have h1:=HSB.o _ hB;rw [kS hGH,kS hGH,kS hGH,kS hGH,kS hqH];exact h1
 ·exact hfin
 ·exact⟨hoF,hbF,ho9F⟩
 clear hB hB1 hfin ho1 hoF hb1 hbF ho9F hne ho9';clear hK K
 refine wM 9 ?_;refine wM 10 ?_;refine wpAnyH_done wm ?_ _;dsimp only [Exit.then];clear hHeld;obtain⟨hoF,hbF,ho9⟩:=hG;go_wp2_with fail;refine bodyPost_ret (zA rfl _ _ (H+1) _ _ _ _ wu hF underlying27 rfl wm) rfl ?_;exact⟨_,_,_,rfl,(hoF.lower (base':=H) wj).wider (N':=fun b=>b<H) (fun b hb=> .inl (.inl wj)),zb ho9 wj,hbF⟩
def mvN (n:Nat) (up:Bool):Nat:=if up then n+1 else n - 1
theorem X2 (n:Nat) (up:Bool) (w:World) (h:if up then n<5 else 0<n/\n<=5):Calls zZZ 164 #[ax ay n,.bool up] w fun e w'=>e= .returned (.tuple #[ax ay (mvN n up:Nat),ax ay 0])/\w'=w:=by
 have HC:=sqH (show n<=5->∀W,Calls zZZ 143 #[ax ay n] W fun e w'=>e= .returned (ax ay 0)/\W=w' from fun h5 W=>xh (n:Int) wj wj W);cases up with
 | true =>
  have h':n<5:=h;have h5:((n:Int)==5)=false:=beq_eq_false_iff_ne.2 wj;have hw:IntKind.i64.wrap ((n:Int)+1)=(n:Int)+1:=IntWalk.i64_in _ wj;have HC2:=sqH (HC.o wj);clear h HC;go_enter func164,ntmps164;go_wp2_with fail;refine(HC2.o w).mono ?_;rintro e_ _ ⟨rfl,rfl⟩;dsimp only;go_wp2_with fail;go_ret2;exact⟨rfl,rfl⟩
 | false =>
  have h':0<n/\n<=5:=h;have h5:((n:Int)==0)=false:=beq_eq_false_iff_ne.2 wj;have hw:IntKind.i64.wrap ((n:Int) - 1)=(n:Int) - 1:=IntWalk.i64_in _ wj;have HC2:=sqH (HC.o wj);have e1:((mvN n false:Nat):Int)=(n:Int) - 1:=by show((n - 1:Nat):Int)=_;omega
  rw [e1];clear h HC e1;go_enter func164,ntmps164;go_wp2_with fail;refine(HC2.o w).mono ?_;rintro e_ _ ⟨rfl,rfl⟩;dsimp only;go_wp2_with fail;go_ret2;exact⟨rfl,rfl⟩
theorem Ug (A:ae) (c:Nat) (B:ae) (d:Nat) (s:StoP) (key:ac) (up:Bool) (i:Nat) (w:World) (hg:GoodS s) (hr:RdSt w A c B d s) (hi:i<s.aE.length) (hk:s.aE[i].dig=key) (hmv:if up then s.aE[i].aM<5 else 0<s.aE[i].aM/\s.aE[i].aM<=5) :
  Calls zZZ 160 #[.agg #[aw A s.aE.length c,aw B s.aF.length d,ax ay s.aH,ax ay s.aG],az ⟨key.toArray⟩,.bool up] w fun e w' =>
   ∃v1 v2,e= .returned (.tuple #[.agg #[v1,v2,ax ay s.aH,ax ay s.aG],ax ay 0])/\OwSt w' w.heap.size v1 v2 (kg s i s.aE[i] (mvN s.aE[i].aM up)) (fun b=>b<w.heap.size)/\Below w.heap.size w w':=by
 have hlb:s.aE.length<=24:=hg.b.len;have hle:s.aF.length<=10:=hg.e.len;have HFX:=sqH (z3d hg.b.ris hi hk);obtain⟨p,hp⟩:=wU (s.aE[i].aM)
 rw [<-hp]at hmv ⊢
 have HPI:=sqH hp.symm;obtain⟨n,hn⟩:=wU (mvN p up)
 have HMV:=sqH (fun W=>X2 p up W hmv);rw [<-hn]at HMV ⊢
 obtain⟨sk,hsk⟩:=wU (⟨key.toArray⟩:ByteArray)
 rw [<-hsk];have HSK:=sqH hsk;clear hk hsk hn hp hmv;obtain⟨w0,hw0,hS,hR,hb0⟩:=zY w 27 [aw A s.aE.length c,aw B s.aF.length d,ax ay s.aH,ax ay s.aG] [aw aB 0 0,aw aB 0 0,ax ay 0,ax ay 0];have hr0:=hr.below hb0;obtain⟨H,hH⟩:=wU w.heap.size
 have HCK:=sqH (zF A c B d s w0 hg hr0);rw [<-hH]at hS hR hb0 ⊢
 have hHl:H<w0.heap.size:=hS.lt;have hHr:H+1<w0.heap.size:=hR.lt;obtain⟨x0,x1,x2,x3⟩:=sqC4 hS;rw [hw0,hH]at x0 x1 x2 x3;obtain⟨HPL,HQL,HG⟩:=sqJ3 (show ∀b∈s.aE,b.data.length<=1000000 from fun b hb=>by have:=(hg.b.one b hb).2.1;omega) (show ∀x∈s.aF,x.aL.length<=1000000 from fun x hx=>by have:=(zk (hg.e.one x hx).2.1).1;omega) hg;clear hg hr;go_enter func160,ntmps160;go_wp2_with fail;rw [<-hw0,<-hH];have HH:=sqH hH;clear hw0 hH x0 x1 x2 x3;refine wV HCK.o fun w1 hb1=>?_;dsimp only;have hr1:=hr0.below hb1;have hS1:=hS.below hb1;have y0:=hS1.c0;have HFN:=ku A c s.aE key w1 wj hr1.b;rw [HFX.o,xn,<-HSK.o]at HFN;have HFN:=sqH HFN;clear hr0 hS;go_wp2_with fail;clear y0;refine wV HFN.o fun w2 hb2=>?_;dsimp only;have hc2:=wg hb1 hb2;have hr2:=hr1.below hb2;have hS2:=hS1.below hb2;obtain⟨b,off,XB,xc,e1,hbb,d0,d1,d2,d3,_⟩:=hr2.b.blob_at i hi;have hi0:=wX i
 have hi1:(i:Int)<(s.aE.length:Int):=wj;have y0:=hS2.c0;rw [HPI.o]at d2;rw [e1]at y0;clear hr1 hS1 hb1 hb2 d0 d1 d3;go_wp2_with fail;clear y0 d2;refine wV (HMV.o w2) fun wq hwq=>?_;dsimp only;replace hwq:=hwq.symm;subst hwq;obtain⟨z0,z1,z2,z3⟩:=sqC4 hS2;have HCP:=sqH (qM A c B d s w2 wj wj HPL.o HQL.o hr2);clear hr2 e1;go_wp2_with fail;clear z0 z1 z2 z3;refine HCP.o.mono ?_;rintro e_ w4 ⟨q1,q2,rfl,ho4',hb4⟩;dsimp only;have hc4:=wg hc2 hb4;have ho4:=(ho4'.lower hc2.size).wider (N':=fun b=>b<w0.heap.size) (fun b hb=> .inl (Nat.lt_of_lt_of_le hb hc2.size));clear ho4' hc2 hb4 hS2;have h41:∀b,(aw (aC ⟨q1,0,aB⟩) s.aE.length s.aE.length).ownBlock=aC b->b<w4.heap.size:=fun b e=>(ho4.b.rwo.blk e).2;have h42:∀b,(aw (aC ⟨q2,0,aB⟩) s.aF.length s.aF.length).ownBlock=aC b->b<w4.heap.size:=fun b e=>(ho4.e.rwo.blk e).2;have hG:w0.heap.size<=w4.heap.size:=hc4.size;obtain⟨G,hGe⟩:=wU w4.heap.size
 rw [<-hGe]at h41 h42 hG;have hba:=wi w4 (aA #[(aw (aC ⟨q1,0,aB⟩) s.aE.length s.aE.length),(aw (aC ⟨q2,0,aB⟩) s.aF.length s.aF.length),ax ay s.aH,ax ay s.aG] 27);have hX:Arr (w4.alloc (aA #[(aw (aC ⟨q1,0,aB⟩) s.aE.length s.aE.length),(aw (aC ⟨q2,0,aB⟩) s.aF.length s.aF.length),ax ay s.aH,ax ay s.aG] 27)) G 27 [(aw (aC ⟨q1,0,aB⟩) s.aE.length s.aE.length),(aw (aC ⟨q2,0,aB⟩) s.aF.length s.aF.length),ax ay s.aH,ax ay s.aG]:=by rw [hGe];exact Arr.new w4 27 _
 have ho:=(ho4.wider (N':=fun b=>b<w0.heap.size\/b=G) (fun b hb=>hb.imp id (fun e=>wj))).below hba;have hR5:=(hR.below hc4).below hba;have hb5:=(hb0.trans (hc4.mono (Nat.le_of_lt hHl))).alloc wj (aA #[(aw (aC ⟨q1,0,aB⟩) s.aE.length s.aE.length),(aw (aC ⟨q2,0,aB⟩) s.aF.length s.aF.length),ax ay s.aH,ax ay s.aG] 27);clear hR ho4 hc4 hba hb0;have hR:=hR5;clear hR5;have hb:=hb5;clear hb5;have hq:w0.heap.size<=q1:=(ho.b.rwo.blk rfl).1;have hqG:q1<G:=h41 _ rfl
 refine wK 3 ?_;intros;rw [<-hGe];clear hGe;generalize w4.alloc (aA #[(aw (aC ⟨q1,0,aB⟩) s.aE.length s.aE.length),(aw (aC ⟨q2,0,aB⟩) s.aF.length s.aF.length),ax ay s.aH,ax ay s.aG] 27)=w5 at *
 obtain⟨⟨v0,k3⟩,f3,ho6,hg6⟩:=ho.setB (j:=2) (u:= ax ay n) (y:= { s.aE[i] with aM:=n }) hi wj (fun W cs h=>Xq _ _ W cs h) (ym _);have hX6:=hX.other (g':=q1) (k:=i*4+2) wj (ax ay n);have hR6:=hR.other (g':=q1) (k:=i*4+2) wj (ax ay n);have hb6:=hb.setCell (p:=⟨q1,i*4+2,aB⟩) ww (ax ay n);have x0:=hX.c0;clear hX hR hb ho;have hX:=hX6;have hR:=hR6;have hb:=hb6;have ho:=ho6;clear hX6 hR6 hb6 ho6 hg6;obtain⟨z0,z1,z2,z3⟩:=sqC4 hX;obtain⟨f0,f1,f2,f3⟩:=sqF4 hR;obtain⟨y0,y1,y2,y3⟩:=sqC4 hR;have hfin:=hR.all4 (aw (aC ⟨q1,0,aB⟩) s.aE.length s.aE.length) (aw (aC ⟨q2,0,aB⟩) s.aF.length s.aF.length) (ax ay s.aH) (ax ay s.aG);have hoF:=(((ho.set (g:=H+1) (k:=0) hHr (.inl hHr) (aw (aC ⟨q1,0,aB⟩) s.aE.length s.aE.length)).set (g:=H+1) (k:=1) hHr (.inl hHr) (aw (aC ⟨q2,0,aB⟩) s.aF.length s.aF.length)).set (g:=H+1) (k:=2) hHr (.inl hHr) (ax ay s.aH)).set (g:=H+1) (k:=3) hHr (.inl hHr) (ax ay s.aG);have hbF:=(((hb.setCell (p:=⟨H+1,0,aB⟩) ww (aw (aC ⟨q1,0,aB⟩) s.aE.length s.aE.length)).setCell (p:=⟨H+1,1,aB⟩) ww (aw (aC ⟨q2,0,aB⟩) s.aF.length s.aF.length)).setCell (p:=⟨H+1,2,aB⟩) ww (ax ay s.aH)).setCell (p:=⟨H+1,3,aB⟩) ww (ax ay s.aG);clear hR ho hb hX;go_wp2_with fail;refine bodyPost_ret (zI rfl _ _ (H+1) _ _ _ _ wu hfin underlying27 rfl wm) rfl ?_;exact⟨_,_,rfl,(hoF.lower (base':=H) wj).wider (N':=fun b=>b<H) (fun b hb=> .inl (.inl wj)),hbF⟩
theorem Ui (A:ae) (c:Nat) (B:ae) (d:Nat) (s:StoP) (key:ac) (up:Bool) (i:Nat) (w:World) (hg:GoodS s) (hr:RdSt w A c B d s) (hi:i<s.aF.length) (hk:s.aF[i].key=key) (hmv:if up then s.aF[i].aM<5 else 0<s.aF[i].aM/\s.aF[i].aM<=5) :
  Calls zZZ 129 #[.agg #[aw A s.aE.length c,aw B s.aF.length d,ax ay s.aH,ax ay s.aG],az ⟨key.toArray⟩,.bool up] w fun e w' =>
   ∃v1 v2,e= .returned (.tuple #[.agg #[v1,v2,ax ay s.aH,ax ay s.aG],ax ay 0])/\OwSt w' w.heap.size v1 v2 (ZM s i s.aF[i] (mvN s.aF[i].aM up)) (fun b=>b<w.heap.size)/\Below w.heap.size w w':=by
 have hlb:s.aE.length<=24:=hg.b.len;have hle:s.aF.length<=10:=hg.e.len;have HFX:=sqH (z19 hg.e.ris hi hk);obtain⟨p,hp⟩:=wU (s.aF[i].aM)
 rw [<-hp]at hmv ⊢
 have HPI:=sqH hp.symm;obtain⟨n,hn⟩:=wU (mvN p up)
 have HMV:=sqH (fun W=>X2 p up W hmv);rw [<-hn]at HMV ⊢
 obtain⟨sk,hsk⟩:=wU (⟨key.toArray⟩:ByteArray)
 rw [<-hsk];have HSK:=sqH hsk;clear hk hsk hn hp hmv;obtain⟨w0,hw0,hS,hR,hb0⟩:=zY w 27 [aw A s.aE.length c,aw B s.aF.length d,ax ay s.aH,ax ay s.aG] [aw aB 0 0,aw aB 0 0,ax ay 0,ax ay 0];have hr0:=hr.below hb0;obtain⟨H,hH⟩:=wU w.heap.size
 have HCK:=sqH (zF A c B d s w0 hg hr0);rw [<-hH]at hS hR hb0 ⊢
 have hHl:H<w0.heap.size:=hS.lt;have hHr:H+1<w0.heap.size:=hR.lt;obtain⟨x0,x1,x2,x3⟩:=sqC4 hS;rw [hw0,hH]at x0 x1 x2 x3;obtain⟨HPL,HQL,HG⟩:=sqJ3 (show ∀b∈s.aE,b.data.length<=1000000 from fun b hb=>by have:=(hg.b.one b hb).2.1;omega) (show ∀x∈s.aF,x.aL.length<=1000000 from fun x hx=>by have:=(zk (hg.e.one x hx).2.1).1;omega) hg;clear hg hr;go_enter func129,ntmps129;go_wp2_with fail;rw [<-hw0,<-hH];have HH:=sqH hH;clear hw0 hH x0 x1 x2 x3;refine wV HCK.o fun w1 hb1=>?_;dsimp only;have hr1:=hr0.below hb1;have hS1:=hS.below hb1;have y0:=hS1.c1;have HFN:=kI B d s.aF key w1 wj hr1.e;rw [HFX.o,xn,<-HSK.o]at HFN;have HFN:=sqH HFN;clear hr0 hS;go_wp2_with fail;clear y0;refine wV HFN.o fun w2 hb2=>?_;dsimp only;have hc2:=wg hb1 hb2;have hr2:=hr1.below hb2;have hS2:=hS1.below hb2;obtain⟨b,off,XB,xc,e1,hbb,d0,d1,d2,d3,_⟩:=hr2.e.ent_at i hi;have hi0:=wX i
 have hi1:(i:Int)<(s.aF.length:Int):=wj;have y0:=hS2.c1;rw [HPI.o]at d2;rw [e1]at y0;clear hr1 hS1 hb1 hb2 d0 d1 d3;go_wp2_with fail;clear y0 d2;refine wV (HMV.o w2) fun wq hwq=>?_;dsimp only;replace hwq:=hwq.symm;subst hwq;obtain⟨z0,z1,z2,z3⟩:=sqC4 hS2;have HCP:=sqH (qM A c B d s w2 wj wj HPL.o HQL.o hr2);clear hr2 e1;go_wp2_with fail;clear z0 z1 z2 z3;refine HCP.o.mono ?_;rintro e_ w4 ⟨q1,q2,rfl,ho4',hb4⟩;dsimp only;have hc4:=wg hc2 hb4;have ho4:=(ho4'.lower hc2.size).wider (N':=fun b=>b<w0.heap.size) (fun b hb=> .inl (Nat.lt_of_lt_of_le hb hc2.size));clear ho4' hc2 hb4 hS2;have h41:∀b,(aw (aC ⟨q1,0,aB⟩) s.aE.length s.aE.length).ownBlock=aC b->b<w4.heap.size:=fun b e=>(ho4.b.rwo.blk e).2;have h42:∀b,(aw (aC ⟨q2,0,aB⟩) s.aF.length s.aF.length).ownBlock=aC b->b<w4.heap.size:=fun b e=>(ho4.e.rwo.blk e).2;have hG:w0.heap.size<=w4.heap.size:=hc4.size;obtain⟨G,hGe⟩:=wU w4.heap.size
 rw [<-hGe]at h41 h42 hG;have hba:=wi w4 (aA #[(aw (aC ⟨q1,0,aB⟩) s.aE.length s.aE.length),(aw (aC ⟨q2,0,aB⟩) s.aF.length s.aF.length),ax ay s.aH,ax ay s.aG] 27);have hX:Arr (w4.alloc (aA #[(aw (aC ⟨q1,0,aB⟩) s.aE.length s.aE.length),(aw (aC ⟨q2,0,aB⟩) s.aF.length s.aF.length),ax ay s.aH,ax ay s.aG] 27)) G 27 [(aw (aC ⟨q1,0,aB⟩) s.aE.length s.aE.length),(aw (aC ⟨q2,0,aB⟩) s.aF.length s.aF.length),ax ay s.aH,ax ay s.aG]:=by rw [hGe];exact Arr.new w4 27 _
 have ho:=(ho4.wider (N':=fun b=>b<w0.heap.size\/b=G) (fun b hb=>hb.imp id (fun e=>wj))).below hba;have hR5:=(hR.below hc4).below hba;have hb5:=(hb0.trans (hc4.mono (Nat.le_of_lt hHl))).alloc wj (aA #[(aw (aC ⟨q1,0,aB⟩) s.aE.length s.aE.length),(aw (aC ⟨q2,0,aB⟩) s.aF.length s.aF.length),ax ay s.aH,ax ay s.aG] 27);clear hR ho4 hc4 hba hb0;have hR:=hR5;clear hR5;have hb:=hb5;clear hb5;have hq:w0.heap.size<=q2:=(ho.e.rwo.blk rfl).1;have hqG:q2<G:=h42 _ rfl
 refine wK 3 ?_;intros;rw [<-hGe];clear hGe;generalize w4.alloc (aA #[(aw (aC ⟨q1,0,aB⟩) s.aE.length s.aE.length),(aw (aC ⟨q2,0,aB⟩) s.aF.length s.aF.length),ax ay s.aH,ax ay s.aG] 27)=w5 at *
 obtain⟨⟨v0,k3⟩,f3,ho6,hg6⟩:=ho.setE (j:=2) (u:= ax ay n) (y:= { s.aF[i] with aM:=n }) hi wj (fun W cs h=>UO _ _ W cs h) (ym _);have hX6:=hX.other (g':=q2) (k:=i*4+2) wj (ax ay n);have hR6:=hR.other (g':=q2) (k:=i*4+2) wj (ax ay n);have hb6:=hb.setCell (p:=⟨q2,i*4+2,aB⟩) ww (ax ay n);have x0:=hX.c1;clear hX hR hb ho;have hX:=hX6;have hR:=hR6;have hb:=hb6;have ho:=ho6;clear hX6 hR6 hb6 ho6 hg6;obtain⟨z0,z1,z2,z3⟩:=sqC4 hX;obtain⟨f0,f1,f2,f3⟩:=sqF4 hR;obtain⟨y0,y1,y2,y3⟩:=sqC4 hR;have hfin:=hR.all4 (aw (aC ⟨q1,0,aB⟩) s.aE.length s.aE.length) (aw (aC ⟨q2,0,aB⟩) s.aF.length s.aF.length) (ax ay s.aH) (ax ay s.aG);have hoF:=(((ho.set (g:=H+1) (k:=0) hHr (.inl hHr) (aw (aC ⟨q1,0,aB⟩) s.aE.length s.aE.length)).set (g:=H+1) (k:=1) hHr (.inl hHr) (aw (aC ⟨q2,0,aB⟩) s.aF.length s.aF.length)).set (g:=H+1) (k:=2) hHr (.inl hHr) (ax ay s.aH)).set (g:=H+1) (k:=3) hHr (.inl hHr) (ax ay s.aG);have hbF:=(((hb.setCell (p:=⟨H+1,0,aB⟩) ww (aw (aC ⟨q1,0,aB⟩) s.aE.length s.aE.length)).setCell (p:=⟨H+1,1,aB⟩) ww (aw (aC ⟨q2,0,aB⟩) s.aF.length s.aF.length)).setCell (p:=⟨H+1,2,aB⟩) ww (ax ay s.aH)).setCell (p:=⟨H+1,3,aB⟩) ww (ax ay s.aG);clear hR ho hb hX;go_wp2_with fail;refine bodyPost_ret (zI rfl _ _ (H+1) _ _ _ _ wu hfin underlying27 rfl wm) rfl ?_;exact⟨_,_,rfl,(hoF.lower (base':=H) wj).wider (N':=fun b=>b<H) (fun b hb=> .inl (.inl wj)),hbF⟩
end Go.Proofs.YtcjndgldjhmbgaaGreat
