/- Lemmas, as stated. -/
import Derived.Test.YtcjmjaefcjcomaaGreatQB07
import Derived.Test.YtcjmjaefcjcomaaGreatQB08
import Derived.Test.YtcjmjaefcjcomaaGreatQB09
set_option linter.unusedVariables false
set_option linter.unusedSimpArgs false
set_option maxRecDepth 100000
set_option maxHeartbeats 16000000
open Go.Proofs.Tryz
open Go.Value renaming slice->aA,int->aB,string->aD
open Go.IntKind renaming i64->aC
open Go.Obj renaming cells->aE
open Option renaming some->aG,none->aF
open Go.Proofs.Tryz renaming prog->zZZ
namespace Go.Proofs.YtcjmjaefcjcomaaGreat
open Go.RowKit
variable {x y:EntP} {fn:Func} {base:Nat} {P:Program} {s:StoP} {p u:Tmp} {ty:TypeId} {v1 v2:Value} {w w':World} {N:am}
theorem z50 (x y:ai):Op.bytesLess y x=(!Op.bytesLess x y&& !(x==y)):=by
 rcases uS x y with h | h | h
 ·rw [h,yC h];rfl
 ·subst h;rw [yD];simp
 ·rw [h,yC h,beq_eq_false_iff_ne.2 (xf h).symm];rfl
theorem Ud (gk:Nat) (d:ai) (l:List BlobP) (w:World) (hk:w.cell? ⟨gk,0,none⟩=aG (aD ⟨d.toArray⟩)) (hg:gk<w.heap.size):Xb w l 169 (.pointer (aG ⟨gk,0,none⟩)) (fun b=>Op.bytesLess d b.dig):=by
 refine⟨fun _ _=>ww,fun b B cb W hb hbel hs=> ?_⟩;have hg1:gk<W.heap.size:=Nat.lt_of_lt_of_le hg hbel.size;have hk0:W.cell? ⟨gk,0,none⟩=aG (aD ⟨d.toArray⟩):=(hbel.cell (p:=⟨gk,0,none⟩) hg).trans hk;generalize hs1:(⟨b.dig.toArray⟩:ByteArray)=s;generalize hs2:(⟨d.toArray⟩:ByteArray)=t at hk0;have hst:Op.bytesLess d b.dig=(!Op.bytesLess s.toList t.toList&& !(s.toList==t.toList)):=by
  rw [<-hs1,<-hs2,ByteArray.toList_eq,ByteArray.toList_eq];exact z50 _ _
 dsimp only;rw [hst];have hb1:=ws W (aE #[aD s,aA B b.data.length cb,aB aC b.aQ,.bool b.mark] 55);have hk1:(W.alloc (aE #[aD s,aA B b.data.length cb,aB aC b.aQ,.bool b.mark] 55)).cell? ⟨gk,0,none⟩=aG (aD t):=(World.cell?_alloc_lt W _ ⟨gk,0,none⟩ hg1).trans hk0;clear hst hs1 hs2;go_enter func169,ntmps169;go_wp2_with fail;go_ret;exact⟨rfl,hb1⟩
def xx (r:Option Nat):Value:=match r with | some i=> .tuple #[aB aC i,aB aC 0] | none=> .tuple #[aB aC 0,aB aC 5]
theorem z0k (A:aj) (c:Nat) (l:List BlobP) (d:ai) (w:World) (hl:l.length<=1000000) (hA:Rw BlobS w A l) :
  Calls Tryz.prog 141 #[aA A l.length c,aD ⟨d.toArray⟩] w fun e w'=>e= .returned (xx (l.findIdx? (fun b=>Op.bytesLess d b.dig)))/\Below w.heap.size w w':=by
 obtain⟨s,hs⟩:=wY (⟨d.toArray⟩:ByteArray)
 rw [<-hs];have hA1:=Arr.new w 9 [aD s];have hb1:=ws w (aE #[aD s] 9);have hA1':Arr (w.alloc (aE #[aD s] 9)) w.heap.size 9 [aD s]:=hA1;have hk:=hA1'.c0;have HI:=Qg A c l _ (.pointer (aG ⟨w.heap.size,0,none⟩)) (fun b=>Op.bytesLess d b.dig) (w.alloc (aE #[aD s] 9)) hl (hA.below hb1) (Ud w.heap.size d l _ (by rw [hk,hs]) hA1'.lt);clear hs hA hA1 hA1' hk;cases hf:l.findIdx? (fun b=>Op.bytesLess d b.dig) with
 | none =>
  rw [hf]at HI;have HI:=sqH HI;go_enter func141,ntmps141;go_wp2_with fail;refine wZ HI.o fun w2 hb2=>?_;dsimp only;have hb12:=wm hb1 hb2;go_wp2_with fail;go_ret2;exact⟨rfl,hb12⟩
 | some i =>
  rw [hf]at HI;have HI:=sqH HI;have hi:decide ((i:Int)<0)=false:=decide_eq_false wu;go_enter func141,ntmps141;go_wp2_with fail;refine wZ HI.o fun w2 hb2=>?_;dsimp only;have hb12:=wm hb1 hb2;go_wp2_with fail;go_ret2;exact⟨rfl,hb12⟩
def yng (x y:EntP):Bool:=decide (x.aO<y.aO)||(decide (x.aO=y.aO)&&Op.bytesLess x.key y.key)
def Yo (l:List EntP) (o:Option Nat) (j:Nat) (x:EntP):Option Nat :=
 if x.aQ=0 then (match o with | none=>aG j | some a=>match l[a]? with | none=>aG a | some y=>if yng x y then aG j else aG a) else o
def ZQ (l:List EntP):Nat->Option Nat
 | 0=>none
 | j+1=>match l[j]? with | none=>ZQ l j | some x=>Yo l (ZQ l j) j x
theorem Vb (l:List EntP) (j:Nat) (hj:j<l.length):ZQ l (j+1)=Yo l (ZQ l j) j l[j]:=by
 rw [ZQ,List.getElem?_eq_getElem hj]
theorem xD {l:List EntP} {a j:Nat} (hp:x.aQ=0) (hy:l[a]?=aG y):Yo l (aG a) j x=if yng x y then aG j else aG a:=by
 unfold Yo;rw [if_pos hp];show(match l[a]? with | none=>aG a | some y=>if yng x y then aG j else aG a)=_;rw [hy]
theorem xj (l:List EntP):∀j a,ZQ l j=aG a->a<j/\a<l.length
 | 0,a,h=>by cases h
 | j+1,a,h=>by
  rw [ZQ]at h
  cases hx:l[j]? with
  | none=>rw [hx]at h;have:=xj l j a h;omega
  | some x =>
   have hj:j<l.length:=(List.getElem?_eq_some_iff.1 hx).1
   rw [hx]at h
   simp only [Yo]at h
   split at h
   ·cases ho:ZQ l j with
    | none=>rw [ho]at h;cases h;omega
    | some b =>
     have hb:=xj l j b ho
     rw [ho]at h
     simp only [List.getElem?_eq_getElem hb.2]at h
     split at h
     ·cases h;omega
     ·cases h;omega
   ·have:=xj l j a h;omega
theorem X0 (A:aj) (c:Nat) (l:List EntP) (w:World) (hl:l.length<=1000000) (hA:Rw EntS w A l) :
  Calls Tryz.prog 135 #[aA A l.length c] w fun e w'=>e= .returned (xx (ZQ l l.length))/\Below w.heap.size w w':=by
 go_enter func135,ntmps135;go_wp2_with fail;go_loopg [4,5,10] l.length (fun gn u1 u2 i wr=>∃j:Nat,gn=l.length - j/\i= aB aC j/\j<=l.length/\u1= aB aC (((ZQ l j).getD 0:Nat):Int)/\u2= .bool (ZQ l j).isSome/\Below w.heap.size w wr)
 case atStart=>exact⟨0,rfl,rfl,wu,rfl,rfl,Below.refl _ _⟩
 case round =>
  obtain⟨j,hgk,rfl,hj,rfl,rfl,hbl⟩:=hrel;have HGK:=sqH hgk;clear hgk;by_cases hlt:j<l.length
  ·have hcc:decide (j<l.length)=true:=decide_eq_true hlt;have hA2:=hA.below hbl;obtain⟨b,off,B,cb,rfl,hbb,c0,c1,c2,c3,hs⟩:=hA2.ent_at j hlt;have hj0:=we j
   have hj1:(j:Int)<(l.length:Int):=wu;have HO:=sqH (Vb l j hlt);have hlo:=xj l j;clear hs hA;generalize ZQ l j=o at *
   have hxe:l[j]?=aG l[j]:=List.getElem?_eq_getElem hlt;generalize l[j]=x at *
   clear hxe;have hb1:=ws wr (aE #[aD ⟨x.key.toArray⟩,aA B x.aP.length cb,aB aC x.aQ,aB aC x.aO] 120);have hb2:=wm hbl hb1;have hX:Arr (wr.alloc (aE #[aD ⟨x.key.toArray⟩,aA B x.aP.length cb,aB aC x.aQ,aB aC x.aO] 120)) wr.heap.size 120 [aD ⟨x.key.toArray⟩,aA B x.aP.length cb,aB aC x.aQ,aB aC x.aO]:=Arr.new wr 120 [aD ⟨x.key.toArray⟩,aA B x.aP.length cb,aB aC x.aQ,aB aC x.aO];have hA3:=hA2.below hb1;clear hA2 hbl hb1;by_cases hp:x.aQ=0
   ·have HP:=sqH hp;have p1:((x.aQ:Int)==0)=true:=by rw [hp];rfl
    clear hp;cases o with
    | none =>
     have hos:Yo l none j x=aG j:=by rw [Yo,if_pos HP.o]
     have HOS:=sqH hos;clear hos hlo hA3;have x2:=hX.c2;go_wp2_with fail;go_quiet (fail);go_wp2_with fail;go_roundg (l.length - (j+1))
     case measure=>exact wc HGK
     case rel=>exact⟨j+1,rfl,by go_num,wu,by(rw [HO.o,HOS.o]<;>rfl),by(rw [HO.o,HOS.o]<;>rfl),zO hb2 _⟩
    | some a =>
     obtain⟨ha1,ha2⟩:=hlo a rfl;clear hlo;obtain⟨b',off',B',cb',e4,hbb',d0,d1,d2,d3,hs'⟩:=hA3.ent_at a ha2;cases e4
     have hya:l[a]?=aG l[a]:=List.getElem?_eq_getElem ha2;generalize l[a]=y at *
     have HY:=sqH hya;have ha0:=we a
     have ha3:(a:Int)<(l.length:Int):=wu;clear hs' hya hA3;simp only [Option.getD_some,Option.isSome_some];have x0:=hX.c0;have x2:=hX.c2;have x3:=hX.c3;obtain⟨xk,hxk⟩:=wY (⟨x.key.toArray⟩:ByteArray)
     obtain⟨yk,hyk⟩:=wY (⟨y.key.toArray⟩:ByteArray)
     have HLK:=sqH (show Op.bytesLess xk.toList yk.toList=Op.bytesLess x.key y.key by rw [hxk,hyk,ByteArray.toList_eq,ByteArray.toList_eq]);rw [<-hxk]at x0 x2 x3 c0 hX hb2;rw [<-hyk]at d0;rw [<-hxk]at d0 d1 d2 d3;clear hxk hyk;by_cases hs1:x.aO<y.aO
     ·have s1:decide ((x.aO:Int)<(y.aO:Int))=true:=decide_eq_true wu;have s1':decide (x.aO<y.aO)=true:=decide_eq_true hs1;have hos:Yo l (aG a) j x=aG j:=by
       rw [xD HP.o HY.o,if_pos (by rw [yng,decide_eq_true hs1];rfl)]
      have HOS:=sqH hos;clear hos hs1;go_wp2_with fail;go_quiet (fail);go_wp2_with fail;go_roundg (l.length - (j+1))
      case measure=>exact wc HGK
      case rel=>exact⟨j+1,rfl,by go_num,wu,by(rw [HO.o,HOS.o]<;>rfl),by(rw [HO.o,HOS.o]<;>rfl),zO hb2 _⟩
     ·have s1:decide ((x.aO:Int)<(y.aO:Int))=false:=decide_eq_false wu;have s1':decide (x.aO<y.aO)=false:=decide_eq_false hs1;by_cases hs2:x.aO=y.aO
      ·have s2:((x.aO:Int)==(y.aO:Int))=true:=by rw [beq_iff_eq];omega
       have s2':(x.aO==y.aO)=true:=by rw [beq_iff_eq];omega
       cases hk:Op.bytesLess x.key y.key with
       | true =>
        have s3:Op.bytesLess xk.toList yk.toList=true:=HLK.o.trans hk;have hos:Yo l (aG a) j x=aG j:=by
         rw [xD HP.o HY.o,if_pos (by rw [yng,decide_eq_false hs1,decide_eq_true hs2,hk];rfl)]
        have HOS:=sqH hos;clear hos hs1 hs2 hk;go_wp2_with fail;go_quiet (fail);go_wp2_with fail;go_roundg (l.length - (j+1))
        case measure=>exact wc HGK
        case rel=>exact⟨j+1,rfl,by go_num,wu,by(rw [HO.o,HOS.o]<;>rfl),by(rw [HO.o,HOS.o]<;>rfl),zO hb2 _⟩
       | false =>
        have s3:Op.bytesLess xk.toList yk.toList=false:=HLK.o.trans hk;have hos:Yo l (aG a) j x=aG a:=by
         rw [xD HP.o HY.o,if_neg (by rw [yng,decide_eq_false hs1,decide_eq_true hs2,hk];simp)]
        have HOS:=sqH hos;clear hos hs1 hs2 hk;go_wp2_with fail;go_quiet (fail);go_wp2_with fail;go_roundg (l.length - (j+1))
        case measure=>exact wc HGK
        case rel=>exact⟨j+1,rfl,by go_num,wu,by(rw [HO.o,HOS.o]<;>rfl),by(rw [HO.o,HOS.o]<;>rfl),zO hb2 _⟩
      ·have s2:((x.aO:Int)==(y.aO:Int))=false:=by rw [beq_eq_false_iff_ne];omega
       have s2':(x.aO==y.aO)=false:=by rw [beq_eq_false_iff_ne];omega
       have hos:Yo l (aG a) j x=aG a:=by
        rw [xD HP.o HY.o,if_neg (by rw [yng,decide_eq_false hs1,decide_eq_false hs2];simp)]
       have HOS:=sqH hos;clear hos hs1 hs2;go_wp2_with fail;go_quiet (fail);go_wp2_with fail;go_roundg (l.length - (j+1))
       case measure=>exact wc HGK
       case rel=>exact⟨j+1,rfl,by go_num,wu,by(rw [HO.o,HOS.o]<;>rfl),by(rw [HO.o,HOS.o]<;>rfl),zO hb2 _⟩
   ·have HP:=sqH hp;have p1:((x.aQ:Int)==0)=false:=by rw [beq_eq_false_iff_ne];omega
    have hos:Yo l o j x=o:=by unfold Yo;rw [if_neg hp]
    have HOS:=sqH hos;have x2:=hX.c2;clear hos hlo hA3 hp;go_wp2_with fail;go_quiet (fail);go_wp2_with fail;go_roundg (l.length - (j+1))
    case measure=>exact wc HGK
    case rel=>exact⟨j+1,rfl,by go_num,wu,by(rw [HO.o,HOS.o]<;>rfl),by(rw [HO.o,HOS.o]<;>rfl),zO hb2 _⟩
  ·obtain rfl:j=l.length:=by omega
   have hcc:decide (l.length<l.length)=false:=ab;have hlo:=xj l l.length;cases ho:ZQ l l.length with
   | none =>
    have HO:=sqH ho;clear ho hlo;go_wp2_with fail;go_ret2;rw [HO.o];exact⟨rfl,hbl⟩
   | some a =>
    have HO:=sqH ho;clear ho hlo;go_wp2_with fail;go_ret2;rw [HO.o];exact⟨rfl,hbl⟩
theorem jL:∀x y:ai,Lib.compareBytes x y=0↔x=y
 | [], []=>by simp [Lib.compareBytes]
 | [],_::_=>by simp [Lib.compareBytes]
 | _::_, []=>by simp [Lib.compareBytes]
 | a::x,b::y=>by
  rw [Lib.compareBytes]
  rcases JX a b with h | h | h
  ·rw [if_pos h]
   exact⟨fun e=>wu,fun e=>by cases e;exact absurd h (UInt8.lt_irrefl _)⟩
  ·subst h
   rw [if_neg (UInt8.lt_irrefl _),if_neg (UInt8.lt_irrefl _),jL x y]
   simp
  ·rw [if_neg (UInt8.lt_asymm h),if_pos h]
   exact⟨fun e=>wu,fun e=>by cases e;exact absurd h (UInt8.lt_irrefl _)⟩
theorem Y2 (s t:ByteArray) (v1 v2 v3:Value) (w:World) :
  Calls zZZ 156 #[.agg #[aD s,v1,v2,v3],aD t] w fun e w'=>e= .returned (aB aC (Lib.compareBytes s.data.toList t.data.toList))/\Below w.heap.size w w':=by
 have hA1:=Arr.new w 55 [aD s,v1,v2,v3];have hA:Arr (w.alloc (aE #[aD s,v1,v2,v3] 55)) w.heap.size 55 [aD s,v1,v2,v3]:=hA1;have hb:=ws w (aE #[aD s,v1,v2,v3] 55);have a0:=hA.c0;have HC:=sqH (fun W=>Tryz.strings_Compare s t W);clear hA1 hA;go_enter func156,ntmps156;go_wp2_with fail;generalize w.alloc (aE #[aD s,v1,v2,v3] 55)=W at *
 refine(HC.o W).mono ?_;rintro e_ w1 ⟨rfl,rfl⟩;dsimp only;go_wp2_with fail;go_ret;exact⟨rfl,hb⟩
theorem Y4 (s t:ByteArray) (v1 v2 v3:Value) (w:World) :
  Calls zZZ 183 #[.agg #[aD s,v1,v2,v3],aD t] w fun e w'=>e= .returned (aB aC (Lib.compareBytes s.data.toList t.data.toList))/\Below w.heap.size w w':=by
 have hA1:=Arr.new w 120 [aD s,v1,v2,v3];have hA:Arr (w.alloc (aE #[aD s,v1,v2,v3] 120)) w.heap.size 120 [aD s,v1,v2,v3]:=hA1;have hb:=ws w (aE #[aD s,v1,v2,v3] 120);have a0:=hA.c0;have HC:=sqH (fun W=>Tryz.strings_Compare s t W);clear hA1 hA;go_enter func183,ntmps183;go_wp2_with fail;generalize w.alloc (aE #[aD s,v1,v2,v3] 120)=W at *
 refine(HC.o W).mono ?_;rintro e_ w1 ⟨rfl,rfl⟩;dsimp only;go_wp2_with fail;go_ret;exact⟨rfl,hb⟩
theorem Jz (A:aj) (c:Nat) (l:List BlobP) (d:ai) (w:World) (hl:l.length<=100000) (hris:RisesBy (·.dig) l) (hA:Rw BlobS w A l) :
  Calls zZZ 155 #[aA A l.length c,aD ⟨d.toArray⟩,.func (.func 156) #[] #[]] w fun e w' =>
   ∃i f,e= .returned (.tuple #[aB aC ((i:Nat):Int),.bool f])/\i<=l.length/\(∀k (h:k<l.length),k<i->Op.bytesLess l[k].dig d=true)/\(∀k (h:k<l.length),i<=k->Op.bytesLess l[k].dig d=false)/\(f=true↔∃h:i<l.length,l[i].dig=d)/\Below w.heap.size w w':=by
 obtain⟨t,ht⟩:=wY (⟨d.toArray⟩:ByteArray)
 rw [<-ht];have HT:=sqH ht;have HRI:=sqH hris;clear ht hris;have HCM:=sqH (fun (x:BlobP) (A':aj) (c':Nat) W=>Y2 ⟨x.dig.toArray⟩ t (aA A' x.data.length c') (aB aC x.aQ) (.bool x.mark) W);go_enter func155,ntmps155
 refine wL ?_;intros;go_loopg [9,10] l.length (fun gn u v wr=>∃i j:Nat,gn=j - i/\u= aB aC i/\v= aB aC j/\i<=j/\j<=l.length/\(∀k (h:k<l.length),k<i->Op.bytesLess l[k].dig d=true)/\(∀k (h:k<l.length),j<=k->Op.bytesLess l[k].dig d=false)/\Below w.heap.size w wr)
 case atStart=>exact⟨0,l.length,rfl,rfl,rfl,wu,wu,fun k _ h=>absurd h wu,fun k h h'=>absurd h wu,Below.refl _ _⟩
 case round =>
  obtain⟨i,j,hgk,rfl,rfl,hij,hjl,h1,h2,hbl⟩:=hrel;obtain⟨HGK,H1,H2⟩:=sqJ3 hgk h1 h2;clear hgk h1 h2;by_cases hlt:i<j
  ·have hcc:decide (i<j)=true:=decide_eq_true hlt;have hhl:(i+j) / 2<l.length:=wu
   obtain⟨b,off,B,cb,rfl,hbb,c0,c1,c2,c3,hs⟩:=(hA.below hbl).blob_at ((i+j) / 2) hhl;have hcm:=HCM.o l[(i+j) / 2] B cb wr;have HM:=sqH (show(((i:Int)+(j:Int)) / 2=(((i+j) / 2:Nat):Int))/\(((i:Int)+(j:Int)) / 2+1=(((i+j) / 2+1:Nat):Int)) from⟨wu,wu⟩);have hps:=List.pairwise_iff_getElem.1 HRI.o;obtain⟨sx,hsx⟩:=wY (⟨(l[(i+j) / 2]).dig.toArray⟩:ByteArray)
   rw [<-hsx]at c0 hcm;have hcp:Lib.compareBytes sx.data.toList t.data.toList=Lib.compareBytes (l[(i+j) / 2]).dig d:=by rw [hsx,HT.o]
   rw [hcp]at hcm;cases hle:Op.bytesLess (l[(i+j) / 2]).dig d with
   | true =>
    have hz:=uZ hle;have HP:=sqH (show ∀k (h:k<l.length),k<(i+j) / 2+1->Op.bytesLess l[k].dig d=true from fun k h hk=>by
     rcases Nat.lt_or_ge k ((i+j) / 2) with h1 | h1
     ·exact qi (hps k _ h hhl h1) hle
     ·have:k=(i+j) / 2:=by omega
      subst this;exact hle)
    clear hps hle hsx hcp hs;generalize Lib.compareBytes (l[(i+j) / 2]).dig d=z at *
    generalize l[(i+j) / 2]=x at *
    have hz1:decide (z<0)=true:=decide_eq_true hz;have HCL:=sqH hcm;clear hcm;go_wp2_with fail;refine wZ HCL.o fun w5 hb5=>?_;dsimp only;have hbl5:=wm hbl hb5;go_wp2_with fail;go_roundg (j - ((i+j) / 2+1))
    case measure=>exact wc HGK
    case rel=>exact⟨(i+j) / 2+1,j,rfl,by rw [HM.o.2],rfl,wu,hjl,HP.o,H2.o,hbl5⟩
   | false =>
    have hz:=uY hle;have HP:=sqH (show ∀k (h:k<l.length),(i+j) / 2<=k->Op.bytesLess l[k].dig d=false from fun k h hk=>by
     rcases Nat.lt_or_ge ((i+j) / 2) k with h1 | h1
     ·cases hq:Op.bytesLess l[k].dig d with
      | false=>rfl
      | true=>have:=qi (hps _ k hhl h h1) hq;rw [hle]at this;cases this
     ·have:k=(i+j) / 2:=by omega
      subst this;exact hle)
    clear hps hle hsx hcp hs;generalize Lib.compareBytes (l[(i+j) / 2]).dig d=z at *
    generalize l[(i+j) / 2]=x at *
    have hz1:decide (z<0)=false:=decide_eq_false hz;have HCL:=sqH hcm;clear hcm;go_wp2_with fail;refine wZ HCL.o fun w5 hb5=>?_;dsimp only;have hbl5:=wm hbl hb5;go_wp2_with fail;go_roundg ((i+j) / 2 - i)
    case measure=>exact wc HGK
    case rel=>exact⟨i,(i+j) / 2,rfl,rfl,by rw [HM.o.1],wu,wu,H1.o,HP.o,hbl5⟩
  ·obtain rfl:i=j:=by omega
   have hcc:decide (i<i)=false:=ab;by_cases hin:i<l.length
   ·have hcd:decide (i<l.length)=true:=decide_eq_true hin;have hi0:=we i
    have hi1:(i:Int)<(l.length:Int):=wu;obtain⟨b,off,B,cb,rfl,hbb,c0,c1,c2,c3,hs⟩:=(hA.below hbl).blob_at i hin;have hcm:=HCM.o l[i] B cb wr;obtain⟨sx,hsx⟩:=wY (⟨(l[i]).dig.toArray⟩:ByteArray)
    rw [<-hsx]at c0 hcm;have hcp:Lib.compareBytes sx.data.toList t.data.toList=Lib.compareBytes (l[i]).dig d:=by rw [hsx,HT.o]
    rw [hcp]at hcm;have HQ:=sqH (jL (l[i]).dig d);have HE:=sqH (show((∃h:i<l.length,l[i].dig=d)↔l[i].dig=d) from⟨fun ⟨_,h⟩=>h,fun h=>⟨hin,h⟩⟩);clear hsx hcp hs;generalize Lib.compareBytes (l[i]).dig d=z at *
    generalize l[i]=x at *
    have HCL:=sqH hcm;clear hcm;go_wp2_with fail;refine wZ HCL.o fun w5 hb5=>?_;dsimp only;have hbl5:=wm hbl hb5;go_wp2_with fail;go_ret2;refine⟨i,z==0,rfl,wu,H1.o,H2.o,?_,hbl5⟩;rw [HE.o,beq_iff_eq,HQ.o]
   ·have hcd:decide (i<l.length)=false:=decide_eq_false hin
    refine wL ?_;intros;go_ret2;refine⟨i,false,rfl,wu,H1.o,H2.o,⟨fun h=>(by cases h),fun ⟨h,_⟩=>absurd h hin⟩,hbl⟩
theorem z2q (A:aj) (c:Nat) (l:List EntP) (d:ai) (w:World) (hl:l.length<=100000) (hris:RisesBy (·.key) l) (hA:Rw EntS w A l) :
  Calls zZZ 182 #[aA A l.length c,aD ⟨d.toArray⟩,.func (.func 183) #[] #[]] w fun e w' =>
   ∃i f,e= .returned (.tuple #[aB aC ((i:Nat):Int),.bool f])/\i<=l.length/\(∀k (h:k<l.length),k<i->Op.bytesLess l[k].key d=true)/\(∀k (h:k<l.length),i<=k->Op.bytesLess l[k].key d=false)/\(f=true↔∃h:i<l.length,l[i].key=d)/\Below w.heap.size w w':=by
 obtain⟨t,ht⟩:=wY (⟨d.toArray⟩:ByteArray)
 rw [<-ht];have HT:=sqH ht;have HRI:=sqH hris;clear ht hris;have HCM:=sqH (fun (x:EntP) (A':aj) (c':Nat) W=>Y4 ⟨x.key.toArray⟩ t (aA A' x.aP.length c') (aB aC x.aQ) (aB aC x.aO) W);go_enter func182,ntmps182
 refine wL ?_;intros;go_loopg [9,10] l.length (fun gn u v wr=>∃i j:Nat,gn=j - i/\u= aB aC i/\v= aB aC j/\i<=j/\j<=l.length/\(∀k (h:k<l.length),k<i->Op.bytesLess l[k].key d=true)/\(∀k (h:k<l.length),j<=k->Op.bytesLess l[k].key d=false)/\Below w.heap.size w wr)
 case atStart=>exact⟨0,l.length,rfl,rfl,rfl,wu,wu,fun k _ h=>absurd h wu,fun k h h'=>absurd h wu,Below.refl _ _⟩
 case round =>
  obtain⟨i,j,hgk,rfl,rfl,hij,hjl,h1,h2,hbl⟩:=hrel;obtain⟨HGK,H1,H2⟩:=sqJ3 hgk h1 h2;clear hgk h1 h2;by_cases hlt:i<j
  ·have hcc:decide (i<j)=true:=decide_eq_true hlt;have hhl:(i+j) / 2<l.length:=wu
   obtain⟨b,off,B,cb,rfl,hbb,c0,c1,c2,c3,hs⟩:=(hA.below hbl).ent_at ((i+j) / 2) hhl;have hcm:=HCM.o l[(i+j) / 2] B cb wr;have HM:=sqH (show(((i:Int)+(j:Int)) / 2=(((i+j) / 2:Nat):Int))/\(((i:Int)+(j:Int)) / 2+1=(((i+j) / 2+1:Nat):Int)) from⟨wu,wu⟩);have hps:=List.pairwise_iff_getElem.1 HRI.o;obtain⟨sx,hsx⟩:=wY (⟨(l[(i+j) / 2]).key.toArray⟩:ByteArray)
   rw [<-hsx]at c0 hcm;have hcp:Lib.compareBytes sx.data.toList t.data.toList=Lib.compareBytes (l[(i+j) / 2]).key d:=by rw [hsx,HT.o]
   rw [hcp]at hcm;cases hle:Op.bytesLess (l[(i+j) / 2]).key d with
   | true =>
    have hz:=uZ hle;have HP:=sqH (show ∀k (h:k<l.length),k<(i+j) / 2+1->Op.bytesLess l[k].key d=true from fun k h hk=>by
     rcases Nat.lt_or_ge k ((i+j) / 2) with h1 | h1
     ·exact qi (hps k _ h hhl h1) hle
     ·have:k=(i+j) / 2:=by omega
      subst this;exact hle)
    clear hps hle hsx hcp hs;generalize Lib.compareBytes (l[(i+j) / 2]).key d=z at *
    generalize l[(i+j) / 2]=x at *
    have hz1:decide (z<0)=true:=decide_eq_true hz;have HCL:=sqH hcm;clear hcm;go_wp2_with fail;refine wZ HCL.o fun w5 hb5=>?_;dsimp only;have hbl5:=wm hbl hb5;go_wp2_with fail;go_roundg (j - ((i+j) / 2+1))
    case measure=>exact wc HGK
    case rel=>exact⟨(i+j) / 2+1,j,rfl,by rw [HM.o.2],rfl,wu,hjl,HP.o,H2.o,hbl5⟩
   | false =>
    have hz:=uY hle;have HP:=sqH (show ∀k (h:k<l.length),(i+j) / 2<=k->Op.bytesLess l[k].key d=false from fun k h hk=>by
     rcases Nat.lt_or_ge ((i+j) / 2) k with h1 | h1
     ·cases hq:Op.bytesLess l[k].key d with
      | false=>rfl
      | true=>have:=qi (hps _ k hhl h h1) hq;rw [hle]at this;cases this
     ·have:k=(i+j) / 2:=by omega
      subst this;exact hle)
    clear hps hle hsx hcp hs;generalize Lib.compareBytes (l[(i+j) / 2]).key d=z at *
    generalize l[(i+j) / 2]=x at *
    have hz1:decide (z<0)=false:=decide_eq_false hz;have HCL:=sqH hcm;clear hcm;go_wp2_with fail;refine wZ HCL.o fun w5 hb5=>?_;dsimp only;have hbl5:=wm hbl hb5;go_wp2_with fail;go_roundg ((i+j) / 2 - i)
    case measure=>exact wc HGK
    case rel=>exact⟨i,(i+j) / 2,rfl,rfl,by rw [HM.o.1],wu,wu,H1.o,HP.o,hbl5⟩
  ·obtain rfl:i=j:=by omega
   have hcc:decide (i<i)=false:=ab;by_cases hin:i<l.length
   ·have hcd:decide (i<l.length)=true:=decide_eq_true hin;have hi0:=we i
    have hi1:(i:Int)<(l.length:Int):=wu;obtain⟨b,off,B,cb,rfl,hbb,c0,c1,c2,c3,hs⟩:=(hA.below hbl).ent_at i hin;have hcm:=HCM.o l[i] B cb wr;obtain⟨sx,hsx⟩:=wY (⟨(l[i]).key.toArray⟩:ByteArray)
    rw [<-hsx]at c0 hcm;have hcp:Lib.compareBytes sx.data.toList t.data.toList=Lib.compareBytes (l[i]).key d:=by rw [hsx,HT.o]
    rw [hcp]at hcm;have HQ:=sqH (jL (l[i]).key d);have HE:=sqH (show((∃h:i<l.length,l[i].key=d)↔l[i].key=d) from⟨fun ⟨_,h⟩=>h,fun h=>⟨hin,h⟩⟩);clear hsx hcp hs;generalize Lib.compareBytes (l[i]).key d=z at *
    generalize l[i]=x at *
    have HCL:=sqH hcm;clear hcm;go_wp2_with fail;refine wZ HCL.o fun w5 hb5=>?_;dsimp only;have hbl5:=wm hbl hb5;go_wp2_with fail;go_ret2;refine⟨i,z==0,rfl,wu,H1.o,H2.o,?_,hbl5⟩;rw [HE.o,beq_iff_eq,HQ.o]
   ·have hcd:decide (i<l.length)=false:=decide_eq_false hin
    refine wL ?_;intros;go_ret2;refine⟨i,false,rfl,wu,H1.o,H2.o,⟨fun h=>(by cases h),fun ⟨h,_⟩=>absurd h hin⟩,hbl⟩
theorem KR (gk:Nat) (d:ai) (l:List EntP) (w:World) (hk:w.cell? ⟨gk,0,aF⟩=aG (aD ⟨d.toArray⟩)) (hg:gk<w.heap.size):JB w l 130 (.pointer (aG ⟨gk,0,aF⟩)) (fun b=>b.key==d):=by
 refine⟨fun _ _=>ww,fun b B cb W hb hbel hs=> ?_⟩;have hg1:gk<W.heap.size:=Nat.lt_of_lt_of_le hg hbel.size;have hk0:W.cell? ⟨gk,0,aF⟩=aG (aD ⟨d.toArray⟩):=(hbel.cell (p:=⟨gk,0,aF⟩) hg).trans hk;generalize hs1:(⟨b.key.toArray⟩:ByteArray)=s;generalize hs2:(⟨d.toArray⟩:ByteArray)=t at hk0;have hst:(b.key==d)=(s.toList==t.toList):=by
  rw [<-hs1,<-hs2,ByteArray.toList_eq,ByteArray.toList_eq]
 dsimp only;rw [hst];have hb1:=ws W (aE #[aD s,aA B b.aP.length cb,aB aC b.aQ,(aB aC b.aO)] 120);have hk1:(W.alloc (aE #[aD s,aA B b.aP.length cb,aB aC b.aQ,(aB aC b.aO)] 120)).cell? ⟨gk,0,aF⟩=aG (aD t):=(World.cell?_alloc_lt W _ ⟨gk,0,aF⟩ hg1).trans hk0;clear hst hs1 hs2;go_enter func130,ntmps130;go_wp2_with fail;go_ret;exact⟨rfl,hb1⟩
theorem kN (A:aj) (c:Nat) (l:List EntP) (d:ai) (w:World) (hl:l.length<=1000000) (hA:Rw EntS w A l) :
  Calls zZZ 92 #[aA A l.length c,aD ⟨d.toArray⟩] w fun e w'=>e= .returned (xx (l.findIdx? (fun x=>x.key==d)))/\Below w.heap.size w w':=by
 obtain⟨s,hs⟩:=wY (⟨d.toArray⟩:ByteArray)
 rw [<-hs];have hA1:=Arr.new w 9 [aD s];have hb1:=ws w (aE #[aD s] 9);have hA1':Arr (w.alloc (aE #[aD s] 9)) w.heap.size 9 [aD s]:=hA1;have hk:=hA1'.c0;have HI:=z0e A c l _ (.pointer (aG ⟨w.heap.size,0,aF⟩)) (fun x=>x.key==d) (w.alloc (aE #[aD s] 9)) hl (hA.below hb1) (KR w.heap.size d l _ (by rw [hk,hs]) hA1'.lt);clear hs hA hA1 hA1' hk;cases hf:l.findIdx? (fun x=>x.key==d) with
 | none =>
  rw [hf]at HI;have HI:=sqH HI;go_enter func92,ntmps92;go_wp2_with fail;refine wZ HI.o fun w2 hb2=>?_;dsimp only;have hb12:=wm hb1 hb2;go_wp2_with fail;go_ret2;exact⟨rfl,hb12⟩
 | some i =>
  rw [hf]at HI;have HI:=sqH HI;have hi:decide ((i:Int)<0)=false:=decide_eq_false wu;go_enter func92,ntmps92;go_wp2_with fail;refine wZ HI.o fun w2 hb2=>?_;dsimp only;have hb12:=wm hb1 hb2;go_wp2_with fail;go_ret2;exact⟨rfl,hb12⟩
theorem z0n (A:aj) (c:Nat) (l:List EntP) (x:EntP) (PA:aj) (pc:Nat) (w:World) (hg:GoodE l) (hx:GoodE1 x) (hlen:l.length<10) (hA:Rw EntS w A l) (hP:Sl w 3 PA x.aP.length pc (pcs x.aP)) :
  Calls zZZ 163 #[aA A l.length c,.agg #[aD ⟨x.key.toArray⟩,aA PA x.aP.length pc,aB aC x.aQ,aB aC x.aO]] w fun e w' =>
   ∃v,e= .returned (.tuple #[v,aB aC 0])/\RwX EntS 120 w' w.heap.size v (xl l x) (fun b=>b<w.heap.size)/\Below w.heap.size w w':=by
 have HGD:=sqH (ZV hg hx hlen);have hpl:x.aP.length<=8:=(zi hx.2.1).1;have hg1:=hg.ris;obtain⟨sx,hsx⟩:=wY (⟨x.key.toArray⟩:ByteArray)
 rw [<-hsx];have hX:Arr (w.alloc (aE #[aD sx,aA PA x.aP.length pc,aB aC x.aQ,aB aC x.aO] 120)) w.heap.size 120 [aD sx,aA PA x.aP.length pc,aB aC x.aQ,aB aC x.aO]:=Arr.new w 120 _;have hb1:=ws w (aE #[aD sx,aA PA x.aP.length pc,aB aC x.aQ,aB aC x.aO] 120);have HC1:=sqH (xq A c l _ hg (hA.below hb1));have hA1:=hA.below hb1;have hP1:=hP.below hb1;have HSX:=sqH hsx;obtain⟨H,hH⟩:=wY w.heap.size
 have hlt1:=hX.lt;rw [<-hH]at hX hlt1;have hgl:l.length<=10:=hg.len;have HPL:=sqH (show ∀y∈l,y.aP.length<=1000000 from fun y hy=>by have:=(zi (hg.one y hy).2.1).1;omega);have HA0:=sqH hA;clear hg hx hA hP hsx;go_enter func163,ntmps163;go_wp2_with fail;rw [<-hH];have HH:=sqH hH;clear hH;generalize w.alloc (aE #[aD sx,aA PA x.aP.length pc,aB aC x.aQ,aB aC x.aO] 120)=w1 at *
 refine wZ HC1.o fun w2 hb2=>?_;dsimp only;have hb12:=wm hb1 hb2;have hX2:=hX.below hb2;have hA2:=hA1.below hb2;have hP2:=hP1.below hb2;have k0:=hX2.c0;have HBS:=z2q A c l x.key w2 wu hg1 hA2;rw [<-HSX.o]at HBS;have HBS:=sqH HBS;clear hX hA1 hP1;go_wp2_with fail;clear k0;refine HBS.o.mono ?_;rintro e_ w3 ⟨i,f,rfl,hil,P1,P2,hf,hb3⟩;dsimp only;have hb13:=wm hb12 hb3;have hX3:=hX2.below hb3;have hA3:=hA2.below hb3;have hP3:=hP2.below hb3;obtain⟨HF,HP1,HP2,HG1,HCP⟩:=sqJ5 hf P1 P2 hg1 (QU A c l w3 wu (fun y hy=>HPL.o y hy) hA3);clear hX2 hA2 hP2 hf P1 P2 hg1;go_wp2_with fail;refine HCP.o.mono ?_;rintro e_ w4 ⟨g,rfl,hx4,hb4⟩;dsimp only;have hb14:=wm hb13 hb4;have hX4:=hX3.below hb4;have hP4:=hP3.below hb4;have hH3:=hX3.lt;have y1:=hX4.c1;have HCN:=sqH (yz PA x.aP.length pc (pcs x.aP) w4 wu hP4.rd (jX _));have hg3:=(hx4.rwo.blk rfl)
 clear hX3 hA3 hP3;go_wp2_with fail;clear y1;refine HCN.o.mono ?_;rintro e_ w5 ⟨v5,rfl,ho5,hb5⟩;dsimp only;obtain⟨A5,c5,rfl,hs5,hl5⟩:=uG ho5;have hX5:=hX4.below hb5;have hx5:=hx4.below hb5;have hb15:=wm hb14 hb5;have f1:=hX5.frozen 1;have y1:=hX5.c1;have hx6:=hx5.set (g:=H) (k:=1) hH3 hH3 (aA A5 x.aP.length c5);have hX6:=hX5.set (k:=1) ab (aA A5 x.aP.length c5);have hs6:=hs5.other (g:=H) (k:=1) (fun a ha=>by have:=hl5 a ha;have:=hX4.lt;omega) (aA A5 x.aP.length c5);have hb06:=hb15.setCell (p:=⟨H,1,aF⟩) (by rw [<-HH.o];exact Nat.le_refl _) (aA A5 x.aP.length c5);have hsz4:w4.heap.size<=w5.heap.size:=hb5.size;have hgb:g<w4.heap.size:=hg3.2;have hw03:w.heap.size<=w3.heap.size:=hb13.size;have hw34:w3.heap.size<=w4.heap.size:=hb4.size;clear hx4 hx5 hX4 hX5 hP4 ho5 hs5 hb4 hb5 hb15 hb14 hb13;have hX6':Arr (w5.setCell ⟨H,1,aF⟩ (aA A5 x.aP.length c5)) H 120 [aD sx,aA A5 x.aP.length c5,aB aC x.aQ,aB aC x.aO]:=hX6;clear hX6;cases f with
 | true =>
  obtain⟨hi,he⟩:=HF.o.1 rfl;have HPE:=sqH (show xl l x=l.set i { x with aQ:=l[i].aQ } by
   unfold xl;rw [jI (f:=fun y:EntP=>y.key) HP1.o hi he];show l.set i { x with aQ:=(match l[i]? with | some y=>y.aQ | none=>0) }=_;rw [List.getElem?_eq_getElem hi])
  obtain⟨b,off,B,cb,rfl,hbb,d0,d1,d2,d3,_⟩:=(HA0.o.below hb06).ent_at i hi;have hi0:=we i
  have hi1:(i:Int)<(l.length:Int):=wu;clear he;generalize l[i].aQ=pn at *
  have f2:=hX6'.frozen 2;have y2:=hX6'.c2;have hX7:Arr ((w5.setCell ⟨H,1,aF⟩ (aA A5 x.aP.length c5)).setCell ⟨H,2,aF⟩ (aB aC pn)) H 120 [aD sx,aA A5 x.aP.length c5,aB aC pn,aB aC x.aO]:=hX6'.set (k:=2) ab _;have hx7:=hx6.set (g:=H) (k:=2) hH3 hH3 (aB aC pn);have hs7:=hs6.other (g:=H) (k:=2) (fun a ha=>by have:=hl5 a ha;omega) (aB aC pn);have hb07:=hb06.setCell (p:=⟨H,2,aF⟩) (by rw [<-HH.o];exact Nat.le_refl _) (aB aC pn);obtain⟨ps7,hx7o,hx7l⟩:∃cs,Arr ((w5.setCell ⟨H,1,aF⟩ (aA A5 x.aP.length c5)).setCell ⟨H,2,aF⟩ (aB aC pn)) g 120 cs/\cs.length=l.length*4:=by
   obtain⟨ps,_,_,h3,_⟩:=hx7;obtain⟨g',cap',cs,e1,_,h4,_,_,h5,_⟩:=yt h3 wu;injection e1 with e11 _ e13;injection e11 with e11;injection e11 with e11;subst e11 e13;exact⟨cs,h4,h5⟩
  have q0:=hx7o.cell (k:=i*4) (List.getElem?_eq_getElem wu);have q1:=hx7o.cell (k:=i*4+1) (List.getElem?_eq_getElem wu);have q2:=hx7o.cell (k:=i*4+2) (List.getElem?_eq_getElem wu);have q3:=hx7o.cell (k:=i*4+3) (List.getElem?_eq_getElem wu);have p0:=hx7o.frozen (i*4);have p1:=hx7o.frozen (i*4+1);have p2:=hx7o.frozen (i*4+2);have p3:=hx7o.frozen (i*4+3);obtain⟨k0,k1,k2,k3⟩:=sqC4 hX7;obtain⟨hx8,hg8⟩:=hx7.put4 (x:= { x with aQ:=pn }) (u0:= aD sx) (u1:= aA A5 x.aP.length c5) (u2:= aB aC pn) (u3:= aB aC x.aO) rfl hi ⟨A5,c5,by rw [HSX.o];rfl,hs7⟩ (fun b hb ⟨a,n',c',hm,e⟩=>by
   simp only [List.mem_cons,List.not_mem_nil,or_false,Value.slice.injEq,reduceCtorEq,false_or]at hm;have:=hl5 a hm.1.symm;rcases hb with hb | hb<;>omega)
  have hb08:=hb07.grown hg8 hb07.size (fun k hk=>by cases hk;exact Nat.le_trans hw03 hg3.1);rw [show l.set i { x with aQ:=pn }=xl l x from HPE.o.symm]at hx8;have hlen8:(xl l x).length=l.length:=by rw [HPE.o,List.length_set]
  rw [put4]at hx8 hg8 hb08;clear hx7o hx6 hs6 hX6' hx7 hs7 hb06 hb07 hg8 hX7;go_wp2_with fail;clear d0 d1 d2 d3 f2 y2 q0 q1 q2 q3 p0 p1 p2 p3 k0 k1 k2 k3 hx7l;generalize (((((w5.setCell ⟨H,1,aF⟩ (aA A5 x.aP.length c5)).setCell ⟨H,2,aF⟩ (aB aC pn)).setCell ⟨g,i*4,aF⟩ (aD sx)).setCell ⟨g,i*4+1,aF⟩ (aA A5 x.aP.length c5)).setCell ⟨g,i*4+2,aF⟩ (aB aC pn)).setCell ⟨g,i*4+3,aF⟩ (aB aC x.aO)=w8 at *
  have HC8:=xq (aG ⟨g,0,aF⟩) l.length (xl l x) w8 HGD.o (by
   obtain⟨A',c',e1,_,_,h⟩:=hx8.rwo.rows;injection e1 with e2;rw [e2];exact h)
  rw [hlen8]at HC8;have HC8:=sqH HC8;refine wZ HC8.o fun w9 hb9=>?_;dsimp only;have hx9:=((hx8.below hb9).lower hw03).wider (N':=fun b=>b<w.heap.size) (fun b hb=> .inl (Nat.lt_of_lt_of_le hb hw03));have hb09:=wm hb08 hb9;clear hx8 hb08 hb9;go_wp2_with fail;go_ret2;exact⟨_,rfl,hx9,hb09⟩
 | false =>
  have hn:¬ ∃h:i<l.length,l[i].key=x.key:=fun h=>by have:=HF.o.2 h;cases this
  have HPE:=sqH (show xl l x=l.take i++x::l.drop i by
   unfold xl;rw [JE (f:=fun y:EntP=>y.key) HG1.o HP1.o HP2.o hn];exact(JF (f:=fun y:EntP=>y.key) HG1.o HP1.o HP2.o hn rfl).symm)
  obtain⟨k0,k1,k2,k3⟩:=sqC4 hX6';clear hn HF;have hg31:w3.heap.size<=g:=hg3.1;have hz6:(w5.setCell ⟨H,1,aF⟩ (aA A5 x.aP.length c5)).heap.size=w5.heap.size:=by simp [World.setCell]
  have hV:Arr ((w5.setCell ⟨H,1,aF⟩ (aA A5 x.aP.length c5)).alloc (aE #[aD sx,aA A5 x.aP.length c5,aB aC x.aQ,aB aC x.aO] 120)) (w5.setCell ⟨H,1,aF⟩ (aA A5 x.aP.length c5)).heap.size 120 (ko x A5 c5):=by
   rw [ko,<-HSX.o];exact Arr.new (w5.setCell ⟨H,1,aF⟩ (aA A5 x.aP.length c5)) 120 _
  have hba:=(Below.refl (w5.setCell ⟨H,1,aF⟩ (aA A5 x.aP.length c5)).heap.size (w5.setCell ⟨H,1,aF⟩ (aA A5 x.aP.length c5))).alloc ag (aE #[aD sx,aA A5 x.aP.length c5,aB aC x.aQ,aB aC x.aO] 120);have hx7:=hx6.below hba;have hs7:=hs6.below hba;have hb07:=wm hb06 hba;have hgsz:g<(w5.setCell ⟨H,1,aF⟩ (aA A5 x.aP.length c5)).heap.size:=(hx6.rwo.blk rfl).2;have hbs7:w3.heap.size<=((w5.setCell ⟨H,1,aF⟩ (aA A5 x.aP.length c5)).alloc (aE #[aD sx,aA A5 x.aP.length c5,aB aC x.aQ,aB aC x.aO] 120)).heap.size:=by rw [World.size_alloc];omega
  clear hx6 hs6 hX6' hba hb06;go_wp2_with fail;rw [<-hz6];clear k0 k1 k2 k3;generalize hw6:(w5.setCell ⟨H,1,aF⟩ (aA A5 x.aP.length c5))=w6 at *
  clear hw6 hz6;generalize w6.alloc (aE #[aD sx,aA A5 x.aP.length c5,aB aC x.aQ,aB aC x.aO] 120)=w7 at *
  have HIN:=sqH (KZ l g i x A5 c5 w6.heap.size 1 w7 w3.heap.size (fun b=>b<w3.heap.size) hil wu hbs7 hx7 hV ⟨A5,c5,rfl,hs7⟩ (fun b hb hle=>by
   obtain⟨a,e1,e2⟩:=UN hle;have:=hl5 a e1;rcases hb with hb | hb<;>omega))
  clear hV hx7 hs7 hbs7;refine HIN.o.mono ?_;rintro e_ w8 ⟨v8,rfl,hx8,hg8⟩;dsimp only;have hb08:=hb07.grown hg8 hb07.size (fun k hk=>by cases hk;exact Nat.le_trans hw03 hg3.1);rw [show l.take i++x::l.drop i=xl l x from HPE.o.symm]at hx8;have hlp:(xl l x).length<=10:=HGD.o.len;have HCL:=sqH (YG v8 (xl l x) w8 w3.heap.size _ wu hx8);obtain⟨A8,c8,rfl,_,_,_⟩:=hx8.rwo.rows;clear hx8 hg8 hb07;go_wp2_with fail;refine HCL.o.mono ?_;rintro e_ w9 ⟨v9,rfl,hx9,hb9⟩;dsimp only;have hb09:=wm hb08 hb9;have hw8:w.heap.size<=w8.heap.size:=hb08.size;obtain⟨A9,c9,rfl,_,_,hR9⟩:=hx9.rwo.rows;have HC8:=sqH (xq A9 c9 (xl l x) w9 HGD.o hR9);clear hb9 hb08 hR9;go_wp2_with fail;refine wZ HC8.o fun w10 hb10=>?_;dsimp only;have hx10:=((hx9.below hb10).lower hw8).wider (N':=fun b=>b<w.heap.size) (fun b hb=> .inl (Nat.lt_of_lt_of_le hb hw03));have hb010:=wm hb09 hb10;clear hx9 hb09 hb10;go_wp2_with fail;go_ret2;exact⟨_,rfl,hx10,hb010⟩
theorem xE (l:List BlobP) (d:ai):(putB l d).length<=l.length+1:=by
 unfold putB;cases hf:l.findIdx? (fun b=>b.dig==shaS d) with
 | none=>show(srt _ _).length<=_;rw [(q7 _ _).length_eq];simp
 | some i=>show l.length<=_;omega
theorem KQ (gk:Nat) (d:ai) (l:List BlobP) (w:World) (hk:w.cell? ⟨gk,0,aF⟩=aG (aD ⟨d.toArray⟩)) (hg:gk<w.heap.size):Xb w l 122 (.pointer (aG ⟨gk,0,aF⟩)) (fun b=>b.dig==d):=by
 refine⟨fun _ _=>ww,fun b B cb W hb hbel hs=> ?_⟩;have hg1:gk<W.heap.size:=Nat.lt_of_lt_of_le hg hbel.size;have hk0:W.cell? ⟨gk,0,aF⟩=aG (aD ⟨d.toArray⟩):=(hbel.cell (p:=⟨gk,0,aF⟩) hg).trans hk;generalize hs1:(⟨b.dig.toArray⟩:ByteArray)=s;generalize hs2:(⟨d.toArray⟩:ByteArray)=t at hk0;have hst:(b.dig==d)=(s.toList==t.toList):=by
  rw [<-hs1,<-hs2,ByteArray.toList_eq,ByteArray.toList_eq]
 dsimp only;rw [hst];have hb1:=ws W (aE #[aD s,aA B b.data.length cb,aB aC b.aQ,(.bool b.mark)] 55);have hk1:(W.alloc (aE #[aD s,aA B b.data.length cb,aB aC b.aQ,(.bool b.mark)] 55)).cell? ⟨gk,0,aF⟩=aG (aD t):=(World.cell?_alloc_lt W _ ⟨gk,0,aF⟩ hg1).trans hk0;clear hst hs1 hs2;go_enter func122,ntmps122;go_wp2_with fail;go_ret;exact⟨rfl,hb1⟩
theorem ky (A:aj) (c:Nat) (l:List BlobP) (d:ai) (w:World) (hl:l.length<=1000000) (hA:Rw BlobS w A l) :
  Calls zZZ 86 #[aA A l.length c,aD ⟨d.toArray⟩] w fun e w'=>e= .returned (xx (l.findIdx? (fun x=>x.dig==d)))/\Below w.heap.size w w':=by
 obtain⟨s,hs⟩:=wY (⟨d.toArray⟩:ByteArray)
 rw [<-hs];have hA1:=Arr.new w 9 [aD s];have hb1:=ws w (aE #[aD s] 9);have hA1':Arr (w.alloc (aE #[aD s] 9)) w.heap.size 9 [aD s]:=hA1;have hk:=hA1'.c0;have HI:=Qg A c l _ (.pointer (aG ⟨w.heap.size,0,aF⟩)) (fun x=>x.dig==d) (w.alloc (aE #[aD s] 9)) hl (hA.below hb1) (KQ w.heap.size d l _ (by rw [hk,hs]) hA1'.lt);clear hs hA hA1 hA1' hk;cases hf:l.findIdx? (fun x=>x.dig==d) with
 | none =>
  rw [hf]at HI;have HI:=sqH HI;go_enter func86,ntmps86;go_wp2_with fail;refine wZ HI.o fun w2 hb2=>?_;dsimp only;have hb12:=wm hb1 hb2;go_wp2_with fail;go_ret2;exact⟨rfl,hb12⟩
 | some i =>
  rw [hf]at HI;have HI:=sqH HI;have hi:decide ((i:Int)<0)=false:=decide_eq_false wu;go_enter func86,ntmps86;go_wp2_with fail;refine wZ HI.o fun w2 hb2=>?_;dsimp only;have hb12:=wm hb1 hb2;go_wp2_with fail;go_ret2;exact⟨rfl,hb12⟩
theorem X5 (A:aj) (c:Nat) (l:List BlobP) (D:ai) (DA:aj) (dc:Nat) (w:World) (hg:GoodB l) (hd:D.length<=300) (hlen:l.length<24\/(l.findIdx? (fun b=>b.dig==shaS D)).isSome=true) (hA:Rw BlobS w A l) (hD:Sl w 1 DA D.length dc (bys D)) :
  Calls zZZ 114 #[aA A l.length c,aA DA D.length dc] w fun e w' =>
   ∃v,e= .returned (.tuple #[v,aD ⟨(shaS D).toArray⟩,aB aC 0])/\RwX BlobS 55 w' w.heap.size v (putB l D) (fun b=>b<w.heap.size)/\Below w.heap.size w w':=by
 have hgl:l.length<=24:=hg.len;obtain⟨HPL,HC1,HG1,HLN⟩:=sqJ4 (show ∀b∈l,b.data.length<=1000000 from fun b hb=>by have:=(hg.one b hb).2.1;omega) (vP A c l w hg hA) hg.ris hlen;have s1:decide ((D.length:Int)>300)=false:=decide_eq_false wu;have s2:decide ((300:Int)<(D.length:Int))=false:=decide_eq_false wu;have s3:decide (300<D.length)=false:=decide_eq_false wu;have hpl:(putB l D).length<=25:=by have:=xE l D;omega
 obtain⟨sd,hsd⟩:=wY (⟨(shaS D).toArray⟩:ByteArray)
 rw [<-hsd];have HSD:=sqH hsd;clear hg hlen hsd;go_enter func114,ntmps114;go_wp2_with fail;refine wZ HC1.o fun w1 hb1=>?_;dsimp only;have hA1:=hA.below hb1;have hD1:=hD.below hb1;have HSM:=Xa DA D.length dc D w1 rfl wu hD1.cap hD1.rd;rw [<-HSD.o]at HSM;have HSM:=sqH HSM;clear hA hD;go_wp2_with fail;refine wZ HSM.o fun w2 hb2=>?_;dsimp only;have hb12:=wm hb1 hb2;have hA2:=hA1.below hb2;have hD2:=hD1.below hb2;have HBS:=Jz A c l (shaS D) w2 wu HG1.o hA2;rw [<-HSD.o]at HBS;have HBS:=sqH HBS;clear hA1 hD1 hb1 hb2;go_wp2_with fail;refine HBS.o.mono ?_;rintro e_ w3 ⟨i,f,rfl,hil,P1,P2,hf,hb3⟩;dsimp only;have hb13:=wm hb12 hb3;have hA3:=hA2.below hb3;have hD3:=hD2.below hb3;obtain⟨HF,HP1,HP2,HCP⟩:=sqJ4 hf P1 P2 (vC A c l w3 wu (fun y hy=>HPL.o y hy) hA3);clear hA2 hD2 hf P1 P2 hb12 hb3;go_wp2_with fail;refine HCP.o.mono ?_;rintro e_ w4 ⟨g,rfl,hx4,hb4⟩;dsimp only;have hb14:=wm hb13 hb4;have hD4:=hD3.below hb4;have hw03:w.heap.size<=w3.heap.size:=hb13.size;have hw34:w3.heap.size<=w4.heap.size:=hb4.size;have hg3:w3.heap.size<=g/\g<w4.heap.size:=hx4.rwo.blk rfl;clear hA3 hD3 hb13 hb4;cases f with
 | true =>
  obtain⟨hi,he⟩:=HF.o.1 rfl;have HPE:=sqH (show putB l D=l by
   unfold putB;rw [jI (f:=fun y:BlobP=>y.dig) HP1.o hi he])
  have hx5:=(hx4.lower hw03).wider (N':=fun b=>b<w.heap.size) (fun b hb=> .inl (Nat.lt_of_lt_of_le hb hw03));clear he hx4;go_wp2_with fail;go_ret3;rw [HPE.o];exact⟨_,rfl,hx5,hb14⟩
 | false =>
  have hn:¬ ∃h:i<l.length,l[i].dig=shaS D:=fun h=>by have:=HF.o.2 h;cases this
  have hno:=JE (f:=fun y:BlobP=>y.dig) HG1.o HP1.o HP2.o hn;have hlt24:l.length<24:=by
   rcases HLN.o with h | h
   ·exact h
   ·rw [hno]at h;cases h
  have HPE:=sqH (show putB l D=l.take i++⟨shaS D,D,0,false⟩::l.drop i by
   unfold putB;rw [hno];exact(JF (f:=fun y:BlobP=>y.dig) (x:=⟨shaS D,D,0,false⟩) HG1.o HP1.o HP2.o hn rfl).symm)
  have t1:decide ((l.length:Int)≥24)=false:=decide_eq_false wu;have t2:decide ((24:Int)<=(l.length:Int))=false:=decide_eq_false wu;have t3:decide (24<=l.length)=false:=decide_eq_false wu;have HCN:=sqH (kv DA D.length dc D w4 rfl hD4.cap wu hD4.rd);clear hn HF hno;go_wp2_with fail;refine HCN.o.mono ?_;rintro e_ w5 ⟨v5,rfl,ho5,hb5⟩;dsimp only;obtain⟨A5,c5,rfl,hs5,hl5⟩:=uG ho5;have hb15:=wm hb14 hb5;have hx5:=hx4.below hb5;have hsz5:w4.heap.size<=w5.heap.size:=hb5.size;have hV:Arr (w5.alloc (aE #[aD sd,aA A5 D.length c5,aB aC 0,.bool false] 55)) w5.heap.size 55 (zX ⟨shaS D,D,0,false⟩ A5 c5):=by
   rw [zX,<-HSD.o];exact Arr.new w5 55 _
  have hba:=ws w5 (aE #[aD sd,aA A5 D.length c5,aB aC 0,.bool false] 55);have hx6:=hx5.below hba;have hs6:=hs5.below hba;have hb06:=wm hb15 hba;have hbs6:w3.heap.size<=(w5.alloc (aE #[aD sd,aA A5 D.length c5,aB aC 0,.bool false] 55)).heap.size:=by rw [World.size_alloc];omega
  clear hx4 hx5 hs5 ho5 hb5 hb15 hb14 hba hD4;go_wp2_with fail;generalize w5.alloc (aE #[aD sd,aA A5 D.length c5,aB aC 0,.bool false] 55)=w6 at *
  have HIN:=sqH (KY l g i ⟨shaS D,D,0,false⟩ A5 c5 w5.heap.size 1 w6 w3.heap.size (fun b=>b<w3.heap.size) hil wu hbs6 hx6 hV ⟨A5,c5,rfl,hs6⟩ (fun b hb hle=>by
   obtain⟨a,e1,e2⟩:=Zo hle;have:=hl5 a e1;rcases hb with hb | hb<;>omega))
  clear hV hx6 hs6 hbs6;refine HIN.o.mono ?_;rintro e_ w8 ⟨v8,rfl,hx8,hg8⟩;dsimp only;have hb08:=hb06.grown hg8 hb06.size (fun k hk=>by cases hk;exact Nat.le_trans hw03 hg3.1);rw [show l.take i++⟨shaS D,D,0,false⟩::l.drop i=putB l D from HPE.o.symm]at hx8;have HCL:=sqH (YF v8 (putB l D) w8 w3.heap.size _ wu hx8);obtain⟨A8,c8,rfl,_,_,_⟩:=hx8.rwo.rows;clear hx8 hg8 hb06;go_wp2_with fail;refine HCL.o.mono ?_;rintro e_ w9 ⟨v9,rfl,hx9,hb9⟩;dsimp only;have hb09:=wm hb08 hb9;have hw8:w.heap.size<=w8.heap.size:=hb08.size;have hx10:=(hx9.lower hw8).wider (N':=fun b=>b<w.heap.size) (fun b hb=> .inl (Nat.lt_of_lt_of_le hb hw03));clear hx9 hb9 hb08;go_wp2_with fail;go_ret3;exact⟨_,rfl,hx10,hb09⟩
theorem Qf (A:aj) (c:Nat) (l:List BlobP) (PA:aj) (pc:Nat) (ps:List PartP) (w:World) (hl:l.length<=1000000) (hp:ps.length<=1000000) (hA:Rw BlobS w A l) (hP:Rd w 3 PA ps.length (pcs ps)) :
  Calls zZZ 120 #[aA A l.length c,aA PA ps.length pc] w fun e w'=>e= .returned (aB aC (qK l ps:Int))/\Below w.heap.size w w':=by
 generalize hR:qK l ps=R;have HR0:=sqH hR;clear hR;go_enter func120,ntmps120;go_wp2_with fail;go_loopg [11] ps.length (fun gn i wr=>∃j:Nat,gn=ps.length - j/\i= aB aC j/\j<=ps.length/\qK l (ps.drop j)=R/\Below w.heap.size w wr)
 case atStart=>exact⟨0,rfl,rfl,wu,by rw [List.drop_zero];exact HR0.o,Below.refl _ _⟩
 case round =>
  obtain⟨j,hgk,rfl,hj,hrest,hbl⟩:=hrel;have HGK:=sqH hgk;have HRS:=sqH hrest;clear hgk hrest;by_cases hlt:j<ps.length
  ·have hcc:decide (j<ps.length)=true:=decide_eq_true hlt;obtain⟨b,off,rfl,hbb,hcell⟩:=(hP.below hbl).2 wu;have hj0:=we j
   have hj1:(j:Int)<(ps.length:Int):=wu;have hat:=fun k (hk:k<3)=>yu ps j k hlt hk;have HDR:=sqH (show qK l (ps[j]::ps.drop (j+1))=R by rw [<-List.drop_eq_getElem_cons hlt];exact HRS.o);generalize ps[j]=p at *
   have c0:=hcell (j*3+0) _ (hat 0 wu);have c1:=hcell (j*3+1) _ (hat 1 wu);have c2:=hcell (j*3+2) _ (hat 2 wu);rw [Nat.add_zero]at c0;rw [show off+(j*3+1)=off+j*3+1 by omega]at c1;rw [show off+(j*3+2)=off+j*3+2 by omega]at c2
   try dsimp only [yn,List.getElem?_cons_zero,List.getElem?_cons_succ]at c0 c1 c2
   obtain⟨sn,hsn⟩:=wY (⟨p.name.toArray⟩:ByteArray)
   obtain⟨sp,hsp⟩:=wY (⟨p.dig.toArray⟩:ByteArray)
   rw [<-hsn]at c0;rw [<-hsp]at c1;have HSP:=sqH hsp;have hX:Arr (wr.alloc (aE #[aD sn,aD sp,aB aC p.size] 85)) wr.heap.size 85 [aD sn,aD sp,aB aC p.size]:=Arr.new wr 85 _;have hba:=ws wr (aE #[aD sn,aD sp,aB aC p.size] 85);have hb2:=wm hbl hba;have x1:=hX.c1;clear hat hcell hbl hba hsn hsp;go_wp2_with fail;generalize wr.alloc (aE #[aD sn,aD sp,aB aC p.size] 85)=w2 at *
   generalize wr.heap.size=gx at *
   clear c0 c1 c2 x1;have hA2:=hA.below hb2;have HFN:=ky A c l p.dig w2 hl hA2;rw [<-HSP.o]at HFN;cases hf:l.findIdx? (fun x=>x.dig==p.dig) with
   | none =>
    rw [hf,xx]at HFN;have HFN:=sqH HFN;have HE:=sqH (show R=5 by rw [<-HDR.o,qK,hf]);clear hf hA2;refine wZ HFN.o fun w3 hb3=>?_;dsimp only;have hb23:=wm hb2 hb3;go_wp2_with fail;go_ret;rw [HE.o];exact⟨rfl,hb23⟩
   | some i =>
    obtain⟨hi,_,_⟩:=List.findIdx?_eq_some_iff_getElem.1 hf;rw [hf,xx]at HFN;have HFN:=sqH HFN;have HRR:=sqH (show R=if l[i].data.length=p.size then qK l (ps.drop (j+1)) else 4 by
     rw [<-HDR.o,qK,hf];show(if (match l[i]? with | some b=>b.data.length | none=>0)=p.size then _ else _)=_;rw [List.getElem?_eq_getElem hi])
    clear hf;refine wZ HFN.o fun w3 hb3=>?_;dsimp only;have hb23:=wm hb2 hb3;have hX3:=hX.below hb3;obtain⟨b',off',B,cb,rfl,hbb',d0,d1,d2,d3,_⟩:=(hA2.below hb3).blob_at i hi;have hi0:=we i
    have hi1:(i:Int)<(l.length:Int):=wu;have x2:=hX3.c2;generalize l[i].data.length=m at *
    clear hA2 hX hb2 hb3 d0 d2 d3;by_cases hm:m=p.size
    ·have hne:((m:Int) != (p.size:Int))=false:=by rw [bne_eq_false_iff_eq];omega
     have HN:=sqH (show qK l (ps.drop (j+1))=R by rw [HRR.o,if_pos hm]);go_wp2_with fail;go_quiet (fail);go_wp2_with fail;go_roundg (ps.length - (j+1))
     case measure=>exact wc HGK
     case rel=>exact⟨j+1,rfl,by go_num,wu,HN.o,zO hb23 _⟩
    ·have hne:((m:Int) != (p.size:Int))=true:=by rw [bne_iff_ne];omega
     have HN:=sqH (show R=4 by rw [HRR.o,if_neg hm]);go_wp2_with fail;go_quiet (fail);go_wp2_with fail;go_ret;rw [HN.o];exact⟨rfl,zO hb23 _⟩
  ·obtain rfl:j=ps.length:=by omega
   have hcc:decide (ps.length<ps.length)=false:=ab;have HE:=sqH (show R=0 by rw [<-HRS.o,List.drop_length,qK]);go_wp2_with fail;go_ret;rw [HE.o];exact⟨rfl,hbl⟩
theorem z52 (k:Int) (h:k=0\/k=1\/k=2) (w:World):(Instr.index 196 (.agg #[aB aC 0,aB aC 0,aB aC 0]) (aB aC k)).run zZZ w= .ok (aB aC 0) w:=by
 rcases h with rfl | rfl | rfl<;>kernel_rfl
theorem zK (h:fn.results=#[.cell p ty,.tmp u]) (tmps:Array Value) (w:World) (g:Nat) (t:TypeId) (cs:Array Value) (fr:Nat×Nat) (d:TypeDesc)
  (hp:tmps.getD p undef= .pointer (aG ⟨g,0,aF⟩)) (hg:w.heap[g]?=aG (.cells cs t fr))
  (hu:P.underlying ty=aG d) (hd:(match d with | .struct _ | .array _ _=>true | _=>false)=true) (hi:(P.info? ty).map (·.size)=aG cs.size) :
  (results fn tmps).run P w= .ok (.tuple #[.agg cs,tmps.getD u undef]) w:=by
 have hp':tmps[p]?.getD undef= .pointer (aG ⟨g,0,aF⟩):=by simpa using hp
 simp [results,h,hp',asAddr,run_loadVar_row w g t ty cs fr d hg hu hd hi]
theorem zz {z:Tmp} (h:fn.results=#[.cell p ty,.tmp u,.tmp z]) (tmps:Array Value) (w:World) (g:Nat) (t:TypeId) (cs:Array Value) (fr:Nat×Nat) (d:TypeDesc)
  (hp:tmps.getD p undef= .pointer (aG ⟨g,0,aF⟩)) (hg:w.heap[g]?=aG (.cells cs t fr))
  (hu:P.underlying ty=aG d) (hd:(match d with | .struct _ | .array _ _=>true | _=>false)=true) (hi:(P.info? ty).map (·.size)=aG cs.size) :
  (results fn tmps).run P w= .ok (.tuple #[.agg cs,tmps.getD u undef,tmps.getD z undef]) w:=by
 have hp':tmps[p]?.getD undef= .pointer (aG ⟨g,0,aF⟩):=by simpa using hp
 simp [results,h,hp',asAddr,run_loadVar_row w g t ty cs fr d hg hu hd hi]
abbrev stV (v1 v2:Value) (s:StoP):Value:= .agg #[v1,v2,aB aC s.aL,aB aC s.aK]
structure OwSt (w:World) (base:Nat) (v1 v2:Value) (s:StoP) (N:am):Prop where
 b:RwX BlobS 55 w base v1 s.aI (fun g=>N g\/v2.ownBlock=aG g)
 e:RwX EntS 120 w base v2 s.aJ (fun g=>N g\/v1.ownBlock=aG g)
 ne:∀g,v1.ownBlock=aG g->v2.ownBlock≠aG g
theorem OwSt.below (h:OwSt w base v1 v2 s N) (hb:Below w.heap.size w w'):OwSt w' base v1 v2 s N:=⟨h.b.below hb,h.e.below hb,h.ne⟩
theorem OwSt.lower {base':Nat} (h:OwSt w base v1 v2 s N) (hb:base'<=base):OwSt w base' v1 v2 s N:=⟨h.b.lower hb,h.e.lower hb,h.ne⟩
theorem OwSt.wider {N':am} (h:OwSt w base v1 v2 s N) (hN:∀b,N' b->N b\/w.heap.size<=b):OwSt w base v1 v2 s N' :=
 ⟨h.b.wider fun b hb=>hb.elim (fun h1=>(hN b h1).imp .inl id) (fun h1=> .inl (.inr h1)),h.e.wider fun b hb=>hb.elim (fun h1=>(hN b h1).imp .inl id) (fun h1=> .inl (.inr h1)),h.ne⟩
structure RdSt (w:World) (A:aj) (c:Nat) (B:aj) (d:Nat) (s:StoP):Prop where
 b:Rw BlobS w A s.aI
 e:Rw EntS w B s.aJ
 bc:s.aI.length<=c
 bm:c<=maxLen
 ec:s.aJ.length<=d
 em:d<=maxLen
theorem RdSt.below {A B:aj} {c d:Nat} (h:RdSt w A c B d s) (hb:Below w.heap.size w w'):RdSt w' A c B d s:=⟨h.b.below hb,h.e.below hb,h.bc,h.bm,h.ec,h.em⟩
theorem OwSt.rows (h:OwSt w base v1 v2 s N):∃A c B d,v1= aA A s.aI.length c/\v2= aA B s.aJ.length d/\RdSt w A c B d s:=by
 obtain⟨A,c,e1,h1,h2,h3⟩:=h.b.rwo.rows;obtain⟨B,d,e2,k1,k2,k3⟩:=h.e.rwo.rows;exact⟨A,c,B,d,e1,e2,h3,k3,h1,h2,k1,k2⟩
theorem zD (A:aj) (c:Nat) (B:aj) (d:Nat) (s:StoP) (w:World) (hg:GoodS s) (hr:RdSt w A c B d s) :
  Calls zZZ 85 #[.agg #[aA A s.aI.length c,aA B s.aJ.length d,aB aC s.aL,aB aC s.aK]] w fun e w'=>e= .returned (aB aC 0)/\Below w.heap.size w w':=by
 have hlb:s.aI.length<=24:=hg.b.len;have hle:s.aJ.length<=10:=hg.e.len;have hus:usd s.aI<=4000:=Nat.le_trans hg.used hg.aL;have hrm:=hg.aL;have hck:=hg.aK;obtain⟨w0,hw0⟩:=wY (w.alloc (aE #[aA A s.aI.length c,aA B s.aJ.length d,aB aC s.aL,aB aC s.aK] 38))
 obtain⟨H,hH⟩:=wY w.heap.size
 have hS:Arr w0 H 38 [aA A s.aI.length c,aA B s.aJ.length d,aB aC s.aL,aB aC s.aK]:=by rw [hw0,hH];exact Arr.new w 38 _
 have hb0:Below w.heap.size w w0:=by rw [hw0];exact(Below.refl _ _).alloc ag _
 have hA0:=hr.b.below hb0;have hE0:=hr.e.below hb0;have HSB:=sqH (show ∀W,Below w0.heap.size w0 W->wH W H (aA A s.aI.length c) (aA B s.aJ.length d) (aB aC s.aL) from fun W h =>
  sqC3 (hS.below h))
 have HCB:=sqH (fun W (h:Below w0.heap.size w0 W)=>vP A c s.aI W hg.b (hA0.below h));have HCE:=sqH (fun W (h:Below w0.heap.size w0 W)=>xq B d s.aJ W hg.e (hE0.below h));have HCF:=sqH (show ∀W,Below w0.heap.size w0 W->Calls zZZ 115 #[aA A s.aI.length c,aB aC s.aL,aB aC 0] W fun e w'=>e= .returned (aB aC 0)/\Below W.heap.size W w' from fun W h=>by
  have:=Qc A c s.aI s.aL 0 W wu wu hrm wu (hA0.below h);rw [if_pos (by have:=hg.used;omega)]at this;exact this)
 have HEN:=sqH (show ∀x∈s.aJ,x.aO<=s.aK/\qK s.aI x.aP=0/\x.aP.length<=8 from fun x hx =>
  ⟨(hg.ent x hx).1,ZH hg.b.ris (hg.ent x hx).2,(zi (hg.e.one x hx).2.1).1⟩)
 have ck1:decide ((s.aK:Int)<0)=false:=decide_eq_false wu;have ck2:decide ((s.aK:Int)>1099511627776)=false:=decide_eq_false wu;have ck3:decide ((1099511627776:Int)<(s.aK:Int))=false:=decide_eq_false wu;have ck4:decide (1099511627776<s.aK)=false:=decide_eq_false wu;clear hg hr;go_enter func85,ntmps85;go_wp2_with fail;rw [<-hw0];rw [<-hH];clear hw0;have HH:=sqH hH;clear hH;refine wp_region_held_drew (S:=(fun w'=>wH w' H (aA A s.aI.length c) (aA B s.aJ.length d) (aB aC s.aL))) ww ?_ (fun hHeld=> ?_)
 ·exact HSB.o _ (Below.refl _ w0).drew
 have hB:=(Below.refl w0.heap.size w0).drew;generalize w0.drew=wn0 at *
 refine wQ 0 ?_;refine wQ 1 ?_;refine wQ 3 ?_;refine wQ 4 ?_;refine wQ 6 ?_;refine wQ 7 ?_;refine wQ 8 ?_;refine wQ 9 ?_;refine wQ 12 ?_;refine wU 2 fun K hK=>?_;go_simp;refine(HCB.o wn0 hB).mono ?_;rintro e5 w5 ⟨rfl,hb5⟩;dsimp only;refine wF hK (HSB.o _ (wm hB hb5)) (Below wn0.heap.size wn0) hb5 fun wn1 hHeld hst=> ?_;have hB:=wm hB hst;clear hst;clear hK K
 try simp only [sqP]
 refine wU 5 fun K hK=>?_;go_simp;refine(HCE.o wn1 hB).mono ?_;rintro e5 w5 ⟨rfl,hb5⟩;dsimp only;refine wF hK (HSB.o _ (wm hB hb5)) (Below wn1.heap.size wn1) hb5 fun wn2 hHeld hst=> ?_;have hB:=wm hB hst;clear hst;clear hK K
 try simp only [sqP]
 refine wU 10 fun K hK=>?_;go_simp;refine(HCF.o wn2 hB).mono ?_;rintro e5 w5 ⟨rfl,hb5⟩;dsimp only;refine wF hK (HSB.o _ (wm hB hb5)) (Below wn2.heap.size wn2) hb5 fun wn3 hHeld hst=> ?_;have hB:=wm hB hst;clear hst;clear hK K
 refine wQ 11 ?_;refine wpAnyH_done ww ?_ _;dsimp only [Exit.then];clear hHeld;have hb1:=wm hb0 hB;have hS1:=hS.below hB;have hA1:=hA0.below hB;have hE1:=hE0.below hB;clear hB hS hA0 hE0 hb0;generalize wn3=w1 at *
 go_wp2_with fail;go_loopg [19] 3 (fun gn i wr=>∃j:Int,i= aB aC j/\(j=0\/j=1\/j=2\/j=3)/\gn=(3 - j).toNat/\wr=w1)
 case atStart=>exact⟨0,rfl,wu,rfl,rfl⟩
 case round =>
  obtain⟨j,rfl,hj,hgn,hwr⟩:=hrel;subst hwr;have ix0:=z52 0 wu wr;have ix1:=z52 1 wu wr;have ix2:=z52 2 wu wr;rcases hj with rfl | rfl | rfl | rfl
  ·go_wp2_with fail;go_roundg 2
   case measure=>omega
   case rel=>exact⟨1,rfl,wu,rfl,rfl⟩
  ·go_wp2_with fail;go_roundg 1
   case measure=>omega
   case rel=>exact⟨2,rfl,wu,rfl,rfl⟩
  ·go_wp2_with fail;go_roundg 0
   case measure=>omega
   case rel=>exact⟨3,rfl,wu,rfl,rfl⟩
  ·clear hgn ix0 ix1 ix2;generalize wr=wr0 at *
   have d3:=hS1.c3;have d1:=hS1.c1;go_wp2_with fail;clear d3 d1;go_loopg [37] s.aJ.length (fun gn i wr=>∃j:Nat,gn=s.aJ.length - j/\i= aB aC j/\j<=s.aJ.length/\Below wr0.heap.size wr0 wr)
   case atStart=>exact⟨0,rfl,rfl,wu,Below.refl _ _⟩
   case round =>
    obtain⟨j,hgk,rfl,hj,hbl⟩:=hrel;have HGK:=sqH hgk;clear hgk;by_cases hlt:j<s.aJ.length
    ·have hcc:decide (j<s.aJ.length)=true:=decide_eq_true hlt;obtain⟨b,off,PB,cb,rfl,hbb,c0,c1,c2,c3,hs⟩:=(hE1.below hbl).ent_at j hlt;have hj0:=we j
     have hj1:(j:Int)<(s.aJ.length:Int):=wu;obtain⟨g1,g2,g3⟩:=HEN.o s.aJ[j] (List.getElem_mem hlt);have HG2:=sqH g2;generalize s.aJ[j]=x at *
     obtain⟨sx,hsx⟩:=wY (⟨x.key.toArray⟩:ByteArray)
     rw [<-hsx]at c0;have st1:decide ((x.aO:Int)>(s.aK:Int))=false:=decide_eq_false wu;have st2:decide ((s.aK:Int)<(x.aO:Int))=false:=decide_eq_false wu;have st3:decide (s.aK<x.aO)=false:=decide_eq_false wu;have hX:Arr (wr.alloc (aE #[aD sx,aA PB x.aP.length cb,aB aC x.aQ,aB aC x.aO] 120)) wr.heap.size 120 [aD sx,aA PB x.aP.length cb,aB aC x.aQ,aB aC x.aO]:=Arr.new wr 120 _;have hba:=ws wr (aE #[aD sx,aA PB x.aP.length cb,aB aC x.aQ,aB aC x.aO] 120);have hbl2:=wm hbl hba;have hs2:=hs.below hba;have hS2:=hS1.below hbl2;have hA2:=hA1.below hbl2;have x1:=hX.c1;have x3:=hX.c3;have y0:=hS2.c0;have y3:=hS2.c3;clear hsx hs hba hbl g2;go_wp2_with fail;generalize wr.alloc (aE #[aD sx,aA PB x.aP.length cb,aB aC x.aQ,aB aC x.aO] 120)=w2 at *
     generalize wr.heap.size=gx at *
     clear c0 c1 c2 c3 x1 x3 y0 y3;have HHV:=Qf A c s.aI PB cb x.aP w2 wu wu hA2 hs2.rd;rw [HG2.o]at HHV;have HHV:=sqH HHV;clear hA2 hs2 hS2 hX;refine wZ HHV.o fun w3 hb3=>?_;dsimp only;have hbl3:=wm hbl2 hb3;go_wp2_with fail;go_roundg (s.aJ.length - (j+1))
     case measure=>exact wc HGK
     case rel=>exact⟨j+1,rfl,by go_num,wu,hbl3⟩
    ·obtain rfl:j=s.aJ.length:=by omega
     have hcc:decide (s.aJ.length<s.aJ.length)=false:=ab;go_wp2_with fail;go_ret;exact⟨rfl,wm hb1 hbl⟩
theorem OwSt.set {g k:Nat} (h:OwSt w base v1 v2 s N) (hg:g<base) (hN:N g) (u:Value):OwSt (w.setCell ⟨g,k,aF⟩ u) base v1 v2 s N:=⟨h.b.set hg (.inl hN) u,h.e.set hg (.inl hN) u,h.ne⟩
theorem qL (A:aj) (c:Nat) (B:aj) (d:Nat) (s:StoP) (w:World) (hl:s.aI.length<=100000) (he:s.aJ.length<=100000) (hd:∀b∈s.aI,b.data.length<=1000000) (hp:∀x∈s.aJ,x.aP.length<=1000000) (hr:RdSt w A c B d s) :
  Calls zZZ 93 #[.agg #[aA A s.aI.length c,aA B s.aJ.length d,aB aC s.aL,aB aC s.aK]] w fun e w'=>∃g1 g2,e= .returned (.agg #[aA (aG ⟨g1,0,aF⟩) s.aI.length s.aI.length,aA (aG ⟨g2,0,aF⟩) s.aJ.length s.aJ.length,aB aC s.aL,aB aC s.aK])/\OwSt w' w.heap.size (aA (aG ⟨g1,0,aF⟩) s.aI.length s.aI.length) (aA (aG ⟨g2,0,aF⟩) s.aJ.length s.aJ.length) s (fun b=>b<w.heap.size)/\Below w.heap.size w w':=by
 obtain⟨w0,hw0,hS,hR,hb0⟩:=zW w 38 [aA A s.aI.length c,aA B s.aJ.length d,aB aC s.aL,aB aC s.aK] [aA aF 0 0,aA aF 0 0,aB aC 0,aB aC 0];obtain⟨H,hH⟩:=wY w.heap.size
 have hA0:=hr.b.below hb0;have hE0:=hr.e.below hb0;rw [<-hH]at hS hR hb0 ⊢
 have hHl:H<w0.heap.size:=hS.lt;have hHr:H+1<w0.heap.size:=hR.lt;have HSB:=sqH (show ∀W,Below w0.heap.size w0 W->W.cell? ⟨H,1,aF⟩=aG (aA B s.aJ.length d) from fun W h=>(hS.below h).c1);have HC0:=sqH (show ∀W,Below w0.heap.size w0 W->W.cell? ⟨H,0,aF⟩=aG (aA A s.aI.length c) from fun W h=>(hS.below h).c0);have HCB:=sqH (show ∀W,Below w0.heap.size w0 W->Calls zZZ 131 #[aA A s.aI.length c] W fun e w'=>∃g,e= .returned (aA (aG ⟨g,0,aF⟩) s.aI.length s.aI.length)/\RwX BlobS 55 w' w0.heap.size (aA (aG ⟨g,0,aF⟩) s.aI.length s.aI.length) s.aI (fun b=>b<w0.heap.size)/\Below W.heap.size W w' from fun W h =>
  (vC A c s.aI W hl hd (hA0.below h)).mono fun e w' ⟨g,h1,h2,h3⟩=>⟨g,h1,(h2.lower h.size).wider (fun b hb=> .inl (Nat.lt_of_lt_of_le hb h.size)),h3⟩)
 have HCE:=sqH (show ∀W v1,Below w0.heap.size w0 W->RwX BlobS 55 W w0.heap.size v1 s.aI (fun b=>b<w0.heap.size)->Calls zZZ 132 #[aA B s.aJ.length d] W fun e w'=>∃g,e= .returned (aA (aG ⟨g,0,aF⟩) s.aJ.length s.aJ.length)/\OwSt w' w0.heap.size v1 (aA (aG ⟨g,0,aF⟩) s.aJ.length s.aJ.length) s (fun b=>b<w0.heap.size)/\Below W.heap.size W w' from fun W v1 h hv =>
  (QU B d s.aJ W he hp (hE0.below h)).mono fun e w' ⟨g,h1,h2,h3⟩=>by
   have hge:W.heap.size<=g:=(h2.rwo.blk rfl).1;refine⟨g,h1,⟨(hv.wider (fun b hb=>hb.imp id (fun e=>by cases e;exact hge))).below h3,(h2.lower h.size).wider (fun b hb=> .inl ?_),fun g' e1 e2=> ?_⟩,h3⟩
   ·rcases hb with hb | hb
    ·exact Nat.lt_of_lt_of_le hb h.size
    ·exact(hv.rwo.blk hb).2
   ·have:=(hv.rwo.blk e1).2;have e3:aG g=aG g':=e2;cases e3;omega)
 clear hr hd hp hA0 hE0;go_enter func93,ntmps93;go_wp2_with fail;rw [<-hw0];rw [<-hH];clear hw0 hH;refine yY 9 (S:=(fun w'=>w'.cell? ⟨H,1,aF⟩=aG (aA B s.aJ.length d))) ww ?_ (fun hHeld=> ?_)
 ·exact HSB.o _ (Below.refl _ w0).drew
 have hB:=(Below.refl w0.heap.size w0).drew;generalize w0.drew=wn0 at *
 refine wR 0 ?_;refine wR 3 ?_;refine wR 4 ?_;refine wV 1 fun K hK=>?_;have c0:=HC0.o _ hB;go_simp;refine z4j hK ?_ (Below wn0.heap.size wn0) (fun W=>True) ?_ ?_ (fun wn1 hHeld hst hnew=> ?_)
 ·(exact HSB.o _ (hB.trans (Below.mono (show Below wn0.heap.size wn0 _ from by(first | exact hb5 | exact Below.refl _ _)) hB.size)))
 ·(first | exact hb5 | exact Below.refl _ _)
 ·(trivial)
 have hB:=wm hB hst;clear hst;clear hK K
 try simp only [sqP]
 refine wV 2 fun K hK=>?_;go_simp;refine(HCB.o wn1 hB).mono ?_;rintro e5 w5 ⟨g1,rfl,hx5,hb5⟩;dsimp only;refine z4j hK ?_ (Below wn1.heap.size wn1) (fun W=>RwX BlobS 55 W w0.heap.size (aA (aG ⟨g1,0,aF⟩) s.aI.length s.aI.length) s.aI (fun b=>b<w0.heap.size)) ?_ ?_ (fun wn2 hHeld hst hnew=> ?_)
 ·(exact HSB.o _ (hB.trans (Below.mono (show Below wn1.heap.size wn1 _ from by(first | exact hb5 | exact Below.refl _ _)) hB.size)))
 ·(first | exact hb5 | exact Below.refl _ _)
 ·(exact hx5)
 have hB:=wm hB hst;have hv1:=hnew;clear hnew;clear hst;clear hK K
 refine wR 6 ?_;refine wV 5 fun K hK=>?_;go_simp;refine(HCE.o wn2 _ hB hv1).mono ?_;rintro e5 w5 ⟨g2,rfl,hx5,hb5⟩;dsimp only;refine z4j hK ?_ (Below wn2.heap.size wn2) (fun W=>OwSt W w0.heap.size (aA (aG ⟨g1,0,aF⟩) s.aI.length s.aI.length) (aA (aG ⟨g2,0,aF⟩) s.aJ.length s.aJ.length) s (fun b=>b<w0.heap.size)) ?_ ?_ (fun wn3 hHeld hst hnew=> ?_)
 ·(exact HSB.o _ (hB.trans (Below.mono (show Below wn2.heap.size wn2 _ from by(first | exact hb5 | exact Below.refl _ _)) hB.size)))
 ·(first | exact hb5 | exact Below.refl _ _)
 ·(exact hx5)
 have hB:=wm hB hst;have ho:=hnew;clear hnew hv1;clear hst;clear hK K
 try simp only [sqP]
 refine wV 7 fun K hK=>?_;have fz:=(hS.below hB).frozen 0;have cz:=(hS.below hB).c0;go_simp;clear fz cz;refine z4j hK ?_ (fun W=>Arr W H 38 [(aA (aG ⟨g1,0,aF⟩) s.aI.length s.aI.length),aA B s.aJ.length d,aB aC s.aL,aB aC s.aK]/\Arr W (H+1) 38 [aA aF 0 0,aA aF 0 0,aB aC 0,aB aC 0]) (fun W=>OwSt W w0.heap.size (aA (aG ⟨g1,0,aF⟩) s.aI.length s.aI.length) (aA (aG ⟨g2,0,aF⟩) s.aJ.length s.aJ.length) s (fun b=>b<w0.heap.size)/\Below H w W) ?_ ?_ (fun wn4 hHeld hF hG=> ?_)
 ·exact((hS.below hB).set (k:=0) ab (aA (aG ⟨g1,0,aF⟩) s.aI.length s.aI.length)).c1
 ·exact⟨(hS.below hB).set (k:=0) ab (aA (aG ⟨g1,0,aF⟩) s.aI.length s.aI.length),(hR.below hB).other wu (aA (aG ⟨g1,0,aF⟩) s.aI.length s.aI.length)⟩
 ·exact⟨ho.set hHl hHl (aA (aG ⟨g1,0,aF⟩) s.aI.length s.aI.length),(hb0.trans (hB.mono (Nat.le_of_lt hHl))).setCell (p:=⟨H,0,aF⟩) ag (aA (aG ⟨g1,0,aF⟩) s.aI.length s.aI.length)⟩
 clear hB ho;clear hK K
 refine wR 8 ?_;refine kj (rs:= [9]) ww ab ?_;refine zN.last (o:=_) rfl (fun K hK=> ?_);have fz:=hF.1.frozen 1;have cz:=hF.1.c1;go_simp;clear fz cz;refine z5w hK ?_;clear hK K
 try simp only [sqP]
 refine QO ww ?_ _;dsimp only [Exit.then];clear hHeld;obtain⟨hS7,hR7⟩:=hF;obtain⟨ho7,hb7⟩:=hG;have hS9:Arr (wn4.setCell ⟨H,1,aF⟩ (aA (aG ⟨g2,0,aF⟩) s.aJ.length s.aJ.length)) H 38 [(aA (aG ⟨g1,0,aF⟩) s.aI.length s.aI.length),(aA (aG ⟨g2,0,aF⟩) s.aJ.length s.aJ.length),aB aC s.aL,aB aC s.aK]:=hS7.set (k:=1) ab (aA (aG ⟨g2,0,aF⟩) s.aJ.length s.aJ.length);have hR9:=hR7.other (g':=H) (k:=1) wu (aA (aG ⟨g2,0,aF⟩) s.aJ.length s.aJ.length);have ho9:=ho7.set (k:=1) hHl hHl (aA (aG ⟨g2,0,aF⟩) s.aJ.length s.aJ.length);have hb9:=hb7.setCell (p:=⟨H,1,aF⟩) ag (aA (aG ⟨g2,0,aF⟩) s.aJ.length s.aJ.length);clear hS7 hR7 ho7 hb7 hS hR;generalize wn4.setCell ⟨H,1,aF⟩ (aA (aG ⟨g2,0,aF⟩) s.aJ.length s.aJ.length)=w9 at *
 obtain⟨z0,z1,z2,z3⟩:=sqC4 hS9;obtain⟨f0,f1,f2,f3⟩:=sqF4 hR9;obtain⟨y0,y1,y2,y3⟩:=sqC4 hR9;have hfin:=hR9.all4 (aA (aG ⟨g1,0,aF⟩) s.aI.length s.aI.length) (aA (aG ⟨g2,0,aF⟩) s.aJ.length s.aJ.length) (aB aC s.aL) (aB aC s.aK);have ho10:=(((ho9.set (g:=H+1) (k:=0) wu wu (aA (aG ⟨g1,0,aF⟩) s.aI.length s.aI.length)).set (g:=H+1) (k:=1) wu wu (aA (aG ⟨g2,0,aF⟩) s.aJ.length s.aJ.length)).set (g:=H+1) (k:=2) wu wu (aB aC s.aL)).set (g:=H+1) (k:=3) wu wu (aB aC s.aK);have hb10:=(((hb9.setCell (p:=⟨H+1,0,aF⟩) ae (aA (aG ⟨g1,0,aF⟩) s.aI.length s.aI.length)).setCell (p:=⟨H+1,1,aF⟩) ae (aA (aG ⟨g2,0,aF⟩) s.aJ.length s.aJ.length)).setCell (p:=⟨H+1,2,aF⟩) ae (aB aC s.aL)).setCell (p:=⟨H+1,3,aF⟩) ae (aB aC s.aK);clear hR9 ho9 hb9 hS9;go_wp2_with fail;clear z0 z1 z2 z3 f0 f1 f2 f3 y0 y1 y2 y3;refine bodyPost_ret (results_cell_row rfl _ _ (H+1) _ _ _ _ ac hfin underlying38 rfl ww) rfl ?_;exact⟨g1,g2,rfl,(ho10.lower (base':=H) wu).wider (N':=fun b=>b<H) (fun b hb=> .inl wu),hb10⟩
instance:DecidableEq PartP:=fun a b =>
 if h:a.name=b.name/\a.dig=b.dig/\a.size=b.size then isTrue (by obtain⟨x,y,z⟩:=a;obtain⟨u,v,t⟩:=b;obtain⟨h1,h2,h3⟩:=h;simp only at h1 h2 h3;subst h1;subst h2;subst h3;rfl)
 else isFalse (fun e=>h (by subst e;exact⟨rfl,rfl,rfl⟩))
def QF (x y:BlobP):Bool:=x.dig==y.dig&&(x.data==y.data&&x.aQ==y.aQ)
def QH (x y:EntP):Bool:=x.key==y.key&&(decide (x.aP=y.aP)&&(x.aQ==y.aQ&&x.aO==y.aO))
def qI:List BlobP->List BlobP->Bool
 | [], []=>true
 | x::l,y::m=>QF x y&&qI l m
 | _,_=>false
def qX:List EntP->List EntP->Bool
 | [], []=>true
 | x::l,y::m=>QH x y&&qX l m
 | _,_=>false
theorem jg:∀ {l m:List BlobP},l.length≠m.length->qI l m=false
 | [], [],h=>absurd rfl h
 | [],_::_,_=>rfl
 | _::_, [],_=>rfl
 | x::l,y::m,h=>by rw [qI,jg (l:=l) (m:=m) (by simpa using h),Bool.and_false]
theorem ji:∀ {l m:List EntP},l.length≠m.length->qX l m=false
 | [], [],h=>absurd rfl h
 | [],_::_,_=>rfl
 | _::_, [],_=>rfl
 | x::l,y::m,h=>by rw [qX,ji (l:=l) (m:=m) (by simpa using h),Bool.and_false]
theorem Vx {x y:BlobP}:QF x y=true↔x.dig=y.dig/\x.data=y.data/\x.aQ=y.aQ:=by
 simp [QF]
theorem Vy:QH x y=true↔x.key=y.key/\x.aP=y.aP/\x.aQ=y.aQ/\x.aO=y.aO:=by
 simp [QH]
theorem je:∀ {l m:List BlobP},qI l m=true↔l.map (fun b=>(b.dig,b.data,b.aQ))=m.map (fun b=>(b.dig,b.data,b.aQ))
 | [], []=>by simp [qI]
 | [],_::_=>by simp [qI]
 | _::_, []=>by simp [qI]
 | x::l,y::m=>by rw [qI,Bool.and_eq_true,Vx,je (l:=l) (m:=m)];simp
theorem jh:∀ {l m:List EntP},qX l m=true↔l.map (fun b=>(b.key,b.aP,b.aQ,b.aO))=m.map (fun b=>(b.key,b.aP,b.aQ,b.aO))
 | [], []=>by simp [qX]
 | [],_::_=>by simp [qX]
 | _::_, []=>by simp [qX]
 | x::l,y::m=>by rw [qX,Bool.and_eq_true,Vy,jh (l:=l) (m:=m)];simp
theorem QG (l:List BlobP):qI l l=true:=je.2 rfl
theorem QI (l:List EntP):qX l l=true:=jh.2 rfl
theorem X9 (x y:BlobP) (A B:aj) (c d:Nat) (w:World) (hx:x.data.length<=1000000) (hy:y.data.length<=1000000) (h1:Sl w 1 A x.data.length c (bys x.data)) (h2:Sl w 1 B y.data.length d (bys y.data)) :
  Calls zZZ 78 #[.agg #[aD ⟨x.dig.toArray⟩,aA A x.data.length c,aB aC x.aQ,.bool x.mark],.agg #[aD ⟨y.dig.toArray⟩,aA B y.data.length d,aB aC y.aQ,.bool y.mark]] w fun e w'=>e= .returned (.bool (QF x y))/\Below w.heap.size w w':=by
 obtain⟨s,hs⟩:=wY (⟨x.dig.toArray⟩:ByteArray)
 obtain⟨t,ht⟩:=wY (⟨y.dig.toArray⟩:ByteArray)
 have hst:(s.toList==t.toList)=(x.dig==y.dig):=by rw [hs,ht,ByteArray.toList_eq,ByteArray.toList_eq]
 obtain⟨u,hu⟩:=wY (⟨x.data.toArray⟩:ByteArray)
 obtain⟨v,hv⟩:=wY (⟨y.data.toArray⟩:ByteArray)
 have huv:(u.toList==v.toList)=(x.data==y.data):=by rw [hu,hv,ByteArray.toList_eq,ByteArray.toList_eq]
 have hpp:((x.aQ:Int)==(y.aQ:Int))=(x.aQ==y.aQ):=by rw [Bool.eq_iff_iff,beq_iff_eq,beq_iff_eq];omega
 rw [<-hs,<-ht];obtain⟨W,hW,hA,hB,hb⟩:=zW w 55 [aD s,aA A x.data.length c,aB aC x.aQ,.bool x.mark] [aD t,aA B y.data.length d,aB aC y.aQ,.bool y.mark];have hc1:(convert 25 9 (aA A x.data.length c)).run zZZ W= .ok (aD u) W:=by
  rw [hu];exact kK underlying25 underlying5 underlying9 rfl (h1.below hb).rd
 have hc2:(convert 25 9 (aA B y.data.length d)).run zZZ W= .ok (aD v) W:=by
  rw [hv];exact kK underlying25 underlying5 underlying9 rfl (h2.below hb).rd
 have a0:=hA.c0;have b0:=hB.c0;have a1:=hA.c1;have b1:=hB.c1;have a2:=hA.c2;have b2:=hB.c2;have hR:QF x y=(x.dig==y.dig&&(x.data==y.data&&x.aQ==y.aQ)):=rfl;rw [hR];rw [hW]at a0 b0 a1 b1 a2 b2 hc1 hc2;clear hs ht hu hv h1 h2 hA hB hR;generalize (x.dig==y.dig)=e1 at *
 generalize (x.data==y.data)=e2 at *
 generalize (x.aQ==y.aQ)=e3 at *
 cases e1 with
 | false =>
  go_enter func78,ntmps78;go_wp2_with fail;go_ret;rw [<-hW];exact⟨rfl,hb⟩
 | true =>
  cases e2 with
  | false =>
   go_enter func78,ntmps78;go_wp2_with fail;go_ret;rw [<-hW];exact⟨rfl,hb⟩
  | true =>
   cases e3 with
   | false =>
    go_enter func78,ntmps78;go_wp2_with fail;go_ret;rw [<-hW];exact⟨rfl,hb⟩
   | true =>
    go_enter func78,ntmps78;go_wp2_with fail;go_ret;rw [<-hW];exact⟨rfl,hb⟩
theorem U3 (A B:aj) (c d:Nat) (l m:List BlobP) (w:World) (hl:l.length<=1000000) (hm:m.length<=1000000) (hp:∀x∈l,x.data.length<=1000000) (hq:∀x∈m,x.data.length<=1000000) (hA:Rw BlobS w A l) (hB:Rw BlobS w B m) :
  Calls zZZ 77 #[aA A l.length c,aA B m.length d,.func (.func 78) #[] #[]] w fun e w'=>e= .returned (.bool (qI l m))/\Below w.heap.size w w':=by
 have HP:=sqH hp;have HQ:=sqH hq;clear hp hq;by_cases hln:l.length=m.length
 ·have hnn:((l.length:Int) != (m.length:Int))=false:=by rw [bne_eq_false_iff_eq];omega
  generalize hR:qI l m=R;have HR0:=sqH hR;have HLN:=sqH hln;clear hR;go_enter func77,ntmps77;go_wp2_with fail;go_loopg [17] l.length (fun gn i wr=>∃j:Nat,gn=l.length - j/\i= aB aC j/\j<=l.length/\qI (l.drop j) (m.drop j)=R/\Below w.heap.size w wr)
  case atStart=>exact⟨0,rfl,rfl,wu,HR0.o,Below.refl _ _⟩
  case round =>
   obtain⟨j,hgk,rfl,hj,hrs,hbl⟩:=hrel;have HGK:=sqH hgk;have HRS:=sqH hrs;clear hgk hrs hnn;by_cases hlt:j<l.length
   ·have hcc:decide (j<l.length)=true:=decide_eq_true hlt;have hlt2:j<m.length:=by have:=HLN.o;omega
    obtain⟨b,off,B1,c1,rfl,hbb,p0,p1,p2,p3,hs⟩:=(hA.below hbl).blob_at j hlt;obtain⟨b',off',B2,c2,rfl,hbb',q0,q1,q2,q3,hs'⟩:=(hB.below hbl).blob_at j hlt2;have hj0:=we j
    have hj1:(j:Int)<(l.length:Int):=wu;have hj2:(j:Int)<(m.length:Int):=wu;have hpl:=HP.o l[j] (List.getElem_mem hlt);have hpm:=HQ.o m[j] (List.getElem_mem hlt2);have HST:=sqH (show(QF l[j] m[j]&&qI (l.drop (j+1)) (m.drop (j+1)))=R by rw [<-HRS.o,List.drop_eq_getElem_cons hlt,List.drop_eq_getElem_cons hlt2];rfl);generalize l[j]=x at *
    generalize m[j]=y at *
    obtain⟨W,hW,hX,hY,hb⟩:=zW wr 55 (zX x B1 c1) (zX y B2 c2);have HSM:=sqH (X9 x y B1 B2 c1 c2 W hpl hpm (hs.below hb) (hs'.below hb));have hba:=ws wr (aE (zX x B1 c1).toArray 55);have q0':=(hba.cell (p:=⟨b',off'+j*4,aF⟩) hbb').trans q0;have q1':=(hba.cell (p:=⟨b',off'+j*4+1,aF⟩) hbb').trans q1;have q2':=(hba.cell (p:=⟨b',off'+j*4+2,aF⟩) hbb').trans q2;have q3':=(hba.cell (p:=⟨b',off'+j*4+3,aF⟩) hbb').trans q3;obtain⟨x0,x1,x2,x3⟩:=sqC4 hX;obtain⟨y0,y1,y2,y3⟩:=sqC4 hY;unfold zX at hW q0' q1' q2' q3';dsimp only [List.toArray]at hW q0' q1' q2' q3';rw [hW]at x0 x1 x2 x3 y0 y1 y2 y3;clear hs hs' q0 q1 q2 q3 hba;go_wp2_with fail;rw [<-hW]at x0 x1 x2 x3 y0 y1 y2 y3 ⊢
    clear hW x0 x1 x2 x3 y0 y1 y2 y3 p0 p1 p2 p3 q0' q1' q2' q3' hX hY;cases hsm:QF x y with
    | true =>
     rw [hsm]at HSM;have HN:=sqH (show qI (l.drop (j+1)) (m.drop (j+1))=R by rw [<-HST.o,hsm];rfl);clear hsm;refine wZ HSM.o fun w5 hb5=>?_;dsimp only;have hb1:=wm hbl hb;have hb2:=wm hb1 hb5;go_wp2_with fail;go_roundg (l.length - (j+1))
     case measure=>exact wc HGK
     case rel=>exact⟨j+1,rfl,by go_num,wu,HN.o,hb2⟩
    | false =>
     rw [hsm]at HSM;have HN:=sqH (show R=false by rw [<-HST.o,hsm];rfl);clear hsm;refine wZ HSM.o fun w5 hb5=>?_;dsimp only;have hb1:=wm hbl hb;have hb2:=wm hb1 hb5;go_wp2_with fail;go_ret;rw [HN.o];exact⟨rfl,hb2⟩
   ·obtain rfl:j=l.length:=by omega
    have hcc:decide (l.length<l.length)=false:=ab;have HE:=sqH (show R=true by
     rw [<-HRS.o,List.drop_length,List.drop_eq_nil_of_le (wc HLN)];rfl)
    go_wp2_with fail;go_ret;rw [HE.o];exact⟨rfl,hbl⟩
 ·have hnn:((l.length:Int) != (m.length:Int))=true:=by rw [bne_iff_ne];omega
  have HE:=sqH (show qI l m=false from jg hln);rw [HE.o];go_enter func77,ntmps77;go_wp2_with fail;go_ret;exact⟨rfl,Below.refl _ _⟩
theorem Zh (A B:aj) (c d:Nat) (l m:List BlobP) (w:World) (hl:l.length<=1000000) (hm:m.length<=1000000) (hp:∀x∈l,x.data.length<=1000000) (hq:∀x∈m,x.data.length<=1000000) (hA:Rw BlobS w A l) (hB:Rw BlobS w B m) :
  Calls zZZ 53 #[aA A l.length c,aA B m.length d] w fun e w'=>e= .returned (.bool (qI l m))/\Below w.heap.size w w':=by
 have HE:=sqH (U3 A B c d l m w hl hm hp hq hA hB);clear hp hq hA hB;generalize qI l m=R at *
 go_enter func53,ntmps53;go_wp2_with fail;refine wZ HE.o fun w1 hb1=>?_;dsimp only;go_wp2_with fail;go_ret;exact⟨rfl,hb1⟩
theorem KM (A B:aj) (n m c d:Nat) (x y:List PartP) (w:World) (hl:x.length=n) (hl':y.length=m) (hn:n<=140737488351232) (hm:m<=140737488351232) (hr:Rd w 3 A n (pcs x)) (hs:Rd w 3 B m (pcs y)) :
  Calls zZZ 56 #[aA A n c,aA B m d] w fun e w'=>e= .returned (.bool (decide (x=y)))/\Below w.heap.size w w':=by
 by_cases h:x=y
 ·subst h;rw [decide_eq_true rfl];obtain rfl:n=m:=by omega
  exact Q9 A B n c d x w hl hn hr hs
 ·rw [decide_eq_false h];exact Q8 A B n m c d x y w hl hl' hn hm hr hs h
theorem Y5 (x y:EntP) (A B:aj) (c d:Nat) (w:World) (hx:x.aP.length<=1000000) (hy:y.aP.length<=1000000) (h1:Sl w 3 A x.aP.length c (pcs x.aP)) (h2:Sl w 3 B y.aP.length d (pcs y.aP)) :
  Calls zZZ 55 #[.agg #[aD ⟨x.key.toArray⟩,aA A x.aP.length c,aB aC x.aQ,aB aC x.aO],.agg #[aD ⟨y.key.toArray⟩,aA B y.aP.length d,aB aC y.aQ,aB aC y.aO]] w fun e w'=>e= .returned (.bool (QH x y))/\Below w.heap.size w w':=by
 obtain⟨s,hs⟩:=wY (⟨x.key.toArray⟩:ByteArray)
 obtain⟨t,ht⟩:=wY (⟨y.key.toArray⟩:ByteArray)
 have hst:(s.toList==t.toList)=(x.key==y.key):=by rw [hs,ht,ByteArray.toList_eq,ByteArray.toList_eq]
 have hpp:((x.aQ:Int)==(y.aQ:Int))=(x.aQ==y.aQ):=by rw [Bool.eq_iff_iff,beq_iff_eq,beq_iff_eq];omega
 have hqq:((x.aO:Int)==(y.aO:Int))=(x.aO==y.aO):=by rw [Bool.eq_iff_iff,beq_iff_eq,beq_iff_eq];omega
 rw [<-hs,<-ht];obtain⟨W,hW,hA,hB,hb⟩:=zW w 120 [aD s,aA A x.aP.length c,aB aC x.aQ,aB aC x.aO] [aD t,aA B y.aP.length d,aB aC y.aQ,aB aC y.aO];have HEQ:=sqH (KM A B x.aP.length y.aP.length c d x.aP y.aP W rfl rfl wu wu (h1.below hb).rd (h2.below hb).rd);have a0:=hA.c0;have b0:=hB.c0;have a1:=hA.c1;have b1:=hB.c1;have hR:QH x y=(x.key==y.key&&(decide (x.aP=y.aP)&&(x.aQ==y.aQ&&x.aO==y.aO))):=rfl;rw [hR];rw [hW]at a0 b0 a1 b1;clear hs ht h1 h2 hR;generalize (x.key==y.key)=e1 at *
 generalize (decide (x.aP=y.aP))=e2 at *
 generalize (x.aQ==y.aQ)=e3 at *
 generalize (x.aO==y.aO)=e4 at *
 cases e1 with
 | false =>
  go_enter func55,ntmps55;go_wp2_with fail;go_ret;rw [<-hW];exact⟨rfl,hb⟩
 | true =>
  cases e2 with
  | false =>
   go_enter func55,ntmps55;go_wp2_with fail;rw [<-hW];clear hW a0 b0 a1 b1;refine wZ HEQ.o fun w1 hb1=>?_;dsimp only;have hb2:=wm hb hb1;go_wp2_with fail;go_ret;exact⟨rfl,hb2⟩
  | true =>
   cases e3 with
   | false =>
    go_enter func55,ntmps55;go_wp2_with fail;rw [<-hW];clear hW a0 b0 a1 b1;refine wZ HEQ.o fun w1 hb1=>?_;dsimp only;have hb2:=wm hb hb1;have a2:=(hA.below hb1).c2;have b2:=(hB.below hb1).c2;go_wp2_with fail;go_ret;exact⟨rfl,hb2⟩
   | true =>
    cases e4 with
    | false =>
     go_enter func55,ntmps55;go_wp2_with fail;rw [<-hW];clear hW a0 b0 a1 b1;refine wZ HEQ.o fun w1 hb1=>?_;dsimp only;have hb2:=wm hb hb1;have a2:=(hA.below hb1).c2;have b2:=(hB.below hb1).c2;have a3:=(hA.below hb1).c3;have b3:=(hB.below hb1).c3;go_wp2_with fail;go_ret;exact⟨rfl,hb2⟩
    | true =>
     go_enter func55,ntmps55;go_wp2_with fail;rw [<-hW];clear hW a0 b0 a1 b1;refine wZ HEQ.o fun w1 hb1=>?_;dsimp only;have hb2:=wm hb hb1;have a2:=(hA.below hb1).c2;have b2:=(hB.below hb1).c2;have a3:=(hA.below hb1).c3;have b3:=(hB.below hb1).c3;go_wp2_with fail;go_ret;exact⟨rfl,hb2⟩
theorem U4 (A B:aj) (c d:Nat) (l m:List EntP) (w:World) (hl:l.length<=1000000) (hm:m.length<=1000000) (hp:∀x∈l,x.aP.length<=1000000) (hq:∀x∈m,x.aP.length<=1000000) (hA:Rw EntS w A l) (hB:Rw EntS w B m) :
  Calls zZZ 54 #[aA A l.length c,aA B m.length d,.func (.func 55) #[] #[]] w fun e w'=>e= .returned (.bool (qX l m))/\Below w.heap.size w w':=by
 have HP:=sqH hp;have HQ:=sqH hq;clear hp hq;by_cases hln:l.length=m.length
 ·have hnn:((l.length:Int) != (m.length:Int))=false:=by rw [bne_eq_false_iff_eq];omega
  generalize hR:qX l m=R;have HR0:=sqH hR;have HLN:=sqH hln;clear hR;go_enter func54,ntmps54;go_wp2_with fail;go_loopg [17] l.length (fun gn i wr=>∃j:Nat,gn=l.length - j/\i= aB aC j/\j<=l.length/\qX (l.drop j) (m.drop j)=R/\Below w.heap.size w wr)
  case atStart=>exact⟨0,rfl,rfl,wu,HR0.o,Below.refl _ _⟩
  case round =>
   obtain⟨j,hgk,rfl,hj,hrs,hbl⟩:=hrel;have HGK:=sqH hgk;have HRS:=sqH hrs;clear hgk hrs hnn;by_cases hlt:j<l.length
   ·have hcc:decide (j<l.length)=true:=decide_eq_true hlt;have hlt2:j<m.length:=by have:=HLN.o;omega
    obtain⟨b,off,B1,c1,rfl,hbb,p0,p1,p2,p3,hs⟩:=(hA.below hbl).ent_at j hlt;obtain⟨b',off',B2,c2,rfl,hbb',q0,q1,q2,q3,hs'⟩:=(hB.below hbl).ent_at j hlt2;have hj0:=we j
    have hj1:(j:Int)<(l.length:Int):=wu;have hj2:(j:Int)<(m.length:Int):=wu;have hpl:=HP.o l[j] (List.getElem_mem hlt);have hpm:=HQ.o m[j] (List.getElem_mem hlt2);have HST:=sqH (show(QH l[j] m[j]&&qX (l.drop (j+1)) (m.drop (j+1)))=R by rw [<-HRS.o,List.drop_eq_getElem_cons hlt,List.drop_eq_getElem_cons hlt2];rfl);generalize l[j]=x at *
    generalize m[j]=y at *
    obtain⟨W,hW,hX,hY,hb⟩:=zW wr 120 (ko x B1 c1) (ko y B2 c2);have HSM:=sqH (Y5 x y B1 B2 c1 c2 W hpl hpm (hs.below hb) (hs'.below hb));have hba:=ws wr (aE (ko x B1 c1).toArray 120);have q0':=(hba.cell (p:=⟨b',off'+j*4,aF⟩) hbb').trans q0;have q1':=(hba.cell (p:=⟨b',off'+j*4+1,aF⟩) hbb').trans q1;have q2':=(hba.cell (p:=⟨b',off'+j*4+2,aF⟩) hbb').trans q2;have q3':=(hba.cell (p:=⟨b',off'+j*4+3,aF⟩) hbb').trans q3;obtain⟨x0,x1,x2,x3⟩:=sqC4 hX;obtain⟨y0,y1,y2,y3⟩:=sqC4 hY;unfold ko at hW q0' q1' q2' q3';dsimp only [List.toArray]at hW q0' q1' q2' q3';rw [hW]at x0 x1 x2 x3 y0 y1 y2 y3;clear hs hs' q0 q1 q2 q3 hba;go_wp2_with fail;rw [<-hW]at x0 x1 x2 x3 y0 y1 y2 y3 ⊢
    clear hW x0 x1 x2 x3 y0 y1 y2 y3 p0 p1 p2 p3 q0' q1' q2' q3' hX hY;cases hsm:QH x y with
    | true =>
     rw [hsm]at HSM;have HN:=sqH (show qX (l.drop (j+1)) (m.drop (j+1))=R by rw [<-HST.o,hsm];rfl);clear hsm;refine wZ HSM.o fun w5 hb5=>?_;dsimp only;have hb1:=wm hbl hb;have hb2:=wm hb1 hb5;go_wp2_with fail;go_roundg (l.length - (j+1))
     case measure=>exact wc HGK
     case rel=>exact⟨j+1,rfl,by go_num,wu,HN.o,hb2⟩
    | false =>
     rw [hsm]at HSM;have HN:=sqH (show R=false by rw [<-HST.o,hsm];rfl);clear hsm;refine wZ HSM.o fun w5 hb5=>?_;dsimp only;have hb1:=wm hbl hb;have hb2:=wm hb1 hb5;go_wp2_with fail;go_ret;rw [HN.o];exact⟨rfl,hb2⟩
   ·obtain rfl:j=l.length:=by omega
    have hcc:decide (l.length<l.length)=false:=ab;have HE:=sqH (show R=true by
     rw [<-HRS.o,List.drop_length,List.drop_eq_nil_of_le (wc HLN)];rfl)
    go_wp2_with fail;go_ret;rw [HE.o];exact⟨rfl,hbl⟩
 ·have hnn:((l.length:Int) != (m.length:Int))=true:=by rw [bne_iff_ne];omega
  have HE:=sqH (show qX l m=false from ji hln);rw [HE.o];go_enter func54,ntmps54;go_wp2_with fail;go_ret;exact⟨rfl,Below.refl _ _⟩
theorem Zi (A A' B B':aj) (c c' d d':Nat) (l m:List BlobP) (x y:List EntP) (r k:Int) (w:World) (hl:l.length<=1000000) (hm:m.length<=1000000) (hp:∀b∈l,b.data.length<=1000000) (hq:∀b∈m,b.data.length<=1000000)
  (kl:x.length<=1000000) (km:y.length<=1000000) (kp:∀b∈x,b.aP.length<=1000000) (kq:∀b∈y,b.aP.length<=1000000) (hA:Rw BlobS w A l) (hA':Rw BlobS w A' m) (hB:Rw EntS w B x) (hB':Rw EntS w B' y) :
  Calls zZZ 30 #[.agg #[aA A l.length c,aA B x.length d,aB aC r,aB aC k],.agg #[aA A' m.length c',aA B' y.length d',aB aC r,aB aC k]] w fun e w'=>e= .returned (.bool (qI l m&&qX x y))/\Below w.heap.size w w':=by
 obtain⟨W,hW,hX,hY,hb⟩:=zW w 38 [aA A l.length c,aA B x.length d,aB aC r,aB aC k] [aA A' m.length c',aA B' y.length d',aB aC r,aB aC k];have HS:=sqH (Zh A A' c c' l m W hl hm hp hq (hA.below hb) (hA'.below hb));have HE:=sqH (fun w' (h:Below W.heap.size W w')=>U4 B B' d d' x y w' kl km kp kq ((hB.below hb).below h) ((hB'.below hb).below h));have hrr:(r==r)=true:=ab;have hkk:(k==k)=true:=ab;have a0:=hX.c0;have b0:=hY.c0;rw [hW]at a0 b0;clear hA hA' hB hB' hp hq kp kq;generalize qI l m=e1 at *
 generalize qX x y=e2 at *
 cases e1 with
 | false =>
  go_enter func30,ntmps30;go_wp2_with fail;rw [<-hW];clear hW a0 b0;refine wZ HS.o fun w1 hb1=>?_;dsimp only;have hb2:=wm hb hb1;go_wp2_with fail;go_ret;exact⟨rfl,hb2⟩
 | true =>
  go_enter func30,ntmps30;go_wp2_with fail;rw [<-hW];clear hW a0 b0;refine wZ HS.o fun w1 hb1=>?_;dsimp only;have hX1:=hX.below hb1;have hY1:=hY.below hb1;have HE1:=sqH (HE.o w1 hb1);have a1:=hX1.c1;have a2:=hX1.c2;have a3:=hX1.c3;have b1:=hY1.c1;have b2:=hY1.c2;have b3:=hY1.c3;have hb2:=wm hb hb1;go_wp2_with fail;refine wZ HE1.o fun w2 hb3=>?_;dsimp only;have hb4:=wm hb2 hb3;go_wp2_with fail;go_ret;exact⟨rfl,hb4⟩
end Go.Proofs.YtcjmjaefcjcomaaGreat
