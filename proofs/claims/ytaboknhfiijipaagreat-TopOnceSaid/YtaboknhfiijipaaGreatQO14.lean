/- Lemmas, as stated. -/
import Derived.Test.YtaboknhfiijipaaGreatQO10
import Derived.Test.YtaboknhfiijipaaGreatQO13
set_option linter.unusedVariables false
set_option linter.unusedSimpArgs false
set_option maxRecDepth 100000
set_option maxHeartbeats 16000000
open Go.Proofs.Tryz
open Go.Proofs.Tryz renaming prog->zZZ
open Go.Value renaming slice->aA,int->aB,string->aD
open Go.IntKind renaming i64->aC
open Go.Obj renaming cells->aE
open Option renaming none->aF,some->aG
namespace Go.Proofs.YtaboknhfiijipaaGreat
open Go.RowKit
variable {fn:Func} {l:List EntP} {base cap g i j k:Nat} {P:Program} {s:StoP} {p:Tmp} {e ty:TypeId} {u v1 v2:Value} {w w':World} {A:aj} {N:am}
theorem jz:∀x y:ai,Lib.compareBytes x y=0↔x=y
 | [], []=>by simp [Lib.compareBytes]
 | [],_::_=>by simp [Lib.compareBytes]
 | _::_, []=>by simp [Lib.compareBytes]
 | a::x,b::y=>by
  rw [Lib.compareBytes]
  rcases Je a b with h | h | h
  ·rw [if_pos h]
   exact⟨fun e=>wu,fun e=>by cases e;exact absurd h (UInt8.lt_irrefl _)⟩
  ·subst h
   rw [if_neg (UInt8.lt_irrefl _),if_neg (UInt8.lt_irrefl _),jz x y]
   simp
  ·rw [if_neg (UInt8.lt_asymm h),if_pos h]
   exact⟨fun e=>wu,fun e=>by cases e;exact absurd h (UInt8.lt_irrefl _)⟩
theorem Kq (s t:ByteArray) (v1 v2 v3:Value) (w:World) :
  Calls zZZ 193 #[.agg #[aD s,v1,v2,v3],aD t] w fun e w'=>e= .returned (aB aC (Lib.compareBytes s.data.toList t.data.toList))/\Below w.heap.size w w':=by
 have hA1:=Arr.new w 76 [aD s,v1,v2,v3];have hA:Arr (w.alloc (aE #[aD s,v1,v2,v3] 76)) w.heap.size 76 [aD s,v1,v2,v3]:=hA1;have hb:=ws w (aE #[aD s,v1,v2,v3] 76);have a0:=hA.c0;have HC:=sqH (fun W=>Tryz.strings_Compare s t W);clear hA1 hA;go_enter func193,ntmps193;go_wp2_with fail;generalize w.alloc (aE #[aD s,v1,v2,v3] 76)=W at *
 refine(HC.o W).mono ?_;rintro e_ w1 ⟨rfl,rfl⟩;dsimp only;go_wp2_with fail;go_ret;exact⟨rfl,hb⟩
theorem Kr (s t:ByteArray) (v1 v2 v3:Value) (w:World) :
  Calls zZZ 213 #[.agg #[aD s,v1,v2,v3],aD t] w fun e w'=>e= .returned (aB aC (Lib.compareBytes s.data.toList t.data.toList))/\Below w.heap.size w w':=by
 have hA1:=Arr.new w 100 [aD s,v1,v2,v3];have hA:Arr (w.alloc (aE #[aD s,v1,v2,v3] 100)) w.heap.size 100 [aD s,v1,v2,v3]:=hA1;have hb:=ws w (aE #[aD s,v1,v2,v3] 100);have a0:=hA.c0;have HC:=sqH (fun W=>Tryz.strings_Compare s t W);clear hA1 hA;go_enter func213,ntmps213;go_wp2_with fail;generalize w.alloc (aE #[aD s,v1,v2,v3] 100)=W at *
 refine(HC.o W).mono ?_;rintro e_ w1 ⟨rfl,rfl⟩;dsimp only;go_wp2_with fail;go_ret;exact⟨rfl,hb⟩
theorem UP (A:aj) (c:Nat) (l:List BlobP) (d:ai) (w:World) (hl:l.length<=100000) (hris:RisesBy (·.dig) l) (hA:Rw BlobS w A l) :
  Calls zZZ 192 #[aA A l.length c,aD ⟨d.toArray⟩,.func (.func 193) #[] #[]] w fun e w' =>
   ∃i f,e= .returned (.tuple #[aB aC ((i:Nat):Int),.bool f])/\i<=l.length/\(∀k (h:k<l.length),k<i->Op.bytesLess l[k].dig d=true)/\(∀k (h:k<l.length),i<=k->Op.bytesLess l[k].dig d=false)/\(f=true↔∃h:i<l.length,l[i].dig=d)/\Below w.heap.size w w':=by
 obtain⟨t,ht⟩:=wY (⟨d.toArray⟩:ByteArray)
 rw [<-ht];have HT:=sqH ht;have HRI:=sqH hris;clear ht hris;have HCM:=sqH (fun (x:BlobP) (A':aj) (c':Nat) W=>Kq ⟨x.dig.toArray⟩ t (aA A' x.data.length c') (aB aC x.aQ) (.bool x.mark) W);go_enter func192,ntmps192
 refine wL ?_;intros;go_loopg [9,10] l.length (fun gn u v wr=>∃i j:Nat,gn=j - i/\u= aB aC i/\v= aB aC j/\i<=j/\j<=l.length/\(∀k (h:k<l.length),k<i->Op.bytesLess l[k].dig d=true)/\(∀k (h:k<l.length),j<=k->Op.bytesLess l[k].dig d=false)/\Below w.heap.size w wr)
 case atStart=>exact⟨0,l.length,rfl,rfl,rfl,wu,wu,fun k _ h=>absurd h wu,fun k h h'=>absurd h wu,Below.refl _ _⟩
 case round =>
  obtain⟨i,j,hgk,rfl,rfl,hij,hjl,h1,h2,hbl⟩:=hrel;obtain⟨HGK,H1,H2⟩:=sqJ3 hgk h1 h2;clear hgk h1 h2;by_cases hlt:i<j
  ·have hcc:decide (i<j)=true:=decide_eq_true hlt;have hhl:(i+j) / 2<l.length:=wu
   obtain⟨b,off,B,cb,rfl,hbb,c0,c1,c2,c3,hs⟩:=(hA.below hbl).blob_at ((i+j) / 2) hhl;have hcm:=HCM.o l[(i+j) / 2] B cb wr;have HM:=sqH (show(((i:Int)+(j:Int)) / 2=(((i+j) / 2:Nat):Int))/\(((i:Int)+(j:Int)) / 2+1=(((i+j) / 2+1:Nat):Int)) from⟨wu,wu⟩);have hps:=List.pairwise_iff_getElem.1 HRI.o;obtain⟨sx,hsx⟩:=wY (⟨(l[(i+j) / 2]).dig.toArray⟩:ByteArray)
   rw [<-hsx]at c0 hcm;have hcp:Lib.compareBytes sx.data.toList t.data.toList=Lib.compareBytes (l[(i+j) / 2]).dig d:=by rw [hsx,HT.o]
   rw [hcp]at hcm;cases hle:Op.bytesLess (l[(i+j) / 2]).dig d with
   | true =>
    have hz:=uT hle;have HP:=sqH (show ∀k (h:k<l.length),k<(i+j) / 2+1->Op.bytesLess l[k].dig d=true from fun k h hk=>by
     rcases Nat.lt_or_ge k ((i+j) / 2) with h1 | h1
     ·exact ql (hps k _ h hhl h1) hle
     ·have:k=(i+j) / 2:=by omega
      subst this;exact hle)
    clear hps hle hsx hcp hs;generalize Lib.compareBytes (l[(i+j) / 2]).dig d=z at *
    generalize l[(i+j) / 2]=x at *
    have hz1:decide (z<0)=true:=decide_eq_true hz;have HCL:=sqH hcm;clear hcm;go_wp2_with fail;refine wZ HCL.o fun w5 hb5=>?_;dsimp only;have hbl5:=wm hbl hb5;go_wp2_with fail;go_roundg (j - ((i+j) / 2+1))
    case measure=>exact wc HGK
    case rel=>exact⟨(i+j) / 2+1,j,rfl,by rw [HM.o.2],rfl,wu,hjl,HP.o,H2.o,hbl5⟩
   | false =>
    have hz:=uS hle;have HP:=sqH (show ∀k (h:k<l.length),(i+j) / 2<=k->Op.bytesLess l[k].dig d=false from fun k h hk=>by
     rcases Nat.lt_or_ge ((i+j) / 2) k with h1 | h1
     ·cases hq:Op.bytesLess l[k].dig d with
      | false=>rfl
      | true=>have:=ql (hps _ k hhl h h1) hq;rw [hle]at this;cases this
     ·have:k=(i+j) / 2:=by omega
      subst this;exact hle)
    clear hps hle hsx hcp hs;generalize Lib.compareBytes (l[(i+j) / 2]).dig d=z at *
    generalize l[(i+j) / 2]=x at *
    have hz1:decide (z<0)=false:=decide_eq_false hz;have HCL:=sqH hcm;clear hcm;go_wp2_with fail;refine wZ HCL.o fun w5 hb5=>?_;dsimp only;have hbl5:=wm hbl hb5;go_wp2_with fail;go_roundg ((i+j) / 2 - i)
    case measure=>exact wc HGK
    case rel=>exact⟨i,(i+j) / 2,rfl,rfl,by rw [HM.o.1],wu,wu,H1.o,HP.o,hbl5⟩
  ·obtain rfl:i=j:=by omega
   have hcc:decide (i<i)=false:=ab;by_cases hin:i<l.length
   ·have hcd:decide (i<l.length)=true:=decide_eq_true hin;have hi0:=we i
    have hi1:(i:Int)<(l.length:Int):=wu;obtain⟨b,off,B,cb,rfl,hbb,c0,c1,c2,c3,hs⟩:=(hA.below hbl).blob_at i hin;have hcm:=HCM.o l[i] B cb wr;obtain⟨sx,hsx⟩:=wY (⟨(l[i]).dig.toArray⟩:ByteArray)
    rw [<-hsx]at c0 hcm;have hcp:Lib.compareBytes sx.data.toList t.data.toList=Lib.compareBytes (l[i]).dig d:=by rw [hsx,HT.o]
    rw [hcp]at hcm;have HQ:=sqH (jz (l[i]).dig d);have HE:=sqH (show((∃h:i<l.length,l[i].dig=d)↔l[i].dig=d) from⟨fun ⟨_,h⟩=>h,fun h=>⟨hin,h⟩⟩);clear hsx hcp hs;generalize Lib.compareBytes (l[i]).dig d=z at *
    generalize l[i]=x at *
    have HCL:=sqH hcm;clear hcm;go_wp2_with fail;refine wZ HCL.o fun w5 hb5=>?_;dsimp only;have hbl5:=wm hbl hb5;go_wp2_with fail;go_ret2;refine⟨i,z==0,rfl,wu,H1.o,H2.o,?_,hbl5⟩;rw [HE.o,beq_iff_eq,HQ.o]
   ·have hcd:decide (i<l.length)=false:=decide_eq_false hin
    refine wL ?_;intros;go_ret2;refine⟨i,false,rfl,wu,H1.o,H2.o,⟨fun h=>(by cases h),fun ⟨h,_⟩=>absurd h hin⟩,hbl⟩
theorem z1f (A:aj) (c:Nat) (l:List EntP) (d:ai) (w:World) (hl:l.length<=100000) (hris:RisesBy (·.key) l) (hA:Rw EntS w A l) :
  Calls zZZ 212 #[aA A l.length c,aD ⟨d.toArray⟩,.func (.func 213) #[] #[]] w fun e w' =>
   ∃i f,e= .returned (.tuple #[aB aC ((i:Nat):Int),.bool f])/\i<=l.length/\(∀k (h:k<l.length),k<i->Op.bytesLess l[k].key d=true)/\(∀k (h:k<l.length),i<=k->Op.bytesLess l[k].key d=false)/\(f=true↔∃h:i<l.length,l[i].key=d)/\Below w.heap.size w w':=by
 obtain⟨t,ht⟩:=wY (⟨d.toArray⟩:ByteArray)
 rw [<-ht];have HT:=sqH ht;have HRI:=sqH hris;clear ht hris;have HCM:=sqH (fun (x:EntP) (A':aj) (c':Nat) W=>Kr ⟨x.key.toArray⟩ t (aA A' x.aP.length c') (aB aC x.aQ) (aB aC x.aO) W);go_enter func212,ntmps212
 refine wL ?_;intros;go_loopg [9,10] l.length (fun gn u v wr=>∃i j:Nat,gn=j - i/\u= aB aC i/\v= aB aC j/\i<=j/\j<=l.length/\(∀k (h:k<l.length),k<i->Op.bytesLess l[k].key d=true)/\(∀k (h:k<l.length),j<=k->Op.bytesLess l[k].key d=false)/\Below w.heap.size w wr)
 case atStart=>exact⟨0,l.length,rfl,rfl,rfl,wu,wu,fun k _ h=>absurd h wu,fun k h h'=>absurd h wu,Below.refl _ _⟩
 case round =>
  obtain⟨i,j,hgk,rfl,rfl,hij,hjl,h1,h2,hbl⟩:=hrel;obtain⟨HGK,H1,H2⟩:=sqJ3 hgk h1 h2;clear hgk h1 h2;by_cases hlt:i<j
  ·have hcc:decide (i<j)=true:=decide_eq_true hlt;have hhl:(i+j) / 2<l.length:=wu
   obtain⟨b,off,B,cb,rfl,hbb,c0,c1,c2,c3,hs⟩:=(hA.below hbl).ent_at ((i+j) / 2) hhl;have hcm:=HCM.o l[(i+j) / 2] B cb wr;have HM:=sqH (show(((i:Int)+(j:Int)) / 2=(((i+j) / 2:Nat):Int))/\(((i:Int)+(j:Int)) / 2+1=(((i+j) / 2+1:Nat):Int)) from⟨wu,wu⟩);have hps:=List.pairwise_iff_getElem.1 HRI.o;obtain⟨sx,hsx⟩:=wY (⟨(l[(i+j) / 2]).key.toArray⟩:ByteArray)
   rw [<-hsx]at c0 hcm;have hcp:Lib.compareBytes sx.data.toList t.data.toList=Lib.compareBytes (l[(i+j) / 2]).key d:=by rw [hsx,HT.o]
   rw [hcp]at hcm;cases hle:Op.bytesLess (l[(i+j) / 2]).key d with
   | true =>
    have hz:=uT hle;have HP:=sqH (show ∀k (h:k<l.length),k<(i+j) / 2+1->Op.bytesLess l[k].key d=true from fun k h hk=>by
     rcases Nat.lt_or_ge k ((i+j) / 2) with h1 | h1
     ·exact ql (hps k _ h hhl h1) hle
     ·have:k=(i+j) / 2:=by omega
      subst this;exact hle)
    clear hps hle hsx hcp hs;generalize Lib.compareBytes (l[(i+j) / 2]).key d=z at *
    generalize l[(i+j) / 2]=x at *
    have hz1:decide (z<0)=true:=decide_eq_true hz;have HCL:=sqH hcm;clear hcm;go_wp2_with fail;refine wZ HCL.o fun w5 hb5=>?_;dsimp only;have hbl5:=wm hbl hb5;go_wp2_with fail;go_roundg (j - ((i+j) / 2+1))
    case measure=>exact wc HGK
    case rel=>exact⟨(i+j) / 2+1,j,rfl,by rw [HM.o.2],rfl,wu,hjl,HP.o,H2.o,hbl5⟩
   | false =>
    have hz:=uS hle;have HP:=sqH (show ∀k (h:k<l.length),(i+j) / 2<=k->Op.bytesLess l[k].key d=false from fun k h hk=>by
     rcases Nat.lt_or_ge ((i+j) / 2) k with h1 | h1
     ·cases hq:Op.bytesLess l[k].key d with
      | false=>rfl
      | true=>have:=ql (hps _ k hhl h h1) hq;rw [hle]at this;cases this
     ·have:k=(i+j) / 2:=by omega
      subst this;exact hle)
    clear hps hle hsx hcp hs;generalize Lib.compareBytes (l[(i+j) / 2]).key d=z at *
    generalize l[(i+j) / 2]=x at *
    have hz1:decide (z<0)=false:=decide_eq_false hz;have HCL:=sqH hcm;clear hcm;go_wp2_with fail;refine wZ HCL.o fun w5 hb5=>?_;dsimp only;have hbl5:=wm hbl hb5;go_wp2_with fail;go_roundg ((i+j) / 2 - i)
    case measure=>exact wc HGK
    case rel=>exact⟨i,(i+j) / 2,rfl,rfl,by rw [HM.o.1],wu,wu,H1.o,HP.o,hbl5⟩
  ·obtain rfl:i=j:=by omega
   have hcc:decide (i<i)=false:=ab;by_cases hin:i<l.length
   ·have hcd:decide (i<l.length)=true:=decide_eq_true hin;have hi0:=we i
    have hi1:(i:Int)<(l.length:Int):=wu;obtain⟨b,off,B,cb,rfl,hbb,c0,c1,c2,c3,hs⟩:=(hA.below hbl).ent_at i hin;have hcm:=HCM.o l[i] B cb wr;obtain⟨sx,hsx⟩:=wY (⟨(l[i]).key.toArray⟩:ByteArray)
    rw [<-hsx]at c0 hcm;have hcp:Lib.compareBytes sx.data.toList t.data.toList=Lib.compareBytes (l[i]).key d:=by rw [hsx,HT.o]
    rw [hcp]at hcm;have HQ:=sqH (jz (l[i]).key d);have HE:=sqH (show((∃h:i<l.length,l[i].key=d)↔l[i].key=d) from⟨fun ⟨_,h⟩=>h,fun h=>⟨hin,h⟩⟩);clear hsx hcp hs;generalize Lib.compareBytes (l[i]).key d=z at *
    generalize l[i]=x at *
    have HCL:=sqH hcm;clear hcm;go_wp2_with fail;refine wZ HCL.o fun w5 hb5=>?_;dsimp only;have hbl5:=wm hbl hb5;go_wp2_with fail;go_ret2;refine⟨i,z==0,rfl,wu,H1.o,H2.o,?_,hbl5⟩;rw [HE.o,beq_iff_eq,HQ.o]
   ·have hcd:decide (i<l.length)=false:=decide_eq_false hin
    refine wL ?_;intros;go_ret2;refine⟨i,false,rfl,wu,H1.o,H2.o,⟨fun h=>(by cases h),fun ⟨h,_⟩=>absurd h hin⟩,hbl⟩
theorem Kf (gk:Nat) (d:ai) (l:List EntP) (w:World) (hk:w.cell? ⟨gk,0,aF⟩=aG (aD ⟨d.toArray⟩)) (hg:gk<w.heap.size):UR w l 94 (.pointer (aG ⟨gk,0,aF⟩)) (fun b=>b.key==d):=by
 refine⟨fun _ _=>ww,fun b B cb W hb hbel hs=> ?_⟩;have hg1:gk<W.heap.size:=Nat.lt_of_lt_of_le hg hbel.size;have hk0:W.cell? ⟨gk,0,aF⟩=aG (aD ⟨d.toArray⟩):=(hbel.cell (p:=⟨gk,0,aF⟩) hg).trans hk;generalize hs1:(⟨b.key.toArray⟩:ByteArray)=s;generalize hs2:(⟨d.toArray⟩:ByteArray)=t at hk0;have hst:(b.key==d)=(s.toList==t.toList):=by
  rw [<-hs1,<-hs2,ByteArray.toList_eq,ByteArray.toList_eq]
 dsimp only;rw [hst];have hb1:=ws W (aE #[aD s,aA B b.aP.length cb,aB aC b.aQ,(aB aC b.aO)] 100);have hk1:(W.alloc (aE #[aD s,aA B b.aP.length cb,aB aC b.aQ,(aB aC b.aO)] 100)).cell? ⟨gk,0,aF⟩=aG (aD t):=(World.cell?_alloc_lt W _ ⟨gk,0,aF⟩ hg1).trans hk0;clear hst hs1 hs2;go_enter func94,ntmps94;go_wp2_with fail;go_ret;exact⟨rfl,hb1⟩
theorem kE (A:aj) (c:Nat) (l:List EntP) (d:ai) (w:World) (hl:l.length<=1000000) (hA:Rw EntS w A l) :
  Calls zZZ 40 #[aA A l.length c,aD ⟨d.toArray⟩] w fun e w'=>e= .returned (xl (l.findIdx? (fun x=>x.key==d)))/\Below w.heap.size w w':=by
 obtain⟨s,hs⟩:=wY (⟨d.toArray⟩:ByteArray)
 rw [<-hs];have hA1:=Arr.new w 9 [aD s];have hb1:=ws w (aE #[aD s] 9);have hA1':Arr (w.alloc (aE #[aD s] 9)) w.heap.size 9 [aD s]:=hA1;have hk:=hA1'.c0;have HI:=Jw A c l _ (.pointer (aG ⟨w.heap.size,0,aF⟩)) (fun x=>x.key==d) (w.alloc (aE #[aD s] 9)) hl (hA.below hb1) (Kf w.heap.size d l _ (by rw [hk,hs]) hA1'.lt);clear hs hA hA1 hA1' hk;cases hf:l.findIdx? (fun x=>x.key==d) with
 | none =>
  rw [hf]at HI;have HI:=sqH HI;go_enter func40,ntmps40;go_wp2_with fail;refine wZ HI.o fun w2 hb2=>?_;dsimp only;have hb12:=wm hb1 hb2;go_wp2_with fail;go_ret2;exact⟨rfl,hb12⟩
 | some i =>
  rw [hf]at HI;have HI:=sqH HI;have hi:decide ((i:Int)<0)=false:=decide_eq_false wu;go_enter func40,ntmps40;go_wp2_with fail;refine wZ HI.o fun w2 hb2=>?_;dsimp only;have hb12:=wm hb1 hb2;go_wp2_with fail;go_ret2;exact⟨rfl,hb12⟩
theorem JD (A:aj) (c:Nat) (l:List EntP) (x:EntP) (PA:aj) (pc:Nat) (w:World) (hg:GoodE l) (hx:GoodE1 x) (hlen:l.length<10) (hA:Rw EntS w A l) (hP:Sl w 3 PA x.aP.length pc (pcs x.aP)) :
  Calls zZZ 197 #[aA A l.length c,.agg #[aD ⟨x.key.toArray⟩,aA PA x.aP.length pc,aB aC x.aQ,aB aC x.aO]] w fun e w' =>
   ∃v,e= .returned (.tuple #[v,aB aC 0])/\RwX EntS 100 w' w.heap.size v (x8 l x) (fun b=>b<w.heap.size)/\Below w.heap.size w w':=by
 have HGD:=sqH (ZA hg hx hlen);have hpl:x.aP.length<=8:=(zk hx.2.1).1;have hg1:=hg.ris;obtain⟨sx,hsx⟩:=wY (⟨x.key.toArray⟩:ByteArray)
 rw [<-hsx];have hX:Arr (w.alloc (aE #[aD sx,aA PA x.aP.length pc,aB aC x.aQ,aB aC x.aO] 100)) w.heap.size 100 [aD sx,aA PA x.aP.length pc,aB aC x.aQ,aB aC x.aO]:=Arr.new w 100 _;have hb1:=ws w (aE #[aD sx,aA PA x.aP.length pc,aB aC x.aQ,aB aC x.aO] 100);have HC1:=sqH (xe A c l _ hg (hA.below hb1));have hA1:=hA.below hb1;have hP1:=hP.below hb1;have HSX:=sqH hsx;obtain⟨H,hH⟩:=wY w.heap.size
 have hlt1:=hX.lt;rw [<-hH]at hX hlt1;have hgl:l.length<=10:=hg.len;have HPL:=sqH (show ∀y∈l,y.aP.length<=1000000 from fun y hy=>by have:=(zk (hg.one y hy).2.1).1;omega);have HA0:=sqH hA;clear hg hx hA hP hsx;go_enter func197,ntmps197;go_wp2_with fail;rw [<-hH];have HH:=sqH hH;clear hH;generalize w.alloc (aE #[aD sx,aA PA x.aP.length pc,aB aC x.aQ,aB aC x.aO] 100)=w1 at *
 refine wZ HC1.o fun w2 hb2=>?_;dsimp only;have hb12:=wm hb1 hb2;have hX2:=hX.below hb2;have hA2:=hA1.below hb2;have hP2:=hP1.below hb2;have k0:=hX2.c0;have HBS:=z1f A c l x.key w2 wu hg1 hA2;rw [<-HSX.o]at HBS;have HBS:=sqH HBS;clear hX hA1 hP1;go_wp2_with fail;clear k0;refine HBS.o.mono ?_;rintro e_ w3 ⟨i,f,rfl,hil,P1,P2,hf,hb3⟩;dsimp only;have hb13:=wm hb12 hb3;have hX3:=hX2.below hb3;have hA3:=hA2.below hb3;have hP3:=hP2.below hb3;obtain⟨HF,HP1,HP2,HG1,HCP⟩:=sqJ5 hf P1 P2 hg1 (Qp A c l w3 wu (fun y hy=>HPL.o y hy) hA3);clear hX2 hA2 hP2 hf P1 P2 hg1;go_wp2_with fail;refine HCP.o.mono ?_;rintro e_ w4 ⟨g,rfl,hx4,hb4⟩;dsimp only;have hb14:=wm hb13 hb4;have hX4:=hX3.below hb4;have hP4:=hP3.below hb4;have hH3:=hX3.lt;have y1:=hX4.c1;have HCN:=sqH (yq PA x.aP.length pc (pcs x.aP) w4 wu hP4.rd (jI _));have hg3:=(hx4.rwo.blk rfl)
 clear hX3 hA3 hP3;go_wp2_with fail;clear y1;refine HCN.o.mono ?_;rintro e_ w5 ⟨v5,rfl,ho5,hb5⟩;dsimp only;obtain⟨A5,c5,rfl,hs5,hl5⟩:=vN ho5;have hX5:=hX4.below hb5;have hx5:=hx4.below hb5;have hb15:=wm hb14 hb5;have f1:=hX5.frozen 1;have y1:=hX5.c1;have hx6:=hx5.set (g:=H) (k:=1) hH3 hH3 (aA A5 x.aP.length c5);have hX6:=hX5.set (k:=1) ab (aA A5 x.aP.length c5);have hs6:=hs5.other (g:=H) (k:=1) (fun a ha=>by have:=hl5 a ha;have:=hX4.lt;omega) (aA A5 x.aP.length c5);have hb06:=hb15.setCell (p:=⟨H,1,aF⟩) (by rw [<-HH.o];exact Nat.le_refl _) (aA A5 x.aP.length c5);have hsz4:w4.heap.size<=w5.heap.size:=hb5.size;have hgb:g<w4.heap.size:=hg3.2;have hw03:w.heap.size<=w3.heap.size:=hb13.size;have hw34:w3.heap.size<=w4.heap.size:=hb4.size;clear hx4 hx5 hX4 hX5 hP4 ho5 hs5 hb4 hb5 hb15 hb14 hb13;have hX6':Arr (w5.setCell ⟨H,1,aF⟩ (aA A5 x.aP.length c5)) H 100 [aD sx,aA A5 x.aP.length c5,aB aC x.aQ,aB aC x.aO]:=hX6;clear hX6;cases f with
 | true =>
  obtain⟨hi,he⟩:=HF.o.1 rfl;have HPE:=sqH (show x8 l x=l.set i { x with aQ:=l[i].aQ } by
   unfold x8;rw [jy (f:=fun y:EntP=>y.key) HP1.o hi he];show l.set i { x with aQ:=(match l[i]? with | some y=>y.aQ | none=>0) }=_;rw [List.getElem?_eq_getElem hi])
  obtain⟨b,off,B,cb,rfl,hbb,d0,d1,d2,d3,_⟩:=(HA0.o.below hb06).ent_at i hi;have hi0:=we i
  have hi1:(i:Int)<(l.length:Int):=wu;clear he;generalize l[i].aQ=pn at *
  have f2:=hX6'.frozen 2;have y2:=hX6'.c2;have hX7:Arr ((w5.setCell ⟨H,1,aF⟩ (aA A5 x.aP.length c5)).setCell ⟨H,2,aF⟩ (aB aC pn)) H 100 [aD sx,aA A5 x.aP.length c5,aB aC pn,aB aC x.aO]:=hX6'.set (k:=2) ab _;have hx7:=hx6.set (g:=H) (k:=2) hH3 hH3 (aB aC pn);have hs7:=hs6.other (g:=H) (k:=2) (fun a ha=>by have:=hl5 a ha;omega) (aB aC pn);have hb07:=hb06.setCell (p:=⟨H,2,aF⟩) (by rw [<-HH.o];exact Nat.le_refl _) (aB aC pn);obtain⟨ps7,hx7o,hx7l⟩:∃cs,Arr ((w5.setCell ⟨H,1,aF⟩ (aA A5 x.aP.length c5)).setCell ⟨H,2,aF⟩ (aB aC pn)) g 100 cs/\cs.length=l.length*4:=by
   obtain⟨ps,_,_,h3,_⟩:=hx7;obtain⟨g',cap',cs,e1,_,h4,_,_,h5,_⟩:=ym h3 wu;injection e1 with e11 _ e13;injection e11 with e11;injection e11 with e11;subst e11 e13;exact⟨cs,h4,h5⟩
  have q0:=hx7o.cell (k:=i*4) (List.getElem?_eq_getElem wu);have q1:=hx7o.cell (k:=i*4+1) (List.getElem?_eq_getElem wu);have q2:=hx7o.cell (k:=i*4+2) (List.getElem?_eq_getElem wu);have q3:=hx7o.cell (k:=i*4+3) (List.getElem?_eq_getElem wu);have p0:=hx7o.frozen (i*4);have p1:=hx7o.frozen (i*4+1);have p2:=hx7o.frozen (i*4+2);have p3:=hx7o.frozen (i*4+3);obtain⟨k0,k1,k2,k3⟩:=sqC4 hX7;obtain⟨hx8,hg8⟩:=hx7.put4 (x:= { x with aQ:=pn }) (u0:= aD sx) (u1:= aA A5 x.aP.length c5) (u2:= aB aC pn) (u3:= aB aC x.aO) rfl hi ⟨A5,c5,by rw [HSX.o];rfl,hs7⟩ (fun b hb ⟨a,n',c',hm,e⟩=>by
   simp only [List.mem_cons,List.not_mem_nil,or_false,Value.slice.injEq,reduceCtorEq,false_or]at hm;have:=hl5 a hm.1.symm;rcases hb with hb | hb<;>omega)
  have hb08:=hb07.grown hg8 hb07.size (fun k hk=>by cases hk;exact Nat.le_trans hw03 hg3.1);rw [show l.set i { x with aQ:=pn }=x8 l x from HPE.o.symm]at hx8;have hlen8:(x8 l x).length=l.length:=by rw [HPE.o,List.length_set]
  rw [put4]at hx8 hg8 hb08;clear hx7o hx6 hs6 hX6' hx7 hs7 hb06 hb07 hg8 hX7;go_wp2_with fail;clear d0 d1 d2 d3 f2 y2 q0 q1 q2 q3 p0 p1 p2 p3 k0 k1 k2 k3 hx7l;generalize (((((w5.setCell ⟨H,1,aF⟩ (aA A5 x.aP.length c5)).setCell ⟨H,2,aF⟩ (aB aC pn)).setCell ⟨g,i*4,aF⟩ (aD sx)).setCell ⟨g,i*4+1,aF⟩ (aA A5 x.aP.length c5)).setCell ⟨g,i*4+2,aF⟩ (aB aC pn)).setCell ⟨g,i*4+3,aF⟩ (aB aC x.aO)=w8 at *
  have HC8:=xe (aG ⟨g,0,aF⟩) l.length (x8 l x) w8 HGD.o (by
   obtain⟨A',c',e1,_,_,h⟩:=hx8.rwo.rows;injection e1 with e2;rw [e2];exact h)
  rw [hlen8]at HC8;have HC8:=sqH HC8;refine wZ HC8.o fun w9 hb9=>?_;dsimp only;have hx9:=((hx8.below hb9).lower hw03).wider (N':=fun b=>b<w.heap.size) (fun b hb=> .inl (Nat.lt_of_lt_of_le hb hw03));have hb09:=wm hb08 hb9;clear hx8 hb08 hb9;go_wp2_with fail;go_ret2;exact⟨_,rfl,hx9,hb09⟩
 | false =>
  have hn:¬ ∃h:i<l.length,l[i].key=x.key:=fun h=>by have:=HF.o.2 h;cases this
  have HPE:=sqH (show x8 l x=l.take i++x::l.drop i by
   unfold x8;rw [UU (f:=fun y:EntP=>y.key) HG1.o HP1.o HP2.o hn];exact(UV (f:=fun y:EntP=>y.key) HG1.o HP1.o HP2.o hn rfl).symm)
  obtain⟨k0,k1,k2,k3⟩:=sqC4 hX6';clear hn HF;have hg31:w3.heap.size<=g:=hg3.1;have hz6:(w5.setCell ⟨H,1,aF⟩ (aA A5 x.aP.length c5)).heap.size=w5.heap.size:=by simp [World.setCell]
  have hV:Arr ((w5.setCell ⟨H,1,aF⟩ (aA A5 x.aP.length c5)).alloc (aE #[aD sx,aA A5 x.aP.length c5,aB aC x.aQ,aB aC x.aO] 100)) (w5.setCell ⟨H,1,aF⟩ (aA A5 x.aP.length c5)).heap.size 100 (kI x A5 c5):=by
   rw [kI,<-HSX.o];exact Arr.new (w5.setCell ⟨H,1,aF⟩ (aA A5 x.aP.length c5)) 100 _
  have hba:=(Below.refl (w5.setCell ⟨H,1,aF⟩ (aA A5 x.aP.length c5)).heap.size (w5.setCell ⟨H,1,aF⟩ (aA A5 x.aP.length c5))).alloc ag (aE #[aD sx,aA A5 x.aP.length c5,aB aC x.aQ,aB aC x.aO] 100);have hx7:=hx6.below hba;have hs7:=hs6.below hba;have hb07:=wm hb06 hba;have hgsz:g<(w5.setCell ⟨H,1,aF⟩ (aA A5 x.aP.length c5)).heap.size:=(hx6.rwo.blk rfl).2;have hbs7:w3.heap.size<=((w5.setCell ⟨H,1,aF⟩ (aA A5 x.aP.length c5)).alloc (aE #[aD sx,aA A5 x.aP.length c5,aB aC x.aQ,aB aC x.aO] 100)).heap.size:=by rw [World.size_alloc];omega
  clear hx6 hs6 hX6' hba hb06;go_wp2_with fail;rw [<-hz6];clear k0 k1 k2 k3;generalize hw6:(w5.setCell ⟨H,1,aF⟩ (aA A5 x.aP.length c5))=w6 at *
  clear hw6 hz6;generalize w6.alloc (aE #[aD sx,aA A5 x.aP.length c5,aB aC x.aQ,aB aC x.aO] 100)=w7 at *
  have HIN:=sqH (Kn l g i x A5 c5 w6.heap.size 1 w7 w3.heap.size (fun b=>b<w3.heap.size) hil wu hbs7 hx7 hV ⟨A5,c5,rfl,hs7⟩ (fun b hb hle=>by
   obtain⟨a,e1,e2⟩:=VZ hle;have:=hl5 a e1;rcases hb with hb | hb<;>omega))
  clear hV hx7 hs7 hbs7;refine HIN.o.mono ?_;rintro e_ w8 ⟨v8,rfl,hx8,hg8⟩;dsimp only;have hb08:=hb07.grown hg8 hb07.size (fun k hk=>by cases hk;exact Nat.le_trans hw03 hg3.1);rw [show l.take i++x::l.drop i=x8 l x from HPE.o.symm]at hx8;have hlp:(x8 l x).length<=10:=HGD.o.len;have HCL:=sqH (Y4 v8 (x8 l x) w8 w3.heap.size _ wu hx8);obtain⟨A8,c8,rfl,_,_,_⟩:=hx8.rwo.rows;clear hx8 hg8 hb07;go_wp2_with fail;refine HCL.o.mono ?_;rintro e_ w9 ⟨v9,rfl,hx9,hb9⟩;dsimp only;have hb09:=wm hb08 hb9;have hw8:w.heap.size<=w8.heap.size:=hb08.size;obtain⟨A9,c9,rfl,_,_,hR9⟩:=hx9.rwo.rows;have HC8:=sqH (xe A9 c9 (x8 l x) w9 HGD.o hR9);clear hb9 hb08 hR9;go_wp2_with fail;refine wZ HC8.o fun w10 hb10=>?_;dsimp only;have hx10:=((hx9.below hb10).lower hw8).wider (N':=fun b=>b<w.heap.size) (fun b hb=> .inl (Nat.lt_of_lt_of_le hb hw03));have hb010:=wm hb09 hb10;clear hx9 hb09 hb10;go_wp2_with fail;go_ret2;exact⟨_,rfl,hx10,hb010⟩
theorem xx (l:List BlobP) (d:ai):(putB l d).length<=l.length+1:=by
 unfold putB;cases hf:l.findIdx? (fun b=>b.dig==shaS d) with
 | none=>show(srt _ _).length<=_;rw [(qc _ _).length_eq];simp
 | some i=>show l.length<=_;omega
theorem Ke (gk:Nat) (d:ai) (l:List BlobP) (w:World) (hk:w.cell? ⟨gk,0,aF⟩=aG (aD ⟨d.toArray⟩)) (hg:gk<w.heap.size):Yu w l 159 (.pointer (aG ⟨gk,0,aF⟩)) (fun b=>b.dig==d):=by
 refine⟨fun _ _=>ww,fun b B cb W hb hbel hs=> ?_⟩;have hg1:gk<W.heap.size:=Nat.lt_of_lt_of_le hg hbel.size;have hk0:W.cell? ⟨gk,0,aF⟩=aG (aD ⟨d.toArray⟩):=(hbel.cell (p:=⟨gk,0,aF⟩) hg).trans hk;generalize hs1:(⟨b.dig.toArray⟩:ByteArray)=s;generalize hs2:(⟨d.toArray⟩:ByteArray)=t at hk0;have hst:(b.dig==d)=(s.toList==t.toList):=by
  rw [<-hs1,<-hs2,ByteArray.toList_eq,ByteArray.toList_eq]
 dsimp only;rw [hst];have hb1:=ws W (aE #[aD s,aA B b.data.length cb,aB aC b.aQ,(.bool b.mark)] 76);have hk1:(W.alloc (aE #[aD s,aA B b.data.length cb,aB aC b.aQ,(.bool b.mark)] 76)).cell? ⟨gk,0,aF⟩=aG (aD t):=(World.cell?_alloc_lt W _ ⟨gk,0,aF⟩ hg1).trans hk0;clear hst hs1 hs2;go_enter func159,ntmps159;go_wp2_with fail;go_ret;exact⟨rfl,hb1⟩
theorem ko (A:aj) (c:Nat) (l:List BlobP) (d:ai) (w:World) (hl:l.length<=1000000) (hA:Rw BlobS w A l) :
  Calls zZZ 127 #[aA A l.length c,aD ⟨d.toArray⟩] w fun e w'=>e= .returned (xl (l.findIdx? (fun x=>x.dig==d)))/\Below w.heap.size w w':=by
 obtain⟨s,hs⟩:=wY (⟨d.toArray⟩:ByteArray)
 rw [<-hs];have hA1:=Arr.new w 9 [aD s];have hb1:=ws w (aE #[aD s] 9);have hA1':Arr (w.alloc (aE #[aD s] 9)) w.heap.size 9 [aD s]:=hA1;have hk:=hA1'.c0;have HI:=ZS A c l _ (.pointer (aG ⟨w.heap.size,0,aF⟩)) (fun x=>x.dig==d) (w.alloc (aE #[aD s] 9)) hl (hA.below hb1) (Ke w.heap.size d l _ (by rw [hk,hs]) hA1'.lt);clear hs hA hA1 hA1' hk;cases hf:l.findIdx? (fun x=>x.dig==d) with
 | none =>
  rw [hf]at HI;have HI:=sqH HI;go_enter func127,ntmps127;go_wp2_with fail;refine wZ HI.o fun w2 hb2=>?_;dsimp only;have hb12:=wm hb1 hb2;go_wp2_with fail;go_ret2;exact⟨rfl,hb12⟩
 | some i =>
  rw [hf]at HI;have HI:=sqH HI;have hi:decide ((i:Int)<0)=false:=decide_eq_false wu;go_enter func127,ntmps127;go_wp2_with fail;refine wZ HI.o fun w2 hb2=>?_;dsimp only;have hb12:=wm hb1 hb2;go_wp2_with fail;go_ret2;exact⟨rfl,hb12⟩
theorem Yr (A:aj) (c:Nat) (l:List BlobP) (D:ai) (DA:aj) (dc:Nat) (w:World) (hg:GoodB l) (hd:D.length<=300) (hlen:l.length<24\/(l.findIdx? (fun b=>b.dig==shaS D)).isSome=true) (hA:Rw BlobS w A l) (hD:Sl w 1 DA D.length dc (bys D)) :
  Calls zZZ 167 #[aA A l.length c,aA DA D.length dc] w fun e w' =>
   ∃v,e= .returned (.tuple #[v,aD ⟨(shaS D).toArray⟩,aB aC 0])/\RwX BlobS 76 w' w.heap.size v (putB l D) (fun b=>b<w.heap.size)/\Below w.heap.size w w':=by
 have hgl:l.length<=24:=hg.len;obtain⟨HPL,HC1,HG1,HLN⟩:=sqJ4 (show ∀b∈l,b.data.length<=1000000 from fun b hb=>by have:=(hg.one b hb).2.1;omega) (vK A c l w hg hA) hg.ris hlen;have s1:decide ((D.length:Int)>300)=false:=decide_eq_false wu;have s2:decide ((300:Int)<(D.length:Int))=false:=decide_eq_false wu;have s3:decide (300<D.length)=false:=decide_eq_false wu;have hpl:(putB l D).length<=25:=by have:=xx l D;omega
 obtain⟨sd,hsd⟩:=wY (⟨(shaS D).toArray⟩:ByteArray)
 rw [<-hsd];have HSD:=sqH hsd;clear hg hlen hsd;go_enter func167,ntmps167;go_wp2_with fail;refine wZ HC1.o fun w1 hb1=>?_;dsimp only;have hA1:=hA.below hb1;have hD1:=hD.below hb1;have HSM:=Yt DA D.length dc D w1 rfl wu hD1.cap hD1.rd;rw [<-HSD.o]at HSM;have HSM:=sqH HSM;clear hA hD;go_wp2_with fail;refine wZ HSM.o fun w2 hb2=>?_;dsimp only;have hb12:=wm hb1 hb2;have hA2:=hA1.below hb2;have hD2:=hD1.below hb2;have HBS:=UP A c l (shaS D) w2 wu HG1.o hA2;rw [<-HSD.o]at HBS;have HBS:=sqH HBS;clear hA1 hD1 hb1 hb2;go_wp2_with fail;refine HBS.o.mono ?_;rintro e_ w3 ⟨i,f,rfl,hil,P1,P2,hf,hb3⟩;dsimp only;have hb13:=wm hb12 hb3;have hA3:=hA2.below hb3;have hD3:=hD2.below hb3;obtain⟨HF,HP1,HP2,HCP⟩:=sqJ4 hf P1 P2 (vu A c l w3 wu (fun y hy=>HPL.o y hy) hA3);clear hA2 hD2 hf P1 P2 hb12 hb3;go_wp2_with fail;refine HCP.o.mono ?_;rintro e_ w4 ⟨g,rfl,hx4,hb4⟩;dsimp only;have hb14:=wm hb13 hb4;have hD4:=hD3.below hb4;have hw03:w.heap.size<=w3.heap.size:=hb13.size;have hw34:w3.heap.size<=w4.heap.size:=hb4.size;have hg3:w3.heap.size<=g/\g<w4.heap.size:=hx4.rwo.blk rfl;clear hA3 hD3 hb13 hb4;cases f with
 | true =>
  obtain⟨hi,he⟩:=HF.o.1 rfl;have HPE:=sqH (show putB l D=l by
   unfold putB;rw [jy (f:=fun y:BlobP=>y.dig) HP1.o hi he])
  have hx5:=(hx4.lower hw03).wider (N':=fun b=>b<w.heap.size) (fun b hb=> .inl (Nat.lt_of_lt_of_le hb hw03));clear he hx4;go_wp2_with fail;go_ret3;rw [HPE.o];exact⟨_,rfl,hx5,hb14⟩
 | false =>
  have hn:¬ ∃h:i<l.length,l[i].dig=shaS D:=fun h=>by have:=HF.o.2 h;cases this
  have hno:=UU (f:=fun y:BlobP=>y.dig) HG1.o HP1.o HP2.o hn;have hlt24:l.length<24:=by
   rcases HLN.o with h | h
   ·exact h
   ·rw [hno]at h;cases h
  have HPE:=sqH (show putB l D=l.take i++⟨shaS D,D,0,false⟩::l.drop i by
   unfold putB;rw [hno];exact(UV (f:=fun y:BlobP=>y.dig) (x:=⟨shaS D,D,0,false⟩) HG1.o HP1.o HP2.o hn rfl).symm)
  have t1:decide ((l.length:Int)≥24)=false:=decide_eq_false wu;have t2:decide ((24:Int)<=(l.length:Int))=false:=decide_eq_false wu;have t3:decide (24<=l.length)=false:=decide_eq_false wu;have HCN:=sqH (kZ DA D.length dc D w4 rfl hD4.cap wu hD4.rd);clear hn HF hno;go_wp2_with fail;refine HCN.o.mono ?_;rintro e_ w5 ⟨v5,rfl,ho5,hb5⟩;dsimp only;obtain⟨A5,c5,rfl,hs5,hl5⟩:=vN ho5;have hb15:=wm hb14 hb5;have hx5:=hx4.below hb5;have hsz5:w4.heap.size<=w5.heap.size:=hb5.size;have hV:Arr (w5.alloc (aE #[aD sd,aA A5 D.length c5,aB aC 0,.bool false] 76)) w5.heap.size 76 (qe ⟨shaS D,D,0,false⟩ A5 c5):=by
   rw [qe,<-HSD.o];exact Arr.new w5 76 _
  have hba:=ws w5 (aE #[aD sd,aA A5 D.length c5,aB aC 0,.bool false] 76);have hx6:=hx5.below hba;have hs6:=hs5.below hba;have hb06:=wm hb15 hba;have hbs6:w3.heap.size<=(w5.alloc (aE #[aD sd,aA A5 D.length c5,aB aC 0,.bool false] 76)).heap.size:=by rw [World.size_alloc];omega
  clear hx4 hx5 hs5 ho5 hb5 hb15 hb14 hba hD4;go_wp2_with fail;generalize w5.alloc (aE #[aD sd,aA A5 D.length c5,aB aC 0,.bool false] 76)=w6 at *
  have HIN:=sqH (Km l g i ⟨shaS D,D,0,false⟩ A5 c5 w5.heap.size 1 w6 w3.heap.size (fun b=>b<w3.heap.size) hil wu hbs6 hx6 hV ⟨A5,c5,rfl,hs6⟩ (fun b hb hle=>by
   obtain⟨a,e1,e2⟩:=Z5 hle;have:=hl5 a e1;rcases hb with hb | hb<;>omega))
  clear hV hx6 hs6 hbs6;refine HIN.o.mono ?_;rintro e_ w8 ⟨v8,rfl,hx8,hg8⟩;dsimp only;have hb08:=hb06.grown hg8 hb06.size (fun k hk=>by cases hk;exact Nat.le_trans hw03 hg3.1);rw [show l.take i++⟨shaS D,D,0,false⟩::l.drop i=putB l D from HPE.o.symm]at hx8;have HCL:=sqH (Y2 v8 (putB l D) w8 w3.heap.size _ wu hx8);obtain⟨A8,c8,rfl,_,_,_⟩:=hx8.rwo.rows;clear hx8 hg8 hb06;go_wp2_with fail;refine HCL.o.mono ?_;rintro e_ w9 ⟨v9,rfl,hx9,hb9⟩;dsimp only;have hb09:=wm hb08 hb9;have hw8:w.heap.size<=w8.heap.size:=hb08.size;have hx10:=(hx9.lower hw8).wider (N':=fun b=>b<w.heap.size) (fun b hb=> .inl (Nat.lt_of_lt_of_le hb hw03));clear hx9 hb9 hb08;go_wp2_with fail;go_ret3;exact⟨_,rfl,hx10,hb09⟩
theorem ZR (A:aj) (c:Nat) (l:List BlobP) (PA:aj) (pc:Nat) (ps:List PartP) (w:World) (hl:l.length<=1000000) (hp:ps.length<=1000000) (hA:Rw BlobS w A l) (hP:Rd w 3 PA ps.length (pcs ps)) :
  Calls zZZ 73 #[aA A l.length c,aA PA ps.length pc] w fun e w'=>e= .returned (aB aC (qK l ps:Int))/\Below w.heap.size w w':=by
 generalize hR:qK l ps=R;have HR0:=sqH hR;clear hR;go_enter func73,ntmps73;go_wp2_with fail;go_loopg [11] ps.length (fun gn i wr=>∃j:Nat,gn=ps.length - j/\i= aB aC j/\j<=ps.length/\qK l (ps.drop j)=R/\Below w.heap.size w wr)
 case atStart=>exact⟨0,rfl,rfl,wu,by rw [List.drop_zero];exact HR0.o,Below.refl _ _⟩
 case round =>
  obtain⟨j,hgk,rfl,hj,hrest,hbl⟩:=hrel;have HGK:=sqH hgk;have HRS:=sqH hrest;clear hgk hrest;by_cases hlt:j<ps.length
  ·have hcc:decide (j<ps.length)=true:=decide_eq_true hlt;obtain⟨b,off,rfl,hbb,hcell⟩:=(hP.below hbl).2 wu;have hj0:=we j
   have hj1:(j:Int)<(ps.length:Int):=wu;have hat:=fun k (hk:k<3)=>vf ps j k hlt hk;have HDR:=sqH (show qK l (ps[j]::ps.drop (j+1))=R by rw [<-List.drop_eq_getElem_cons hlt];exact HRS.o);generalize ps[j]=p at *
   have c0:=hcell (j*3+0) _ (hat 0 wu);have c1:=hcell (j*3+1) _ (hat 1 wu);have c2:=hcell (j*3+2) _ (hat 2 wu);rw [Nat.add_zero]at c0;rw [show off+(j*3+1)=off+j*3+1 by omega]at c1;rw [show off+(j*3+2)=off+j*3+2 by omega]at c2
   try dsimp only [yL,List.getElem?_cons_zero,List.getElem?_cons_succ]at c0 c1 c2
   obtain⟨sn,hsn⟩:=wY (⟨p.name.toArray⟩:ByteArray)
   obtain⟨sp,hsp⟩:=wY (⟨p.dig.toArray⟩:ByteArray)
   rw [<-hsn]at c0;rw [<-hsp]at c1;have HSP:=sqH hsp;have hX:Arr (wr.alloc (aE #[aD sn,aD sp,aB aC p.size] 85)) wr.heap.size 85 [aD sn,aD sp,aB aC p.size]:=Arr.new wr 85 _;have hba:=ws wr (aE #[aD sn,aD sp,aB aC p.size] 85);have hb2:=wm hbl hba;have x1:=hX.c1;clear hat hcell hbl hba hsn hsp;go_wp2_with fail;generalize wr.alloc (aE #[aD sn,aD sp,aB aC p.size] 85)=w2 at *
   generalize wr.heap.size=gx at *
   clear c0 c1 c2 x1;have hA2:=hA.below hb2;have HFN:=ko A c l p.dig w2 hl hA2;rw [<-HSP.o]at HFN;cases hf:l.findIdx? (fun x=>x.dig==p.dig) with
   | none =>
    rw [hf,xl]at HFN;have HFN:=sqH HFN;have HE:=sqH (show R=5 by rw [<-HDR.o,qK,hf]);clear hf hA2;refine wZ HFN.o fun w3 hb3=>?_;dsimp only;have hb23:=wm hb2 hb3;go_wp2_with fail;go_ret;rw [HE.o];exact⟨rfl,hb23⟩
   | some i =>
    obtain⟨hi,_,_⟩:=List.findIdx?_eq_some_iff_getElem.1 hf;rw [hf,xl]at HFN;have HFN:=sqH HFN;have HRR:=sqH (show R=if l[i].data.length=p.size then qK l (ps.drop (j+1)) else 4 by
     rw [<-HDR.o,qK,hf];show(if (match l[i]? with | some b=>b.data.length | none=>0)=p.size then _ else _)=_;rw [List.getElem?_eq_getElem hi])
    clear hf;refine wZ HFN.o fun w3 hb3=>?_;dsimp only;have hb23:=wm hb2 hb3;have hX3:=hX.below hb3;obtain⟨b',off',B,cb,rfl,hbb',d0,d1,d2,d3,_⟩:=(hA2.below hb3).blob_at i hi;have hi0:=we i
    have hi1:(i:Int)<(l.length:Int):=wu;have x2:=hX3.c2;generalize l[i].data.length=m at *
    clear hA2 hX hb2 hb3 d0 d2 d3;by_cases hm:m=p.size
    ·have hne:((m:Int) != (p.size:Int))=false:=by rw [bne_eq_false_iff_eq];omega
     have HN:=sqH (show qK l (ps.drop (j+1))=R by rw [HRR.o,if_pos hm]);go_wp2_with fail;go_quiet (fail);go_wp2_with fail;go_roundg (ps.length - (j+1))
     case measure=>exact wc HGK
     case rel=>exact⟨j+1,rfl,by go_num,wu,HN.o,zY hb23 _⟩
    ·have hne:((m:Int) != (p.size:Int))=true:=by rw [bne_iff_ne];omega
     have HN:=sqH (show R=4 by rw [HRR.o,if_neg hm]);go_wp2_with fail;go_quiet (fail);go_wp2_with fail;go_ret;rw [HN.o];exact⟨rfl,zY hb23 _⟩
  ·obtain rfl:j=ps.length:=by omega
   have hcc:decide (ps.length<ps.length)=false:=ab;have HE:=sqH (show R=0 by rw [<-HRS.o,List.drop_length,qK]);go_wp2_with fail;go_ret;rw [HE.o];exact⟨rfl,hbl⟩
theorem z3m (k:Int) (h:k=0\/k=1\/k=2) (w:World):(Instr.index 132 (.agg #[aB aC 0,aB aC 0,aB aC 0]) (aB aC k)).run zZZ w= .ok (aB aC 0) w:=by
 rcases h with rfl | rfl | rfl<;>kernel_rfl
theorem zI {u:Tmp} (h:fn.results=#[.cell p ty,.tmp u]) (tmps:Array Value) (w:World) (g:Nat) (t:TypeId) (cs:Array Value) (fr:Nat×Nat) (d:TypeDesc)
  (hp:tmps.getD p undef= .pointer (aG ⟨g,0,aF⟩)) (hg:w.heap[g]?=aG (.cells cs t fr))
  (hu:P.underlying ty=aG d) (hd:(match d with | .struct _ | .array _ _=>true | _=>false)=true) (hi:(P.info? ty).map (·.size)=aG cs.size) :
  (results fn tmps).run P w= .ok (.tuple #[.agg cs,tmps.getD u undef]) w:=by
 have hp':tmps[p]?.getD undef= .pointer (aG ⟨g,0,aF⟩):=by simpa using hp
 simp [results,h,hp',asAddr,run_loadVar_row w g t ty cs fr d hg hu hd hi]
theorem zz {u z:Tmp} (h:fn.results=#[.cell p ty,.tmp u,.tmp z]) (tmps:Array Value) (w:World) (g:Nat) (t:TypeId) (cs:Array Value) (fr:Nat×Nat) (d:TypeDesc)
  (hp:tmps.getD p undef= .pointer (aG ⟨g,0,aF⟩)) (hg:w.heap[g]?=aG (.cells cs t fr))
  (hu:P.underlying ty=aG d) (hd:(match d with | .struct _ | .array _ _=>true | _=>false)=true) (hi:(P.info? ty).map (·.size)=aG cs.size) :
  (results fn tmps).run P w= .ok (.tuple #[.agg cs,tmps.getD u undef,tmps.getD z undef]) w:=by
 have hp':tmps[p]?.getD undef= .pointer (aG ⟨g,0,aF⟩):=by simpa using hp
 simp [results,h,hp',asAddr,run_loadVar_row w g t ty cs fr d hg hu hd hi]
abbrev stV (v1 v2:Value) (s:StoP):Value:= .agg #[v1,v2,aB aC s.aL,aB aC s.aK]
structure OwSt (w:World) (base:Nat) (v1 v2:Value) (s:StoP) (N:am):Prop where
 b:RwX BlobS 76 w base v1 s.aI (fun g=>N g\/v2.ownBlock=aG g)
 e:RwX EntS 100 w base v2 s.aJ (fun g=>N g\/v1.ownBlock=aG g)
 ne:∀g,v1.ownBlock=aG g->v2.ownBlock≠aG g
theorem OwSt.below (h:OwSt w base v1 v2 s N) (hb:Below w.heap.size w w'):OwSt w' base v1 v2 s N:=⟨h.b.below hb,h.e.below hb,h.ne⟩
theorem OwSt.lower {base':Nat} (h:OwSt w base v1 v2 s N) (hb:base'<=base):OwSt w base' v1 v2 s N:=⟨h.b.lower hb,h.e.lower hb,h.ne⟩
theorem OwSt.wider {N':am} (h:OwSt w base v1 v2 s N) (hN:∀b,N' b->N b\/w.heap.size<=b):OwSt w base v1 v2 s N' :=
 ⟨h.b.wider fun b hb=>hb.elim (fun h1=>(hN b h1).imp .inl id) (fun h1=> .inl (.inr h1)),h.e.wider fun b hb=>hb.elim (fun h1=>(hN b h1).imp .inl id) (fun h1=> .inl (.inr h1)),h.ne⟩
structure RdSt (w:World) (A:aj) (c:Nat) (B:aj) (d:Nat) (s:StoP):Prop where
 b:Rw BlobS w A s.aI
 e:Rw EntS w B s.aJ
 bc:s.aI.length<=c
 bm:c<=maxLen
 ec:s.aJ.length<=d
 em:d<=maxLen
theorem RdSt.below {B:aj} {c d:Nat} (h:RdSt w A c B d s) (hb:Below w.heap.size w w'):RdSt w' A c B d s:=⟨h.b.below hb,h.e.below hb,h.bc,h.bm,h.ec,h.em⟩
theorem OwSt.rows (h:OwSt w base v1 v2 s N):∃A c B d,v1= aA A s.aI.length c/\v2= aA B s.aJ.length d/\RdSt w A c B d s:=by
 obtain⟨A,c,e1,h1,h2,h3⟩:=h.b.rwo.rows;obtain⟨B,d,e2,k1,k2,k3⟩:=h.e.rwo.rows;exact⟨A,c,B,d,e1,e2,h3,k3,h1,h2,k1,k2⟩
theorem zF (A:aj) (c:Nat) (B:aj) (d:Nat) (s:StoP) (w:World) (hg:GoodS s) (hr:RdSt w A c B d s) :
  Calls zZZ 33 #[.agg #[aA A s.aI.length c,aA B s.aJ.length d,aB aC s.aL,aB aC s.aK]] w fun e w'=>e= .returned (aB aC 0)/\Below w.heap.size w w':=by
 have hlb:s.aI.length<=24:=hg.b.len;have hle:s.aJ.length<=10:=hg.e.len;have hus:usd s.aI<=4000:=Nat.le_trans hg.used hg.aL;have hrm:=hg.aL;have hck:=hg.aK;obtain⟨w0,hw0⟩:=wY (w.alloc (aE #[aA A s.aI.length c,aA B s.aJ.length d,aB aC s.aL,aB aC s.aK] 34))
 obtain⟨H,hH⟩:=wY w.heap.size
 have hS:Arr w0 H 34 [aA A s.aI.length c,aA B s.aJ.length d,aB aC s.aL,aB aC s.aK]:=by rw [hw0,hH];exact Arr.new w 34 _
 have hb0:Below w.heap.size w w0:=by rw [hw0];exact(Below.refl _ _).alloc ag _
 have hA0:=hr.b.below hb0;have hE0:=hr.e.below hb0;have HSB:=sqH (show ∀W,Below w0.heap.size w0 W->wH W H (aA A s.aI.length c) (aA B s.aJ.length d) (aB aC s.aL) from fun W h =>
  sqC3 (hS.below h))
 have HCB:=sqH (fun W (h:Below w0.heap.size w0 W)=>vK A c s.aI W hg.b (hA0.below h));have HCE:=sqH (fun W (h:Below w0.heap.size w0 W)=>xe B d s.aJ W hg.e (hE0.below h));have HCF:=sqH (show ∀W,Below w0.heap.size w0 W->Calls zZZ 72 #[aA A s.aI.length c,aB aC s.aL,aB aC 0] W fun e w'=>e= .returned (aB aC 0)/\Below W.heap.size W w' from fun W h=>by
  have:=ZO A c s.aI s.aL 0 W wu wu hrm wu (hA0.below h);rw [if_pos (by have:=hg.used;omega)]at this;exact this)
 have HEN:=sqH (show ∀x∈s.aJ,x.aO<=s.aK/\qK s.aI x.aP=0/\x.aP.length<=8 from fun x hx =>
  ⟨(hg.ent x hx).1,Zk hg.b.ris (hg.ent x hx).2,(zk (hg.e.one x hx).2.1).1⟩)
 have ck1:decide ((s.aK:Int)<0)=false:=decide_eq_false wu;have ck2:decide ((s.aK:Int)>1099511627776)=false:=decide_eq_false wu;have ck3:decide ((1099511627776:Int)<(s.aK:Int))=false:=decide_eq_false wu;have ck4:decide (1099511627776<s.aK)=false:=decide_eq_false wu;clear hg hr;go_enter func33,ntmps33;go_wp2_with fail;rw [<-hw0];rw [<-hH];clear hw0;have HH:=sqH hH;clear hH;refine wp_region_held_drew (S:=(fun w'=>wH w' H (aA A s.aI.length c) (aA B s.aJ.length d) (aB aC s.aL))) ww ?_ (fun hHeld=> ?_)
 ·exact HSB.o _ (Below.refl _ w0).drew
 have hB:=(Below.refl w0.heap.size w0).drew;generalize w0.drew=wn0 at *
 refine wQ 0 ?_;refine wQ 1 ?_;refine wQ 3 ?_;refine wQ 4 ?_;refine wQ 6 ?_;refine wQ 7 ?_;refine wQ 8 ?_;refine wQ 9 ?_;refine wQ 12 ?_;refine wU 2 fun K hK=>?_;go_simp;refine(HCB.o wn0 hB).mono ?_;rintro e5 w5 ⟨rfl,hb5⟩;dsimp only;refine wF hK (HSB.o _ (wm hB hb5)) (Below wn0.heap.size wn0) hb5 fun wn1 hHeld hst=> ?_;have hB:=wm hB hst;clear hst;clear hK K
 try simp only [sqP]
 refine wU 5 fun K hK=>?_;go_simp;refine(HCE.o wn1 hB).mono ?_;rintro e5 w5 ⟨rfl,hb5⟩;dsimp only;refine wF hK (HSB.o _ (wm hB hb5)) (Below wn1.heap.size wn1) hb5 fun wn2 hHeld hst=> ?_;have hB:=wm hB hst;clear hst;clear hK K
 try simp only [sqP]
 refine wU 10 fun K hK=>?_;go_simp;refine(HCF.o wn2 hB).mono ?_;rintro e5 w5 ⟨rfl,hb5⟩;dsimp only;refine wF hK (HSB.o _ (wm hB hb5)) (Below wn2.heap.size wn2) hb5 fun wn3 hHeld hst=> ?_;have hB:=wm hB hst;clear hst;clear hK K
 refine wQ 11 ?_;refine wpAnyH_done ww ?_ _;dsimp only [Exit.then];clear hHeld;have hb1:=wm hb0 hB;have hS1:=hS.below hB;have hA1:=hA0.below hB;have hE1:=hE0.below hB;clear hB hS hA0 hE0 hb0;generalize wn3=w1 at *
 go_wp2_with fail;go_loopg [19] 3 (fun gn i wr=>∃j:Int,i= aB aC j/\(j=0\/j=1\/j=2\/j=3)/\gn=(3 - j).toNat/\wr=w1)
 case atStart=>exact⟨0,rfl,wu,rfl,rfl⟩
 case round =>
  obtain⟨j,rfl,hj,hgn,hwr⟩:=hrel;subst hwr;have ix0:=z3m 0 wu wr;have ix1:=z3m 1 wu wr;have ix2:=z3m 2 wu wr;rcases hj with rfl | rfl | rfl | rfl
  ·go_wp2_with fail;go_roundg 2
   case measure=>omega
   case rel=>exact⟨1,rfl,wu,rfl,rfl⟩
  ·go_wp2_with fail;go_roundg 1
   case measure=>omega
   case rel=>exact⟨2,rfl,wu,rfl,rfl⟩
  ·go_wp2_with fail;go_roundg 0
   case measure=>omega
   case rel=>exact⟨3,rfl,wu,rfl,rfl⟩
  ·clear hgn ix0 ix1 ix2;generalize wr=wr0 at *
   have d3:=hS1.c3;have d1:=hS1.c1;go_wp2_with fail;clear d3 d1;go_loopg [37] s.aJ.length (fun gn i wr=>∃j:Nat,gn=s.aJ.length - j/\i= aB aC j/\j<=s.aJ.length/\Below wr0.heap.size wr0 wr)
   case atStart=>exact⟨0,rfl,rfl,wu,Below.refl _ _⟩
   case round =>
    obtain⟨j,hgk,rfl,hj,hbl⟩:=hrel;have HGK:=sqH hgk;clear hgk;by_cases hlt:j<s.aJ.length
    ·have hcc:decide (j<s.aJ.length)=true:=decide_eq_true hlt;obtain⟨b,off,PB,cb,rfl,hbb,c0,c1,c2,c3,hs⟩:=(hE1.below hbl).ent_at j hlt;have hj0:=we j
     have hj1:(j:Int)<(s.aJ.length:Int):=wu;obtain⟨g1,g2,g3⟩:=HEN.o s.aJ[j] (List.getElem_mem hlt);have HG2:=sqH g2;generalize s.aJ[j]=x at *
     obtain⟨sx,hsx⟩:=wY (⟨x.key.toArray⟩:ByteArray)
     rw [<-hsx]at c0;have st1:decide ((x.aO:Int)>(s.aK:Int))=false:=decide_eq_false wu;have st2:decide ((s.aK:Int)<(x.aO:Int))=false:=decide_eq_false wu;have st3:decide (s.aK<x.aO)=false:=decide_eq_false wu;have hX:Arr (wr.alloc (aE #[aD sx,aA PB x.aP.length cb,aB aC x.aQ,aB aC x.aO] 100)) wr.heap.size 100 [aD sx,aA PB x.aP.length cb,aB aC x.aQ,aB aC x.aO]:=Arr.new wr 100 _;have hba:=ws wr (aE #[aD sx,aA PB x.aP.length cb,aB aC x.aQ,aB aC x.aO] 100);have hbl2:=wm hbl hba;have hs2:=hs.below hba;have hS2:=hS1.below hbl2;have hA2:=hA1.below hbl2;have x1:=hX.c1;have x3:=hX.c3;have y0:=hS2.c0;have y3:=hS2.c3;clear hsx hs hba hbl g2;go_wp2_with fail;generalize wr.alloc (aE #[aD sx,aA PB x.aP.length cb,aB aC x.aQ,aB aC x.aO] 100)=w2 at *
     generalize wr.heap.size=gx at *
     clear c0 c1 c2 c3 x1 x3 y0 y3;have HHV:=ZR A c s.aI PB cb x.aP w2 wu wu hA2 hs2.rd;rw [HG2.o]at HHV;have HHV:=sqH HHV;clear hA2 hs2 hS2 hX;refine wZ HHV.o fun w3 hb3=>?_;dsimp only;have hbl3:=wm hbl2 hb3;go_wp2_with fail;go_roundg (s.aJ.length - (j+1))
     case measure=>exact wc HGK
     case rel=>exact⟨j+1,rfl,by go_num,wu,hbl3⟩
    ·obtain rfl:j=s.aJ.length:=by omega
     have hcc:decide (s.aJ.length<s.aJ.length)=false:=ab;go_wp2_with fail;go_ret;exact⟨rfl,wm hb1 hbl⟩
theorem OwSt.set (h:OwSt w base v1 v2 s N) (hg:g<base) (hN:N g) (u:Value):OwSt (w.setCell ⟨g,k,aF⟩ u) base v1 v2 s N:=⟨h.b.set hg (.inl hN) u,h.e.set hg (.inl hN) u,h.ne⟩
theorem qL (A:aj) (c:Nat) (B:aj) (d:Nat) (s:StoP) (w:World) (hl:s.aI.length<=100000) (he:s.aJ.length<=100000) (hd:∀b∈s.aI,b.data.length<=1000000) (hp:∀x∈s.aJ,x.aP.length<=1000000) (hr:RdSt w A c B d s) :
  Calls zZZ 34 #[.agg #[aA A s.aI.length c,aA B s.aJ.length d,aB aC s.aL,aB aC s.aK]] w fun e w'=>∃g1 g2,e= .returned (.agg #[aA (aG ⟨g1,0,aF⟩) s.aI.length s.aI.length,aA (aG ⟨g2,0,aF⟩) s.aJ.length s.aJ.length,aB aC s.aL,aB aC s.aK])/\OwSt w' w.heap.size (aA (aG ⟨g1,0,aF⟩) s.aI.length s.aI.length) (aA (aG ⟨g2,0,aF⟩) s.aJ.length s.aJ.length) s (fun b=>b<w.heap.size)/\Below w.heap.size w w':=by
 obtain⟨w0,hw0,hS,hR,hb0⟩:=qG w 34 [aA A s.aI.length c,aA B s.aJ.length d,aB aC s.aL,aB aC s.aK] [aA aF 0 0,aA aF 0 0,aB aC 0,aB aC 0];obtain⟨H,hH⟩:=wY w.heap.size
 have hA0:=hr.b.below hb0;have hE0:=hr.e.below hb0;rw [<-hH]at hS hR hb0 ⊢
 have hHl:H<w0.heap.size:=hS.lt;have hHr:H+1<w0.heap.size:=hR.lt;have HSB:=sqH (show ∀W,Below w0.heap.size w0 W->W.cell? ⟨H,1,aF⟩=aG (aA B s.aJ.length d) from fun W h=>(hS.below h).c1);have HC0:=sqH (show ∀W,Below w0.heap.size w0 W->W.cell? ⟨H,0,aF⟩=aG (aA A s.aI.length c) from fun W h=>(hS.below h).c0);have HCB:=sqH (show ∀W,Below w0.heap.size w0 W->Calls zZZ 74 #[aA A s.aI.length c] W fun e w'=>∃g,e= .returned (aA (aG ⟨g,0,aF⟩) s.aI.length s.aI.length)/\RwX BlobS 76 w' w0.heap.size (aA (aG ⟨g,0,aF⟩) s.aI.length s.aI.length) s.aI (fun b=>b<w0.heap.size)/\Below W.heap.size W w' from fun W h =>
  (vu A c s.aI W hl hd (hA0.below h)).mono fun e w' ⟨g,h1,h2,h3⟩=>⟨g,h1,(h2.lower h.size).wider (fun b hb=> .inl (Nat.lt_of_lt_of_le hb h.size)),h3⟩)
 have HCE:=sqH (show ∀W v1,Below w0.heap.size w0 W->RwX BlobS 76 W w0.heap.size v1 s.aI (fun b=>b<w0.heap.size)->Calls zZZ 75 #[aA B s.aJ.length d] W fun e w'=>∃g,e= .returned (aA (aG ⟨g,0,aF⟩) s.aJ.length s.aJ.length)/\OwSt w' w0.heap.size v1 (aA (aG ⟨g,0,aF⟩) s.aJ.length s.aJ.length) s (fun b=>b<w0.heap.size)/\Below W.heap.size W w' from fun W v1 h hv =>
  (Qp B d s.aJ W he hp (hE0.below h)).mono fun e w' ⟨g,h1,h2,h3⟩=>by
   have hge:W.heap.size<=g:=(h2.rwo.blk rfl).1;refine⟨g,h1,⟨(hv.wider (fun b hb=>hb.imp id (fun e=>by cases e;exact hge))).below h3,(h2.lower h.size).wider (fun b hb=> .inl ?_),fun g' e1 e2=> ?_⟩,h3⟩
   ·rcases hb with hb | hb
    ·exact Nat.lt_of_lt_of_le hb h.size
    ·exact(hv.rwo.blk hb).2
   ·have:=(hv.rwo.blk e1).2;have e3:aG g=aG g':=e2;cases e3;omega)
 clear hr hd hp hA0 hE0;go_enter func34,ntmps34;go_wp2_with fail;rw [<-hw0];rw [<-hH];clear hw0 hH;refine kj 9 (S:=(fun w'=>w'.cell? ⟨H,1,aF⟩=aG (aA B s.aJ.length d))) ww ?_ (fun hHeld=> ?_)
 ·exact HSB.o _ (Below.refl _ w0).drew
 have hB:=(Below.refl w0.heap.size w0).drew;generalize w0.drew=wn0 at *
 refine wR 0 ?_;refine wR 3 ?_;refine wR 4 ?_;refine wV 1 fun K hK=>?_;have c0:=HC0.o _ hB;go_simp;refine z1c hK ?_ (Below wn0.heap.size wn0) (fun W=>True) ?_ ?_ (fun wn1 hHeld hst hnew=> ?_)
 ·(exact HSB.o _ (hB.trans (Below.mono (show Below wn0.heap.size wn0 _ from by(first | exact hb5 | exact Below.refl _ _)) hB.size)))
 ·(first | exact hb5 | exact Below.refl _ _)
 ·(trivial)
 have hB:=wm hB hst;clear hst;clear hK K
 try simp only [sqP]
 refine wV 2 fun K hK=>?_;go_simp;refine(HCB.o wn1 hB).mono ?_;rintro e5 w5 ⟨g1,rfl,hx5,hb5⟩;dsimp only;refine z1c hK ?_ (Below wn1.heap.size wn1) (fun W=>RwX BlobS 76 W w0.heap.size (aA (aG ⟨g1,0,aF⟩) s.aI.length s.aI.length) s.aI (fun b=>b<w0.heap.size)) ?_ ?_ (fun wn2 hHeld hst hnew=> ?_)
 ·(exact HSB.o _ (hB.trans (Below.mono (show Below wn1.heap.size wn1 _ from by(first | exact hb5 | exact Below.refl _ _)) hB.size)))
 ·(first | exact hb5 | exact Below.refl _ _)
 ·(exact hx5)
 have hB:=wm hB hst;have hv1:=hnew;clear hnew;clear hst;clear hK K
 refine wR 6 ?_;refine wV 5 fun K hK=>?_;go_simp;refine(HCE.o wn2 _ hB hv1).mono ?_;rintro e5 w5 ⟨g2,rfl,hx5,hb5⟩;dsimp only;refine z1c hK ?_ (Below wn2.heap.size wn2) (fun W=>OwSt W w0.heap.size (aA (aG ⟨g1,0,aF⟩) s.aI.length s.aI.length) (aA (aG ⟨g2,0,aF⟩) s.aJ.length s.aJ.length) s (fun b=>b<w0.heap.size)) ?_ ?_ (fun wn3 hHeld hst hnew=> ?_)
 ·(exact HSB.o _ (hB.trans (Below.mono (show Below wn2.heap.size wn2 _ from by(first | exact hb5 | exact Below.refl _ _)) hB.size)))
 ·(first | exact hb5 | exact Below.refl _ _)
 ·(exact hx5)
 have hB:=wm hB hst;have ho:=hnew;clear hnew hv1;clear hst;clear hK K
 try simp only [sqP]
 refine wV 7 fun K hK=>?_;have fz:=(hS.below hB).frozen 0;have cz:=(hS.below hB).c0;go_simp;clear fz cz;refine z1c hK ?_ (fun W=>Arr W H 34 [(aA (aG ⟨g1,0,aF⟩) s.aI.length s.aI.length),aA B s.aJ.length d,aB aC s.aL,aB aC s.aK]/\Arr W (H+1) 34 [aA aF 0 0,aA aF 0 0,aB aC 0,aB aC 0]) (fun W=>OwSt W w0.heap.size (aA (aG ⟨g1,0,aF⟩) s.aI.length s.aI.length) (aA (aG ⟨g2,0,aF⟩) s.aJ.length s.aJ.length) s (fun b=>b<w0.heap.size)/\Below H w W) ?_ ?_ (fun wn4 hHeld hF hG=> ?_)
 ·exact((hS.below hB).set (k:=0) ab (aA (aG ⟨g1,0,aF⟩) s.aI.length s.aI.length)).c1
 ·exact⟨(hS.below hB).set (k:=0) ab (aA (aG ⟨g1,0,aF⟩) s.aI.length s.aI.length),(hR.below hB).other wu (aA (aG ⟨g1,0,aF⟩) s.aI.length s.aI.length)⟩
 ·exact⟨ho.set hHl hHl (aA (aG ⟨g1,0,aF⟩) s.aI.length s.aI.length),(hb0.trans (hB.mono (Nat.le_of_lt hHl))).setCell (p:=⟨H,0,aF⟩) ag (aA (aG ⟨g1,0,aF⟩) s.aI.length s.aI.length)⟩
 clear hB ho;clear hK K
 refine wR 8 ?_;refine q9 (rs:= [9]) ww ab ?_;refine zE.last (o:=_) rfl (fun K hK=> ?_);have fz:=hF.1.frozen 1;have cz:=hF.1.c1;go_simp;clear fz cz;refine z40 hK ?_;clear hK K
 try simp only [sqP]
 refine uy ww ?_ _;dsimp only [Exit.then];clear hHeld;obtain⟨hS7,hR7⟩:=hF;obtain⟨ho7,hb7⟩:=hG;have hS9:Arr (wn4.setCell ⟨H,1,aF⟩ (aA (aG ⟨g2,0,aF⟩) s.aJ.length s.aJ.length)) H 34 [(aA (aG ⟨g1,0,aF⟩) s.aI.length s.aI.length),(aA (aG ⟨g2,0,aF⟩) s.aJ.length s.aJ.length),aB aC s.aL,aB aC s.aK]:=hS7.set (k:=1) ab (aA (aG ⟨g2,0,aF⟩) s.aJ.length s.aJ.length);have hR9:=hR7.other (g':=H) (k:=1) wu (aA (aG ⟨g2,0,aF⟩) s.aJ.length s.aJ.length);have ho9:=ho7.set (k:=1) hHl hHl (aA (aG ⟨g2,0,aF⟩) s.aJ.length s.aJ.length);have hb9:=hb7.setCell (p:=⟨H,1,aF⟩) ag (aA (aG ⟨g2,0,aF⟩) s.aJ.length s.aJ.length);clear hS7 hR7 ho7 hb7 hS hR;generalize wn4.setCell ⟨H,1,aF⟩ (aA (aG ⟨g2,0,aF⟩) s.aJ.length s.aJ.length)=w9 at *
 obtain⟨z0,z1,z2,z3⟩:=sqC4 hS9;obtain⟨f0,f1,f2,f3⟩:=sqF4 hR9;obtain⟨y0,y1,y2,y3⟩:=sqC4 hR9;have hfin:=hR9.all4 (aA (aG ⟨g1,0,aF⟩) s.aI.length s.aI.length) (aA (aG ⟨g2,0,aF⟩) s.aJ.length s.aJ.length) (aB aC s.aL) (aB aC s.aK);have ho10:=(((ho9.set (g:=H+1) (k:=0) wu wu (aA (aG ⟨g1,0,aF⟩) s.aI.length s.aI.length)).set (g:=H+1) (k:=1) wu wu (aA (aG ⟨g2,0,aF⟩) s.aJ.length s.aJ.length)).set (g:=H+1) (k:=2) wu wu (aB aC s.aL)).set (g:=H+1) (k:=3) wu wu (aB aC s.aK);have hb10:=(((hb9.setCell (p:=⟨H+1,0,aF⟩) ae (aA (aG ⟨g1,0,aF⟩) s.aI.length s.aI.length)).setCell (p:=⟨H+1,1,aF⟩) ae (aA (aG ⟨g2,0,aF⟩) s.aJ.length s.aJ.length)).setCell (p:=⟨H+1,2,aF⟩) ae (aB aC s.aL)).setCell (p:=⟨H+1,3,aF⟩) ae (aB aC s.aK);clear hR9 ho9 hb9 hS9;go_wp2_with fail;clear z0 z1 z2 z3 f0 f1 f2 f3 y0 y1 y2 y3;refine bodyPost_ret (results_cell_row rfl _ _ (H+1) _ _ _ _ ac hfin underlying34 rfl ww) rfl ?_;exact⟨g1,g2,rfl,(ho10.lower (base':=H) wu).wider (N':=fun b=>b<H) (fun b hb=> .inl wu),hb10⟩
section
variable {w w6 w7 w8:World} {base:Nat} {v1 v1' v2 v2':Value} {s:StoP} {N:am}
theorem OwSt.mixB {l:List BlobP} (hv:RwX BlobS 76 w6 base v1 l N) (hN:∀b,N b->b<w6.heap.size) (hb:base<=w6.heap.size) (h:OwSt w7 w6.heap.size v1' v2 s (fun b=>b<w6.heap.size)) (hbl:Below w6.heap.size w6 w7):OwSt w7 base v1 v2 { s with aI:=l } N :=
 ⟨(hv.wider (fun b hb=>hb.imp id (fun e=>(h.e.rwo.blk e).1))).below hbl,(h.e.lower hb).wider (fun b hb=> .inl (.inl (hb.elim (hN b) (fun e=>(hv.rwo.blk e).2)))),fun g e1 e2=>by
  have:=(hv.rwo.blk e1).2;have:=(h.e.rwo.blk e2).1;omega⟩
theorem OwSt.mixE (h:OwSt w7 base v1 v2 s N) (hN:∀b,N b->b<w7.heap.size) (hv:RwX EntS 100 w8 w7.heap.size v2' l (fun b=>b<w7.heap.size)) (hbs:base<=w7.heap.size) (hbl:Below w7.heap.size w7 w8):OwSt w8 base v1 v2' { s with aJ:=l } N:=by
 have h1:∀g,v2'.ownBlock=aG g->w7.heap.size<=g:=fun g e=>(hv.rwo.blk e).1;have h2:∀g,v1.ownBlock=aG g->g<w7.heap.size:=fun g e=>(h.b.rwo.blk e).2;refine⟨RwX.below (RwX.wider h.b (N':=fun g=>N g\/v2'.ownBlock=aG g) fun b hb=> ?_) hbl,RwX.wider (hv.lower hbs) (N':=fun g=>N g\/v1.ownBlock=aG g) fun b hb=> .inl ?_,fun g e1 e2=> ?_⟩
 ·rcases hb with hb | hb
  ·exact .inl (.inl hb)
  ·exact .inr (h1 b hb)
 ·rcases hb with hb | hb
  ·exact hN b hb
  ·exact h2 b hb
 ·have:=h1 g e2;have:=h2 g e1;omega
theorem OwSt.setX (h:OwSt w base v1 v2 s N) (hN:N g) (h1:v1.ownBlock≠aG g) (h2:v2.ownBlock≠aG g) (u:Value):OwSt (w.setCell ⟨g,k,aF⟩ u) base v1 v2 s N:=by
 have hg:=zU w g k u;have e1:∀b,aG g=aG b->v1.ownBlock≠aG b:=fun b e=>by rw [<-e];exact h1
 have e2:∀b,aG g=aG b->v2.ownBlock≠aG b:=fun b e=>by rw [<-e];exact h2
 have e3:∀b,aG g=aG b->N b:=fun b e=>by cases e;exact hN
 exact⟨RwX.other h.b hg e1 fun b e=> .inl (e3 b e),RwX.other h.e hg e2 fun b e=> .inl (e3 b e),h.ne⟩
theorem OwSt.clk (h:OwSt w base v1 v2 s N) (r k:Nat):OwSt w base v1 v2 { s with aL:=r,aK:=k } N:=⟨h.b,h.e,h.ne⟩
theorem RwX.set1 {α:Type} {S:Shp α} {y:α} {l:List α} (h:RwX S e w base (aA (aG ⟨g,0,aF⟩) l.length cap) l N) (hi:i<l.length) (hj:j<S.size)
  (hR:∀W cs,S.R W l[i] cs->S.R W y (cs.set j u)) (hlead:∀b,¬leads b [u]) :
  (∃v0,w.cell? ⟨g,i*S.size+j,aF⟩=aG v0)/\w.frozen? ⟨g,i*S.size+j,aF⟩=false /\
   RwX S e (w.setCell ⟨g,i*S.size+j,aF⟩ u) base (aA (aG ⟨g,0,aF⟩) l.length cap) (l.set i y) N/\w.grownBy (w.setCell ⟨g,i*S.size+j,aF⟩ u) (aG g):=by
 obtain⟨h1,h2,h3,h4⟩:=RwO.set1 (S:=S.off N) (u:=u) (y:=y) h.off hi hj (fun W cs h=>⟨hR W cs h.1,fun b hb ⟨a,n,c,hm,e2⟩=>by
  rcases List.mem_or_eq_of_mem_set hm with h5 | h5
  ·exact h.2 b hb ⟨a,n,c,h5,e2⟩
  ·exact hlead b ⟨a,n,c,by simp [h5],e2⟩⟩) (fun b hb=>absurd hb (hlead b))
 exact⟨h1,h2,h3.on,h4⟩
theorem yh (z:Int) (b:Nat):¬leads b [aB aC z]:=fun ⟨a,n,c,hm,_⟩=>by simp at hm
theorem kL (z:Bool) (b:Nat):¬leads b [.bool z]:=fun ⟨a,n,c,hm,_⟩=>by simp at hm
theorem OwSt.setB {y:BlobP} (h:OwSt w base (aA (aG ⟨g,0,aF⟩) s.aI.length cap) v2 s N) (hi:i<s.aI.length) (hj:j<4)
  (hR:∀W cs,BlobS.R W s.aI[i] cs->BlobS.R W y (cs.set j u)) (hlead:∀b,¬leads b [u]) :
  (∃v0,w.cell? ⟨g,i*4+j,aF⟩=aG v0)/\w.frozen? ⟨g,i*4+j,aF⟩=false /\
   OwSt (w.setCell ⟨g,i*4+j,aF⟩ u) base (aA (aG ⟨g,0,aF⟩) s.aI.length cap) v2 { s with aI:=s.aI.set i y } N/\w.grownBy (w.setCell ⟨g,i*4+j,aF⟩ u) (aG g):=by
 obtain⟨h1,h2,h3,h4⟩:=RwX.set1 (S:=BlobS) (u:=u) (y:=y) h.b hi hj hR hlead;refine⟨h1,h2,⟨h3,h.e.other h4 (fun b e1 e2=> ?_) (fun b e=> ?_),h.ne⟩,h4⟩
 ·cases e1;exact h.ne g rfl e2
 ·cases e;exact .inr rfl
theorem OwSt.setE {y:EntP} (h:OwSt w base v1 (aA (aG ⟨g,0,aF⟩) s.aJ.length cap) s N) (hi:i<s.aJ.length) (hj:j<4)
  (hR:∀W cs,EntS.R W s.aJ[i] cs->EntS.R W y (cs.set j u)) (hlead:∀b,¬leads b [u]) :
  (∃v0,w.cell? ⟨g,i*4+j,aF⟩=aG v0)/\w.frozen? ⟨g,i*4+j,aF⟩=false /\
   OwSt (w.setCell ⟨g,i*4+j,aF⟩ u) base v1 (aA (aG ⟨g,0,aF⟩) s.aJ.length cap) { s with aJ:=s.aJ.set i y } N/\w.grownBy (w.setCell ⟨g,i*4+j,aF⟩ u) (aG g):=by
 obtain⟨h1,h2,h3,h4⟩:=RwX.set1 (S:=EntS) (u:=u) (y:=y) h.e hi hj hR hlead;refine⟨h1,h2,⟨h.b.other h4 (fun b e1 e2=> ?_) (fun b e=> ?_),h3,h.ne⟩,h4⟩
 ·cases e1;exact h.ne g e2 rfl
 ·cases e;exact .inr rfl
theorem YI (b:BlobP) (n:Nat) (W:World) (cs:ak) (h:BlobS.R W b cs):BlobS.R W { b with aQ:=n } (cs.set 2 (aB aC n)):=by
 obtain⟨A,c,rfl,hs⟩:=h;exact⟨A,c,rfl,hs⟩
theorem vQ (b:BlobP) (m:Bool) (W:World) (cs:ak) (h:BlobS.R W b cs):BlobS.R W { b with mark:=m } (cs.set 3 (.bool m)):=by
 obtain⟨A,c,rfl,hs⟩:=h;exact⟨A,c,rfl,hs⟩
theorem U3 (b:EntP) (n:Nat) (W:World) (cs:ak) (h:EntS.R W b cs):EntS.R W { b with aQ:=n } (cs.set 2 (aB aC n)):=by
 obtain⟨A,c,rfl,hs⟩:=h;exact⟨A,c,rfl,hs⟩
theorem YU (b:EntP) (n:Nat) (W:World) (cs:ak) (h:EntS.R W b cs):EntS.R W { b with aO:=n } (cs.set 3 (aB aC n)):=by
 obtain⟨A,c,rfl,hs⟩:=h;exact⟨A,c,rfl,hs⟩
end
theorem VM (g:Nat) (x0 x1 x2:Value) (z:Int) (w:World) (h0:0<=z) (hk:z<1099511627776) (hS:Arr w g 34 [x0,x1,x2,aB aC z]) :
  Calls zZZ 151 #[.pointer (aG ⟨g,0,aF⟩)] w fun e w'=>e= .returned (aB aC 0)/\w'=w.setCell ⟨g,3,aF⟩ (aB aC (z+1)):=by
 have c3:=hS.c3;have f3:=hS.frozen 3;have hne:(z==1099511627776)=false:=by rw [beq_eq_false_iff_ne];omega
 have hw:IntKind.i64.wrap (z+1)=z+1:=IntWalk.i64_in _ wu;clear hS;go_enter func151,ntmps151;go_wp2_with fail;go_ret;exact⟨rfl,rfl⟩
theorem Yz (g:Nat) (x0 x1 x2:Value) (k:Nat) (w:World) (hk:k<1099511627776) (hS:Arr w g 34 [x0,x1,x2,aB aC k]) :
  Calls zZZ 151 #[.pointer (aG ⟨g,0,aF⟩)] w fun e w'=>e= .returned (aB aC 0)/\w'=w.setCell ⟨g,3,aF⟩ (aB aC ((k+1:Nat):Int)):=by
 have hz:((k+1:Nat):Int)=(k:Int)+1:=wu;rw [hz];exact VM g x0 x1 x2 (k:Int) w wu wu hS
theorem Kg (A:aj) (c:Nat) (B:aj) (d:Nat) (s:StoP) (dg:ai) (i:Nat) (w:World) (hg:GoodS s) (hr:RdSt w A c B d s) (hi:i<s.aI.length) (hk:s.aI[i].dig=dg) :
  Calls zZZ 113 #[.agg #[aA A s.aI.length c,aA B s.aJ.length d,aB aC s.aL,aB aC s.aK],aD ⟨dg.toArray⟩] w fun e w' =>
   ∃v,e= .returned (.tuple #[v,aB aC 0])/\w'.ownsRow w.heap.size 5 1 v s.aI[i].data.length (bys s.aI[i].data)/\Below w.heap.size w w':=by
 have hlb:s.aI.length<=24:=hg.b.len;obtain⟨D,hD⟩:=wY (s.aI[i].data)
 rw [<-hD];have hdl:=(hg.b.one _ (List.getElem_mem hi)).2.1;rw [<-hD]at hdl;have HD:=sqH hD;clear hD;obtain⟨w0,hw0⟩:=wY (w.alloc (aE #[aA A s.aI.length c,aA B s.aJ.length d,aB aC s.aL,aB aC s.aK] 34))
 have hb0:Below w.heap.size w w0:=by rw [hw0];exact(Below.refl _ _).alloc ag _
 have hr0:=hr.below hb0;obtain⟨H,hH⟩:=wY w.heap.size
 have hS:Arr w0 H 34 [aA A s.aI.length c,aA B s.aJ.length d,aB aC s.aL,aB aC s.aK]:=by rw [hw0,hH];exact Arr.new w 34 _
 have HCK:=sqH (zF A c B d s w0 hg hr0);have HF:=sqH (show s.aI.findIdx? (fun x=>x.dig==dg)=aG i by
  obtain⟨j,hj,h1,h2⟩:=XO (f:=fun b:BlobP=>b.dig) hg.b.ris (List.getElem_mem hi) hk;rw [h1];have:=List.pairwise_iff_getElem.1 hg.b.ris;rcases Nat.lt_trichotomy j i with h3 | h3 | h3
  ·have h4:=yT (this j i hj hi h3);rw [h2]at h4;exact absurd rfl h4
  ·rw [h3]
  ·have h4:=yT (this i j hi hj h3);rw [h2]at h4;exact absurd rfl h4)
 obtain⟨sd,hsd⟩:=wY (⟨dg.toArray⟩:ByteArray)
 rw [<-hsd];have HSD:=sqH hsd;rw [<-hH]at hb0 ⊢
 have hHl:H<w0.heap.size:=hS.lt;obtain⟨x0,x1,x2,x3⟩:=sqC4 hS;rw [hw0,hH]at x0 x1 x2 x3;clear hg hr hk hsd;go_enter func113,ntmps113;go_wp2_with fail;rw [<-hw0,<-hH];clear hw0 hH x0 x1 x2 x3;refine wZ HCK.o fun w1 hb1=>?_;dsimp only;have hr1:=hr0.below hb1;have hS1:=hS.below hb1;have y0:=hS1.c0;have HFN:=ko A c s.aI dg w1 wu hr1.b;rw [HF.o,xl,<-HSD.o]at HFN;have HFN:=sqH HFN;clear hr0 hS;go_wp2_with fail;clear y0;refine wZ HFN.o fun w2 hb2=>?_;dsimp only;have hc2:=wm hb1 hb2;have hb02:=hb0.trans (hc2.mono (Nat.le_of_lt hHl));have hsz2:H<=w2.heap.size:=Nat.le_trans (Nat.le_of_lt hHl) hc2.size;have hr2:=hr1.below hb2;have hS2:=hS1.below hb2;have y0:=hS2.c0;obtain⟨b,off,DB,cb,e1,hbb,d0,d1,d2,d3,hsl⟩:=hr2.b.blob_at i hi;have hi0:=we i
 have hi1:(i:Int)<(s.aI.length:Int):=wu;rw [<-HD.o]at d1 hsl;have HCL:=sqH (kZ DB D.length cb D w2 rfl hsl.cap wu hsl.rd);subst e1;clear hr1 hr2 hS1 hS2 hb2 hc2 d0 d2 d3 hsl;go_wp2_with fail;clear y0 d1;refine HCL.o.mono ?_;rintro e_ w3 ⟨v3,rfl,ho3,hb3⟩;dsimp only;have hb03:=hb02.trans (hb3.mono hsz2);have ho:=zb ho3 hsz2;clear ho3 hb3;go_wp2_with fail;go_ret2;exact⟨v3,rfl,ho,hb03⟩
theorem jX (A:aj) (c:Nat) (B:aj) (d:Nat) (s:StoP) (dg:ai) (w:World) (hg:GoodS s) (hr:RdSt w A c B d s) (hk:∀b∈s.aI,b.dig≠dg) :
  Calls zZZ 113 #[.agg #[aA A s.aI.length c,aA B s.aJ.length d,aB aC s.aL,aB aC s.aK],aD ⟨dg.toArray⟩] w fun e w' =>
   e= .returned (.tuple #[aA aF 0 0,aB aC 5])/\Below w.heap.size w w':=by
 have hlb:s.aI.length<=24:=hg.b.len;obtain⟨w0,hw0⟩:=wY (w.alloc (aE #[aA A s.aI.length c,aA B s.aJ.length d,aB aC s.aL,aB aC s.aK] 34))
 have hb0:Below w.heap.size w w0:=by rw [hw0];exact(Below.refl _ _).alloc ag _
 have hr0:=hr.below hb0;obtain⟨H,hH⟩:=wY w.heap.size
 have hS:Arr w0 H 34 [aA A s.aI.length c,aA B s.aJ.length d,aB aC s.aL,aB aC s.aK]:=by rw [hw0,hH];exact Arr.new w 34 _
 have HCK:=sqH (zF A c B d s w0 hg hr0);have HF:=sqH (show s.aI.findIdx? (fun x=>x.dig==dg)=aF by
  rw [List.findIdx?_eq_none_iff];intro x hx;simp [hk x hx])
 obtain⟨sd,hsd⟩:=wY (⟨dg.toArray⟩:ByteArray)
 rw [<-hsd];have HSD:=sqH hsd;rw [<-hH]at hb0 ⊢
 have hHl:H<w0.heap.size:=hS.lt;obtain⟨x0,x1,x2,x3⟩:=sqC4 hS;rw [hw0,hH]at x0 x1 x2 x3;clear hg hr hk hsd;go_enter func113,ntmps113;go_wp2_with fail;rw [<-hw0,<-hH];clear hw0 hH x0 x1 x2 x3;refine wZ HCK.o fun w1 hb1=>?_;dsimp only;have hr1:=hr0.below hb1;have hS1:=hS.below hb1;have y0:=hS1.c0;have HFN:=ko A c s.aI dg w1 wu hr1.b;rw [HF.o,xl,<-HSD.o]at HFN;have HFN:=sqH HFN;clear hr0 hS;go_wp2_with fail;clear y0;refine wZ HFN.o fun w2 hb2=>?_;dsimp only;have hc2:=wm hb1 hb2;have hb02:=hb0.trans (hc2.mono (Nat.le_of_lt hHl));clear hr1 hS1 hb1 hb2 hc2;go_wp2_with fail;go_ret2;exact⟨rfl,hb02⟩
theorem Kp (A:aj) (c:Nat) (B:aj) (d:Nat) (s:StoP) (D:ai) (DA:aj) (dc:Nat) (w:World) (hg:GoodS s) (hr:RdSt w A c B d s) (hd:D.length<=300) (hlen:s.aI.length<24\/(s.aI.findIdx? (fun b=>b.dig==shaS D)).isSome=true) (hus:usd (putB s.aI D)<=s.aL) (hD:Sl w 1 DA D.length dc (bys D)) :
  Calls zZZ 146 #[.agg #[aA A s.aI.length c,aA B s.aJ.length d,aB aC s.aL,aB aC s.aK],aA DA D.length dc] w fun e w' =>
   ∃v1 v2,e= .returned (.tuple #[.agg #[v1,v2,aB aC s.aL,aB aC s.aK],aD ⟨(shaS D).toArray⟩,aB aC 0])/\OwSt w' w.heap.size v1 v2 (zH s D) (fun b=>b<w.heap.size)/\Below w.heap.size w w':=by
 have hlb:s.aI.length<=24:=hg.b.len;have hle:s.aJ.length<=10:=hg.e.len;have hrm:=hg.aL;have hpl:=xx s.aI D;have HGB:=sqH hg.b;obtain⟨sd,hsd⟩:=wY (⟨(shaS D).toArray⟩:ByteArray)
 rw [<-hsd];obtain⟨HSD,HLN,HDD⟩:=sqJ3 hsd hlen (fun W (h:Below w.heap.size w W)=>hD.below h);clear hD hsd hlen;obtain⟨w0,hw0,hS,hR,hb0⟩:=qG w 34 [aA A s.aI.length c,aA B s.aJ.length d,aB aC s.aL,aB aC s.aK] [aA aF 0 0,aA aF 0 0,aB aC 0,aB aC 0];have hr0:=hr.below hb0;obtain⟨H,hH⟩:=wY w.heap.size
 have HCK:=sqH (zF A c B d s w0 hg hr0);rw [<-hH]at hS hR hb0 ⊢
 have hHl:H<w0.heap.size:=hS.lt;have hHr:H+1<w0.heap.size:=hR.lt;obtain⟨x0,x1,x2,x3⟩:=sqC4 hS;rw [hw0,hH]at x0 x1 x2 x3;obtain⟨HPL,HQL,HG⟩:=sqJ3 (show ∀b∈s.aI,b.data.length<=1000000 from fun b hb=>by have:=(hg.b.one b hb).2.1;omega) (show ∀x∈s.aJ,x.aP.length<=1000000 from fun x hx=>by have:=(zk (hg.e.one x hx).2.1).1;omega) hg;clear hg hr;go_enter func146,ntmps146;go_wp2_with fail;rw [<-hw0,<-hH];have HH:=sqH hH;clear hw0 hH x0 x1 x2 x3;have hD0:=HDD.o w0 (by rw [<-HH.o];exact hb0);refine wZ HCK.o fun w1 hb1=>?_;dsimp only;have hr1:=hr0.below hb1;have hS1:=hS.below hb1;have y0:=hS1.c0;have HPT:=Yr A c s.aI D DA dc w1 HGB.o hd HLN.o hr1.b (hD0.below hb1);rw [<-HSD.o]at HPT;have HPT:=sqH HPT;clear hr0 hS hD0;go_wp2_with fail;clear y0;refine HPT.o.mono ?_;rintro e_ w2 ⟨v2,rfl,hx2,hb2⟩;dsimp only;have hc2:=wm hb1 hb2;have hr2:=hr1.below hb2;have hS2:=hS1.below hb2;obtain⟨A2,c2,e2,h21,h22,hR2⟩:=hx2.rwo.rows;subst e2;have y2:=hS2.c2;have HFT:=ZO A2 c2 (putB s.aI D) s.aL 0 w2 wu wu hrm wu hR2;rw [if_pos wu]at HFT;have HFT:=sqH HFT;clear hr1 hS1 hR2;go_wp2_with fail;clear y2;refine wZ HFT.o fun w3 hb3=>?_;dsimp only;have hc3:=wm hc2 hb3;have hr3:=hr2.below hb3;have hS3:=hS2.below hb3;have hx3:=hx2.below hb3;obtain⟨z0,z1,z2,z3⟩:=sqC4 hS3;have HCP:=sqH (qL A c B d s w3 wu wu HPL.o HQL.o hr3);have q12:=hb2.size;have q23:=hb3.size;clear hr2 hS2 hx2 hb2 hb3 hr3;go_wp2_with fail;clear z0 z1 z2 z3;refine HCP.o.mono ?_;rintro e_ w4 ⟨q1,q2,rfl,ho4',hb4⟩;dsimp only;have hc4:=wm hc3 hb4;have ho4:=((OwSt.mixB hx3 (fun b hb=>Nat.lt_of_lt_of_le hb (Nat.le_trans q12 q23)) (Nat.le_trans q12 q23) ho4' hb4).lower hb1.size).wider (N':=fun b=>b<w0.heap.size) (fun b hb=> .inl (Nat.lt_of_lt_of_le hb hb1.size));clear ho4' hx3 hc3 hb4 hS3 hc2;have h41:∀b,(aA A2 (putB s.aI D).length c2).ownBlock=aG b->b<w4.heap.size:=fun b e=>(ho4.b.rwo.blk e).2;have h42:∀b,(aA (aG ⟨q2,0,aF⟩) s.aJ.length s.aJ.length).ownBlock=aG b->b<w4.heap.size:=fun b e=>(ho4.e.rwo.blk e).2;have hG:w0.heap.size<=w4.heap.size:=hc4.size;obtain⟨G,hGe⟩:=wY w4.heap.size
 rw [<-hGe]at h41 h42 hG;have hba:=ws w4 (aE #[(aA A2 (putB s.aI D).length c2),(aA (aG ⟨q2,0,aF⟩) s.aJ.length s.aJ.length),aB aC s.aL,aB aC s.aK] 34);have hX:Arr (w4.alloc (aE #[(aA A2 (putB s.aI D).length c2),(aA (aG ⟨q2,0,aF⟩) s.aJ.length s.aJ.length),aB aC s.aL,aB aC s.aK] 34)) G 34 [(aA A2 (putB s.aI D).length c2),(aA (aG ⟨q2,0,aF⟩) s.aJ.length s.aJ.length),aB aC s.aL,aB aC s.aK]:=by rw [hGe];exact Arr.new w4 34 _
 have ho:=(ho4.wider (N':=fun b=>b<w0.heap.size\/b=G) (fun b hb=>hb.imp id (fun e=>wu))).below hba;have hR5:=(hR.below hc4).below hba;have hb5:=(hb0.trans (hc4.mono (Nat.le_of_lt hHl))).alloc wu (aE #[(aA A2 (putB s.aI D).length c2),(aA (aG ⟨q2,0,aF⟩) s.aJ.length s.aJ.length),aB aC s.aL,aB aC s.aK] 34);clear hR ho4 hc4 hba hb0;have hR:=hR5;clear hR5;have hb:=hb5;clear hb5;obtain⟨z0,z1,z2,z3⟩:=sqC4 hX;obtain⟨f0,f1,f2,f3⟩:=sqF4 hR;obtain⟨y0,y1,y2,y3⟩:=sqC4 hR;have hfin:=hR.all4 (aA A2 (putB s.aI D).length c2) (aA (aG ⟨q2,0,aF⟩) s.aJ.length s.aJ.length) (aB aC s.aL) (aB aC s.aK);have hoF:=(((ho.set (g:=H+1) (k:=0) hHr (.inl hHr) (aA A2 (putB s.aI D).length c2)).set (g:=H+1) (k:=1) hHr (.inl hHr) (aA (aG ⟨q2,0,aF⟩) s.aJ.length s.aJ.length)).set (g:=H+1) (k:=2) hHr (.inl hHr) (aB aC s.aL)).set (g:=H+1) (k:=3) hHr (.inl hHr) (aB aC s.aK);have hbF:=(((hb.setCell (p:=⟨H+1,0,aF⟩) ae (aA A2 (putB s.aI D).length c2)).setCell (p:=⟨H+1,1,aF⟩) ae (aA (aG ⟨q2,0,aF⟩) s.aJ.length s.aJ.length)).setCell (p:=⟨H+1,2,aF⟩) ae (aB aC s.aL)).setCell (p:=⟨H+1,3,aF⟩) ae (aB aC s.aK);clear hR ho hb hX;subst hGe;go_wp2_with fail;refine bodyPost_ret (zz rfl _ _ (H+1) _ _ _ _ ac hfin underlying34 rfl ww) rfl ?_;exact⟨_,_,rfl,(hoF.lower (base':=H) wu).wider (N':=fun b=>b<H) (fun b hb=> .inl (.inl wu)),hbF⟩
theorem z3a (k:Int) (h:k=0\/k=1\/k=2\/k=3) (w:World):(Instr.index 271 (.agg #[aB aC 0,aB aC 0,aB aC 0,aB aC 0]) (aB aC k)).run zZZ w= .ok (aB aC 0) w:=by
 rcases h with rfl | rfl | rfl | rfl<;>kernel_rfl
theorem JE (A:aj) (c:Nat) (B:aj) (d:Nat) (s:StoP) (key:ai) (ps:List PartP) (PA:aj) (pc:Nat) (w:World) (hg:GoodS s) (hr:RdSt w A c B d s) (hk:hexC key=0) (hpz:chk ps=0) (hhv:qK s.aI ps=0) (hclk:s.aK<1099511627776) (hlen:s.aJ.length<10) (hP:Sl w 3 PA ps.length pc (pcs ps)) :
  Calls zZZ 169 #[.agg #[aA A s.aI.length c,aA B s.aJ.length d,aB aC s.aL,aB aC s.aK],aD ⟨key.toArray⟩,aA PA ps.length pc] w fun e w' =>
   ∃v1 v2,e= .returned (.tuple #[.agg #[v1,v2,aB aC s.aL,aB aC ((s.aK+1:Nat):Int)],aB aC 0])/\OwSt w' w.heap.size v1 v2 (xy s key ps) (fun b=>b<w.heap.size)/\Below w.heap.size w w':=by
 have hlb:s.aI.length<=24:=hg.b.len;obtain⟨w0,hw0,hS,hR,hb0⟩:=qG w 34 [aA A s.aI.length c,aA B s.aJ.length d,aB aC s.aL,aB aC s.aK] [aA aF 0 0,aA aF 0 0,aB aC 0,aB aC 0];have hr0:=hr.below hb0;have hP0:=hP.below hb0;obtain⟨H,hH⟩:=wY w.heap.size
 have HCK:=sqH (fun W (h:Below w0.heap.size w0 W)=>zF A c B d s W hg (hr0.below h));have hkl:=qN hk;have HKX:=sqH (show ∀W,Below w0.heap.size w0 W->Calls zZZ 89 #[aD ⟨key.toArray⟩] W fun e w'=>e= .returned (aB aC 0)/\Below W.heap.size W w' from fun W _=>by
  have:=kA ⟨key.toArray⟩ W (by show(key.toArray).size<=_;rw [List.size_toArray];omega);rw [show(⟨key.toArray⟩:ByteArray).data.toList=key from rfl,hk]at this;exact this)
 have HPC:=sqH (show ∀W,Below w0.heap.size w0 W->Calls zZZ 101 #[aA PA ps.length pc] W fun e w'=>e= .returned (aB aC 0)/\Below W.heap.size W w' from fun W h=>by
  have:=xf PA ps.length pc ps W rfl hP0.cap (by have:=(zk hpz).1;omega) (vE hpz) (hP0.below h).rd
  rwa [hpz]at this)
 have hpl8:=(zk hpz).1;obtain⟨HHV,HGX,HPL,HQL⟩:=sqJ4 (fun W (h:Below w0.heap.size w0 W)=>ZR A c s.aI PA pc ps W wu wu (hr0.b.below h) (hP0.below h).rd) hg (show ∀b∈s.aI,b.data.length<=1000000 from fun b hb=>by have:=(hg.b.one b hb).2.1;omega) (show ∀x∈s.aJ,x.aP.length<=1000000 from fun x hx=>by have:=(zk (hg.e.one x hx).2.1).1;omega);have HSB:=sqH (show ∀W,Below w0.heap.size w0 W->wI W H (aA A s.aI.length c) (aA B s.aJ.length d) (aB aC s.aL) (aB aC s.aK) from fun W h=>by
  rw [hH];exact sqC4 (hS.below h))
 have HKK:=sqH hk;have HPZ:=sqH hpz;rw [<-hH]at hS hR hb0 ⊢
 have hHl:H<w0.heap.size:=hS.lt;have hHr:H+1<w0.heap.size:=hR.lt;obtain⟨sk,hsk⟩:=wY (⟨key.toArray⟩:ByteArray)
 rw [<-hsk]at HKX ⊢
 have HSK:=sqH hsk;clear hg hr hk hP hpz hsk;go_enter func169,ntmps169;go_wp2_with fail;rw [<-hw0,<-hH];have HH:=sqH hH;clear hw0 hH;rw [hhv]at HHV;refine wp_region_held_drew (S:=(fun w'=>wI w' H (aA A s.aI.length c) (aA B s.aJ.length d) (aB aC s.aL) (aB aC s.aK))) ww ?_ (fun hHeld=> ?_)
 ·exact HSB.o _ (Below.refl _ w0).drew
 have hB:=(Below.refl w0.heap.size w0).drew;generalize w0.drew=wn0 at *
 refine wQ 0 ?_;refine wQ 2 ?_;refine wQ 4 ?_;refine wQ 6 ?_;refine wQ 7 ?_;refine wQ 8 ?_;refine wQ 11 ?_;refine wU 1 fun K hK=>?_;go_simp;refine(HCK.o wn0 hB).mono ?_;rintro e5 w5 ⟨rfl,hb5⟩;dsimp only;refine wF hK (HSB.o _ (wm hB hb5)) (Below wn0.heap.size wn0) hb5 fun wn1 hHeld hst=> ?_;have hB:=wm hB hst;clear hst;clear hK K
 try simp only [sqP]
 refine wU 3 fun K hK=>?_;go_simp;refine(HKX.o wn1 hB).mono ?_;rintro e5 w5 ⟨rfl,hb5⟩;dsimp only;refine wF hK (HSB.o _ (wm hB hb5)) (Below wn1.heap.size wn1) hb5 fun wn2 hHeld hst=> ?_;have hB:=wm hB hst;clear hst;clear hK K
 try simp only [sqP]
 refine wU 5 fun K hK=>?_;go_simp;refine(HPC.o wn2 hB).mono ?_;rintro e5 w5 ⟨rfl,hb5⟩;dsimp only;refine wF hK (HSB.o _ (wm hB hb5)) (Below wn2.heap.size wn2) hb5 fun wn3 hHeld hst=> ?_;have hB:=wm hB hst;clear hst;clear hK K
 try simp only [sqP]
 refine wU 9 fun K hK=>?_;go_simp;refine(HHV.o wn3 hB).mono ?_;rintro e5 w5 ⟨rfl,hb5⟩;dsimp only;refine wF hK (HSB.o _ (wm hB hb5)) (Below wn3.heap.size wn3) hb5 fun wn4 hHeld hst=> ?_;have hB:=wm hB hst;clear hst;clear hK K
 refine wQ 10 ?_;refine wpAnyH_done ww ?_ _;dsimp only [Exit.then];clear hHeld;generalize wn4=w1 at *
 go_wp2_with fail;go_loopg [25] 4 (fun gn i wr=>∃j:Int,i= aB aC j/\(j=0\/j=1\/j=2\/j=3\/j=4)/\gn=(4 - j).toNat/\wr=w1)
 case atStart=>exact⟨0,rfl,wu,rfl,rfl⟩
 case round =>
  obtain⟨j,rfl,hj,hgn,hwr⟩:=hrel;subst hwr;have ix0:=z3a 0 wu wr;have ix1:=z3a 1 wu wr;have ix2:=z3a 2 wu wr;have ix3:=z3a 3 wu wr;rcases hj with rfl | rfl | rfl | rfl | rfl
  ·go_wp2_with fail;go_roundg 3
   case measure=>omega
   case rel=>exact⟨1,rfl,wu,rfl,rfl⟩
  ·go_wp2_with fail;go_roundg 2
   case measure=>omega
   case rel=>exact⟨2,rfl,wu,rfl,rfl⟩
  ·go_wp2_with fail;go_roundg 1
   case measure=>omega
   case rel=>exact⟨3,rfl,wu,rfl,rfl⟩
  ·go_wp2_with fail;go_roundg 0
   case measure=>omega
   case rel=>exact⟨4,rfl,wu,rfl,rfl⟩
  ·clear hgn ix0 ix1 ix2 ix3;generalize wr=wr0 at *
   obtain⟨z0,z1,z2,z3⟩:=HSB.o wr0 hB;have hr1:=hr0.below hB;have HCP:=sqH (qL A c B d s wr0 wu wu HPL.o HQL.o hr1);have hP1:=hP0.below hB;clear hr0 hP0 hS;go_wp2_with fail;clear z0 z1 z2 z3;refine HCP.o.mono ?_;rintro e_ w4 ⟨q1,q2,rfl,ho4',hb4⟩;dsimp only;have hc4:=wm hB hb4;have hP4:=hP1.below hb4;have ho4:=(ho4'.lower hB.size).wider (N':=fun b=>b<w0.heap.size) (fun b hb=> .inl (Nat.lt_of_lt_of_le hb hB.size));have hPl:=hP4.live;clear ho4' hB hb4 hP1;have h41:∀b,(aA (aG ⟨q1,0,aF⟩) s.aI.length s.aI.length).ownBlock=aG b->b<w4.heap.size:=fun b e=>(ho4.b.rwo.blk e).2;have h42:∀b,(aA (aG ⟨q2,0,aF⟩) s.aJ.length s.aJ.length).ownBlock=aG b->b<w4.heap.size:=fun b e=>(ho4.e.rwo.blk e).2;have hG:w0.heap.size<=w4.heap.size:=hc4.size;obtain⟨G,hGe⟩:=wY w4.heap.size
   rw [<-hGe]at h41 h42 hG;have hba:=ws w4 (aE #[(aA (aG ⟨q1,0,aF⟩) s.aI.length s.aI.length),(aA (aG ⟨q2,0,aF⟩) s.aJ.length s.aJ.length),aB aC s.aL,aB aC s.aK] 34);have hX:Arr (w4.alloc (aE #[(aA (aG ⟨q1,0,aF⟩) s.aI.length s.aI.length),(aA (aG ⟨q2,0,aF⟩) s.aJ.length s.aJ.length),aB aC s.aL,aB aC s.aK] 34)) G 34 [(aA (aG ⟨q1,0,aF⟩) s.aI.length s.aI.length),(aA (aG ⟨q2,0,aF⟩) s.aJ.length s.aJ.length),aB aC s.aL,aB aC s.aK]:=by rw [hGe];exact Arr.new w4 34 _
   have ho:=(ho4.wider (N':=fun b=>b<w0.heap.size\/b=G) (fun b hb=>hb.imp id (fun e=>wu))).below hba;have hR5:=(hR.below hc4).below hba;have hb5:=(hb0.trans (hc4.mono (Nat.le_of_lt hHl))).alloc wu (aE #[(aA (aG ⟨q1,0,aF⟩) s.aI.length s.aI.length),(aA (aG ⟨q2,0,aF⟩) s.aJ.length s.aJ.length),aB aC s.aL,aB aC s.aK] 34);clear hR ho4 hc4 hba hb0;have hR:=hR5;clear hR5;have hb:=hb5;clear hb5;have hP5:=hP4.below (ws w4 (aE #[(aA (aG ⟨q1,0,aF⟩) s.aI.length s.aI.length),(aA (aG ⟨q2,0,aF⟩) s.aJ.length s.aJ.length),aB aC s.aL,aB aC s.aK] 34));have HTK:=sqH (Yz G (aA (aG ⟨q1,0,aF⟩) s.aI.length s.aI.length) (aA (aG ⟨q2,0,aF⟩) s.aJ.length s.aJ.length) (aB aC s.aL) s.aK _ hclk hX);have hPG:∀a,PA=aG a->a.block≠G:=fun a ha=>by have:=hPl a ha;omega
   clear hP4 hPl;go_wp2_with fail;rw [<-hGe];clear hGe;generalize w4.alloc (aE #[(aA (aG ⟨q1,0,aF⟩) s.aI.length s.aI.length),(aA (aG ⟨q2,0,aF⟩) s.aJ.length s.aJ.length),aB aC s.aL,aB aC s.aK] 34)=w5 at *
   refine HTK.o.mono ?_;rintro e_ _ ⟨rfl,rfl⟩;dsimp only;have hX6:Arr (w5.setCell ⟨G,3,aF⟩ (aB aC ((s.aK+1:Nat):Int))) G 34 [(aA (aG ⟨q1,0,aF⟩) s.aI.length s.aI.length),(aA (aG ⟨q2,0,aF⟩) s.aJ.length s.aJ.length),aB aC s.aL,aB aC ((s.aK+1:Nat):Int)]:=hX.set (k:=3) ab (aB aC ((s.aK+1:Nat):Int));have hR6:=hR.other (g':=G) (k:=3) wu (aB aC ((s.aK+1:Nat):Int));have ho6:=ho.setX (g:=G) (k:=3) (.inr rfl) (fun e=>by have:=h41 _ e;omega) (fun e=>by have:=h42 _ e;omega) (aB aC ((s.aK+1:Nat):Int));have hb6:=hb.setCell (p:=⟨G,3,aF⟩) ae (aB aC ((s.aK+1:Nat):Int));have hP6:=hP5.other (g:=G) (k:=3) hPG (aB aC ((s.aK+1:Nat):Int));have hGl:G<(w5.setCell ⟨G,3,aF⟩ (aB aC ((s.aK+1:Nat):Int))).heap.size:=hX6.lt;clear hX hR ho hb hP5 HTK;generalize w5.setCell ⟨G,3,aF⟩ (aB aC ((s.aK+1:Nat):Int))=w6 at *
   obtain⟨A',c',e1,_,_,hRe6⟩:=ho6.e.rwo.rows;cases e1
   have hgx:GoodE1 ⟨key,ps,0,s.aK+1⟩:=⟨HKK.o,HPZ.o,by show 0<=5;omega,by show s.aK+1<=_;omega⟩
   have HPT:=JD (aG ⟨q2,0,aF⟩) s.aJ.length s.aJ ⟨key,ps,0,s.aK+1⟩ PA pc w6 HGX.o.e hgx hlen hRe6 hP6;dsimp only at HPT;rw [<-HSK.o]at HPT;have HPT:=sqH HPT;have x1:=hX6.c1;have x3:=hX6.c3;clear hRe6 hP6 hgx;go_wp2_with fail;clear x1 x3;refine HPT.o.mono ?_;rintro e_ w7 ⟨v3,rfl,hx7,hb7⟩;dsimp only;have hN6:∀b,(b<w0.heap.size\/b=G)->b<w6.heap.size:=fun b hb=>by omega
   have ho7:=((OwSt.mixE ho6 hN6 hx7 wu hb7).clk s.aL (s.aK+1))
   have hX7:=hX6.below hb7;have hR7:=hR6.below hb7;have hb7':=hb6.trans (hb7.mono wu);have h43:∀b,v3.ownBlock=aG b->w6.heap.size<=b:=fun b e=>(hx7.rwo.blk e).1;obtain⟨A3,c3,e3,_,_,_⟩:=hx7.rwo.rows;subst e3;clear hX6 hR6 ho6 hb6 hx7 hb7;have f1:=hX7.frozen 1;have x1:=hX7.c1;have hX:Arr (w7.setCell ⟨G,1,aF⟩ (aA A3 (x8 s.aJ ⟨key,ps,0,s.aK+1⟩).length c3)) G 34 [(aA (aG ⟨q1,0,aF⟩) s.aI.length s.aI.length),aA A3 (x8 s.aJ ⟨key,ps,0,s.aK+1⟩).length c3,aB aC s.aL,aB aC ((s.aK+1:Nat):Int)]:=hX7.set (k:=1) ab _;have hR:=hR7.other (g':=G) (k:=1) wu (aA A3 (x8 s.aJ ⟨key,ps,0,s.aK+1⟩).length c3);have ho:=ho7.setX (g:=G) (k:=1) (.inr rfl) (fun e=>by have:=h41 _ e;omega) (fun e=>by have:=h43 _ e;omega) (aA A3 (x8 s.aJ ⟨key,ps,0,s.aK+1⟩).length c3);have hb:=hb7'.setCell (p:=⟨G,1,aF⟩) ae (aA A3 (x8 s.aJ ⟨key,ps,0,s.aK+1⟩).length c3);clear hX7 hR7 ho7 hb7';obtain⟨z0,z1,z2,z3⟩:=sqC4 hX;obtain⟨f0,f1,f2,f3⟩:=sqF4 hR;obtain⟨y0,y1,y2,y3⟩:=sqC4 hR;have hfin:=hR.all4 (aA (aG ⟨q1,0,aF⟩) s.aI.length s.aI.length) (aA A3 (x8 s.aJ ⟨key,ps,0,s.aK+1⟩).length c3) (aB aC s.aL) (aB aC ((s.aK+1:Nat):Int));have hoF:=(((ho.set (g:=H+1) (k:=0) hHr (.inl hHr) (aA (aG ⟨q1,0,aF⟩) s.aI.length s.aI.length)).set (g:=H+1) (k:=1) hHr (.inl hHr) (aA A3 (x8 s.aJ ⟨key,ps,0,s.aK+1⟩).length c3)).set (g:=H+1) (k:=2) hHr (.inl hHr) (aB aC s.aL)).set (g:=H+1) (k:=3) hHr (.inl hHr) (aB aC ((s.aK+1:Nat):Int));have hbF:=(((hb.setCell (p:=⟨H+1,0,aF⟩) ae (aA (aG ⟨q1,0,aF⟩) s.aI.length s.aI.length)).setCell (p:=⟨H+1,1,aF⟩) ae (aA A3 (x8 s.aJ ⟨key,ps,0,s.aK+1⟩).length c3)).setCell (p:=⟨H+1,2,aF⟩) ae (aB aC s.aL)).setCell (p:=⟨H+1,3,aF⟩) ae (aB aC ((s.aK+1:Nat):Int));clear hR ho hb hX;go_wp2_with fail;refine bodyPost_ret (zI rfl _ _ (H+1) _ _ _ _ ac hfin underlying34 rfl ww) rfl ?_;exact⟨_,_,rfl,(hoF.lower (base':=H) wu).wider (N':=fun b=>b<H) (fun b hb=> .inl (.inl wu)),hbF⟩
theorem kP {g':Nat} (h:g≠g') {a b c d:Value}:((((w.setCell ⟨g',0,aF⟩ a).setCell ⟨g',1,aF⟩ b).setCell ⟨g',2,aF⟩ c).setCell ⟨g',3,aF⟩ d).cell? ⟨g,k,aF⟩=w.cell? ⟨g,k,aF⟩:=by
 refine(World.cell?_of_block (Below.heap_setCell _ _ d g h)).trans ((World.cell?_of_block (Below.heap_setCell _ _ c g h)).trans ((World.cell?_of_block (Below.heap_setCell _ _ b g h)).trans (World.cell?_of_block (Below.heap_setCell _ _ a g h))))
theorem XG {n:Nat} {size:Nat} {v:Value} {xs:ak} (h:w.ownsRow base e size v n xs) (hg:g<base) (a b c d:Value) :
  ((((w.setCell ⟨g,0,aF⟩ a).setCell ⟨g,1,aF⟩ b).setCell ⟨g,2,aF⟩ c).setCell ⟨g,3,aF⟩ d).ownsRow base e size v n xs:=by
 have hne:v.ownBlock≠aG g:=fun e=>by have:=(h.lt g e).1;omega
 exact zd (zd (zd (zd h hne) hne) hne) hne
theorem z04 {k:ai} (hr:RisesBy (·.key) l) (hi:i<l.length) (hk:l[i].key=k):l.findIdx? (fun x=>x.key==k)=aG i:=by
 rw [List.findIdx?_eq_some_iff_getElem];refine⟨hi,by simp [hk],fun j hj=> ?_⟩;have:=List.pairwise_iff_getElem.1 hr j i wu hi hj;rw [<-hk];simpa using yT this
theorem z21 {l:List BlobP} {k:ai} (hr:RisesBy (·.dig) l) (hi:i<l.length) (hk:l[i].dig=k):l.findIdx? (fun x=>x.dig==k)=aG i:=by
 rw [List.findIdx?_eq_some_iff_getElem];refine⟨hi,by simp [hk],fun j hj=> ?_⟩;have:=List.pairwise_iff_getElem.1 hr j i wu hi hj;rw [<-hk];simpa using yT this
theorem Rw.ent_at' {x:EntP} (h:Rw EntS w A l) (hx:l[k]?=aG x) :
  ∃b off B c,A=aG ⟨b,off,aF⟩/\b<w.heap.size/\w.cell? ⟨b,off+k*4,aF⟩=aG (aD ⟨x.key.toArray⟩)/\w.cell? ⟨b,off+k*4+1,aF⟩=aG (aA B x.aP.length c) /\
   w.cell? ⟨b,off+k*4+2,aF⟩=aG (aB aC x.aQ)/\w.cell? ⟨b,off+k*4+3,aF⟩=aG (aB aC x.aO)/\Sl w 3 B x.aP.length c (pcs x.aP):=by
 obtain⟨hk,rfl⟩:=List.getElem?_eq_some_iff.1 hx;exact h.ent_at k hk
theorem z08 (s:StoP) (i:Nat) (x:EntP) (hi:i<s.aJ.length):(kv s i x).aJ[i]?=aG { x with aO:=s.aK+1 }:=by
 unfold kv;simp [hi]
theorem Yf (A:aj) (c:Nat) (B:aj) (d:Nat) (s:StoP) (key:ai) (i:Nat) (w:World) (hg:GoodS s) (hr:RdSt w A c B d s) (hi:i<s.aJ.length) (hk:s.aJ[i].key=key) (hclk:s.aK<1099511627776) :
  Calls zZZ 117 #[.agg #[aA A s.aI.length c,aA B s.aJ.length d,aB aC s.aL,aB aC s.aK],aD ⟨key.toArray⟩] w fun e w' =>
   ∃v1 v2 v3,e= .returned (.tuple #[.agg #[v1,v2,aB aC s.aL,aB aC ((s.aK+1:Nat):Int)],v3,aB aC 0])/\OwSt w' w.heap.size v1 v2 (kv s i s.aJ[i]) (fun b=>b<w.heap.size)/\w'.ownsRow w.heap.size 85 3 v3 s.aJ[i].aP.length (pcs s.aJ[i].aP)/\Below w.heap.size w w':=by
 obtain⟨z,hz⟩:=wY (s.aK+1)
 rw [<-hz];have HZ:=sqH hz;clear hz;have hlb:s.aI.length<=24:=hg.b.len;have hle:s.aJ.length<=10:=hg.e.len;have HPN:=sqH (show s.aJ[i].aP.length<=8 from(zk (hg.e.one _ (List.getElem_mem hi)).2.1).1);have HFX:=sqH (z04 hg.e.ris hi hk);obtain⟨sk,hsk⟩:=wY (⟨key.toArray⟩:ByteArray)
 rw [<-hsk];have HSK:=sqH hsk;clear hk hsk;obtain⟨w0,hw0,hS,hR,hb0⟩:=qG w 34 [aA A s.aI.length c,aA B s.aJ.length d,aB aC s.aL,aB aC s.aK] [aA aF 0 0,aA aF 0 0,aB aC 0,aB aC 0];have hr0:=hr.below hb0;obtain⟨H,hH⟩:=wY w.heap.size
 have HCK:=sqH (zF A c B d s w0 hg hr0);rw [<-hH]at hS hR hb0 ⊢
 have hHl:H<w0.heap.size:=hS.lt;have hHr:H+1<w0.heap.size:=hR.lt;obtain⟨x0,x1,x2,x3⟩:=sqC4 hS;rw [hw0,hH]at x0 x1 x2 x3;obtain⟨HPL,HQL,HG⟩:=sqJ3 (show ∀b∈s.aI,b.data.length<=1000000 from fun b hb=>by have:=(hg.b.one b hb).2.1;omega) (show ∀x∈s.aJ,x.aP.length<=1000000 from fun x hx=>by have:=(zk (hg.e.one x hx).2.1).1;omega) hg;clear hg hr;go_enter func117,ntmps117;go_wp2_with fail;rw [<-hw0,<-hH];have HH:=sqH hH;clear hw0 hH x0 x1 x2 x3;refine wZ HCK.o fun w1 hb1=>?_;dsimp only;have hr1:=hr0.below hb1;have hS1:=hS.below hb1;have y0:=hS1.c1;have HFN:=kE B d s.aJ key w1 wu hr1.e;rw [HFX.o,xl,<-HSK.o]at HFN;have HFN:=sqH HFN;clear hr0 hS;go_wp2_with fail;clear y0;refine wZ HFN.o fun w2 hb2=>?_;dsimp only;have hc2:=wm hb1 hb2;have hr2:=hr1.below hb2;have hS2:=hS1.below hb2;obtain⟨z0,z1,z2,z3⟩:=sqC4 hS2;have HCP:=sqH (qL A c B d s w2 wu wu HPL.o HQL.o hr2);clear hr1 hS1 hb1 hb2 hr2;go_wp2_with fail;clear z0 z1 z2 z3;refine HCP.o.mono ?_;rintro e_ w4 ⟨q1,q2,rfl,ho4',hb4⟩;dsimp only;have hc4:=wm hc2 hb4;have ho4:=(ho4'.lower hc2.size).wider (N':=fun b=>b<w0.heap.size) (fun b hb=> .inl (Nat.lt_of_lt_of_le hb hc2.size));clear ho4' hc2 hb4 hS2;have h41:∀b,(aA (aG ⟨q1,0,aF⟩) s.aI.length s.aI.length).ownBlock=aG b->b<w4.heap.size:=fun b e=>(ho4.b.rwo.blk e).2;have h42:∀b,(aA (aG ⟨q2,0,aF⟩) s.aJ.length s.aJ.length).ownBlock=aG b->b<w4.heap.size:=fun b e=>(ho4.e.rwo.blk e).2;have hG:w0.heap.size<=w4.heap.size:=hc4.size;obtain⟨G,hGe⟩:=wY w4.heap.size
 rw [<-hGe]at h41 h42 hG;have hba:=ws w4 (aE #[(aA (aG ⟨q1,0,aF⟩) s.aI.length s.aI.length),(aA (aG ⟨q2,0,aF⟩) s.aJ.length s.aJ.length),aB aC s.aL,aB aC s.aK] 34);have hX:Arr (w4.alloc (aE #[(aA (aG ⟨q1,0,aF⟩) s.aI.length s.aI.length),(aA (aG ⟨q2,0,aF⟩) s.aJ.length s.aJ.length),aB aC s.aL,aB aC s.aK] 34)) G 34 [(aA (aG ⟨q1,0,aF⟩) s.aI.length s.aI.length),(aA (aG ⟨q2,0,aF⟩) s.aJ.length s.aJ.length),aB aC s.aL,aB aC s.aK]:=by rw [hGe];exact Arr.new w4 34 _
 have ho:=(ho4.wider (N':=fun b=>b<w0.heap.size\/b=G) (fun b hb=>hb.imp id (fun e=>wu))).below hba;have hR5:=(hR.below hc4).below hba;have hb5:=(hb0.trans (hc4.mono (Nat.le_of_lt hHl))).alloc wu (aE #[(aA (aG ⟨q1,0,aF⟩) s.aI.length s.aI.length),(aA (aG ⟨q2,0,aF⟩) s.aJ.length s.aJ.length),aB aC s.aL,aB aC s.aK] 34);clear hR ho4 hc4 hba hb0;have hR:=hR5;clear hR5;have hb:=hb5;clear hb5;have htk:=(Yz G (aA (aG ⟨q1,0,aF⟩) s.aI.length s.aI.length) (aA (aG ⟨q2,0,aF⟩) s.aJ.length s.aJ.length) (aB aC s.aL) s.aK _ hclk hX)
 rw [<-HZ.o]at htk;have HTK:=sqH htk;clear htk;have hq2:w0.heap.size<=q2:=(ho.e.rwo.blk rfl).1;have hqG:q2<G:=h42 _ rfl;go_wp2_with fail;rw [<-hGe];clear hGe;generalize w4.alloc (aE #[(aA (aG ⟨q1,0,aF⟩) s.aI.length s.aI.length),(aA (aG ⟨q2,0,aF⟩) s.aJ.length s.aJ.length),aB aC s.aL,aB aC s.aK] 34)=w5 at *
 refine HTK.o.mono ?_;rintro e_ _ ⟨rfl,rfl⟩;dsimp only;have hX6:Arr (w5.setCell ⟨G,3,aF⟩ (aB aC z)) G 34 [(aA (aG ⟨q1,0,aF⟩) s.aI.length s.aI.length),(aA (aG ⟨q2,0,aF⟩) s.aJ.length s.aJ.length),aB aC s.aL,aB aC z]:=hX.set (k:=3) ab (aB aC z);have hR6:=hR.other (g':=G) (k:=3) wu (aB aC z);have ho6:=(ho.setX (g:=G) (k:=3) (.inr rfl) (fun e=>by have:=h41 _ e;omega) (fun e=>by have:=h42 _ e;omega) (aB aC z))
 have hb6:=hb.setCell (p:=⟨G,3,aF⟩) ae (aB aC z);clear hX hR ho hb HTK;generalize w5.setCell ⟨G,3,aF⟩ (aB aC z)=w6 at *
 obtain⟨⟨v0,k3⟩,f3,ho7',hg7⟩:=ho6.setE (j:=3) (u:= aB aC z) (y:= { s.aJ[i] with aO:=s.aK+1 }) hi wu (fun W cs h=>by rw [HZ.o];exact YU _ _ W cs h) (yh _);have x1:=hX6.c1;have x3:=hX6.c3;have hi0:=we i
 have hi1:(i:Int)<(s.aJ.length:Int):=wu;have hX7:=hX6.other (g':=q2) (k:=i*4+3) wu (aB aC z);have hR7:=hR6.other (g':=q2) (k:=i*4+3) wu (aB aC z);have hb7:=hb6.setCell (p:=⟨q2,i*4+3,aF⟩) ae (aB aC z);have ho7:OwSt (w6.setCell ⟨q2,i*4+3,aF⟩ (aB aC z)) w0.heap.size (aA (aG ⟨q1,0,aF⟩) s.aI.length s.aI.length) (aA (aG ⟨q2,0,aF⟩) s.aJ.length s.aJ.length) (kv s i s.aJ[i]) (fun b=>b<w0.heap.size\/b=G):=ho7'.clk s.aL (s.aK+1);have hw7:H<=(w6.setCell ⟨q2,i*4+3,aF⟩ (aB aC z)).heap.size:=by have:=hR7.lt;omega
 clear hX6 hR6 ho6 hb6 ho7' hg7;go_wp2_with fail;clear x1 x3 k3 f3;generalize w6.setCell ⟨q2,i*4+3,aF⟩ (aB aC z)=w7 at *
 have hX:=hX7;have hR:=hR7;have ho:=ho7;have hb:=hb7;clear hX7 hR7 ho7 hb7;obtain⟨A',c',e1,_,_,hRe7⟩:=ho.e.rwo.rows;obtain⟨b',off',XB,xc,e2,_,_,k1,_,_,hsl⟩:=hRe7.ent_at' (z08 s i s.aJ[i] hi);dsimp only at k1 hsl;injection e1 with e11 e12 e13;clear e12 e13;subst e11;cases e2
 rw [Nat.zero_add]at k1;have HSB:=sqH (show ∀W,Below w7.heap.size w7 W->(W.cell? ⟨G,0,aF⟩=aG (aA (aG ⟨q1,0,aF⟩) s.aI.length s.aI.length)/\W.cell? ⟨G,1,aF⟩=aG (aA (aG ⟨q2,0,aF⟩) s.aJ.length s.aJ.length)/\W.cell? ⟨G,2,aF⟩=aG (aB aC s.aL)/\W.cell? ⟨G,3,aF⟩=aG (aB aC z))/\W.cell? ⟨q2,i*4+1,aF⟩=aG (aA XB s.aJ[i].aP.length xc) from fun W h =>
  ⟨sqC4 (hX.below h),(h.cell (p:=⟨q2,i*4+1,aF⟩) (ho.e.rwo.blk rfl).2).trans k1⟩)
 have HCL:=sqH (show ∀W,Below w7.heap.size w7 W->Calls zZZ 128 #[aA XB s.aJ[i].aP.length xc] W fun e w'=>∃v,e= .returned v/\w'.ownsRow W.heap.size 85 3 v s.aJ[i].aP.length (pcs s.aJ[i].aP)/\Below W.heap.size W w' from fun W h =>
  yq XB s.aJ[i].aP.length xc (pcs s.aJ[i].aP) W (wc HPN) (hsl.below h).rd (jI _))
 have hGH:G≠H+1:=wu;have hqH:q2≠H+1:=wu;have hH7:H+1<w7.heap.size:=hR.lt;clear hRe7 hsl k1 hX;refine wp_region_held_drew (S:=(fun w'=>(w'.cell? ⟨G,0,aF⟩=aG (aA (aG ⟨q1,0,aF⟩) s.aI.length s.aI.length)/\w'.cell? ⟨G,1,aF⟩=aG (aA (aG ⟨q2,0,aF⟩) s.aJ.length s.aJ.length)/\w'.cell? ⟨G,2,aF⟩=aG (aB aC s.aL)/\w'.cell? ⟨G,3,aF⟩=aG (aB aC z))/\w'.cell? ⟨q2,i*4+1,aF⟩=aG (aA XB s.aJ[i].aP.length xc))) ww ?_ (fun hHeld=> ?_)
 ·exact HSB.o _ (Below.refl _ w7).drew
 have hB:=(Below.refl w7.heap.size w7).drew;generalize w7.drew=wn0 at *
 refine wQ 0 ?_;refine wQ 1 ?_;refine wQ 2 ?_;refine wQ 3 ?_;refine wQ 4 ?_;refine wQ 5 ?_;refine wQ 6 ?_;refine wU 7 fun K hK=>?_;go_simp;refine(HCL.o wn0 hB).mono ?_;rintro e9 w9 ⟨v9,rfl,ho9,hb9⟩;dsimp only;refine k5 hK (HSB.o _ (wm hB hb9)) (Below wn0.heap.size wn0) (fun W=>W.ownsRow w7.heap.size 85 3 v9 s.aJ[i].aP.length (pcs s.aJ[i].aP)) hb9 (zb ho9 hB.size) fun wn1 hHeld hst hnew=> ?_;have hB:=wm hB hst;have ho9':=hnew;clear hnew;clear hst;clear hK K
 try simp only [sqP]
 refine wU 8 fun K hK=>?_;obtain⟨f0,f1,f2,f3⟩:=sqF4 (hR.below hB);obtain⟨y0,y1,y2,y3⟩:=sqC4 (hR.below hB);go_simp;clear f0 f1 f2 f3 y0 y1 y2 y3;have hB1:=hB;have hfin:=(hR.below hB).all4 (aA (aG ⟨q1,0,aF⟩) s.aI.length s.aI.length) (aA (aG ⟨q2,0,aF⟩) s.aJ.length s.aJ.length) (aB aC s.aL) (aB aC z);have ho1:=ho.below hB;have hoF:=(((ho1.set (g:=H+1) (k:=0) hHr (.inl hHr) (aA (aG ⟨q1,0,aF⟩) s.aI.length s.aI.length)).set (g:=H+1) (k:=1) hHr (.inl hHr) (aA (aG ⟨q2,0,aF⟩) s.aJ.length s.aJ.length)).set (g:=H+1) (k:=2) hHr (.inl hHr) (aB aC s.aL)).set (g:=H+1) (k:=3) hHr (.inl hHr) (aB aC z);have hb1:=hb.trans (hB.mono hw7);have hbF:=(((hb1.setCell (p:=⟨H+1,0,aF⟩) ae (aA (aG ⟨q1,0,aF⟩) s.aI.length s.aI.length)).setCell (p:=⟨H+1,1,aF⟩) ae (aA (aG ⟨q2,0,aF⟩) s.aJ.length s.aJ.length)).setCell (p:=⟨H+1,2,aF⟩) ae (aB aC s.aL)).setCell (p:=⟨H+1,3,aF⟩) ae (aB aC z);have ho9F:=XG ho9' (g:=H+1) wu (aA (aG ⟨q1,0,aF⟩) s.aI.length s.aI.length) (aA (aG ⟨q2,0,aF⟩) s.aJ.length s.aJ.length) (aB aC s.aL) (aB aC z);have hne:w7.heap.size<=wn1.heap.size:=hB.size;refine k5 hK ?_ (fun W=>Arr W (H+1) 34 [(aA (aG ⟨q1,0,aF⟩) s.aI.length s.aI.length),(aA (aG ⟨q2,0,aF⟩) s.aJ.length s.aJ.length),aB aC s.aL,aB aC z]) (fun W=>OwSt W w0.heap.size (aA (aG ⟨q1,0,aF⟩) s.aI.length s.aI.length) (aA (aG ⟨q2,0,aF⟩) s.aJ.length s.aJ.length) (kv s i s.aJ[i]) (fun b=>b<w0.heap.size\/b=G)/\Below H w W/\W.ownsRow w7.heap.size 85 3 v9 s.aJ[i].aP.length (pcs s.aJ[i].aP)) ?_ ?_ (fun wn2 hHeld hF hG=> ?_)
 ·have h1:=HSB.o _ hB;rw [kP hGH,kP hGH,kP hGH,kP hGH,kP hqH];exact h1
 ·exact hfin
 ·exact⟨hoF,hbF,ho9F⟩
 clear hB hB1 hfin ho1 hoF hb1 hbF ho9F hne ho9';clear hK K
 refine wQ 9 ?_;refine wQ 10 ?_;refine wpAnyH_done ww ?_ _;dsimp only [Exit.then];clear hHeld;obtain⟨hoF,hbF,ho9⟩:=hG;go_wp2_with fail;refine bodyPost_ret (zz rfl _ _ (H+1) _ _ _ _ ac hF underlying34 rfl ww) rfl ?_;exact⟨_,_,_,rfl,(hoF.lower (base':=H) wu).wider (N':=fun b=>b<H) (fun b hb=> .inl (.inl wu)),zb ho9 wu,hbF⟩
def mvN (n:Nat) (up:Bool):Nat:=if up then n+1 else n - 1
theorem Yn (n:Nat) (up:Bool) (w:World) (h:if up then n<5 else 0<n/\n<=5):Calls zZZ 152 #[aB aC n,.bool up] w fun e w'=>e= .returned (.tuple #[aB aC (mvN n up:Nat),aB aC 0])/\w'=w:=by
 have HC:=sqH (show n<=5->∀W,Calls zZZ 125 #[aB aC n] W fun e w'=>e= .returned (aB aC 0)/\W=w' from fun h5 W=>xg (n:Int) wu wu W);cases up with
 | true =>
  have h':n<5:=h;have h5:((n:Int)==5)=false:=beq_eq_false_iff_ne.2 wu;have hw:IntKind.i64.wrap ((n:Int)+1)=(n:Int)+1:=IntWalk.i64_in _ wu;have HC2:=sqH (HC.o wu);clear h HC;go_enter func152,ntmps152;go_wp2_with fail;refine(HC2.o w).mono ?_;rintro e_ _ ⟨rfl,rfl⟩;dsimp only;go_wp2_with fail;go_ret2;exact⟨rfl,rfl⟩
 | false =>
  have h':0<n/\n<=5:=h;have h5:((n:Int)==0)=false:=beq_eq_false_iff_ne.2 wu;have hw:IntKind.i64.wrap ((n:Int) - 1)=(n:Int) - 1:=IntWalk.i64_in _ wu;have HC2:=sqH (HC.o wu);have e1:((mvN n false:Nat):Int)=(n:Int) - 1:=by show((n - 1:Nat):Int)=_;omega
  rw [e1];clear h HC e1;go_enter func152,ntmps152;go_wp2_with fail;refine(HC2.o w).mono ?_;rintro e_ _ ⟨rfl,rfl⟩;dsimp only;go_wp2_with fail;go_ret2;exact⟨rfl,rfl⟩
theorem Vw (A:aj) (c:Nat) (B:aj) (d:Nat) (s:StoP) (key:ai) (up:Bool) (i:Nat) (w:World) (hg:GoodS s) (hr:RdSt w A c B d s) (hi:i<s.aI.length) (hk:s.aI[i].dig=key) (hmv:if up then s.aI[i].aQ<5 else 0<s.aI[i].aQ/\s.aI[i].aQ<=5) :
  Calls zZZ 148 #[.agg #[aA A s.aI.length c,aA B s.aJ.length d,aB aC s.aL,aB aC s.aK],aD ⟨key.toArray⟩,.bool up] w fun e w' =>
   ∃v1 v2,e= .returned (.tuple #[.agg #[v1,v2,aB aC s.aL,aB aC s.aK],aB aC 0])/\OwSt w' w.heap.size v1 v2 (ke s i s.aI[i] (mvN s.aI[i].aQ up)) (fun b=>b<w.heap.size)/\Below w.heap.size w w':=by
 have hlb:s.aI.length<=24:=hg.b.len;have hle:s.aJ.length<=10:=hg.e.len;have HFX:=sqH (z21 hg.b.ris hi hk);obtain⟨p,hp⟩:=wY (s.aI[i].aQ)
 rw [<-hp]at hmv ⊢
 have HPI:=sqH hp.symm;obtain⟨n,hn⟩:=wY (mvN p up)
 have HMV:=sqH (fun W=>Yn p up W hmv);rw [<-hn]at HMV ⊢
 obtain⟨sk,hsk⟩:=wY (⟨key.toArray⟩:ByteArray)
 rw [<-hsk];have HSK:=sqH hsk;clear hk hsk hn hp hmv;obtain⟨w0,hw0,hS,hR,hb0⟩:=qG w 34 [aA A s.aI.length c,aA B s.aJ.length d,aB aC s.aL,aB aC s.aK] [aA aF 0 0,aA aF 0 0,aB aC 0,aB aC 0];have hr0:=hr.below hb0;obtain⟨H,hH⟩:=wY w.heap.size
 have HCK:=sqH (zF A c B d s w0 hg hr0);rw [<-hH]at hS hR hb0 ⊢
 have hHl:H<w0.heap.size:=hS.lt;have hHr:H+1<w0.heap.size:=hR.lt;obtain⟨x0,x1,x2,x3⟩:=sqC4 hS;rw [hw0,hH]at x0 x1 x2 x3;obtain⟨HPL,HQL,HG⟩:=sqJ3 (show ∀b∈s.aI,b.data.length<=1000000 from fun b hb=>by have:=(hg.b.one b hb).2.1;omega) (show ∀x∈s.aJ,x.aP.length<=1000000 from fun x hx=>by have:=(zk (hg.e.one x hx).2.1).1;omega) hg;clear hg hr;go_enter func148,ntmps148;go_wp2_with fail;rw [<-hw0,<-hH];have HH:=sqH hH;clear hw0 hH x0 x1 x2 x3;refine wZ HCK.o fun w1 hb1=>?_;dsimp only;have hr1:=hr0.below hb1;have hS1:=hS.below hb1;have y0:=hS1.c0;have HFN:=ko A c s.aI key w1 wu hr1.b;rw [HFX.o,xl,<-HSK.o]at HFN;have HFN:=sqH HFN;clear hr0 hS;go_wp2_with fail;clear y0;refine wZ HFN.o fun w2 hb2=>?_;dsimp only;have hc2:=wm hb1 hb2;have hr2:=hr1.below hb2;have hS2:=hS1.below hb2;obtain⟨b,off,XB,xc,e1,hbb,d0,d1,d2,d3,_⟩:=hr2.b.blob_at i hi;have hi0:=we i
 have hi1:(i:Int)<(s.aI.length:Int):=wu;have y0:=hS2.c0;rw [HPI.o]at d2;rw [e1]at y0;clear hr1 hS1 hb1 hb2 d0 d1 d3;go_wp2_with fail;clear y0 d2;refine wZ (HMV.o w2) fun wq hwq=>?_;dsimp only;replace hwq:=hwq.symm;subst hwq;obtain⟨z0,z1,z2,z3⟩:=sqC4 hS2;have HCP:=sqH (qL A c B d s w2 wu wu HPL.o HQL.o hr2);clear hr2 e1;go_wp2_with fail;clear z0 z1 z2 z3;refine HCP.o.mono ?_;rintro e_ w4 ⟨q1,q2,rfl,ho4',hb4⟩;dsimp only;have hc4:=wm hc2 hb4;have ho4:=(ho4'.lower hc2.size).wider (N':=fun b=>b<w0.heap.size) (fun b hb=> .inl (Nat.lt_of_lt_of_le hb hc2.size));clear ho4' hc2 hb4 hS2;have h41:∀b,(aA (aG ⟨q1,0,aF⟩) s.aI.length s.aI.length).ownBlock=aG b->b<w4.heap.size:=fun b e=>(ho4.b.rwo.blk e).2;have h42:∀b,(aA (aG ⟨q2,0,aF⟩) s.aJ.length s.aJ.length).ownBlock=aG b->b<w4.heap.size:=fun b e=>(ho4.e.rwo.blk e).2;have hG:w0.heap.size<=w4.heap.size:=hc4.size;obtain⟨G,hGe⟩:=wY w4.heap.size
 rw [<-hGe]at h41 h42 hG;have hba:=ws w4 (aE #[(aA (aG ⟨q1,0,aF⟩) s.aI.length s.aI.length),(aA (aG ⟨q2,0,aF⟩) s.aJ.length s.aJ.length),aB aC s.aL,aB aC s.aK] 34);have hX:Arr (w4.alloc (aE #[(aA (aG ⟨q1,0,aF⟩) s.aI.length s.aI.length),(aA (aG ⟨q2,0,aF⟩) s.aJ.length s.aJ.length),aB aC s.aL,aB aC s.aK] 34)) G 34 [(aA (aG ⟨q1,0,aF⟩) s.aI.length s.aI.length),(aA (aG ⟨q2,0,aF⟩) s.aJ.length s.aJ.length),aB aC s.aL,aB aC s.aK]:=by rw [hGe];exact Arr.new w4 34 _
 have ho:=(ho4.wider (N':=fun b=>b<w0.heap.size\/b=G) (fun b hb=>hb.imp id (fun e=>wu))).below hba;have hR5:=(hR.below hc4).below hba;have hb5:=(hb0.trans (hc4.mono (Nat.le_of_lt hHl))).alloc wu (aE #[(aA (aG ⟨q1,0,aF⟩) s.aI.length s.aI.length),(aA (aG ⟨q2,0,aF⟩) s.aJ.length s.aJ.length),aB aC s.aL,aB aC s.aK] 34);clear hR ho4 hc4 hba hb0;have hR:=hR5;clear hR5;have hb:=hb5;clear hb5;have hq:w0.heap.size<=q1:=(ho.b.rwo.blk rfl).1;have hqG:q1<G:=h41 _ rfl
 refine wO 3 ?_;intros;rw [<-hGe];clear hGe;generalize w4.alloc (aE #[(aA (aG ⟨q1,0,aF⟩) s.aI.length s.aI.length),(aA (aG ⟨q2,0,aF⟩) s.aJ.length s.aJ.length),aB aC s.aL,aB aC s.aK] 34)=w5 at *
 obtain⟨⟨v0,k3⟩,f3,ho6,hg6⟩:=ho.setB (j:=2) (u:= aB aC n) (y:= { s.aI[i] with aQ:=n }) hi wu (fun W cs h=>YI _ _ W cs h) (yh _);have hX6:=hX.other (g':=q1) (k:=i*4+2) wu (aB aC n);have hR6:=hR.other (g':=q1) (k:=i*4+2) wu (aB aC n);have hb6:=hb.setCell (p:=⟨q1,i*4+2,aF⟩) ae (aB aC n);have x0:=hX.c0;clear hX hR hb ho;have hX:=hX6;have hR:=hR6;have hb:=hb6;have ho:=ho6;clear hX6 hR6 hb6 ho6 hg6;obtain⟨z0,z1,z2,z3⟩:=sqC4 hX;obtain⟨f0,f1,f2,f3⟩:=sqF4 hR;obtain⟨y0,y1,y2,y3⟩:=sqC4 hR;have hfin:=hR.all4 (aA (aG ⟨q1,0,aF⟩) s.aI.length s.aI.length) (aA (aG ⟨q2,0,aF⟩) s.aJ.length s.aJ.length) (aB aC s.aL) (aB aC s.aK);have hoF:=(((ho.set (g:=H+1) (k:=0) hHr (.inl hHr) (aA (aG ⟨q1,0,aF⟩) s.aI.length s.aI.length)).set (g:=H+1) (k:=1) hHr (.inl hHr) (aA (aG ⟨q2,0,aF⟩) s.aJ.length s.aJ.length)).set (g:=H+1) (k:=2) hHr (.inl hHr) (aB aC s.aL)).set (g:=H+1) (k:=3) hHr (.inl hHr) (aB aC s.aK);have hbF:=(((hb.setCell (p:=⟨H+1,0,aF⟩) ae (aA (aG ⟨q1,0,aF⟩) s.aI.length s.aI.length)).setCell (p:=⟨H+1,1,aF⟩) ae (aA (aG ⟨q2,0,aF⟩) s.aJ.length s.aJ.length)).setCell (p:=⟨H+1,2,aF⟩) ae (aB aC s.aL)).setCell (p:=⟨H+1,3,aF⟩) ae (aB aC s.aK);clear hR ho hb hX;go_wp2_with fail;refine bodyPost_ret (zI rfl _ _ (H+1) _ _ _ _ ac hfin underlying34 rfl ww) rfl ?_;exact⟨_,_,rfl,(hoF.lower (base':=H) wu).wider (N':=fun b=>b<H) (fun b hb=> .inl (.inl wu)),hbF⟩
theorem Vy (A:aj) (c:Nat) (B:aj) (d:Nat) (s:StoP) (key:ai) (up:Bool) (i:Nat) (w:World) (hg:GoodS s) (hr:RdSt w A c B d s) (hi:i<s.aJ.length) (hk:s.aJ[i].key=key) (hmv:if up then s.aJ[i].aQ<5 else 0<s.aJ[i].aQ/\s.aJ[i].aQ<=5) :
  Calls zZZ 118 #[.agg #[aA A s.aI.length c,aA B s.aJ.length d,aB aC s.aL,aB aC s.aK],aD ⟨key.toArray⟩,.bool up] w fun e w' =>
   ∃v1 v2,e= .returned (.tuple #[.agg #[v1,v2,aB aC s.aL,aB aC s.aK],aB aC 0])/\OwSt w' w.heap.size v1 v2 (Zn s i s.aJ[i] (mvN s.aJ[i].aQ up)) (fun b=>b<w.heap.size)/\Below w.heap.size w w':=by
 have hlb:s.aI.length<=24:=hg.b.len;have hle:s.aJ.length<=10:=hg.e.len;have HFX:=sqH (z04 hg.e.ris hi hk);obtain⟨p,hp⟩:=wY (s.aJ[i].aQ)
 rw [<-hp]at hmv ⊢
 have HPI:=sqH hp.symm;obtain⟨n,hn⟩:=wY (mvN p up)
 have HMV:=sqH (fun W=>Yn p up W hmv);rw [<-hn]at HMV ⊢
 obtain⟨sk,hsk⟩:=wY (⟨key.toArray⟩:ByteArray)
 rw [<-hsk];have HSK:=sqH hsk;clear hk hsk hn hp hmv;obtain⟨w0,hw0,hS,hR,hb0⟩:=qG w 34 [aA A s.aI.length c,aA B s.aJ.length d,aB aC s.aL,aB aC s.aK] [aA aF 0 0,aA aF 0 0,aB aC 0,aB aC 0];have hr0:=hr.below hb0;obtain⟨H,hH⟩:=wY w.heap.size
 have HCK:=sqH (zF A c B d s w0 hg hr0);rw [<-hH]at hS hR hb0 ⊢
 have hHl:H<w0.heap.size:=hS.lt;have hHr:H+1<w0.heap.size:=hR.lt;obtain⟨x0,x1,x2,x3⟩:=sqC4 hS;rw [hw0,hH]at x0 x1 x2 x3;obtain⟨HPL,HQL,HG⟩:=sqJ3 (show ∀b∈s.aI,b.data.length<=1000000 from fun b hb=>by have:=(hg.b.one b hb).2.1;omega) (show ∀x∈s.aJ,x.aP.length<=1000000 from fun x hx=>by have:=(zk (hg.e.one x hx).2.1).1;omega) hg;clear hg hr;go_enter func118,ntmps118;go_wp2_with fail;rw [<-hw0,<-hH];have HH:=sqH hH;clear hw0 hH x0 x1 x2 x3;refine wZ HCK.o fun w1 hb1=>?_;dsimp only;have hr1:=hr0.below hb1;have hS1:=hS.below hb1;have y0:=hS1.c1;have HFN:=kE B d s.aJ key w1 wu hr1.e;rw [HFX.o,xl,<-HSK.o]at HFN;have HFN:=sqH HFN;clear hr0 hS;go_wp2_with fail;clear y0;refine wZ HFN.o fun w2 hb2=>?_;dsimp only;have hc2:=wm hb1 hb2;have hr2:=hr1.below hb2;have hS2:=hS1.below hb2;obtain⟨b,off,XB,xc,e1,hbb,d0,d1,d2,d3,_⟩:=hr2.e.ent_at i hi;have hi0:=we i
 have hi1:(i:Int)<(s.aJ.length:Int):=wu;have y0:=hS2.c1;rw [HPI.o]at d2;rw [e1]at y0;clear hr1 hS1 hb1 hb2 d0 d1 d3;go_wp2_with fail;clear y0 d2;refine wZ (HMV.o w2) fun wq hwq=>?_;dsimp only;replace hwq:=hwq.symm;subst hwq;obtain⟨z0,z1,z2,z3⟩:=sqC4 hS2;have HCP:=sqH (qL A c B d s w2 wu wu HPL.o HQL.o hr2);clear hr2 e1;go_wp2_with fail;clear z0 z1 z2 z3;refine HCP.o.mono ?_;rintro e_ w4 ⟨q1,q2,rfl,ho4',hb4⟩;dsimp only;have hc4:=wm hc2 hb4;have ho4:=(ho4'.lower hc2.size).wider (N':=fun b=>b<w0.heap.size) (fun b hb=> .inl (Nat.lt_of_lt_of_le hb hc2.size));clear ho4' hc2 hb4 hS2;have h41:∀b,(aA (aG ⟨q1,0,aF⟩) s.aI.length s.aI.length).ownBlock=aG b->b<w4.heap.size:=fun b e=>(ho4.b.rwo.blk e).2;have h42:∀b,(aA (aG ⟨q2,0,aF⟩) s.aJ.length s.aJ.length).ownBlock=aG b->b<w4.heap.size:=fun b e=>(ho4.e.rwo.blk e).2;have hG:w0.heap.size<=w4.heap.size:=hc4.size;obtain⟨G,hGe⟩:=wY w4.heap.size
 rw [<-hGe]at h41 h42 hG;have hba:=ws w4 (aE #[(aA (aG ⟨q1,0,aF⟩) s.aI.length s.aI.length),(aA (aG ⟨q2,0,aF⟩) s.aJ.length s.aJ.length),aB aC s.aL,aB aC s.aK] 34);have hX:Arr (w4.alloc (aE #[(aA (aG ⟨q1,0,aF⟩) s.aI.length s.aI.length),(aA (aG ⟨q2,0,aF⟩) s.aJ.length s.aJ.length),aB aC s.aL,aB aC s.aK] 34)) G 34 [(aA (aG ⟨q1,0,aF⟩) s.aI.length s.aI.length),(aA (aG ⟨q2,0,aF⟩) s.aJ.length s.aJ.length),aB aC s.aL,aB aC s.aK]:=by rw [hGe];exact Arr.new w4 34 _
 have ho:=(ho4.wider (N':=fun b=>b<w0.heap.size\/b=G) (fun b hb=>hb.imp id (fun e=>wu))).below hba;have hR5:=(hR.below hc4).below hba;have hb5:=(hb0.trans (hc4.mono (Nat.le_of_lt hHl))).alloc wu (aE #[(aA (aG ⟨q1,0,aF⟩) s.aI.length s.aI.length),(aA (aG ⟨q2,0,aF⟩) s.aJ.length s.aJ.length),aB aC s.aL,aB aC s.aK] 34);clear hR ho4 hc4 hba hb0;have hR:=hR5;clear hR5;have hb:=hb5;clear hb5;have hq:w0.heap.size<=q2:=(ho.e.rwo.blk rfl).1;have hqG:q2<G:=h42 _ rfl
 refine wO 3 ?_;intros;rw [<-hGe];clear hGe;generalize w4.alloc (aE #[(aA (aG ⟨q1,0,aF⟩) s.aI.length s.aI.length),(aA (aG ⟨q2,0,aF⟩) s.aJ.length s.aJ.length),aB aC s.aL,aB aC s.aK] 34)=w5 at *
 obtain⟨⟨v0,k3⟩,f3,ho6,hg6⟩:=ho.setE (j:=2) (u:= aB aC n) (y:= { s.aJ[i] with aQ:=n }) hi wu (fun W cs h=>U3 _ _ W cs h) (yh _);have hX6:=hX.other (g':=q2) (k:=i*4+2) wu (aB aC n);have hR6:=hR.other (g':=q2) (k:=i*4+2) wu (aB aC n);have hb6:=hb.setCell (p:=⟨q2,i*4+2,aF⟩) ae (aB aC n);have x0:=hX.c1;clear hX hR hb ho;have hX:=hX6;have hR:=hR6;have hb:=hb6;have ho:=ho6;clear hX6 hR6 hb6 ho6 hg6;obtain⟨z0,z1,z2,z3⟩:=sqC4 hX;obtain⟨f0,f1,f2,f3⟩:=sqF4 hR;obtain⟨y0,y1,y2,y3⟩:=sqC4 hR;have hfin:=hR.all4 (aA (aG ⟨q1,0,aF⟩) s.aI.length s.aI.length) (aA (aG ⟨q2,0,aF⟩) s.aJ.length s.aJ.length) (aB aC s.aL) (aB aC s.aK);have hoF:=(((ho.set (g:=H+1) (k:=0) hHr (.inl hHr) (aA (aG ⟨q1,0,aF⟩) s.aI.length s.aI.length)).set (g:=H+1) (k:=1) hHr (.inl hHr) (aA (aG ⟨q2,0,aF⟩) s.aJ.length s.aJ.length)).set (g:=H+1) (k:=2) hHr (.inl hHr) (aB aC s.aL)).set (g:=H+1) (k:=3) hHr (.inl hHr) (aB aC s.aK);have hbF:=(((hb.setCell (p:=⟨H+1,0,aF⟩) ae (aA (aG ⟨q1,0,aF⟩) s.aI.length s.aI.length)).setCell (p:=⟨H+1,1,aF⟩) ae (aA (aG ⟨q2,0,aF⟩) s.aJ.length s.aJ.length)).setCell (p:=⟨H+1,2,aF⟩) ae (aB aC s.aL)).setCell (p:=⟨H+1,3,aF⟩) ae (aB aC s.aK);clear hR ho hb hX;go_wp2_with fail;refine bodyPost_ret (zI rfl _ _ (H+1) _ _ _ _ ac hfin underlying34 rfl ww) rfl ?_;exact⟨_,_,rfl,(hoF.lower (base':=H) wu).wider (N':=fun b=>b<H) (fun b hb=> .inl (.inl wu)),hbF⟩
end Go.Proofs.YtaboknhfiijipaaGreat
