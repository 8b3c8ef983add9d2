/- Lemmas, as stated. -/
import Derived.Test.YtcjndgldjhmbgaaGreatQE13
import Derived.Test.YtcjndgldjhmbgaaGreatQE15
set_option linter.unusedVariables false
set_option linter.unusedSimpArgs false
set_option maxRecDepth 100000
set_option maxHeartbeats 8000000
open Go.Proofs.Tryz
open Go.Proofs.Tryz renaming prog->zZZ
open Go.Value renaming slice->aw,int->ax,string->az
open Go.IntKind renaming i64->ay
open Go.Obj renaming cells->aA
open Option renaming none->aB,some->aC
namespace Go.Proofs.YtcjndgldjhmbgaaGreat
open Go.RowKit
theorem jO:∀x y:ac,Lib.compareBytes x y=0↔x=y
 | [], []=>by simp [Lib.compareBytes]
 | [],_::_=>by simp [Lib.compareBytes]
 | _::_, []=>by simp [Lib.compareBytes]
 | a::x,b::y=>by
  rw [Lib.compareBytes]
  rcases JG a b with h | h | h
  ·rw [if_pos h]
   exact⟨fun e=>wj,fun e=>by cases e;exact absurd h (UInt8.lt_irrefl _)⟩
  ·subst h
   rw [if_neg (UInt8.lt_irrefl _),if_neg (UInt8.lt_irrefl _),jO x y]
   simp
  ·rw [if_neg (UInt8.lt_asymm h),if_pos h]
   exact⟨fun e=>wj,fun e=>by cases e;exact absurd h (UInt8.lt_irrefl _)⟩
theorem KU (s t:ByteArray) (v1 v2 v3:Value) (w:World) :
  Calls zZZ 204 #[.agg #[az s,v1,v2,v3],az t] w fun e w'=>e= .returned (ax ay (Lib.compareBytes s.data.toList t.data.toList))/\Below w.heap.size w w':=by
 have hA1:=Arr.new w 88 [az s,v1,v2,v3];have hA:Arr (w.alloc (aA #[az s,v1,v2,v3] 88)) w.heap.size 88 [az s,v1,v2,v3]:=hA1;have hb:=wi w (aA #[az s,v1,v2,v3] 88);have a0:=hA.c0;have HC:=sqH (fun W=>Tryz.strings_Compare s t W);clear hA1 hA;go_enter func204,ntmps204;go_wp2_with fail;generalize w.alloc (aA #[az s,v1,v2,v3] 88)=W at *
 refine(HC.o W).mono ?_;rintro e_ w1 ⟨rfl,rfl⟩;dsimp only;go_wp2_with fail;go_ret;exact⟨rfl,hb⟩
theorem KV (s t:ByteArray) (v1 v2 v3:Value) (w:World) :
  Calls zZZ 224 #[.agg #[az s,v1,v2,v3],az t] w fun e w'=>e= .returned (ax ay (Lib.compareBytes s.data.toList t.data.toList))/\Below w.heap.size w w':=by
 have hA1:=Arr.new w 109 [az s,v1,v2,v3];have hA:Arr (w.alloc (aA #[az s,v1,v2,v3] 109)) w.heap.size 109 [az s,v1,v2,v3]:=hA1;have hb:=wi w (aA #[az s,v1,v2,v3] 109);have a0:=hA.c0;have HC:=sqH (fun W=>Tryz.strings_Compare s t W);clear hA1 hA;go_enter func224,ntmps224;go_wp2_with fail;generalize w.alloc (aA #[az s,v1,v2,v3] 109)=W at *
 refine(HC.o W).mono ?_;rintro e_ w1 ⟨rfl,rfl⟩;dsimp only;go_wp2_with fail;go_ret;exact⟨rfl,hb⟩
theorem Jk (A:ae) (c:Nat) (l:List BlobP) (d:ac) (w:World) (hl:l.length<=100000) (hris:RisesBy (·.dig) l) (hA:Rw BlobS w A l) :
  Calls zZZ 203 #[aw A l.length c,az ⟨d.toArray⟩,.func (.func 204) #[] #[]] w fun e w' =>
   ∃i f,e= .returned (.tuple #[ax ay ((i:Nat):Int),.bool f])/\i<=l.length/\(∀k (h:k<l.length),k<i->Op.bytesLess l[k].dig d=true)/\(∀k (h:k<l.length),i<=k->Op.bytesLess l[k].dig d=false)/\(f=true↔∃h:i<l.length,l[i].dig=d)/\Below w.heap.size w w':=by
 obtain⟨t,ht⟩:=wU (⟨d.toArray⟩:ByteArray)
 rw [<-ht];have HT:=sqH ht;have HRI:=sqH hris;clear ht hris;have HCM:=sqH (fun (x:BlobP) (A':ae) (c':Nat) W=>KU ⟨x.dig.toArray⟩ t (aw A' x.data.length c') (ax ay x.pins) (.bool x.mark) W);go_enter func203,ntmps203
 refine wH ?_;intros
 go_loopg [9,10] l.length (fun gn u v wr=>∃i j:Nat,gn=j - i/\u= ax ay i/\v= ax ay j/\i<=j/\j<=l.length/\(∀k (h:k<l.length),k<i->Op.bytesLess l[k].dig d=true)/\(∀k (h:k<l.length),j<=k->Op.bytesLess l[k].dig d=false)/\Below w.heap.size w wr)
 case atStart=>exact⟨0,l.length,rfl,rfl,rfl,wj,wj,fun k _ h=>absurd h wj,fun k h h'=>absurd h wj,Below.refl _ _⟩
 case round =>
  obtain⟨i,j,hgk,rfl,rfl,hij,hjl,h1,h2,hbl⟩:=hrel;obtain⟨HGK,H1,H2⟩:=sqJ3 hgk h1 h2;clear hgk h1 h2;by_cases hlt:i<j
  ·have hcc:decide (i<j)=true:=decide_eq_true hlt;have hhl:(i+j) / 2<l.length:=wj
   obtain⟨b,off,B,cb,rfl,hbb,c0,c1,c2,c3,hs⟩:=(hA.below hbl).blob_at ((i+j) / 2) hhl;have hcm:=HCM.o l[(i+j) / 2] B cb wr;have HM:=sqH (show(((i:Int)+(j:Int)) / 2=(((i+j) / 2:Nat):Int))/\(((i:Int)+(j:Int)) / 2+1=(((i+j) / 2+1:Nat):Int)) from⟨wj,wj⟩);have hps:=List.pairwise_iff_getElem.1 HRI.o;obtain⟨sx,hsx⟩:=wU (⟨(l[(i+j) / 2]).dig.toArray⟩:ByteArray)
   rw [<-hsx]at c0 hcm;have hcp:Lib.compareBytes sx.data.toList t.data.toList=Lib.compareBytes (l[(i+j) / 2]).dig d:=by rw [hsx,HT.o]
   rw [hcp]at hcm;cases hle:Op.bytesLess (l[(i+j) / 2]).dig d with
   | true =>
    have hz:=j6 hle;have HP:=sqH (show ∀k (h:k<l.length),k<(i+j) / 2+1->Op.bytesLess l[k].dig d=true from fun k h hk=>by
     rcases Nat.lt_or_ge k ((i+j) / 2) with h1 | h1
     ·exact qi (hps k _ h hhl h1) hle
     ·have:k=(i+j) / 2:=by omega
      subst this;exact hle)
    clear hps hle hsx hcp hs;generalize Lib.compareBytes (l[(i+j) / 2]).dig d=z at *
    generalize l[(i+j) / 2]=x at *
    have hz1:decide (z<0)=true:=decide_eq_true hz;have HCL:=sqH hcm;clear hcm;go_wp2_with fail;refine wV HCL.o fun w5 hb5=>?_;dsimp only;have hbl5:=wg hbl hb5;go_wp2_with fail;go_roundg (j - ((i+j) / 2+1))
    case measure=>exact wW HGK
    case rel=>exact⟨(i+j) / 2+1,j,rfl,by rw [HM.o.2],rfl,wj,hjl,HP.o,H2.o,hbl5⟩
   | false =>
    have hz:=j5 hle;have HP:=sqH (show ∀k (h:k<l.length),(i+j) / 2<=k->Op.bytesLess l[k].dig d=false from fun k h hk=>by
     rcases Nat.lt_or_ge ((i+j) / 2) k with h1 | h1
     ·cases hq:Op.bytesLess l[k].dig d with
      | false=>rfl
      | true=>have:=qi (hps _ k hhl h h1) hq;rw [hle]at this;cases this
     ·have:k=(i+j) / 2:=by omega
      subst this;exact hle)
    clear hps hle hsx hcp hs;generalize Lib.compareBytes (l[(i+j) / 2]).dig d=z at *
    generalize l[(i+j) / 2]=x at *
    have hz1:decide (z<0)=false:=decide_eq_false hz;have HCL:=sqH hcm;clear hcm;go_wp2_with fail;refine wV HCL.o fun w5 hb5=>?_;dsimp only;have hbl5:=wg hbl hb5;go_wp2_with fail;go_roundg ((i+j) / 2 - i)
    case measure=>exact wW HGK
    case rel=>exact⟨i,(i+j) / 2,rfl,rfl,by rw [HM.o.1],wj,wj,H1.o,HP.o,hbl5⟩
  ·obtain rfl:i=j:=by omega
   have hcc:decide (i<i)=false:=ws
   by_cases hin:i<l.length
   ·have hcd:decide (i<l.length)=true:=decide_eq_true hin;have hi0:=wX i
    have hi1:(i:Int)<(l.length:Int):=wj
    obtain⟨b,off,B,cb,rfl,hbb,c0,c1,c2,c3,hs⟩:=(hA.below hbl).blob_at i hin;have hcm:=HCM.o l[i] B cb wr;obtain⟨sx,hsx⟩:=wU (⟨(l[i]).dig.toArray⟩:ByteArray)
    rw [<-hsx]at c0 hcm;have hcp:Lib.compareBytes sx.data.toList t.data.toList=Lib.compareBytes (l[i]).dig d:=by rw [hsx,HT.o]
    rw [hcp]at hcm;have HQ:=sqH (jO (l[i]).dig d);have HE:=sqH (show((∃h:i<l.length,l[i].dig=d)↔l[i].dig=d) from⟨fun ⟨_,h⟩=>h,fun h=>⟨hin,h⟩⟩);clear hsx hcp hs;generalize Lib.compareBytes (l[i]).dig d=z at *
    generalize l[i]=x at *
    have HCL:=sqH hcm;clear hcm;go_wp2_with fail;refine wV HCL.o fun w5 hb5=>?_;dsimp only;have hbl5:=wg hbl hb5;go_wp2_with fail;go_ret2;refine⟨i,z==0,rfl,wj,H1.o,H2.o,?_,hbl5⟩;rw [HE.o,beq_iff_eq,HQ.o]
   ·have hcd:decide (i<l.length)=false:=decide_eq_false hin
    refine wH ?_;intros
    go_ret2;refine⟨i,false,rfl,wj,H1.o,H2.o,⟨fun h=>(by cases h),fun ⟨h,_⟩=>absurd h hin⟩,hbl⟩
theorem z25 (A:ae) (c:Nat) (l:List EntP) (d:ac) (w:World) (hl:l.length<=100000) (hris:RisesBy (·.key) l) (hA:Rw EntS w A l) :
  Calls zZZ 223 #[aw A l.length c,az ⟨d.toArray⟩,.func (.func 224) #[] #[]] w fun e w' =>
   ∃i f,e= .returned (.tuple #[ax ay ((i:Nat):Int),.bool f])/\i<=l.length/\(∀k (h:k<l.length),k<i->Op.bytesLess l[k].key d=true)/\(∀k (h:k<l.length),i<=k->Op.bytesLess l[k].key d=false)/\(f=true↔∃h:i<l.length,l[i].key=d)/\Below w.heap.size w w':=by
 obtain⟨t,ht⟩:=wU (⟨d.toArray⟩:ByteArray)
 rw [<-ht];have HT:=sqH ht;have HRI:=sqH hris;clear ht hris;have HCM:=sqH (fun (x:EntP) (A':ae) (c':Nat) W=>KV ⟨x.key.toArray⟩ t (aw A' x.parts.length c') (ax ay x.pins) (ax ay x.aK) W);go_enter func223,ntmps223
 refine wH ?_;intros
 go_loopg [9,10] l.length (fun gn u v wr=>∃i j:Nat,gn=j - i/\u= ax ay i/\v= ax ay j/\i<=j/\j<=l.length/\(∀k (h:k<l.length),k<i->Op.bytesLess l[k].key d=true)/\(∀k (h:k<l.length),j<=k->Op.bytesLess l[k].key d=false)/\Below w.heap.size w wr)
 case atStart=>exact⟨0,l.length,rfl,rfl,rfl,wj,wj,fun k _ h=>absurd h wj,fun k h h'=>absurd h wj,Below.refl _ _⟩
 case round =>
  obtain⟨i,j,hgk,rfl,rfl,hij,hjl,h1,h2,hbl⟩:=hrel;obtain⟨HGK,H1,H2⟩:=sqJ3 hgk h1 h2;clear hgk h1 h2;by_cases hlt:i<j
  ·have hcc:decide (i<j)=true:=decide_eq_true hlt;have hhl:(i+j) / 2<l.length:=wj
   obtain⟨b,off,B,cb,rfl,hbb,c0,c1,c2,c3,hs⟩:=(hA.below hbl).ent_at ((i+j) / 2) hhl;have hcm:=HCM.o l[(i+j) / 2] B cb wr;have HM:=sqH (show(((i:Int)+(j:Int)) / 2=(((i+j) / 2:Nat):Int))/\(((i:Int)+(j:Int)) / 2+1=(((i+j) / 2+1:Nat):Int)) from⟨wj,wj⟩);have hps:=List.pairwise_iff_getElem.1 HRI.o;obtain⟨sx,hsx⟩:=wU (⟨(l[(i+j) / 2]).key.toArray⟩:ByteArray)
   rw [<-hsx]at c0 hcm;have hcp:Lib.compareBytes sx.data.toList t.data.toList=Lib.compareBytes (l[(i+j) / 2]).key d:=by rw [hsx,HT.o]
   rw [hcp]at hcm;cases hle:Op.bytesLess (l[(i+j) / 2]).key d with
   | true =>
    have hz:=j6 hle;have HP:=sqH (show ∀k (h:k<l.length),k<(i+j) / 2+1->Op.bytesLess l[k].key d=true from fun k h hk=>by
     rcases Nat.lt_or_ge k ((i+j) / 2) with h1 | h1
     ·exact qi (hps k _ h hhl h1) hle
     ·have:k=(i+j) / 2:=by omega
      subst this;exact hle)
    clear hps hle hsx hcp hs;generalize Lib.compareBytes (l[(i+j) / 2]).key d=z at *
    generalize l[(i+j) / 2]=x at *
    have hz1:decide (z<0)=true:=decide_eq_true hz;have HCL:=sqH hcm;clear hcm;go_wp2_with fail;refine wV HCL.o fun w5 hb5=>?_;dsimp only;have hbl5:=wg hbl hb5;go_wp2_with fail;go_roundg (j - ((i+j) / 2+1))
    case measure=>exact wW HGK
    case rel=>exact⟨(i+j) / 2+1,j,rfl,by rw [HM.o.2],rfl,wj,hjl,HP.o,H2.o,hbl5⟩
   | false =>
    have hz:=j5 hle;have HP:=sqH (show ∀k (h:k<l.length),(i+j) / 2<=k->Op.bytesLess l[k].key d=false from fun k h hk=>by
     rcases Nat.lt_or_ge ((i+j) / 2) k with h1 | h1
     ·cases hq:Op.bytesLess l[k].key d with
      | false=>rfl
      | true=>have:=qi (hps _ k hhl h h1) hq;rw [hle]at this;cases this
     ·have:k=(i+j) / 2:=by omega
      subst this;exact hle)
    clear hps hle hsx hcp hs;generalize Lib.compareBytes (l[(i+j) / 2]).key d=z at *
    generalize l[(i+j) / 2]=x at *
    have hz1:decide (z<0)=false:=decide_eq_false hz;have HCL:=sqH hcm;clear hcm;go_wp2_with fail;refine wV HCL.o fun w5 hb5=>?_;dsimp only;have hbl5:=wg hbl hb5;go_wp2_with fail;go_roundg ((i+j) / 2 - i)
    case measure=>exact wW HGK
    case rel=>exact⟨i,(i+j) / 2,rfl,rfl,by rw [HM.o.1],wj,wj,H1.o,HP.o,hbl5⟩
  ·obtain rfl:i=j:=by omega
   have hcc:decide (i<i)=false:=ws
   by_cases hin:i<l.length
   ·have hcd:decide (i<l.length)=true:=decide_eq_true hin;have hi0:=wX i
    have hi1:(i:Int)<(l.length:Int):=wj
    obtain⟨b,off,B,cb,rfl,hbb,c0,c1,c2,c3,hs⟩:=(hA.below hbl).ent_at i hin;have hcm:=HCM.o l[i] B cb wr;obtain⟨sx,hsx⟩:=wU (⟨(l[i]).key.toArray⟩:ByteArray)
    rw [<-hsx]at c0 hcm;have hcp:Lib.compareBytes sx.data.toList t.data.toList=Lib.compareBytes (l[i]).key d:=by rw [hsx,HT.o]
    rw [hcp]at hcm;have HQ:=sqH (jO (l[i]).key d);have HE:=sqH (show((∃h:i<l.length,l[i].key=d)↔l[i].key=d) from⟨fun ⟨_,h⟩=>h,fun h=>⟨hin,h⟩⟩);clear hsx hcp hs;generalize Lib.compareBytes (l[i]).key d=z at *
    generalize l[i]=x at *
    have HCL:=sqH hcm;clear hcm;go_wp2_with fail;refine wV HCL.o fun w5 hb5=>?_;dsimp only;have hbl5:=wg hbl hb5;go_wp2_with fail;go_ret2;refine⟨i,z==0,rfl,wj,H1.o,H2.o,?_,hbl5⟩;rw [HE.o,beq_iff_eq,HQ.o]
   ·have hcd:decide (i<l.length)=false:=decide_eq_false hin
    refine wH ?_;intros
    go_ret2;refine⟨i,false,rfl,wj,H1.o,H2.o,⟨fun h=>(by cases h),fun ⟨h,_⟩=>absurd h hin⟩,hbl⟩
theorem KK (gk:Nat) (d:ac) (l:List EntP) (w:World) (hk:w.cell? ⟨gk,0,aB⟩=aC (az ⟨d.toArray⟩)) (hg:gk<w.heap.size):Jn w l 95 (.pointer (aC ⟨gk,0,aB⟩)) (fun b=>b.key==d):=by
 refine⟨fun _ _=>wm,fun b B cb W hb hbel hs=> ?_⟩;have hg1:gk<W.heap.size:=Nat.lt_of_lt_of_le hg hbel.size;have hk0:W.cell? ⟨gk,0,aB⟩=aC (az ⟨d.toArray⟩):=(hbel.cell (p:=⟨gk,0,aB⟩) hg).trans hk;generalize hs1:(⟨b.key.toArray⟩:ByteArray)=s;generalize hs2:(⟨d.toArray⟩:ByteArray)=t at hk0;have hst:(b.key==d)=(s.toList==t.toList):=by
  rw [<-hs1,<-hs2,ByteArray.toList_eq,ByteArray.toList_eq]
 dsimp only;rw [hst];have hb1:=wi W (aA #[az s,aw B b.parts.length cb,ax ay b.pins,(ax ay b.aK)] 109);have hk1:(W.alloc (aA #[az s,aw B b.parts.length cb,ax ay b.pins,(ax ay b.aK)] 109)).cell? ⟨gk,0,aB⟩=aC (az t):=(World.cell?_alloc_lt W _ ⟨gk,0,aB⟩ hg1).trans hk0;clear hst hs1 hs2;go_enter func95,ntmps95;go_wp2_with fail;go_ret;exact⟨rfl,hb1⟩
theorem kG (A:ae) (c:Nat) (l:List EntP) (d:ac) (w:World) (hl:l.length<=1000000) (hA:Rw EntS w A l) :
  Calls zZZ 46 #[aw A l.length c,az ⟨d.toArray⟩] w fun e w'=>e= .returned (xn (l.findIdx? (fun x=>x.key==d)))/\Below w.heap.size w w':=by
 obtain⟨s,hs⟩:=wU (⟨d.toArray⟩:ByteArray)
 rw [<-hs];have hA1:=Arr.new w 9 [az s];have hb1:=wi w (aA #[az s] 9);have hA1':Arr (w.alloc (aA #[az s] 9)) w.heap.size 9 [az s]:=hA1;have hk:=hA1'.c0;have HI:=JZ A c l _ (.pointer (aC ⟨w.heap.size,0,aB⟩)) (fun x=>x.key==d) (w.alloc (aA #[az s] 9)) hl (hA.below hb1) (KK w.heap.size d l _ (by rw [hk,hs]) hA1'.lt);clear hs hA hA1 hA1' hk;cases hf:l.findIdx? (fun x=>x.key==d) with
 | none =>
  rw [hf]at HI;have HI:=sqH HI;go_enter func46,ntmps46;go_wp2_with fail;refine wV HI.o fun w2 hb2=>?_;dsimp only;have hb12:=wg hb1 hb2;go_wp2_with fail;go_ret2;exact⟨rfl,hb12⟩
 | some i =>
  rw [hf]at HI;have HI:=sqH HI;have hi:decide ((i:Int)<0)=false:=decide_eq_false wj;go_enter func46,ntmps46;go_wp2_with fail;refine wV HI.o fun w2 hb2=>?_;dsimp only;have hb12:=wg hb1 hb2;go_wp2_with fail;go_ret2;exact⟨rfl,hb12⟩
theorem z06 (A:ae) (c:Nat) (l:List EntP) (x:EntP) (PA:ae) (pc:Nat) (w:World) (hg:GoodE l) (hx:GoodE1 x) (hlen:l.length<10) (hA:Rw EntS w A l) (hP:Sl w 3 PA x.parts.length pc (pcs x.parts)) :
  Calls zZZ 208 #[aw A l.length c,.agg #[az ⟨x.key.toArray⟩,aw PA x.parts.length pc,ax ay x.pins,ax ay x.aK]] w fun e w' =>
   ∃v,e= .returned (.tuple #[v,ax ay 0])/\RwX EntS 109 w' w.heap.size v (x8 l x) (fun b=>b<w.heap.size)/\Below w.heap.size w w':=by
 have HGD:=sqH (ZW hg hx hlen);have hpl:x.parts.length<=8:=(zk hx.2.1).1;have hg1:=hg.ris;obtain⟨sx,hsx⟩:=wU (⟨x.key.toArray⟩:ByteArray)
 rw [<-hsx];have hX:Arr (w.alloc (aA #[az sx,aw PA x.parts.length pc,ax ay x.pins,ax ay x.aK] 109)) w.heap.size 109 [az sx,aw PA x.parts.length pc,ax ay x.pins,ax ay x.aK]:=Arr.new w 109 _;have hb1:=wi w (aA #[az sx,aw PA x.parts.length pc,ax ay x.pins,ax ay x.aK] 109);have HC1:=sqH (xb A c l _ hg (hA.below hb1));have hA1:=hA.below hb1;have hP1:=hP.below hb1;have HSX:=sqH hsx;obtain⟨H,hH⟩:=wU w.heap.size
 have hlt1:=hX.lt;rw [<-hH]at hX hlt1;have hgl:l.length<=10:=hg.len;have HPL:=sqH (show ∀y∈l,y.parts.length<=1000000 from fun y hy=>by have:=(zk (hg.one y hy).2.1).1;omega);have HA0:=sqH hA;clear hg hx hA hP hsx;go_enter func208,ntmps208;go_wp2_with fail;rw [<-hH];have HH:=sqH hH;clear hH;generalize w.alloc (aA #[az sx,aw PA x.parts.length pc,ax ay x.pins,ax ay x.aK] 109)=w1 at *
 refine wV HC1.o fun w2 hb2=>?_;dsimp only;have hb12:=wg hb1 hb2;have hX2:=hX.below hb2;have hA2:=hA1.below hb2;have hP2:=hP1.below hb2;have k0:=hX2.c0;have HBS:=z25 A c l x.key w2 wj hg1 hA2;rw [<-HSX.o]at HBS;have HBS:=sqH HBS;clear hX hA1 hP1;go_wp2_with fail;clear k0;refine HBS.o.mono ?_;rintro e_ w3 ⟨i,f,rfl,hil,P1,P2,hf,hb3⟩;dsimp only;have hb13:=wg hb12 hb3;have hX3:=hX2.below hb3;have hA3:=hA2.below hb3;have hP3:=hP2.below hb3;obtain⟨HF,HP1,HP2,HG1,HCP⟩:=sqJ5 hf P1 P2 hg1 (QQ A c l w3 wj (fun y hy=>HPL.o y hy) hA3);clear hX2 hA2 hP2 hf P1 P2 hg1;go_wp2_with fail;refine HCP.o.mono ?_;rintro e_ w4 ⟨g,rfl,hx4,hb4⟩;dsimp only;have hb14:=wg hb13 hb4;have hX4:=hX3.below hb4;have hP4:=hP3.below hb4;have hH3:=hX3.lt;have y1:=hX4.c1;have HCN:=sqH (yr PA x.parts.length pc (pcs x.parts) w4 wj hP4.rd (Z0 _));have hg3:=(hx4.rwo.blk rfl)
 clear hX3 hA3 hP3;go_wp2_with fail;clear y1;refine HCN.o.mono ?_;rintro e_ w5 ⟨v5,rfl,ho5,hb5⟩;dsimp only;obtain⟨A5,c5,rfl,hs5,hl5⟩:=vT ho5;have hX5:=hX4.below hb5;have hx5:=hx4.below hb5;have hb15:=wg hb14 hb5;have f1:=hX5.frozen 1;have y1:=hX5.c1;have hx6:=hx5.set (g:=H) (k:=1) hH3 hH3 (aw A5 x.parts.length c5);have hX6:=hX5.set (k:=1) ws (aw A5 x.parts.length c5);have hs6:=hs5.other (g:=H) (k:=1) (fun a ha=>by have:=hl5 a ha;have:=hX4.lt;omega) (aw A5 x.parts.length c5);have hb06:=hb15.setCell (p:=⟨H,1,aB⟩) (by rw [<-HH.o];exact Nat.le_refl _) (aw A5 x.parts.length c5);have hsz4:w4.heap.size<=w5.heap.size:=hb5.size;have hgb:g<w4.heap.size:=hg3.2;have hw03:w.heap.size<=w3.heap.size:=hb13.size;have hw34:w3.heap.size<=w4.heap.size:=hb4.size;clear hx4 hx5 hX4 hX5 hP4 ho5 hs5 hb4 hb5 hb15 hb14 hb13;have hX6':Arr (w5.setCell ⟨H,1,aB⟩ (aw A5 x.parts.length c5)) H 109 [az sx,aw A5 x.parts.length c5,ax ay x.pins,ax ay x.aK]:=hX6;clear hX6;cases f with
 | true =>
  obtain⟨hi,he⟩:=HF.o.1 rfl;have HPE:=sqH (show x8 l x=l.set i { x with pins:=l[i].pins } by
   unfold x8;rw [jN (f:=fun y:EntP=>y.key) HP1.o hi he];show l.set i { x with pins:=(match l[i]? with | some y=>y.pins | none=>0) }=_;rw [List.getElem?_eq_getElem hi])
  obtain⟨b,off,B,cb,rfl,hbb,d0,d1,d2,d3,_⟩:=(HA0.o.below hb06).ent_at i hi;have hi0:=wX i
  have hi1:(i:Int)<(l.length:Int):=wj
  clear he;generalize l[i].pins=pn at *
  have f2:=hX6'.frozen 2;have y2:=hX6'.c2;have hX7:Arr ((w5.setCell ⟨H,1,aB⟩ (aw A5 x.parts.length c5)).setCell ⟨H,2,aB⟩ (ax ay pn)) H 109 [az sx,aw A5 x.parts.length c5,ax ay pn,ax ay x.aK]:=hX6'.set (k:=2) ws _;have hx7:=hx6.set (g:=H) (k:=2) hH3 hH3 (ax ay pn);have hs7:=hs6.other (g:=H) (k:=2) (fun a ha=>by have:=hl5 a ha;omega) (ax ay pn);have hb07:=hb06.setCell (p:=⟨H,2,aB⟩) (by rw [<-HH.o];exact Nat.le_refl _) (ax ay pn);obtain⟨ps7,hx7o,hx7l⟩:∃cs,Arr ((w5.setCell ⟨H,1,aB⟩ (aw A5 x.parts.length c5)).setCell ⟨H,2,aB⟩ (ax ay pn)) g 109 cs/\cs.length=l.length*4:=by
   obtain⟨ps,_,_,h3,_⟩:=hx7;obtain⟨g',cap',cs,e1,_,h4,_,_,h5,_⟩:=yl h3 wj;injection e1 with e11 _ e13;injection e11 with e11;injection e11 with e11;subst e11 e13;exact⟨cs,h4,h5⟩
  have q0:=hx7o.cell (k:=i*4) (List.getElem?_eq_getElem wj);have q1:=hx7o.cell (k:=i*4+1) (List.getElem?_eq_getElem wj);have q2:=hx7o.cell (k:=i*4+2) (List.getElem?_eq_getElem wj);have q3:=hx7o.cell (k:=i*4+3) (List.getElem?_eq_getElem wj);have p0:=hx7o.frozen (i*4);have p1:=hx7o.frozen (i*4+1);have p2:=hx7o.frozen (i*4+2);have p3:=hx7o.frozen (i*4+3);obtain⟨k0,k1,k2,k3⟩:=sqC4 hX7;obtain⟨hx8,hg8⟩:=hx7.put4 (x:= { x with pins:=pn }) (u0:= az sx) (u1:= aw A5 x.parts.length c5) (u2:= ax ay pn) (u3:= ax ay x.aK) rfl hi ⟨A5,c5,by rw [HSX.o];rfl,hs7⟩ (fun b hb ⟨a,n',c',hm,e⟩=>by
   simp only [List.mem_cons,List.not_mem_nil,or_false,Value.slice.injEq,reduceCtorEq,false_or]at hm;have:=hl5 a hm.1.symm;rcases hb with hb | hb<;>omega)
  have hb08:=hb07.grown hg8 hb07.size (fun k hk=>by cases hk;exact Nat.le_trans hw03 hg3.1);rw [show l.set i { x with pins:=pn }=x8 l x from HPE.o.symm]at hx8;have hlen8:(x8 l x).length=l.length:=by rw [HPE.o,List.length_set]
  rw [put4]at hx8 hg8 hb08;clear hx7o hx6 hs6 hX6' hx7 hs7 hb06 hb07 hg8 hX7;go_wp2_with fail;clear d0 d1 d2 d3 f2 y2 q0 q1 q2 q3 p0 p1 p2 p3 k0 k1 k2 k3 hx7l;generalize (((((w5.setCell ⟨H,1,aB⟩ (aw A5 x.parts.length c5)).setCell ⟨H,2,aB⟩ (ax ay pn)).setCell ⟨g,i*4,aB⟩ (az sx)).setCell ⟨g,i*4+1,aB⟩ (aw A5 x.parts.length c5)).setCell ⟨g,i*4+2,aB⟩ (ax ay pn)).setCell ⟨g,i*4+3,aB⟩ (ax ay x.aK)=w8 at *
  have HC8:=xb (aC ⟨g,0,aB⟩) l.length (x8 l x) w8 HGD.o (by
   obtain⟨A',c',e1,_,_,h⟩:=hx8.rwo.rows;injection e1 with e2;rw [e2];exact h)
  rw [hlen8]at HC8;have HC8:=sqH HC8;refine wV HC8.o fun w9 hb9=>?_;dsimp only;have hx9:=((hx8.below hb9).lower hw03).wider (N':=fun b=>b<w.heap.size) (fun b hb=> .inl (Nat.lt_of_lt_of_le hb hw03));have hb09:=wg hb08 hb9;clear hx8 hb08 hb9;go_wp2_with fail;go_ret2;exact⟨_,rfl,hx9,hb09⟩
 | false =>
  have hn:¬ ∃h:i<l.length,l[i].key=x.key:=fun h=>by have:=HF.o.2 h;cases this
  have HPE:=sqH (show x8 l x=l.take i++x::l.drop i by
   unfold x8;rw [Jq (f:=fun y:EntP=>y.key) HG1.o HP1.o HP2.o hn];exact(Jr (f:=fun y:EntP=>y.key) HG1.o HP1.o HP2.o hn rfl).symm)
  obtain⟨k0,k1,k2,k3⟩:=sqC4 hX6';clear hn HF;have hg31:w3.heap.size<=g:=hg3.1;have hz6:(w5.setCell ⟨H,1,aB⟩ (aw A5 x.parts.length c5)).heap.size=w5.heap.size:=by simp [World.setCell]
  have hV:Arr ((w5.setCell ⟨H,1,aB⟩ (aw A5 x.parts.length c5)).alloc (aA #[az sx,aw A5 x.parts.length c5,ax ay x.pins,ax ay x.aK] 109)) (w5.setCell ⟨H,1,aB⟩ (aw A5 x.parts.length c5)).heap.size 109 (kj x A5 c5):=by
   rw [kj,<-HSX.o];exact Arr.new (w5.setCell ⟨H,1,aB⟩ (aw A5 x.parts.length c5)) 109 _
  have hba:=(Below.refl (w5.setCell ⟨H,1,aB⟩ (aw A5 x.parts.length c5)).heap.size (w5.setCell ⟨H,1,aB⟩ (aw A5 x.parts.length c5))).alloc ab (aA #[az sx,aw A5 x.parts.length c5,ax ay x.pins,ax ay x.aK] 109);have hx7:=hx6.below hba;have hs7:=hs6.below hba;have hb07:=wg hb06 hba;have hgsz:g<(w5.setCell ⟨H,1,aB⟩ (aw A5 x.parts.length c5)).heap.size:=(hx6.rwo.blk rfl).2;have hbs7:w3.heap.size<=((w5.setCell ⟨H,1,aB⟩ (aw A5 x.parts.length c5)).alloc (aA #[az sx,aw A5 x.parts.length c5,ax ay x.pins,ax ay x.aK] 109)).heap.size:=by rw [World.size_alloc];omega
  clear hx6 hs6 hX6' hba hb06;go_wp2_with fail;rw [<-hz6];clear k0 k1 k2 k3;generalize hw6:(w5.setCell ⟨H,1,aB⟩ (aw A5 x.parts.length c5))=w6 at *
  clear hw6 hz6;generalize w6.alloc (aA #[az sx,aw A5 x.parts.length c5,ax ay x.pins,ax ay x.aK] 109)=w7 at *
  have HIN:=sqH (KS l g i x A5 c5 w6.heap.size 1 w7 w3.heap.size (fun b=>b<w3.heap.size) hil wj hbs7 hx7 hV ⟨A5,c5,rfl,hs7⟩ (fun b hb hle=>by
   obtain⟨a,e1,e2⟩:=Uy hle;have:=hl5 a e1;rcases hb with hb | hb<;>omega))
  clear hV hx7 hs7 hbs7;refine HIN.o.mono ?_;rintro e_ w8 ⟨v8,rfl,hx8,hg8⟩;dsimp only;have hb08:=hb07.grown hg8 hb07.size (fun k hk=>by cases hk;exact Nat.le_trans hw03 hg3.1);rw [show l.take i++x::l.drop i=x8 l x from HPE.o.symm]at hx8;have hlp:(x8 l x).length<=10:=HGD.o.len;have HCL:=sqH (Yx v8 (x8 l x) w8 w3.heap.size _ wj hx8);obtain⟨A8,c8,rfl,_,_,_⟩:=hx8.rwo.rows;clear hx8 hg8 hb07;go_wp2_with fail;refine HCL.o.mono ?_;rintro e_ w9 ⟨v9,rfl,hx9,hb9⟩;dsimp only;have hb09:=wg hb08 hb9;have hw8:w.heap.size<=w8.heap.size:=hb08.size;obtain⟨A9,c9,rfl,_,_,hR9⟩:=hx9.rwo.rows;have HC8:=sqH (xb A9 c9 (x8 l x) w9 HGD.o hR9);clear hb9 hb08 hR9;go_wp2_with fail;refine wV HC8.o fun w10 hb10=>?_;dsimp only;have hx10:=((hx9.below hb10).lower hw8).wider (N':=fun b=>b<w.heap.size) (fun b hb=> .inl (Nat.lt_of_lt_of_le hb hw03));have hb010:=wg hb09 hb10;clear hx9 hb09 hb10;go_wp2_with fail;go_ret2;exact⟨_,rfl,hx10,hb010⟩
theorem xw (l:List BlobP) (d:ac):(putB l d).length<=l.length+1:=by
 unfold putB;cases hf:l.findIdx? (fun b=>b.dig==shaS d) with
 | none=>show(srt _ _).length<=_;rw [(q9 _ _).length_eq];simp
 | some i=>show l.length<=_;omega
theorem KJ (gk:Nat) (d:ac) (l:List BlobP) (w:World) (hk:w.cell? ⟨gk,0,aB⟩=aC (az ⟨d.toArray⟩)) (hg:gk<w.heap.size):YZ w l 170 (.pointer (aC ⟨gk,0,aB⟩)) (fun b=>b.dig==d):=by
 refine⟨fun _ _=>wm,fun b B cb W hb hbel hs=> ?_⟩;have hg1:gk<W.heap.size:=Nat.lt_of_lt_of_le hg hbel.size;have hk0:W.cell? ⟨gk,0,aB⟩=aC (az ⟨d.toArray⟩):=(hbel.cell (p:=⟨gk,0,aB⟩) hg).trans hk;generalize hs1:(⟨b.dig.toArray⟩:ByteArray)=s;generalize hs2:(⟨d.toArray⟩:ByteArray)=t at hk0;have hst:(b.dig==d)=(s.toList==t.toList):=by
  rw [<-hs1,<-hs2,ByteArray.toList_eq,ByteArray.toList_eq]
 dsimp only;rw [hst];have hb1:=wi W (aA #[az s,aw B b.data.length cb,ax ay b.pins,(.bool b.mark)] 88);have hk1:(W.alloc (aA #[az s,aw B b.data.length cb,ax ay b.pins,(.bool b.mark)] 88)).cell? ⟨gk,0,aB⟩=aC (az t):=(World.cell?_alloc_lt W _ ⟨gk,0,aB⟩ hg1).trans hk0;clear hst hs1 hs2;go_enter func170,ntmps170;go_wp2_with fail;go_ret;exact⟨rfl,hb1⟩
theorem kr (A:ae) (c:Nat) (l:List BlobP) (d:ac) (w:World) (hl:l.length<=1000000) (hA:Rw BlobS w A l) :
  Calls zZZ 145 #[aw A l.length c,az ⟨d.toArray⟩] w fun e w'=>e= .returned (xn (l.findIdx? (fun x=>x.dig==d)))/\Below w.heap.size w w':=by
 obtain⟨s,hs⟩:=wU (⟨d.toArray⟩:ByteArray)
 rw [<-hs];have hA1:=Arr.new w 9 [az s];have hb1:=wi w (aA #[az s] 9);have hA1':Arr (w.alloc (aA #[az s] 9)) w.heap.size 9 [az s]:=hA1;have hk:=hA1'.c0;have HI:=Qf A c l _ (.pointer (aC ⟨w.heap.size,0,aB⟩)) (fun x=>x.dig==d) (w.alloc (aA #[az s] 9)) hl (hA.below hb1) (KJ w.heap.size d l _ (by rw [hk,hs]) hA1'.lt);clear hs hA hA1 hA1' hk;cases hf:l.findIdx? (fun x=>x.dig==d) with
 | none =>
  rw [hf]at HI;have HI:=sqH HI;go_enter func145,ntmps145;go_wp2_with fail;refine wV HI.o fun w2 hb2=>?_;dsimp only;have hb12:=wg hb1 hb2;go_wp2_with fail;go_ret2;exact⟨rfl,hb12⟩
 | some i =>
  rw [hf]at HI;have HI:=sqH HI;have hi:decide ((i:Int)<0)=false:=decide_eq_false wj;go_enter func145,ntmps145;go_wp2_with fail;refine wV HI.o fun w2 hb2=>?_;dsimp only;have hb12:=wg hb1 hb2;go_wp2_with fail;go_ret2;exact⟨rfl,hb12⟩
theorem YU (A:ae) (c:Nat) (l:List BlobP) (D:ac) (DA:ae) (dc:Nat) (w:World) (hg:GoodB l) (hd:D.length<=300) (hlen:l.length<24\/(l.findIdx? (fun b=>b.dig==shaS D)).isSome=true) (hA:Rw BlobS w A l) (hD:Sl w 1 DA D.length dc (bys D)) :
  Calls zZZ 178 #[aw A l.length c,aw DA D.length dc] w fun e w' =>
   ∃v,e= .returned (.tuple #[v,az ⟨(shaS D).toArray⟩,ax ay 0])/\RwX BlobS 88 w' w.heap.size v (putB l D) (fun b=>b<w.heap.size)/\Below w.heap.size w w':=by
 have hgl:l.length<=24:=hg.len;obtain⟨HPL,HC1,HG1,HLN⟩:=sqJ4 (show ∀b∈l,b.data.length<=1000000 from fun b hb=>by have:=(hg.one b hb).2.1;omega) (vO A c l w hg hA) hg.ris hlen;have s1:decide ((D.length:Int)>300)=false:=decide_eq_false wj;have s2:decide ((300:Int)<(D.length:Int))=false:=decide_eq_false wj;have s3:decide (300<D.length)=false:=decide_eq_false wj;have hpl:(putB l D).length<=25:=by have:=xw l D;omega
 obtain⟨sd,hsd⟩:=wU (⟨(shaS D).toArray⟩:ByteArray)
 rw [<-hsd];have HSD:=sqH hsd;clear hg hlen hsd;go_enter func178,ntmps178;go_wp2_with fail;refine wV HC1.o fun w1 hb1=>?_;dsimp only;have hA1:=hA.below hb1;have hD1:=hD.below hb1;have HSM:=YY DA D.length dc D w1 rfl wj hD1.cap hD1.rd;rw [<-HSD.o]at HSM;have HSM:=sqH HSM;clear hA hD;go_wp2_with fail;refine wV HSM.o fun w2 hb2=>?_;dsimp only;have hb12:=wg hb1 hb2;have hA2:=hA1.below hb2;have hD2:=hD1.below hb2;have HBS:=Jk A c l (shaS D) w2 wj HG1.o hA2;rw [<-HSD.o]at HBS;have HBS:=sqH HBS;clear hA1 hD1 hb1 hb2;go_wp2_with fail;refine HBS.o.mono ?_;rintro e_ w3 ⟨i,f,rfl,hil,P1,P2,hf,hb3⟩;dsimp only;have hb13:=wg hb12 hb3;have hA3:=hA2.below hb3;have hD3:=hD2.below hb3;obtain⟨HF,HP1,HP2,HCP⟩:=sqJ4 hf P1 P2 (vy A c l w3 wj (fun y hy=>HPL.o y hy) hA3);clear hA2 hD2 hf P1 P2 hb12 hb3;go_wp2_with fail;refine HCP.o.mono ?_;rintro e_ w4 ⟨g,rfl,hx4,hb4⟩;dsimp only;have hb14:=wg hb13 hb4;have hD4:=hD3.below hb4;have hw03:w.heap.size<=w3.heap.size:=hb13.size;have hw34:w3.heap.size<=w4.heap.size:=hb4.size;have hg3:w3.heap.size<=g/\g<w4.heap.size:=hx4.rwo.blk rfl;clear hA3 hD3 hb13 hb4;cases f with
 | true =>
  obtain⟨hi,he⟩:=HF.o.1 rfl;have HPE:=sqH (show putB l D=l by
   unfold putB;rw [jN (f:=fun y:BlobP=>y.dig) HP1.o hi he])
  have hx5:=(hx4.lower hw03).wider (N':=fun b=>b<w.heap.size) (fun b hb=> .inl (Nat.lt_of_lt_of_le hb hw03));clear he hx4;go_wp2_with fail;go_ret3;rw [HPE.o];exact⟨_,rfl,hx5,hb14⟩
 | false =>
  have hn:¬ ∃h:i<l.length,l[i].dig=shaS D:=fun h=>by have:=HF.o.2 h;cases this
  have hno:=Jq (f:=fun y:BlobP=>y.dig) HG1.o HP1.o HP2.o hn;have hlt24:l.length<24:=by
   rcases HLN.o with h | h
   ·exact h
   ·rw [hno]at h;cases h
  have HPE:=sqH (show putB l D=l.take i++⟨shaS D,D,0,false⟩::l.drop i by
   unfold putB;rw [hno];exact(Jr (f:=fun y:BlobP=>y.dig) (x:=⟨shaS D,D,0,false⟩) HG1.o HP1.o HP2.o hn rfl).symm)
  have t1:decide ((l.length:Int)≥24)=false:=decide_eq_false wj;have t2:decide ((24:Int)<=(l.length:Int))=false:=decide_eq_false wj;have t3:decide (24<=l.length)=false:=decide_eq_false wj;have HCN:=sqH (kY DA D.length dc D w4 rfl hD4.cap wj hD4.rd);clear hn HF hno;go_wp2_with fail;refine HCN.o.mono ?_;rintro e_ w5 ⟨v5,rfl,ho5,hb5⟩;dsimp only;obtain⟨A5,c5,rfl,hs5,hl5⟩:=vT ho5;have hb15:=wg hb14 hb5;have hx5:=hx4.below hb5;have hsz5:w4.heap.size<=w5.heap.size:=hb5.size;have hV:Arr (w5.alloc (aA #[az sd,aw A5 D.length c5,ax ay 0,.bool false] 88)) w5.heap.size 88 (zZ ⟨shaS D,D,0,false⟩ A5 c5):=by
   rw [zZ,<-HSD.o];exact Arr.new w5 88 _
  have hba:=wi w5 (aA #[az sd,aw A5 D.length c5,ax ay 0,.bool false] 88);have hx6:=hx5.below hba;have hs6:=hs5.below hba;have hb06:=wg hb15 hba;have hbs6:w3.heap.size<=(w5.alloc (aA #[az sd,aw A5 D.length c5,ax ay 0,.bool false] 88)).heap.size:=by rw [World.size_alloc];omega
  clear hx4 hx5 hs5 ho5 hb5 hb15 hb14 hba hD4;go_wp2_with fail;generalize w5.alloc (aA #[az sd,aw A5 D.length c5,ax ay 0,.bool false] 88)=w6 at *
  have HIN:=sqH (KR l g i ⟨shaS D,D,0,false⟩ A5 c5 w5.heap.size 1 w6 w3.heap.size (fun b=>b<w3.heap.size) hil wj hbs6 hx6 hV ⟨A5,c5,rfl,hs6⟩ (fun b hb hle=>by
   obtain⟨a,e1,e2⟩:=Zr hle;have:=hl5 a e1;rcases hb with hb | hb<;>omega))
  clear hV hx6 hs6 hbs6;refine HIN.o.mono ?_;rintro e_ w8 ⟨v8,rfl,hx8,hg8⟩;dsimp only;have hb08:=hb06.grown hg8 hb06.size (fun k hk=>by cases hk;exact Nat.le_trans hw03 hg3.1);rw [show l.take i++⟨shaS D,D,0,false⟩::l.drop i=putB l D from HPE.o.symm]at hx8;have HCL:=sqH (Yw v8 (putB l D) w8 w3.heap.size _ wj hx8);obtain⟨A8,c8,rfl,_,_,_⟩:=hx8.rwo.rows;clear hx8 hg8 hb06;go_wp2_with fail;refine HCL.o.mono ?_;rintro e_ w9 ⟨v9,rfl,hx9,hb9⟩;dsimp only;have hb09:=wg hb08 hb9;have hw8:w.heap.size<=w8.heap.size:=hb08.size;have hx10:=(hx9.lower hw8).wider (N':=fun b=>b<w.heap.size) (fun b hb=> .inl (Nat.lt_of_lt_of_le hb hw03));clear hx9 hb9 hb08;go_wp2_with fail;go_ret3;exact⟨_,rfl,hx10,hb09⟩
end Go.Proofs.YtcjndgldjhmbgaaGreat
