/- Lemmas, as stated. -/
import Derived.Test.YtcjndgldjhmbgaaGreatQE08
import Derived.Test.YtcjndgldjhmbgaaGreatQE14
set_option linter.unusedVariables false
set_option linter.unusedSimpArgs false
set_option maxRecDepth 100000
set_option maxHeartbeats 8000000
open Go.Proofs.Tryz
open Go.Value renaming slice->aw,int->ax,string->az
open Go.IntKind renaming i64->ay
open Go.Obj renaming cells->aA
open Option renaming some->aC
namespace Go.Proofs.YtcjndgldjhmbgaaGreat
open Go.RowKit
theorem z48 (x y:ac):Op.bytesLess y x=(!Op.bytesLess x y&& !(x==y)):=by
 rcases uV x y with h | h | h
 ·rw [h,yv h];rfl
 ·subst h;rw [yw];simp
 ·rw [h,yv h,beq_eq_false_iff_ne.2 (yT h).symm];rfl
theorem U1 (gk:Nat) (d:ac) (l:List BlobP) (w:World) (hk:w.cell? ⟨gk,0,none⟩=aC (az ⟨d.toArray⟩)) (hg:gk<w.heap.size):YZ w l 152 (.pointer (aC ⟨gk,0,none⟩)) (fun b=>Op.bytesLess d b.dig):=by
 refine⟨fun _ _=>wm,fun b B cb W hb hbel hs=> ?_⟩;have hg1:gk<W.heap.size:=Nat.lt_of_lt_of_le hg hbel.size;have hk0:W.cell? ⟨gk,0,none⟩=aC (az ⟨d.toArray⟩):=(hbel.cell (p:=⟨gk,0,none⟩) hg).trans hk;generalize hs1:(⟨b.dig.toArray⟩:ByteArray)=s;generalize hs2:(⟨d.toArray⟩:ByteArray)=t at hk0;have hst:Op.bytesLess d b.dig=(!Op.bytesLess s.toList t.toList&& !(s.toList==t.toList)):=by
  rw [<-hs1,<-hs2,ByteArray.toList_eq,ByteArray.toList_eq];exact z48 _ _
 dsimp only;rw [hst];have hb1:=wi W (aA #[az s,aw B b.data.length cb,ax ay b.pins,.bool b.mark] 88);have hk1:(W.alloc (aA #[az s,aw B b.data.length cb,ax ay b.pins,.bool b.mark] 88)).cell? ⟨gk,0,none⟩=aC (az t):=(World.cell?_alloc_lt W _ ⟨gk,0,none⟩ hg1).trans hk0;clear hst hs1 hs2;go_enter func152,ntmps152;go_wp2_with fail;go_ret;exact⟨rfl,hb1⟩
def xn (r:Option Nat):Value:=match r with | some i=> .tuple #[ax ay i,ax ay 0] | none=> .tuple #[ax ay 0,ax ay 5]
theorem z05 (A:ae) (c:Nat) (l:List BlobP) (d:ac) (w:World) (hl:l.length<=1000000) (hA:Rw BlobS w A l) :
  Calls Tryz.prog 105 #[aw A l.length c,az ⟨d.toArray⟩] w fun e w'=>e= .returned (xn (l.findIdx? (fun b=>Op.bytesLess d b.dig)))/\Below w.heap.size w w':=by
 obtain⟨s,hs⟩:=wU (⟨d.toArray⟩:ByteArray)
 rw [<-hs];have hA1:=Arr.new w 9 [az s];have hb1:=wi w (aA #[az s] 9);have hA1':Arr (w.alloc (aA #[az s] 9)) w.heap.size 9 [az s]:=hA1;have hk:=hA1'.c0;have HI:=Qf A c l _ (.pointer (aC ⟨w.heap.size,0,none⟩)) (fun b=>Op.bytesLess d b.dig) (w.alloc (aA #[az s] 9)) hl (hA.below hb1) (U1 w.heap.size d l _ (by rw [hk,hs]) hA1'.lt);clear hs hA hA1 hA1' hk;cases hf:l.findIdx? (fun b=>Op.bytesLess d b.dig) with
 | none =>
  rw [hf]at HI;have HI:=sqH HI;go_enter func105,ntmps105;go_wp2_with fail;refine wV HI.o fun w2 hb2=>?_;dsimp only;have hb12:=wg hb1 hb2;go_wp2_with fail;go_ret2;exact⟨rfl,hb12⟩
 | some i =>
  rw [hf]at HI;have HI:=sqH HI;have hi:decide ((i:Int)<0)=false:=decide_eq_false wj;go_enter func105,ntmps105;go_wp2_with fail;refine wV HI.o fun w2 hb2=>?_;dsimp only;have hb12:=wg hb1 hb2;go_wp2_with fail;go_ret2;exact⟨rfl,hb12⟩
def yng (x y:EntP):Bool:=decide (x.aK<y.aK)||(decide (x.aK=y.aK)&&Op.bytesLess x.key y.key)
def Yg (l:List EntP) (o:Option Nat) (j:Nat) (x:EntP):Option Nat :=
 if x.pins=0 then (match o with | none=>aC j | some a=>match l[a]? with | none=>aC a | some y=>if yng x y then aC j else aC a) else o
def ZR (l:List EntP):Nat->Option Nat
 | 0=>none
 | j+1=>match l[j]? with | none=>ZR l j | some x=>Yg l (ZR l j) j x
theorem V3 (l:List EntP) (j:Nat) (hj:j<l.length):ZR l (j+1)=Yg l (ZR l j) j l[j]:=by
 rw [ZR,List.getElem?_eq_getElem hj]
theorem xt {l:List EntP} {a j:Nat} {x y:EntP} (hp:x.pins=0) (hy:l[a]?=aC y):Yg l (aC a) j x=if yng x y then aC j else aC a:=by
 unfold Yg;rw [if_pos hp];show(match l[a]? with | none=>aC a | some y=>if yng x y then aC j else aC a)=_;rw [hy]
theorem yY (l:List EntP):∀j a,ZR l j=aC a->a<j/\a<l.length
 | 0,a,h=>by cases h
 | j+1,a,h=>by
  rw [ZR]at h
  cases hx:l[j]? with
  | none=>rw [hx]at h;have:=yY l j a h;omega
  | some x =>
   have hj:j<l.length:=(List.getElem?_eq_some_iff.1 hx).1
   rw [hx]at h
   simp only [Yg]at h
   split at h
   ·cases ho:ZR l j with
    | none=>rw [ho]at h;cases h;omega
    | some b =>
     have hb:=yY l j b ho
     rw [ho]at h
     simp only [List.getElem?_eq_getElem hb.2]at h
     split at h
     ·cases h;omega
     ·cases h;omega
   ·have:=yY l j a h;omega
theorem YS (A:ae) (c:Nat) (l:List EntP) (w:World) (hl:l.length<=1000000) (hA:Rw EntS w A l) :
  Calls Tryz.prog 183 #[aw A l.length c] w fun e w'=>e= .returned (xn (ZR l l.length))/\Below w.heap.size w w':=by
 go_enter func183,ntmps183;go_wp2_with fail;go_loopg [4,5,10] l.length (fun gn u1 u2 i wr=>∃j:Nat,gn=l.length - j/\i= ax ay j/\j<=l.length/\u1= ax ay (((ZR l j).getD 0:Nat):Int)/\u2= .bool (ZR l j).isSome/\Below w.heap.size w wr)
 case atStart=>exact⟨0,rfl,rfl,wj,rfl,rfl,Below.refl _ _⟩
 case round =>
  obtain⟨j,hgk,rfl,hj,rfl,rfl,hbl⟩:=hrel;have HGK:=sqH hgk;clear hgk;by_cases hlt:j<l.length
  ·have hcc:decide (j<l.length)=true:=decide_eq_true hlt;have hA2:=hA.below hbl;obtain⟨b,off,B,cb,rfl,hbb,c0,c1,c2,c3,hs⟩:=hA2.ent_at j hlt;have hj0:=wX j
   have hj1:(j:Int)<(l.length:Int):=wj
   have HO:=sqH (V3 l j hlt);have hlo:=yY l j;clear hs hA;generalize ZR l j=o at *
   have hxe:l[j]?=aC l[j]:=List.getElem?_eq_getElem hlt;generalize l[j]=x at *
   clear hxe;have hb1:=wi wr (aA #[az ⟨x.key.toArray⟩,aw B x.parts.length cb,ax ay x.pins,ax ay x.aK] 109);have hb2:=wg hbl hb1;have hX:Arr (wr.alloc (aA #[az ⟨x.key.toArray⟩,aw B x.parts.length cb,ax ay x.pins,ax ay x.aK] 109)) wr.heap.size 109 [az ⟨x.key.toArray⟩,aw B x.parts.length cb,ax ay x.pins,ax ay x.aK]:=Arr.new wr 109 [az ⟨x.key.toArray⟩,aw B x.parts.length cb,ax ay x.pins,ax ay x.aK];have hA3:=hA2.below hb1;clear hA2 hbl hb1;by_cases hp:x.pins=0
   ·have HP:=sqH hp;have p1:((x.pins:Int)==0)=true:=by rw [hp];rfl
    clear hp;cases o with
    | none =>
     have hos:Yg l none j x=aC j:=by rw [Yg,if_pos HP.o]
     have HOS:=sqH hos;clear hos hlo hA3;have x2:=hX.c2;go_wp2_with fail;go_quiet (fail);go_wp2_with fail;go_roundg (l.length - (j+1))
     case measure=>exact wW HGK
     case rel=>exact⟨j+1,rfl,by go_num,wj,by(rw [HO.o,HOS.o]<;>rfl),by(rw [HO.o,HOS.o]<;>rfl),zN hb2 _⟩
    | some a =>
     obtain⟨ha1,ha2⟩:=hlo a rfl;clear hlo;obtain⟨b',off',B',cb',e4,hbb',d0,d1,d2,d3,hs'⟩:=hA3.ent_at a ha2;cases e4
     have hya:l[a]?=aC l[a]:=List.getElem?_eq_getElem ha2;generalize l[a]=y at *
     have HY:=sqH hya;have ha0:=wX a
     have ha3:(a:Int)<(l.length:Int):=wj
     clear hs' hya hA3;simp only [Option.getD_some,Option.isSome_some];have x0:=hX.c0;have x2:=hX.c2;have x3:=hX.c3;obtain⟨xk,hxk⟩:=wU (⟨x.key.toArray⟩:ByteArray)
     obtain⟨yk,hyk⟩:=wU (⟨y.key.toArray⟩:ByteArray)
     have HLK:=sqH (show Op.bytesLess xk.toList yk.toList=Op.bytesLess x.key y.key by rw [hxk,hyk,ByteArray.toList_eq,ByteArray.toList_eq]);rw [<-hxk]at x0 x2 x3 c0 hX hb2;rw [<-hyk]at d0;rw [<-hxk]at d0 d1 d2 d3;clear hxk hyk;by_cases hs1:x.aK<y.aK
     ·have s1:decide ((x.aK:Int)<(y.aK:Int))=true:=decide_eq_true wj;have s1':decide (x.aK<y.aK)=true:=decide_eq_true hs1;have hos:Yg l (aC a) j x=aC j:=by
       rw [xt HP.o HY.o,if_pos (by rw [yng,decide_eq_true hs1];rfl)]
      have HOS:=sqH hos;clear hos hs1;go_wp2_with fail;go_quiet (fail);go_wp2_with fail;go_roundg (l.length - (j+1))
      case measure=>exact wW HGK
      case rel=>exact⟨j+1,rfl,by go_num,wj,by(rw [HO.o,HOS.o]<;>rfl),by(rw [HO.o,HOS.o]<;>rfl),zN hb2 _⟩
     ·have s1:decide ((x.aK:Int)<(y.aK:Int))=false:=decide_eq_false wj;have s1':decide (x.aK<y.aK)=false:=decide_eq_false hs1;by_cases hs2:x.aK=y.aK
      ·have s2:((x.aK:Int)==(y.aK:Int))=true:=by rw [beq_iff_eq];omega
       have s2':(x.aK==y.aK)=true:=by rw [beq_iff_eq];omega
       cases hk:Op.bytesLess x.key y.key with
       | true =>
        have s3:Op.bytesLess xk.toList yk.toList=true:=HLK.o.trans hk;have hos:Yg l (aC a) j x=aC j:=by
         rw [xt HP.o HY.o,if_pos (by rw [yng,decide_eq_false hs1,decide_eq_true hs2,hk];rfl)]
        have HOS:=sqH hos;clear hos hs1 hs2 hk;go_wp2_with fail;go_quiet (fail);go_wp2_with fail;go_roundg (l.length - (j+1))
        case measure=>exact wW HGK
        case rel=>exact⟨j+1,rfl,by go_num,wj,by(rw [HO.o,HOS.o]<;>rfl),by(rw [HO.o,HOS.o]<;>rfl),zN hb2 _⟩
       | false =>
        have s3:Op.bytesLess xk.toList yk.toList=false:=HLK.o.trans hk;have hos:Yg l (aC a) j x=aC a:=by
         rw [xt HP.o HY.o,if_neg (by rw [yng,decide_eq_false hs1,decide_eq_true hs2,hk];simp)]
        have HOS:=sqH hos;clear hos hs1 hs2 hk;go_wp2_with fail;go_quiet (fail);go_wp2_with fail;go_roundg (l.length - (j+1))
        case measure=>exact wW HGK
        case rel=>exact⟨j+1,rfl,by go_num,wj,by(rw [HO.o,HOS.o]<;>rfl),by(rw [HO.o,HOS.o]<;>rfl),zN hb2 _⟩
      ·have s2:((x.aK:Int)==(y.aK:Int))=false:=by rw [beq_eq_false_iff_ne];omega
       have s2':(x.aK==y.aK)=false:=by rw [beq_eq_false_iff_ne];omega
       have hos:Yg l (aC a) j x=aC a:=by
        rw [xt HP.o HY.o,if_neg (by rw [yng,decide_eq_false hs1,decide_eq_false hs2];simp)]
       have HOS:=sqH hos;clear hos hs1 hs2;go_wp2_with fail;go_quiet (fail);go_wp2_with fail;go_roundg (l.length - (j+1))
       case measure=>exact wW HGK
       case rel=>exact⟨j+1,rfl,by go_num,wj,by(rw [HO.o,HOS.o]<;>rfl),by(rw [HO.o,HOS.o]<;>rfl),zN hb2 _⟩
   ·have HP:=sqH hp;have p1:((x.pins:Int)==0)=false:=by rw [beq_eq_false_iff_ne];omega
    have hos:Yg l o j x=o:=by unfold Yg;rw [if_neg hp]
    have HOS:=sqH hos;have x2:=hX.c2;clear hos hlo hA3 hp;go_wp2_with fail;go_quiet (fail);go_wp2_with fail;go_roundg (l.length - (j+1))
    case measure=>exact wW HGK
    case rel=>exact⟨j+1,rfl,by go_num,wj,by(rw [HO.o,HOS.o]<;>rfl),by(rw [HO.o,HOS.o]<;>rfl),zN hb2 _⟩
  ·obtain rfl:j=l.length:=by omega
   have hcc:decide (l.length<l.length)=false:=ws
   have hlo:=yY l l.length;cases ho:ZR l l.length with
   | none =>
    have HO:=sqH ho;clear ho hlo;go_wp2_with fail;go_ret2;rw [HO.o];exact⟨rfl,hbl⟩
   | some a =>
    have HO:=sqH ho;clear ho hlo;go_wp2_with fail;go_ret2;rw [HO.o];exact⟨rfl,hbl⟩
end Go.Proofs.YtcjndgldjhmbgaaGreat
