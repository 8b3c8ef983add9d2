/- Lemmas, as stated. -/
import Derived.Test.YtaboknhfiijipaaGreatQT11
import Derived.Test.YtaboknhfiijipaaGreatQT12
set_option linter.unusedVariables false
set_option linter.unusedSimpArgs false
set_option maxRecDepth 100000
set_option maxHeartbeats 8000000
open Go.Proofs.Tryz
open Go.Value renaming slice->ax,int->ay,string->aA
open Go.IntKind renaming i64->az
open Go.Obj renaming cells->aB
open Option renaming some->aD
namespace Go.Proofs.YtaboknhfiijipaaGreat
open Go.RowKit
theorem z2y (x y:ae):Op.bytesLess y x=(!Op.bytesLess x y&& !(x==y)):=by
 rcases uH x y with h | h | h
 ·rw [h,yt h];rfl
 ·subst h;rw [yu];simp
 ·rw [h,yt h,beq_eq_false_iff_ne.2 (yR h).symm];rfl
theorem Vp (gk:Nat) (d:ae) (l:List BlobP) (w:World) (hk:w.cell? ⟨gk,0,none⟩=aD (aA ⟨d.toArray⟩)) (hg:gk<w.heap.size):Yr w l 138 (.pointer (aD ⟨gk,0,none⟩)) (fun b=>Op.bytesLess d b.dig):=by
 refine⟨fun _ _=>wo,fun b B cb W hb hbel hs=> ?_⟩;have hg1:gk<W.heap.size:=Nat.lt_of_lt_of_le hg hbel.size;have hk0:W.cell? ⟨gk,0,none⟩=aD (aA ⟨d.toArray⟩):=(hbel.cell (p:=⟨gk,0,none⟩) hg).trans hk;generalize hs1:(⟨b.dig.toArray⟩:ByteArray)=s;generalize hs2:(⟨d.toArray⟩:ByteArray)=t at hk0;have hst:Op.bytesLess d b.dig=(!Op.bytesLess s.toList t.toList&& !(s.toList==t.toList)):=by
  rw [<-hs1,<-hs2,ByteArray.toList_eq,ByteArray.toList_eq];exact z2y _ _
 dsimp only;rw [hst];have hb1:=wj W (aB #[aA s,ax B b.data.length cb,ay az b.aN,.bool b.mark] 76);have hk1:(W.alloc (aB #[aA s,ax B b.data.length cb,ay az b.aN,.bool b.mark] 76)).cell? ⟨gk,0,none⟩=aD (aA t):=(World.cell?_alloc_lt W _ ⟨gk,0,none⟩ hg1).trans hk0;clear hst hs1 hs2;go_enter func138,ntmps138;go_wp2_with fail;go_ret;exact⟨rfl,hb1⟩
def xf (r:Option Nat):Value:=match r with | some i=> .tuple #[ay az i,ay az 0] | none=> .tuple #[ay az 0,ay az 5]
theorem Jp (A:af) (c:Nat) (l:List BlobP) (d:ae) (w:World) (hl:l.length<=1000000) (hA:Rw BlobS w A l) :
  Calls Tryz.prog 87 #[ax A l.length c,aA ⟨d.toArray⟩] w fun e w'=>e= .returned (xf (l.findIdx? (fun b=>Op.bytesLess d b.dig)))/\Below w.heap.size w w':=by
 obtain⟨s,hs⟩:=wV (⟨d.toArray⟩:ByteArray)
 rw [<-hs];have hA1:=Arr.new w 9 [aA s];have hb1:=wj w (aB #[aA s] 9);have hA1':Arr (w.alloc (aB #[aA s] 9)) w.heap.size 9 [aA s]:=hA1;have hk:=hA1'.c0;have HI:=ZS A c l _ (.pointer (aD ⟨w.heap.size,0,none⟩)) (fun b=>Op.bytesLess d b.dig) (w.alloc (aB #[aA s] 9)) hl (hA.below hb1) (Vp w.heap.size d l _ (by rw [hk,hs]) hA1'.lt);clear hs hA hA1 hA1' hk;cases hf:l.findIdx? (fun b=>Op.bytesLess d b.dig) with
 | none =>
  rw [hf]at HI;have HI:=sqH HI;go_enter func87,ntmps87;go_wp2_with fail;refine wW HI.o fun w2 hb2=>?_;dsimp only;have hb12:=wh hb1 hb2;go_wp2_with fail;go_ret2;exact⟨rfl,hb12⟩
 | some i =>
  rw [hf]at HI;have HI:=sqH HI;have hi:decide ((i:Int)<0)=false:=decide_eq_false wm;go_enter func87,ntmps87;go_wp2_with fail;refine wW HI.o fun w2 hb2=>?_;dsimp only;have hb12:=wh hb1 hb2;go_wp2_with fail;go_ret2;exact⟨rfl,hb12⟩
def yng (x y:EntP):Bool:=decide (x.aL<y.aL)||(decide (x.aL=y.aL)&&Op.bytesLess x.key y.key)
def KH (l:List EntP) (o:Option Nat) (j:Nat) (x:EntP):Option Nat :=
 if x.aN=0 then (match o with | none=>aD j | some a=>match l[a]? with | none=>aD a | some y=>if yng x y then aD j else aD a) else o
def Zt (l:List EntP):Nat->Option Nat
 | 0=>none
 | j+1=>match l[j]? with | none=>Zt l j | some x=>KH l (Zt l j) j x
theorem Xw (l:List EntP) (j:Nat) (hj:j<l.length):Zt l (j+1)=KH l (Zt l j) j l[j]:=by
 rw [Zt,List.getElem?_eq_getElem hj]
theorem xm {l:List EntP} {a j:Nat} {x y:EntP} (hp:x.aN=0) (hy:l[a]?=aD y):KH l (aD a) j x=if yng x y then aD j else aD a:=by
 unfold KH;rw [if_pos hp];show(match l[a]? with | none=>aD a | some y=>if yng x y then aD j else aD a)=_;rw [hy]
theorem yV (l:List EntP):∀j a,Zt l j=aD a->a<j/\a<l.length
 | 0,a,h=>by cases h
 | j+1,a,h=>by
  rw [Zt]at h
  cases hx:l[j]? with
  | none=>rw [hx]at h;have:=yV l j a h;omega
  | some x =>
   have hj:j<l.length:=(List.getElem?_eq_some_iff.1 hx).1
   rw [hx]at h
   simp only [KH]at h
   split at h
   ·cases ho:Zt l j with
    | none=>rw [ho]at h;cases h;omega
    | some b =>
     have hb:=yV l j b ho
     rw [ho]at h
     simp only [List.getElem?_eq_getElem hb.2]at h
     split at h
     ·cases h;omega
     ·cases h;omega
   ·have:=yV l j a h;omega
theorem Ym (A:af) (c:Nat) (l:List EntP) (w:World) (hl:l.length<=1000000) (hA:Rw EntS w A l) :
  Calls Tryz.prog 172 #[ax A l.length c] w fun e w'=>e= .returned (xf (Zt l l.length))/\Below w.heap.size w w':=by
 go_enter func172,ntmps172;go_wp2_with fail;go_loopg [4,5,10] l.length (fun gn u1 u2 i wr=>∃j:Nat,gn=l.length - j/\i= ay az j/\j<=l.length/\u1= ay az (((Zt l j).getD 0:Nat):Int)/\u2= .bool (Zt l j).isSome/\Below w.heap.size w wr)
 case atStart=>exact⟨0,rfl,rfl,wm,rfl,rfl,Below.refl _ _⟩
 case round =>
  obtain⟨j,hgk,rfl,hj,rfl,rfl,hbl⟩:=hrel;have HGK:=sqH hgk;clear hgk;by_cases hlt:j<l.length
  ·have hcc:decide (j<l.length)=true:=decide_eq_true hlt;have hA2:=hA.below hbl;obtain⟨b,off,B,cb,rfl,hbb,c0,c1,c2,c3,hs⟩:=hA2.ent_at j hlt;have hj0:=wY j
   have hj1:(j:Int)<(l.length:Int):=wm;have HO:=sqH (Xw l j hlt);have hlo:=yV l j;clear hs hA;generalize Zt l j=o at *
   have hxe:l[j]?=aD l[j]:=List.getElem?_eq_getElem hlt;generalize l[j]=x at *
   clear hxe;have hb1:=wj wr (aB #[aA ⟨x.key.toArray⟩,ax B x.aM.length cb,ay az x.aN,ay az x.aL] 100);have hb2:=wh hbl hb1;have hX:Arr (wr.alloc (aB #[aA ⟨x.key.toArray⟩,ax B x.aM.length cb,ay az x.aN,ay az x.aL] 100)) wr.heap.size 100 [aA ⟨x.key.toArray⟩,ax B x.aM.length cb,ay az x.aN,ay az x.aL]:=Arr.new wr 100 [aA ⟨x.key.toArray⟩,ax B x.aM.length cb,ay az x.aN,ay az x.aL];have hA3:=hA2.below hb1;clear hA2 hbl hb1;by_cases hp:x.aN=0
   ·have HP:=sqH hp;have p1:((x.aN:Int)==0)=true:=by rw [hp];rfl
    clear hp;cases o with
    | none =>
     have hos:KH l none j x=aD j:=by rw [KH,if_pos HP.o]
     have HOS:=sqH hos;clear hos hlo hA3;have x2:=hX.c2;go_wp2_with fail;go_quiet (fail);go_wp2_with fail;go_roundg (l.length - (j+1))
     case measure=>exact wX HGK
     case rel=>exact⟨j+1,rfl,by go_num,wm,by(rw [HO.o,HOS.o]<;>rfl),by(rw [HO.o,HOS.o]<;>rfl),zW hb2 _⟩
    | some a =>
     obtain⟨ha1,ha2⟩:=hlo a rfl;clear hlo;obtain⟨b',off',B',cb',e4,hbb',d0,d1,d2,d3,hs'⟩:=hA3.ent_at a ha2;cases e4
     have hya:l[a]?=aD l[a]:=List.getElem?_eq_getElem ha2;generalize l[a]=y at *
     have HY:=sqH hya;have ha0:=wY a
     have ha3:(a:Int)<(l.length:Int):=wm;clear hs' hya hA3;simp only [Option.getD_some,Option.isSome_some];have x0:=hX.c0;have x2:=hX.c2;have x3:=hX.c3;obtain⟨xk,hxk⟩:=wV (⟨x.key.toArray⟩:ByteArray)
     obtain⟨yk,hyk⟩:=wV (⟨y.key.toArray⟩:ByteArray)
     have HLK:=sqH (show Op.bytesLess xk.toList yk.toList=Op.bytesLess x.key y.key by rw [hxk,hyk,ByteArray.toList_eq,ByteArray.toList_eq]);rw [<-hxk]at x0 x2 x3 c0 hX hb2;rw [<-hyk]at d0;rw [<-hxk]at d0 d1 d2 d3;clear hxk hyk;by_cases hs1:x.aL<y.aL
     ·have s1:decide ((x.aL:Int)<(y.aL:Int))=true:=decide_eq_true wm;have s1':decide (x.aL<y.aL)=true:=decide_eq_true hs1;have hos:KH l (aD a) j x=aD j:=by
       rw [xm HP.o HY.o,if_pos (by rw [yng,decide_eq_true hs1];rfl)]
      have HOS:=sqH hos;clear hos hs1;go_wp2_with fail;go_quiet (fail);go_wp2_with fail;go_roundg (l.length - (j+1))
      case measure=>exact wX HGK
      case rel=>exact⟨j+1,rfl,by go_num,wm,by(rw [HO.o,HOS.o]<;>rfl),by(rw [HO.o,HOS.o]<;>rfl),zW hb2 _⟩
     ·have s1:decide ((x.aL:Int)<(y.aL:Int))=false:=decide_eq_false wm;have s1':decide (x.aL<y.aL)=false:=decide_eq_false hs1;by_cases hs2:x.aL=y.aL
      ·have s2:((x.aL:Int)==(y.aL:Int))=true:=by rw [beq_iff_eq];omega
       have s2':(x.aL==y.aL)=true:=by rw [beq_iff_eq];omega
       cases hk:Op.bytesLess x.key y.key with
       | true =>
        have s3:Op.bytesLess xk.toList yk.toList=true:=HLK.o.trans hk;have hos:KH l (aD a) j x=aD j:=by
         rw [xm HP.o HY.o,if_pos (by rw [yng,decide_eq_false hs1,decide_eq_true hs2,hk];rfl)]
        have HOS:=sqH hos;clear hos hs1 hs2 hk;go_wp2_with fail;go_quiet (fail);go_wp2_with fail;go_roundg (l.length - (j+1))
        case measure=>exact wX HGK
        case rel=>exact⟨j+1,rfl,by go_num,wm,by(rw [HO.o,HOS.o]<;>rfl),by(rw [HO.o,HOS.o]<;>rfl),zW hb2 _⟩
       | false =>
        have s3:Op.bytesLess xk.toList yk.toList=false:=HLK.o.trans hk;have hos:KH l (aD a) j x=aD a:=by
         rw [xm HP.o HY.o,if_neg (by rw [yng,decide_eq_false hs1,decide_eq_true hs2,hk];simp)]
        have HOS:=sqH hos;clear hos hs1 hs2 hk;go_wp2_with fail;go_quiet (fail);go_wp2_with fail;go_roundg (l.length - (j+1))
        case measure=>exact wX HGK
        case rel=>exact⟨j+1,rfl,by go_num,wm,by(rw [HO.o,HOS.o]<;>rfl),by(rw [HO.o,HOS.o]<;>rfl),zW hb2 _⟩
      ·have s2:((x.aL:Int)==(y.aL:Int))=false:=by rw [beq_eq_false_iff_ne];omega
       have s2':(x.aL==y.aL)=false:=by rw [beq_eq_false_iff_ne];omega
       have hos:KH l (aD a) j x=aD a:=by
        rw [xm HP.o HY.o,if_neg (by rw [yng,decide_eq_false hs1,decide_eq_false hs2];simp)]
       have HOS:=sqH hos;clear hos hs1 hs2;go_wp2_with fail;go_quiet (fail);go_wp2_with fail;go_roundg (l.length - (j+1))
       case measure=>exact wX HGK
       case rel=>exact⟨j+1,rfl,by go_num,wm,by(rw [HO.o,HOS.o]<;>rfl),by(rw [HO.o,HOS.o]<;>rfl),zW hb2 _⟩
   ·have HP:=sqH hp;have p1:((x.aN:Int)==0)=false:=by rw [beq_eq_false_iff_ne];omega
    have hos:KH l o j x=o:=by unfold KH;rw [if_neg hp]
    have HOS:=sqH hos;have x2:=hX.c2;clear hos hlo hA3 hp;go_wp2_with fail;go_quiet (fail);go_wp2_with fail;go_roundg (l.length - (j+1))
    case measure=>exact wX HGK
    case rel=>exact⟨j+1,rfl,by go_num,wm,by(rw [HO.o,HOS.o]<;>rfl),by(rw [HO.o,HOS.o]<;>rfl),zW hb2 _⟩
  ·obtain rfl:j=l.length:=by omega
   have hcc:decide (l.length<l.length)=false:=wu;have hlo:=yV l l.length;cases ho:Zt l l.length with
   | none =>
    have HO:=sqH ho;clear ho hlo;go_wp2_with fail;go_ret2;rw [HO.o];exact⟨rfl,hbl⟩
   | some a =>
    have HO:=sqH ho;clear ho hlo;go_wp2_with fail;go_ret2;rw [HO.o];exact⟨rfl,hbl⟩
end Go.Proofs.YtaboknhfiijipaaGreat
