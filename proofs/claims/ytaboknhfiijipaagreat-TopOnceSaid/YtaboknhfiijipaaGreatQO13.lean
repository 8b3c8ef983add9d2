/- Lemmas, as stated. -/
import Derived.Test.YtaboknhfiijipaaGreatQO11
import Derived.Test.YtaboknhfiijipaaGreatQO12
set_option linter.unusedVariables false
set_option linter.unusedSimpArgs false
set_option maxRecDepth 100000
set_option maxHeartbeats 8000000
open Go.Proofs.Tryz
open Go.Value renaming slice->aA,int->aB,string->aD
open Go.IntKind renaming i64->aC
open Go.Obj renaming cells->aE
open Option renaming some->aG
namespace Go.Proofs.YtaboknhfiijipaaGreat
open Go.RowKit
theorem z3l (x y:ai):Op.bytesLess y x=(!Op.bytesLess x y&& !(x==y)):=by
 rcases uM x y with h | h | h
 ·rw [h,yu h];rfl
 ·subst h;rw [yv];simp
 ·rw [h,yu h,beq_eq_false_iff_ne.2 (yT h).symm];rfl
theorem Vu (gk:Nat) (d:ai) (l:List BlobP) (w:World) (hk:w.cell? ⟨gk,0,none⟩=aG (aD ⟨d.toArray⟩)) (hg:gk<w.heap.size):Yu w l 138 (.pointer (aG ⟨gk,0,none⟩)) (fun b=>Op.bytesLess d b.dig):=by
 refine⟨fun _ _=>ww,fun b B cb W hb hbel hs=> ?_⟩;have hg1:gk<W.heap.size:=Nat.lt_of_lt_of_le hg hbel.size;have hk0:W.cell? ⟨gk,0,none⟩=aG (aD ⟨d.toArray⟩):=(hbel.cell (p:=⟨gk,0,none⟩) hg).trans hk;generalize hs1:(⟨b.dig.toArray⟩:ByteArray)=s;generalize hs2:(⟨d.toArray⟩:ByteArray)=t at hk0;have hst:Op.bytesLess d b.dig=(!Op.bytesLess s.toList t.toList&& !(s.toList==t.toList)):=by
  rw [<-hs1,<-hs2,ByteArray.toList_eq,ByteArray.toList_eq];exact z3l _ _
 dsimp only;rw [hst];have hb1:=ws W (aE #[aD s,aA B b.data.length cb,aB aC b.aQ,.bool b.mark] 76);have hk1:(W.alloc (aE #[aD s,aA B b.data.length cb,aB aC b.aQ,.bool b.mark] 76)).cell? ⟨gk,0,none⟩=aG (aD t):=(World.cell?_alloc_lt W _ ⟨gk,0,none⟩ hg1).trans hk0;clear hst hs1 hs2;go_enter func138,ntmps138;go_wp2_with fail;go_ret;exact⟨rfl,hb1⟩
def xl (r:Option Nat):Value:=match r with | some i=> .tuple #[aB aC i,aB aC 0] | none=> .tuple #[aB aC 0,aB aC 5]
theorem JC (A:aj) (c:Nat) (l:List BlobP) (d:ai) (w:World) (hl:l.length<=1000000) (hA:Rw BlobS w A l) :
  Calls Tryz.prog 87 #[aA A l.length c,aD ⟨d.toArray⟩] w fun e w'=>e= .returned (xl (l.findIdx? (fun b=>Op.bytesLess d b.dig)))/\Below w.heap.size w w':=by
 obtain⟨s,hs⟩:=wY (⟨d.toArray⟩:ByteArray)
 rw [<-hs];have hA1:=Arr.new w 9 [aD s];have hb1:=ws w (aE #[aD s] 9);have hA1':Arr (w.alloc (aE #[aD s] 9)) w.heap.size 9 [aD s]:=hA1;have hk:=hA1'.c0;have HI:=ZS A c l _ (.pointer (aG ⟨w.heap.size,0,none⟩)) (fun b=>Op.bytesLess d b.dig) (w.alloc (aE #[aD s] 9)) hl (hA.below hb1) (Vu w.heap.size d l _ (by rw [hk,hs]) hA1'.lt);clear hs hA hA1 hA1' hk;cases hf:l.findIdx? (fun b=>Op.bytesLess d b.dig) with
 | none =>
  rw [hf]at HI;have HI:=sqH HI;go_enter func87,ntmps87;go_wp2_with fail;refine wZ HI.o fun w2 hb2=>?_;dsimp only;have hb12:=wm hb1 hb2;go_wp2_with fail;go_ret2;exact⟨rfl,hb12⟩
 | some i =>
  rw [hf]at HI;have HI:=sqH HI;have hi:decide ((i:Int)<0)=false:=decide_eq_false wu;go_enter func87,ntmps87;go_wp2_with fail;refine wZ HI.o fun w2 hb2=>?_;dsimp only;have hb12:=wm hb1 hb2;go_wp2_with fail;go_ret2;exact⟨rfl,hb12⟩
def yng (x y:EntP):Bool:=decide (x.aO<y.aO)||(decide (x.aO=y.aO)&&Op.bytesLess x.key y.key)
def KJ (l:List EntP) (o:Option Nat) (j:Nat) (x:EntP):Option Nat :=
 if x.aQ=0 then (match o with | none=>aG j | some a=>match l[a]? with | none=>aG a | some y=>if yng x y then aG j else aG a) else o
def Zv (l:List EntP):Nat->Option Nat
 | 0=>none
 | j+1=>match l[j]? with | none=>Zv l j | some x=>KJ l (Zv l j) j x
theorem XA (l:List EntP) (j:Nat) (hj:j<l.length):Zv l (j+1)=KJ l (Zv l j) j l[j]:=by
 rw [Zv,List.getElem?_eq_getElem hj]
theorem xw {l:List EntP} {a j:Nat} {x y:EntP} (hp:x.aQ=0) (hy:l[a]?=aG y):KJ l (aG a) j x=if yng x y then aG j else aG a:=by
 unfold KJ;rw [if_pos hp];show(match l[a]? with | none=>aG a | some y=>if yng x y then aG j else aG a)=_;rw [hy]
theorem yZ (l:List EntP):∀j a,Zv l j=aG a->a<j/\a<l.length
 | 0,a,h=>by cases h
 | j+1,a,h=>by
  rw [Zv]at h
  cases hx:l[j]? with
  | none=>rw [hx]at h;have:=yZ l j a h;omega
  | some x =>
   have hj:j<l.length:=(List.getElem?_eq_some_iff.1 hx).1
   rw [hx]at h
   simp only [KJ]at h
   split at h
   ·cases ho:Zv l j with
    | none=>rw [ho]at h;cases h;omega
    | some b =>
     have hb:=yZ l j b ho
     rw [ho]at h
     simp only [List.getElem?_eq_getElem hb.2]at h
     split at h
     ·cases h;omega
     ·cases h;omega
   ·have:=yZ l j a h;omega
theorem Yo (A:aj) (c:Nat) (l:List EntP) (w:World) (hl:l.length<=1000000) (hA:Rw EntS w A l) :
  Calls Tryz.prog 172 #[aA A l.length c] w fun e w'=>e= .returned (xl (Zv l l.length))/\Below w.heap.size w w':=by
 go_enter func172,ntmps172;go_wp2_with fail;go_loopg [4,5,10] l.length (fun gn u1 u2 i wr=>∃j:Nat,gn=l.length - j/\i= aB aC j/\j<=l.length/\u1= aB aC (((Zv l j).getD 0:Nat):Int)/\u2= .bool (Zv l j).isSome/\Below w.heap.size w wr)
 case atStart=>exact⟨0,rfl,rfl,wu,rfl,rfl,Below.refl _ _⟩
 case round =>
  obtain⟨j,hgk,rfl,hj,rfl,rfl,hbl⟩:=hrel;have HGK:=sqH hgk;clear hgk;by_cases hlt:j<l.length
  ·have hcc:decide (j<l.length)=true:=decide_eq_true hlt;have hA2:=hA.below hbl;obtain⟨b,off,B,cb,rfl,hbb,c0,c1,c2,c3,hs⟩:=hA2.ent_at j hlt;have hj0:=we j
   have hj1:(j:Int)<(l.length:Int):=wu;have HO:=sqH (XA l j hlt);have hlo:=yZ l j;clear hs hA;generalize Zv l j=o at *
   have hxe:l[j]?=aG l[j]:=List.getElem?_eq_getElem hlt;generalize l[j]=x at *
   clear hxe;have hb1:=ws wr (aE #[aD ⟨x.key.toArray⟩,aA B x.aP.length cb,aB aC x.aQ,aB aC x.aO] 100);have hb2:=wm hbl hb1;have hX:Arr (wr.alloc (aE #[aD ⟨x.key.toArray⟩,aA B x.aP.length cb,aB aC x.aQ,aB aC x.aO] 100)) wr.heap.size 100 [aD ⟨x.key.toArray⟩,aA B x.aP.length cb,aB aC x.aQ,aB aC x.aO]:=Arr.new wr 100 [aD ⟨x.key.toArray⟩,aA B x.aP.length cb,aB aC x.aQ,aB aC x.aO];have hA3:=hA2.below hb1;clear hA2 hbl hb1;by_cases hp:x.aQ=0
   ·have HP:=sqH hp;have p1:((x.aQ:Int)==0)=true:=by rw [hp];rfl
    clear hp;cases o with
    | none =>
     have hos:KJ l none j x=aG j:=by rw [KJ,if_pos HP.o]
     have HOS:=sqH hos;clear hos hlo hA3;have x2:=hX.c2;go_wp2_with fail;go_quiet (fail);go_wp2_with fail;go_roundg (l.length - (j+1))
     case measure=>exact wc HGK
     case rel=>exact⟨j+1,rfl,by go_num,wu,by(rw [HO.o,HOS.o]<;>rfl),by(rw [HO.o,HOS.o]<;>rfl),zY hb2 _⟩
    | some a =>
     obtain⟨ha1,ha2⟩:=hlo a rfl;clear hlo;obtain⟨b',off',B',cb',e4,hbb',d0,d1,d2,d3,hs'⟩:=hA3.ent_at a ha2;cases e4
     have hya:l[a]?=aG l[a]:=List.getElem?_eq_getElem ha2;generalize l[a]=y at *
     have HY:=sqH hya;have ha0:=we a
     have ha3:(a:Int)<(l.length:Int):=wu;clear hs' hya hA3;simp only [Option.getD_some,Option.isSome_some];have x0:=hX.c0;have x2:=hX.c2;have x3:=hX.c3;obtain⟨xk,hxk⟩:=wY (⟨x.key.toArray⟩:ByteArray)
     obtain⟨yk,hyk⟩:=wY (⟨y.key.toArray⟩:ByteArray)
     have HLK:=sqH (show Op.bytesLess xk.toList yk.toList=Op.bytesLess x.key y.key by rw [hxk,hyk,ByteArray.toList_eq,ByteArray.toList_eq]);rw [<-hxk]at x0 x2 x3 c0 hX hb2;rw [<-hyk]at d0;rw [<-hxk]at d0 d1 d2 d3;clear hxk hyk;by_cases hs1:x.aO<y.aO
     ·have s1:decide ((x.aO:Int)<(y.aO:Int))=true:=decide_eq_true wu;have s1':decide (x.aO<y.aO)=true:=decide_eq_true hs1;have hos:KJ l (aG a) j x=aG j:=by
       rw [xw HP.o HY.o,if_pos (by rw [yng,decide_eq_true hs1];rfl)]
      have HOS:=sqH hos;clear hos hs1;go_wp2_with fail;go_quiet (fail);go_wp2_with fail;go_roundg (l.length - (j+1))
      case measure=>exact wc HGK
      case rel=>exact⟨j+1,rfl,by go_num,wu,by(rw [HO.o,HOS.o]<;>rfl),by(rw [HO.o,HOS.o]<;>rfl),zY hb2 _⟩
     ·have s1:decide ((x.aO:Int)<(y.aO:Int))=false:=decide_eq_false wu;have s1':decide (x.aO<y.aO)=false:=decide_eq_false hs1;by_cases hs2:x.aO=y.aO
      ·have s2:((x.aO:Int)==(y.aO:Int))=true:=by rw [beq_iff_eq];omega
       have s2':(x.aO==y.aO)=true:=by rw [beq_iff_eq];omega
       cases hk:Op.bytesLess x.key y.key with
       | true =>
        have s3:Op.bytesLess xk.toList yk.toList=true:=HLK.o.trans hk;have hos:KJ l (aG a) j x=aG j:=by
         rw [xw HP.o HY.o,if_pos (by rw [yng,decide_eq_false hs1,decide_eq_true hs2,hk];rfl)]
        have HOS:=sqH hos;clear hos hs1 hs2 hk;go_wp2_with fail;go_quiet (fail);go_wp2_with fail;go_roundg (l.length - (j+1))
        case measure=>exact wc HGK
        case rel=>exact⟨j+1,rfl,by go_num,wu,by(rw [HO.o,HOS.o]<;>rfl),by(rw [HO.o,HOS.o]<;>rfl),zY hb2 _⟩
       | false =>
        have s3:Op.bytesLess xk.toList yk.toList=false:=HLK.o.trans hk;have hos:KJ l (aG a) j x=aG a:=by
         rw [xw HP.o HY.o,if_neg (by rw [yng,decide_eq_false hs1,decide_eq_true hs2,hk];simp)]
        have HOS:=sqH hos;clear hos hs1 hs2 hk;go_wp2_with fail;go_quiet (fail);go_wp2_with fail;go_roundg (l.length - (j+1))
        case measure=>exact wc HGK
        case rel=>exact⟨j+1,rfl,by go_num,wu,by(rw [HO.o,HOS.o]<;>rfl),by(rw [HO.o,HOS.o]<;>rfl),zY hb2 _⟩
      ·have s2:((x.aO:Int)==(y.aO:Int))=false:=by rw [beq_eq_false_iff_ne];omega
       have s2':(x.aO==y.aO)=false:=by rw [beq_eq_false_iff_ne];omega
       have hos:KJ l (aG a) j x=aG a:=by
        rw [xw HP.o HY.o,if_neg (by rw [yng,decide_eq_false hs1,decide_eq_false hs2];simp)]
       have HOS:=sqH hos;clear hos hs1 hs2;go_wp2_with fail;go_quiet (fail);go_wp2_with fail;go_roundg (l.length - (j+1))
       case measure=>exact wc HGK
       case rel=>exact⟨j+1,rfl,by go_num,wu,by(rw [HO.o,HOS.o]<;>rfl),by(rw [HO.o,HOS.o]<;>rfl),zY hb2 _⟩
   ·have HP:=sqH hp;have p1:((x.aQ:Int)==0)=false:=by rw [beq_eq_false_iff_ne];omega
    have hos:KJ l o j x=o:=by unfold KJ;rw [if_neg hp]
    have HOS:=sqH hos;have x2:=hX.c2;clear hos hlo hA3 hp;go_wp2_with fail;go_quiet (fail);go_wp2_with fail;go_roundg (l.length - (j+1))
    case measure=>exact wc HGK
    case rel=>exact⟨j+1,rfl,by go_num,wu,by(rw [HO.o,HOS.o]<;>rfl),by(rw [HO.o,HOS.o]<;>rfl),zY hb2 _⟩
  ·obtain rfl:j=l.length:=by omega
   have hcc:decide (l.length<l.length)=false:=ab;have hlo:=yZ l l.length;cases ho:Zv l l.length with
   | none =>
    have HO:=sqH ho;clear ho hlo;go_wp2_with fail;go_ret2;rw [HO.o];exact⟨rfl,hbl⟩
   | some a =>
    have HO:=sqH ho;clear ho hlo;go_wp2_with fail;go_ret2;rw [HO.o];exact⟨rfl,hbl⟩
end Go.Proofs.YtaboknhfiijipaaGreat
