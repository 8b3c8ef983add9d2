/- Lemmas of the proof. Conditions: as stated. -/
import Derived.Test.YtnmlbflhnnmoeaaGreatQX28
set_option linter.unusedVariables false
set_option linter.unusedSimpArgs false
set_option maxRecDepth 100000
set_option maxHeartbeats 8000000
namespace Go.Proofs.YtnmlbflhnnmoeaaGreat
open Go.RowKit
def yng (x y:EntP):Bool:=decide (x.stamp<y.stamp)||(decide (x.stamp=y.stamp)&&Op.bytesLess x.key y.key)
def Zm (l:List EntP) (o:Option Nat) (j:Nat) (x:EntP):Option Nat :=
 if x.pins=0 then (match o with | none=>some j | some a=>match l[a]? with | none=>some a | some y=>if yng x y then some j else some a) else o
def xw (l:List EntP):Nat→Option Nat
 | 0=>none
 | j+1=>match l[j]? with | none=>xw l j | some x=>Zm l (xw l j) j x
theorem Yu (l:List EntP) (j:Nat) (hj:j<l.length):xw l (j+1)=Zm l (xw l j) j l[j]:=by
 rw [xw,List.getElem?_eq_getElem hj]
theorem yF {l:List EntP} {a j:Nat} {x y:EntP} (hp:x.pins=0) (hy:l[a]?=some y):Zm l (some a) j x=if yng x y then some j else some a:=by
 unfold Zm;rw [if_pos hp];show(match l[a]? with | none=>some a | some y=>if yng x y then some j else some a)=_;rw [hy]
theorem k8 (l:List EntP):∀j a,xw l j=some a→a<j∧a<l.length
 | 0,a,h=>by cases h
 | j+1,a,h=>by
  rw [xw]at h
  cases hx:l[j]? with
  | none=>rw [hx]at h;have:=k8 l j a h;omega
  | some x =>
   have hj:j<l.length:=(List.getElem?_eq_some_iff.1 hx).1
   rw [hx]at h
   simp only [Zm]at h
   split at h
   ·cases ho:xw l j with
    | none=>rw [ho]at h;cases h;omega
    | some b =>
     have hb:=k8 l j b ho
     rw [ho]at h
     simp only [List.getElem?_eq_getElem hb.2]at h
     split at h
     ·cases h;omega
     ·cases h;omega
   ·have:=k8 l j a h;omega
theorem XA {x y:EntP} (h:yng x y=false):y.stamp≤x.stamp:=by
 rw [yng,Bool.or_eq_false_iff]at h;have:=of_decide_eq_false h.1;omega
theorem vq (l:List EntP):∀j a (h:a<l.length),xw l j=some a→l[a].pins=0
 | 0,a,_,h=>by cases h
 | j+1,a,ha,h=>by
  rw [xw]at h
  cases hx:l[j]? with
  | none=>rw [hx]at h;exact vq l j a ha h
  | some x =>
   obtain⟨hj,hxe⟩:=List.getElem?_eq_some_iff.1 hx
   rw [hx]at h
   simp only [Zm]at h
   split at h
   ·rename_i hp
    cases ho:xw l j with
    | none=>rw [ho]at h;cases h;rw [hxe];exact hp
    | some b =>
     have hb:=k8 l j b ho
     rw [ho]at h
     simp only [List.getElem?_eq_getElem hb.2]at h
     split at h
     ·cases h;rw [hxe];exact hp
     ·cases h;exact vq l j _ hb.2 ho
   ·exact vq l j a ha h
theorem vw (l:List EntP):∀m,xw l m=none→∀k (hk:k<l.length),k<m→l[k].pins≠0
 | 0,_,k,_,h=>by omega
 | m+1,h,k,hk,hkm=>fun hkp=>by
  rw [xw]at h
  cases hm:l[m]? with
  | none=>have:=List.getElem?_eq_none_iff.1 hm;rw [hm]at h;exact vw l m h k hk (by omega) hkp
  | some y =>
   rw [hm]at h
   simp only [Zm]at h
   split at h
   ·cases hz:xw l m with
    | none=>rw [hz]at h;cases h
    | some b =>
     have hb:=k8 l m b hz
     rw [hz]at h
     simp only [List.getElem?_eq_getElem hb.2]at h
     split at h<;>cases h
   ·rename_i hyp
    rcases Nat.lt_or_ge k m with h2 | h2
    ·exact vw l m h k hk h2 hkp
    ·obtain rfl:k=m:=by omega
     rw [List.getElem?_eq_getElem hk]at hm
     cases hm
     exact hyp hkp
theorem j7 (l:List EntP):∀j a (h:a<l.length),xw l j=some a→∀i (hi:i<l.length),i<j→l[i].pins=0→l[a].stamp≤l[i].stamp
 | 0,a,_,h=>by cases h
 | j+1,a,ha,h=>fun i hi hij hp=>by
  rw [xw]at h
  cases hx:l[j]? with
  | none =>
   rw [hx]at h
   have:=List.getElem?_eq_none_iff.1 hx
   exact j7 l j a ha h i hi (by omega) hp
  | some x =>
   obtain⟨hj,hxe⟩:=List.getElem?_eq_some_iff.1 hx
   rw [hx]at h
   simp only [Zm]at h
   split at h
   ·rename_i hp
    cases ho:xw l j with
    | none =>
     rw [ho]at h;cases h
     rcases Nat.lt_or_ge i j with h1 | h1
     ·exact absurd (by assumption) (vw l j ho i hi h1)
     ·obtain rfl:i=j:=by omega
      exact Nat.le_refl _
    | some b =>
     have hb:=k8 l j b ho
     rw [ho]at h
     simp only [List.getElem?_eq_getElem hb.2]at h
     have hle:=j7 l j b hb.2 ho
     split at h
     ·rename_i hy
      cases h
      have hs:x.stamp≤l[b].stamp:=by
       rw [yng,Bool.or_eq_true]at hy;rcases hy with hy | hy
       ·have:=of_decide_eq_true hy;omega
       ·rw [Bool.and_eq_true]at hy;have:=of_decide_eq_true hy.1;omega
      rw [hxe];rcases Nat.lt_or_ge i j with h1 | h1
      ·exact Nat.le_trans hs (hle i hi h1 (by assumption))
      ·obtain rfl:i=j:=by omega
       rw [hxe];exact Nat.le_refl _
     ·rename_i hy;cases h
      rcases Nat.lt_or_ge i j with h1 | h1
      ·exact hle i hi h1 (by assumption)
      ·obtain rfl:i=j:=by omega
       rw [hxe];exact XA (by simpa using hy)
   ·rename_i hp';rcases Nat.lt_or_ge i j with h1 | h1
    ·exact j7 l j a ha h i hi h1 hp
    ·obtain rfl:i=j:=by omega
     rw [hxe]at hp;exact absurd hp hp'
theorem Xl (A:Option Addr) (c:Nat) (l:List EntP) (w:World) (hl:l.length≤1000000) (hA:Rw EntS w A l) :
  Calls Tryz.prog 90 #[.slice A l.length c] w fun e w'=>e= .returned (jN (xw l l.length))∧Below w.heap.size w w':=by
 go_enter Tryz.func90,Tryz.ntmps90;go_wp2_with fail;go_loopg [4,5,10] l.length (fun gn u1 u2 i wr=>∃j:Nat,gn=l.length - j∧i= .int .i64 j∧j≤l.length∧u1= .int .i64 (((xw l j).getD 0:Nat):Int)∧u2= .bool (xw l j).isSome∧Below w.heap.size w wr)
 case atStart=>exact⟨0,rfl,rfl,by omega,rfl,rfl,Below.refl _ _⟩
 case round =>
  obtain⟨j,hgk,rfl,hj,rfl,rfl,hbl⟩:=hrel;have HGK:=sqH hgk;clear hgk;by_cases hlt:j<l.length
  ·have hcc:decide (j<l.length)=true:=decide_eq_true hlt;have hA2:=hA.below hbl;obtain⟨b,off,B,cb,rfl,hbb,c0,c1,c2,c3,hs⟩:=hA2.ent_at j hlt;have hj0:(0:Int)≤(j:Int):=by omega
   have hj1:(j:Int)<(l.length:Int):=by omega
   have HO:=sqH (Yu l j hlt);have hlo:=k8 l j;clear hs hA;generalize xw l j=o at *
   have hxe:l[j]?=some l[j]:=List.getElem?_eq_getElem hlt;generalize l[j]=x at *
   clear hxe;have hb1:=(Below.refl wr.heap.size wr).alloc (Nat.le_refl _) (.cells #[.string ⟨x.key.toArray⟩,.slice B x.parts.length cb,.int .i64 x.pins,.int .i64 x.stamp] 49);have hb2:=hbl.trans (hb1.mono hbl.size);have hX:Arr (wr.alloc (.cells #[.string ⟨x.key.toArray⟩,.slice B x.parts.length cb,.int .i64 x.pins,.int .i64 x.stamp] 49)) wr.heap.size 49 [.string ⟨x.key.toArray⟩,.slice B x.parts.length cb,.int .i64 x.pins,.int .i64 x.stamp]:=Arr.new wr 49 [.string ⟨x.key.toArray⟩,.slice B x.parts.length cb,.int .i64 x.pins,.int .i64 x.stamp];have hA3:=hA2.below hb1;clear hA2 hbl hb1;by_cases hp:x.pins=0
   ·have HP:=sqH hp;have p1:((x.pins:Int)==0)=true:=by rw [hp];rfl
    clear hp;cases o with
    | none =>
     have hos:Zm l none j x=some j:=by rw [Zm,if_pos HP.out]
     have HOS:=sqH hos;clear hos hlo hA3;have x2:=hX.cell (k:=2) rfl;go_wp2_with fail;go_quiet (fail);go_wp2_with fail;go_roundg (l.length - (j+1))
     case measure=>have:=HGK.out;omega
     case rel=>exact⟨j+1,rfl,by go_num,by omega,by(rw [HO.out,HOS.out]<;>rfl),by(rw [HO.out,HOS.out]<;>rfl),zG hb2 _⟩
    | some a =>
     obtain⟨ha1,ha2⟩:=hlo a rfl;clear hlo;obtain⟨b',off',B',cb',e4,hbb',d0,d1,d2,d3,hs'⟩:=hA3.ent_at a ha2;cases e4
     have hya:l[a]?=some l[a]:=List.getElem?_eq_getElem ha2;generalize l[a]=y at *
     have HY:=sqH hya;have ha0:(0:Int)≤(a:Int):=by omega
     have ha3:(a:Int)<(l.length:Int):=by omega
     clear hs' hya hA3;simp only [Option.getD_some,Option.isSome_some];have x0:=hX.cell (k:=0) rfl;have x2:=hX.cell (k:=2) rfl;have x3:=hX.cell (k:=3) rfl;obtain⟨xk,hxk⟩:∃s:ByteArray,s=⟨x.key.toArray⟩:=⟨_,rfl⟩
     obtain⟨yk,hyk⟩:∃s:ByteArray,s=⟨y.key.toArray⟩:=⟨_,rfl⟩
     have HLK:=sqH (show Op.bytesLess xk.toList yk.toList=Op.bytesLess x.key y.key by rw [hxk,hyk,ByteArray.toList_eq,ByteArray.toList_eq]);rw [←hxk]at x0 x2 x3 c0 hX hb2;rw [←hyk]at d0;rw [←hxk]at d0 d1 d2 d3;clear hxk hyk;by_cases hs1:x.stamp<y.stamp
     ·have s1:decide ((x.stamp:Int)<(y.stamp:Int))=true:=decide_eq_true (by omega);have s1':decide (x.stamp<y.stamp)=true:=decide_eq_true hs1;have hos:Zm l (some a) j x=some j:=by
       rw [yF HP.out HY.out,if_pos (by rw [yng,decide_eq_true hs1];rfl)]
      have HOS:=sqH hos;clear hos hs1;go_wp2_with fail;go_quiet (fail);go_wp2_with fail;go_roundg (l.length - (j+1))
      case measure=>have:=HGK.out;omega
      case rel=>exact⟨j+1,rfl,by go_num,by omega,by(rw [HO.out,HOS.out]<;>rfl),by(rw [HO.out,HOS.out]<;>rfl),zG hb2 _⟩
     ·have s1:decide ((x.stamp:Int)<(y.stamp:Int))=false:=decide_eq_false (by omega);have s1':decide (x.stamp<y.stamp)=false:=decide_eq_false hs1;by_cases hs2:x.stamp=y.stamp
      ·have s2:((x.stamp:Int)==(y.stamp:Int))=true:=by rw [beq_iff_eq];omega
       have s2':(x.stamp==y.stamp)=true:=by rw [beq_iff_eq];omega
       cases hk:Op.bytesLess x.key y.key with
       | true =>
        have s3:Op.bytesLess xk.toList yk.toList=true:=HLK.out.trans hk;have hos:Zm l (some a) j x=some j:=by
         rw [yF HP.out HY.out,if_pos (by rw [yng,decide_eq_false hs1,decide_eq_true hs2,hk];rfl)]
        have HOS:=sqH hos;clear hos hs1 hs2 hk;go_wp2_with fail;go_quiet (fail);go_wp2_with fail;go_roundg (l.length - (j+1))
        case measure=>have:=HGK.out;omega
        case rel=>exact⟨j+1,rfl,by go_num,by omega,by(rw [HO.out,HOS.out]<;>rfl),by(rw [HO.out,HOS.out]<;>rfl),zG hb2 _⟩
       | false =>
        have s3:Op.bytesLess xk.toList yk.toList=false:=HLK.out.trans hk;have hos:Zm l (some a) j x=some a:=by
         rw [yF HP.out HY.out,if_neg (by rw [yng,decide_eq_false hs1,decide_eq_true hs2,hk];simp)]
        have HOS:=sqH hos;clear hos hs1 hs2 hk;go_wp2_with fail;go_quiet (fail);go_wp2_with fail;go_roundg (l.length - (j+1))
        case measure=>have:=HGK.out;omega
        case rel=>exact⟨j+1,rfl,by go_num,by omega,by(rw [HO.out,HOS.out]<;>rfl),by(rw [HO.out,HOS.out]<;>rfl),zG hb2 _⟩
      ·have s2:((x.stamp:Int)==(y.stamp:Int))=false:=by rw [beq_eq_false_iff_ne];omega
       have s2':(x.stamp==y.stamp)=false:=by rw [beq_eq_false_iff_ne];omega
       have hos:Zm l (some a) j x=some a:=by
        rw [yF HP.out HY.out,if_neg (by rw [yng,decide_eq_false hs1,decide_eq_false hs2];simp)]
       have HOS:=sqH hos;clear hos hs1 hs2;go_wp2_with fail;go_quiet (fail);go_wp2_with fail;go_roundg (l.length - (j+1))
       case measure=>have:=HGK.out;omega
       case rel=>exact⟨j+1,rfl,by go_num,by omega,by(rw [HO.out,HOS.out]<;>rfl),by(rw [HO.out,HOS.out]<;>rfl),zG hb2 _⟩
   ·have HP:=sqH hp;have p1:((x.pins:Int)==0)=false:=by rw [beq_eq_false_iff_ne];omega
    have hos:Zm l o j x=o:=by unfold Zm;rw [if_neg hp]
    have HOS:=sqH hos;have x2:=hX.cell (k:=2) rfl;clear hos hlo hA3 hp;go_wp2_with fail;go_quiet (fail);go_wp2_with fail;go_roundg (l.length - (j+1))
    case measure=>have:=HGK.out;omega
    case rel=>exact⟨j+1,rfl,by go_num,by omega,by(rw [HO.out,HOS.out]<;>rfl),by(rw [HO.out,HOS.out]<;>rfl),zG hb2 _⟩
  ·obtain rfl:j=l.length:=by omega
   have hcc:decide (l.length<l.length)=false:=by simp
   have hlo:=k8 l l.length;cases ho:xw l l.length with
   | none =>
    have HO:=sqH ho;clear ho hlo;go_wp2_with fail;go_ret2;rw [HO.out];exact⟨rfl,hbl⟩
   | some a =>
    have HO:=sqH ho;clear ho hlo;go_wp2_with fail;go_ret2;rw [HO.out];exact⟨rfl,hbl⟩
end Go.Proofs.YtnmlbflhnnmoeaaGreat
