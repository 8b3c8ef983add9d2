/- Lemmas of the proof. Conditions: as stated. -/
import Derived.Test.YtfmnggcfhalfnaaGreatQW17
import Derived.Test.YtfmnggcfhalfnaaGreatQW20
set_option linter.unusedVariables false
set_option linter.unusedSimpArgs false
set_option maxRecDepth 100000
set_option maxHeartbeats 8000000
namespace Go.Proofs.YtfmnggcfhalfnaaGreat
open Go.RowKit
theorem yp:∀x y:List UInt8,Lib.compareBytes x y=0↔x=y
 | [], []=>by simp [Lib.compareBytes]
 | [],_::_=>by simp [Lib.compareBytes]
 | _::_, []=>by simp [Lib.compareBytes]
 | a::x,b::y=>by
  rw [Lib.compareBytes]
  rcases jX a b with h | h | h
  ·rw [if_pos h]
   exact⟨fun e=>by omega,fun e=>by cases e;exact absurd h (UInt8.lt_irrefl _)⟩
  ·subst h
   rw [if_neg (UInt8.lt_irrefl _),if_neg (UInt8.lt_irrefl _),yp x y]
   simp
  ·rw [if_neg (UInt8.lt_asymm h),if_pos h]
   exact⟨fun e=>by omega,fun e=>by cases e;exact absurd h (UInt8.lt_irrefl _)⟩
theorem vt (s t:ByteArray) (v1 v2 v3:Value) (w:World) :
  Calls Tryz.prog 56 #[.agg #[.string s,v1,v2,v3],.string t] w fun e w'=>e= .returned (.int .i64 (Lib.compareBytes s.data.toList t.data.toList))∧Below w.heap.size w w':=by
 have hA1:=Arr.new w 32 [.string s,v1,v2,v3];have hA:Arr (w.alloc (.cells #[.string s,v1,v2,v3] 32)) w.heap.size 32 [.string s,v1,v2,v3]:=hA1;have hb:=(Below.refl w.heap.size w).alloc (Nat.le_refl _) (.cells #[.string s,v1,v2,v3] 32);have a0:=hA.cell (k:=0) rfl;have HC:=sqH (fun W=>Tryz.strings_Compare s t W);clear hA1 hA;go_enter Tryz.func56,Tryz.ntmps56;go_wp2_with fail;generalize w.alloc (.cells #[.string s,v1,v2,v3] 32)=W at *
 refine(HC.out W).mono ?_;rintro e_ w1 ⟨rfl,rfl⟩;dsimp only;go_wp2_with fail;go_ret;exact⟨rfl,hb⟩
theorem vu (s t:ByteArray) (v1 v2 v3:Value) (w:World) :
  Calls Tryz.prog 65 #[.agg #[.string s,v1,v2,v3],.string t] w fun e w'=>e= .returned (.int .i64 (Lib.compareBytes s.data.toList t.data.toList))∧Below w.heap.size w w':=by
 have hA1:=Arr.new w 35 [.string s,v1,v2,v3];have hA:Arr (w.alloc (.cells #[.string s,v1,v2,v3] 35)) w.heap.size 35 [.string s,v1,v2,v3]:=hA1;have hb:=(Below.refl w.heap.size w).alloc (Nat.le_refl _) (.cells #[.string s,v1,v2,v3] 35);have a0:=hA.cell (k:=0) rfl;have HC:=sqH (fun W=>Tryz.strings_Compare s t W);clear hA1 hA;go_enter Tryz.func65,Tryz.ntmps65;go_wp2_with fail;generalize w.alloc (.cells #[.string s,v1,v2,v3] 35)=W at *
 refine(HC.out W).mono ?_;rintro e_ w1 ⟨rfl,rfl⟩;dsimp only;go_wp2_with fail;go_ret;exact⟨rfl,hb⟩
theorem ZH (A:Option Addr) (c:Nat) (l:List BlobP) (d:List UInt8) (w:World) (hl:l.length≤100000) (hris:RisesBy (·.dig) l) (hA:Rw BlobS w A l) :
  Calls Tryz.prog 55 #[.slice A l.length c,.string ⟨d.toArray⟩,.func (.func 56) #[] #[]] w fun e w' =>
   ∃i f,e= .returned (.tuple #[.int .i64 ((i:Nat):Int),.bool f])∧i≤l.length∧(∀k (h:k<l.length),k<i→Op.bytesLess l[k].dig d=true)∧(∀k (h:k<l.length),i≤k→Op.bytesLess l[k].dig d=false)∧(f=true↔∃h:i<l.length,l[i].dig=d)∧Below w.heap.size w w':=by
 obtain⟨t,ht⟩:∃t:ByteArray,t=⟨d.toArray⟩:=⟨_,rfl⟩
 rw [←ht];have HT:=sqH ht;have HRI:=sqH hris;clear ht hris;have HCM:=sqH (fun (x:BlobP) (A':Option Addr) (c':Nat) W=>vt ⟨x.dig.toArray⟩ t (.slice A' x.data.length c') (.int .i64 x.pins) (.bool x.mark) W);go_enter Tryz.func55,Tryz.ntmps55
 repeat' (fail_if_success (first|at_builtin|at_make));first|go_values|go_skip|go_guarded|go_step|go_upon|go_back
 go_loopg [9,10] l.length (fun gn u v wr=>∃i j:Nat,gn=j - i∧u= .int .i64 i∧v= .int .i64 j∧i≤j∧j≤l.length∧(∀k (h:k<l.length),k<i→Op.bytesLess l[k].dig d=true)∧(∀k (h:k<l.length),j≤k→Op.bytesLess l[k].dig d=false)∧Below w.heap.size w wr)
 case atStart=>exact⟨0,l.length,rfl,rfl,rfl,by omega,by omega,fun k _ h=>absurd h (by omega),fun k h h'=>absurd h (by omega),Below.refl _ _⟩
 case round =>
  obtain⟨i,j,hgk,rfl,rfl,hij,hjl,h1,h2,hbl⟩:=hrel;have HGK:=sqH hgk;have H1:=sqH h1;have H2:=sqH h2;clear hgk h1 h2;by_cases hlt:i<j
  ·have hcc:decide (i<j)=true:=decide_eq_true hlt;have hhl:(i+j) / 2<l.length:=by omega
   obtain⟨b,off,B,cb,rfl,hbb,c0,c1,c2,c3,hs⟩:=(hA.below hbl).blob_at ((i+j) / 2) hhl;have hcm:=HCM.out l[(i+j) / 2] B cb wr;have HM:=sqH (show(((i:Int)+(j:Int)) / 2=(((i+j) / 2:Nat):Int))∧(((i:Int)+(j:Int)) / 2+1=(((i+j) / 2+1:Nat):Int)) from⟨by omega,by omega⟩);have hps:=List.pairwise_iff_getElem.1 HRI.out;obtain⟨sx,hsx⟩:∃s:ByteArray,s=⟨(l[(i+j) / 2]).dig.toArray⟩:=⟨_,rfl⟩
   rw [←hsx]at c0 hcm;have hcp:Lib.compareBytes sx.data.toList t.data.toList=Lib.compareBytes (l[(i+j) / 2]).dig d:=by rw [hsx,HT.out]
   rw [hcp]at hcm;cases hle:Op.bytesLess (l[(i+j) / 2]).dig d with
   | true =>
    have hz:=qh hle;have HP:=sqH (show ∀k (h:k<l.length),k<(i+j) / 2+1→Op.bytesLess l[k].dig d=true from fun k h hk=>by
     rcases Nat.lt_or_ge k ((i+j) / 2) with h1 | h1
     ·exact zy (hps k _ h hhl h1) hle
     ·have:k=(i+j) / 2:=by omega
      subst this;exact hle)
    clear hps hle hsx hcp hs;generalize Lib.compareBytes (l[(i+j) / 2]).dig d=z at *
    generalize l[(i+j) / 2]=x at *
    have hz1:decide (z<0)=true:=decide_eq_true hz;have HCL:=sqH hcm;clear hcm;go_wp2_with fail;refine HCL.out.mono ?_;rintro e_ w5 ⟨rfl,hb5⟩;dsimp only;have hbl5:=hbl.trans (hb5.mono hbl.size);go_wp2_with fail;go_roundg (j - ((i+j) / 2+1))
    case measure=>have:=HGK.out;omega
    case rel=>exact⟨(i+j) / 2+1,j,rfl,by rw [HM.out.2],rfl,by omega,hjl,HP.out,H2.out,hbl5⟩
   | false =>
    have hz:=qg hle;have HP:=sqH (show ∀k (h:k<l.length),(i+j) / 2≤k→Op.bytesLess l[k].dig d=false from fun k h hk=>by
     rcases Nat.lt_or_ge ((i+j) / 2) k with h1 | h1
     ·cases hq:Op.bytesLess l[k].dig d with
      | false=>rfl
      | true=>have:=zy (hps _ k hhl h h1) hq;rw [hle]at this;cases this
     ·have:k=(i+j) / 2:=by omega
      subst this;exact hle)
    clear hps hle hsx hcp hs;generalize Lib.compareBytes (l[(i+j) / 2]).dig d=z at *
    generalize l[(i+j) / 2]=x at *
    have hz1:decide (z<0)=false:=decide_eq_false hz;have HCL:=sqH hcm;clear hcm;go_wp2_with fail;refine HCL.out.mono ?_;rintro e_ w5 ⟨rfl,hb5⟩;dsimp only;have hbl5:=hbl.trans (hb5.mono hbl.size);go_wp2_with fail;go_roundg ((i+j) / 2 - i)
    case measure=>have:=HGK.out;omega
    case rel=>exact⟨i,(i+j) / 2,rfl,rfl,by rw [HM.out.1],by omega,by omega,H1.out,HP.out,hbl5⟩
  ·obtain rfl:i=j:=by omega
   have hcc:decide (i<i)=false:=by simp
   by_cases hin:i<l.length
   ·have hcd:decide (i<l.length)=true:=decide_eq_true hin;have hi0:(0:Int)≤(i:Int):=by omega
    have hi1:(i:Int)<(l.length:Int):=by omega
    obtain⟨b,off,B,cb,rfl,hbb,c0,c1,c2,c3,hs⟩:=(hA.below hbl).blob_at i hin;have hcm:=HCM.out l[i] B cb wr;obtain⟨sx,hsx⟩:∃s:ByteArray,s=⟨(l[i]).dig.toArray⟩:=⟨_,rfl⟩
    rw [←hsx]at c0 hcm;have hcp:Lib.compareBytes sx.data.toList t.data.toList=Lib.compareBytes (l[i]).dig d:=by rw [hsx,HT.out]
    rw [hcp]at hcm;have HQ:=sqH (yp (l[i]).dig d);have HE:=sqH (show((∃h:i<l.length,l[i].dig=d)↔l[i].dig=d) from⟨fun ⟨_,h⟩=>h,fun h=>⟨hin,h⟩⟩);clear hsx hcp hs;generalize Lib.compareBytes (l[i]).dig d=z at *
    generalize l[i]=x at *
    have HCL:=sqH hcm;clear hcm;go_wp2_with fail;refine HCL.out.mono ?_;rintro e_ w5 ⟨rfl,hb5⟩;dsimp only;have hbl5:=hbl.trans (hb5.mono hbl.size);go_wp2_with fail;go_ret2;refine⟨i,z==0,rfl,by omega,H1.out,H2.out,?_,hbl5⟩;rw [HE.out,beq_iff_eq,HQ.out]
   ·have hcd:decide (i<l.length)=false:=decide_eq_false hin
    repeat' (fail_if_success (first|at_builtin|at_make));first|go_values|go_skip|go_guarded|go_step|go_upon|go_back
    go_ret2;refine⟨i,false,rfl,by omega,H1.out,H2.out,⟨fun h=>(by cases h),fun ⟨h,_⟩=>absurd h hin⟩,hbl⟩
theorem ZI (A:Option Addr) (c:Nat) (l:List EntP) (d:List UInt8) (w:World) (hl:l.length≤100000) (hris:RisesBy (·.key) l) (hA:Rw EntS w A l) :
  Calls Tryz.prog 64 #[.slice A l.length c,.string ⟨d.toArray⟩,.func (.func 65) #[] #[]] w fun e w' =>
   ∃i f,e= .returned (.tuple #[.int .i64 ((i:Nat):Int),.bool f])∧i≤l.length∧(∀k (h:k<l.length),k<i→Op.bytesLess l[k].key d=true)∧(∀k (h:k<l.length),i≤k→Op.bytesLess l[k].key d=false)∧(f=true↔∃h:i<l.length,l[i].key=d)∧Below w.heap.size w w':=by
 obtain⟨t,ht⟩:∃t:ByteArray,t=⟨d.toArray⟩:=⟨_,rfl⟩
 rw [←ht];have HT:=sqH ht;have HRI:=sqH hris;clear ht hris;have HCM:=sqH (fun (x:EntP) (A':Option Addr) (c':Nat) W=>vu ⟨x.key.toArray⟩ t (.slice A' x.parts.length c') (.int .i64 x.pins) (.int .i64 x.stamp) W);go_enter Tryz.func64,Tryz.ntmps64
 repeat' (fail_if_success (first|at_builtin|at_make));first|go_values|go_skip|go_guarded|go_step|go_upon|go_back
 go_loopg [9,10] l.length (fun gn u v wr=>∃i j:Nat,gn=j - i∧u= .int .i64 i∧v= .int .i64 j∧i≤j∧j≤l.length∧(∀k (h:k<l.length),k<i→Op.bytesLess l[k].key d=true)∧(∀k (h:k<l.length),j≤k→Op.bytesLess l[k].key d=false)∧Below w.heap.size w wr)
 case atStart=>exact⟨0,l.length,rfl,rfl,rfl,by omega,by omega,fun k _ h=>absurd h (by omega),fun k h h'=>absurd h (by omega),Below.refl _ _⟩
 case round =>
  obtain⟨i,j,hgk,rfl,rfl,hij,hjl,h1,h2,hbl⟩:=hrel;have HGK:=sqH hgk;have H1:=sqH h1;have H2:=sqH h2;clear hgk h1 h2;by_cases hlt:i<j
  ·have hcc:decide (i<j)=true:=decide_eq_true hlt;have hhl:(i+j) / 2<l.length:=by omega
   obtain⟨b,off,B,cb,rfl,hbb,c0,c1,c2,c3,hs⟩:=(hA.below hbl).ent_at ((i+j) / 2) hhl;have hcm:=HCM.out l[(i+j) / 2] B cb wr;have HM:=sqH (show(((i:Int)+(j:Int)) / 2=(((i+j) / 2:Nat):Int))∧(((i:Int)+(j:Int)) / 2+1=(((i+j) / 2+1:Nat):Int)) from⟨by omega,by omega⟩);have hps:=List.pairwise_iff_getElem.1 HRI.out;obtain⟨sx,hsx⟩:∃s:ByteArray,s=⟨(l[(i+j) / 2]).key.toArray⟩:=⟨_,rfl⟩
   rw [←hsx]at c0 hcm;have hcp:Lib.compareBytes sx.data.toList t.data.toList=Lib.compareBytes (l[(i+j) / 2]).key d:=by rw [hsx,HT.out]
   rw [hcp]at hcm;cases hle:Op.bytesLess (l[(i+j) / 2]).key d with
   | true =>
    have hz:=qh hle;have HP:=sqH (show ∀k (h:k<l.length),k<(i+j) / 2+1→Op.bytesLess l[k].key d=true from fun k h hk=>by
     rcases Nat.lt_or_ge k ((i+j) / 2) with h1 | h1
     ·exact zy (hps k _ h hhl h1) hle
     ·have:k=(i+j) / 2:=by omega
      subst this;exact hle)
    clear hps hle hsx hcp hs;generalize Lib.compareBytes (l[(i+j) / 2]).key d=z at *
    generalize l[(i+j) / 2]=x at *
    have hz1:decide (z<0)=true:=decide_eq_true hz;have HCL:=sqH hcm;clear hcm;go_wp2_with fail;refine HCL.out.mono ?_;rintro e_ w5 ⟨rfl,hb5⟩;dsimp only;have hbl5:=hbl.trans (hb5.mono hbl.size);go_wp2_with fail;go_roundg (j - ((i+j) / 2+1))
    case measure=>have:=HGK.out;omega
    case rel=>exact⟨(i+j) / 2+1,j,rfl,by rw [HM.out.2],rfl,by omega,hjl,HP.out,H2.out,hbl5⟩
   | false =>
    have hz:=qg hle;have HP:=sqH (show ∀k (h:k<l.length),(i+j) / 2≤k→Op.bytesLess l[k].key d=false from fun k h hk=>by
     rcases Nat.lt_or_ge ((i+j) / 2) k with h1 | h1
     ·cases hq:Op.bytesLess l[k].key d with
      | false=>rfl
      | true=>have:=zy (hps _ k hhl h h1) hq;rw [hle]at this;cases this
     ·have:k=(i+j) / 2:=by omega
      subst this;exact hle)
    clear hps hle hsx hcp hs;generalize Lib.compareBytes (l[(i+j) / 2]).key d=z at *
    generalize l[(i+j) / 2]=x at *
    have hz1:decide (z<0)=false:=decide_eq_false hz;have HCL:=sqH hcm;clear hcm;go_wp2_with fail;refine HCL.out.mono ?_;rintro e_ w5 ⟨rfl,hb5⟩;dsimp only;have hbl5:=hbl.trans (hb5.mono hbl.size);go_wp2_with fail;go_roundg ((i+j) / 2 - i)
    case measure=>have:=HGK.out;omega
    case rel=>exact⟨i,(i+j) / 2,rfl,rfl,by rw [HM.out.1],by omega,by omega,H1.out,HP.out,hbl5⟩
  ·obtain rfl:i=j:=by omega
   have hcc:decide (i<i)=false:=by simp
   by_cases hin:i<l.length
   ·have hcd:decide (i<l.length)=true:=decide_eq_true hin;have hi0:(0:Int)≤(i:Int):=by omega
    have hi1:(i:Int)<(l.length:Int):=by omega
    obtain⟨b,off,B,cb,rfl,hbb,c0,c1,c2,c3,hs⟩:=(hA.below hbl).ent_at i hin;have hcm:=HCM.out l[i] B cb wr;obtain⟨sx,hsx⟩:∃s:ByteArray,s=⟨(l[i]).key.toArray⟩:=⟨_,rfl⟩
    rw [←hsx]at c0 hcm;have hcp:Lib.compareBytes sx.data.toList t.data.toList=Lib.compareBytes (l[i]).key d:=by rw [hsx,HT.out]
    rw [hcp]at hcm;have HQ:=sqH (yp (l[i]).key d);have HE:=sqH (show((∃h:i<l.length,l[i].key=d)↔l[i].key=d) from⟨fun ⟨_,h⟩=>h,fun h=>⟨hin,h⟩⟩);clear hsx hcp hs;generalize Lib.compareBytes (l[i]).key d=z at *
    generalize l[i]=x at *
    have HCL:=sqH hcm;clear hcm;go_wp2_with fail;refine HCL.out.mono ?_;rintro e_ w5 ⟨rfl,hb5⟩;dsimp only;have hbl5:=hbl.trans (hb5.mono hbl.size);go_wp2_with fail;go_ret2;refine⟨i,z==0,rfl,by omega,H1.out,H2.out,?_,hbl5⟩;rw [HE.out,beq_iff_eq,HQ.out]
   ·have hcd:decide (i<l.length)=false:=decide_eq_false hin
    repeat' (fail_if_success (first|at_builtin|at_make));first|go_values|go_skip|go_guarded|go_step|go_upon|go_back
    go_ret2;refine⟨i,false,rfl,by omega,H1.out,H2.out,⟨fun h=>(by cases h),fun ⟨h,_⟩=>absurd h hin⟩,hbl⟩
theorem vm (gk:Nat) (d:List UInt8) (l:List EntP) (w:World) (hk:w.cell? ⟨gk,0,none⟩=some (.string ⟨d.toArray⟩)) (hg:gk<w.heap.size):xJ w l 68 (.pointer (some ⟨gk,0,none⟩)) (fun b=>b.key==d):=by
 refine⟨fun _ _=>by kernel_rfl,fun b B cb W hb hbel hs=> ?_⟩;have hg1:gk<W.heap.size:=Nat.lt_of_lt_of_le hg hbel.size;have hk0:W.cell? ⟨gk,0,none⟩=some (.string ⟨d.toArray⟩):=(hbel.cell (p:=⟨gk,0,none⟩) hg).trans hk;generalize hs1:(⟨b.key.toArray⟩:ByteArray)=s;generalize hs2:(⟨d.toArray⟩:ByteArray)=t at hk0;have hst:(b.key==d)=(s.toList==t.toList):=by
  rw [←hs1,←hs2,ByteArray.toList_eq,ByteArray.toList_eq]
 dsimp only;rw [hst];have hb1:=(Below.refl W.heap.size W).alloc (Nat.le_refl _) (.cells #[.string s,.slice B b.parts.length cb,.int .i64 b.pins,(.int .i64 b.stamp)] 35);have hk1:(W.alloc (.cells #[.string s,.slice B b.parts.length cb,.int .i64 b.pins,(.int .i64 b.stamp)] 35)).cell? ⟨gk,0,none⟩=some (.string t):=(World.cell?_alloc_lt W _ ⟨gk,0,none⟩ hg1).trans hk0;clear hst hs1 hs2;go_enter Tryz.func68,Tryz.ntmps68;go_wp2_with fail;go_ret;exact⟨rfl,hb1⟩
theorem xE (A:Option Addr) (c:Nat) (l:List EntP) (d:List UInt8) (w:World) (hl:l.length≤1000000) (hA:Rw EntS w A l) :
  Calls Tryz.prog 34 #[.slice A l.length c,.string ⟨d.toArray⟩] w fun e w'=>e= .returned (ZF (l.findIdx? (fun x=>x.key==d)))∧Below w.heap.size w w':=by
 obtain⟨s,hs⟩:∃s:ByteArray,s=⟨d.toArray⟩:=⟨_,rfl⟩
 rw [←hs];have hA1:=Arr.new w 9 [.string s];have hb1:=(Below.refl w.heap.size w).alloc (Nat.le_refl _) (.cells #[.string s] 9);have hA1':Arr (w.alloc (.cells #[.string s] 9)) w.heap.size 9 [.string s]:=hA1;have hk:=hA1'.cell (k:=0) rfl;have HI:=vQ A c l _ (.pointer (some ⟨w.heap.size,0,none⟩)) (fun x=>x.key==d) (w.alloc (.cells #[.string s] 9)) hl (hA.below hb1) (vm w.heap.size d l _ (by rw [hk,hs]) hA1'.lt);clear hs hA hA1 hA1' hk;cases hf:l.findIdx? (fun x=>x.key==d) with
 | none =>
  rw [hf]at HI;have HI:=sqH HI;go_enter Tryz.func34,Tryz.ntmps34;go_wp2_with fail;refine HI.out.mono ?_;rintro e_ w2 ⟨rfl,hb2⟩;dsimp only;have hb12:=hb1.trans (hb2.mono hb1.size);go_wp2_with fail;go_ret2;exact⟨rfl,hb12⟩
 | some i =>
  rw [hf]at HI;have HI:=sqH HI;have hi:decide ((i:Int)<0)=false:=decide_eq_false (by omega);go_enter Tryz.func34,Tryz.ntmps34;go_wp2_with fail;refine HI.out.mono ?_;rintro e_ w2 ⟨rfl,hb2⟩;dsimp only;have hb12:=hb1.trans (hb2.mono hb1.size);go_wp2_with fail;go_ret2;exact⟨rfl,hb12⟩
theorem Z9 (A:Option Addr) (c:Nat) (l:List EntP) (x:EntP) (PA:Option Addr) (pc:Nat) (w:World) (hg:GoodE l) (hx:GoodE1 x) (hlen:l.length<10) (hA:Rw EntS w A l) (hP:Sl w 3 PA x.parts.length pc (pcs x.parts)) :
  Calls Tryz.prog 33 #[.slice A l.length c,.agg #[.string ⟨x.key.toArray⟩,.slice PA x.parts.length pc,.int .i64 x.pins,.int .i64 x.stamp]] w fun e w' =>
   ∃v,e= .returned (.tuple #[v,.int .i64 0])∧RwX EntS 35 w' w.heap.size v (kg l x) (fun b=>b<w.heap.size)∧Below w.heap.size w w':=by
 have HGD:=sqH (uM hg hx hlen);have hpl:x.parts.length≤8:=(zl hx.2.1).1;have hg1:=hg.ris;obtain⟨sx,hsx⟩:∃s:ByteArray,s=⟨x.key.toArray⟩:=⟨_,rfl⟩
 rw [←hsx];have hX:Arr (w.alloc (.cells #[.string sx,.slice PA x.parts.length pc,.int .i64 x.pins,.int .i64 x.stamp] 35)) w.heap.size 35 [.string sx,.slice PA x.parts.length pc,.int .i64 x.pins,.int .i64 x.stamp]:=Arr.new w 35 _;have hb1:=(Below.refl w.heap.size w).alloc (Nat.le_refl _) (.cells #[.string sx,.slice PA x.parts.length pc,.int .i64 x.pins,.int .i64 x.stamp] 35);have HC1:=sqH (qC A c l _ hg (hA.below hb1));have hA1:=hA.below hb1;have hP1:=hP.below hb1;have HSX:=sqH hsx;obtain⟨H,hH⟩:∃H,H=w.heap.size:=⟨_,rfl⟩
 have hlt1:=hX.lt;rw [←hH]at hX hlt1;have hgl:l.length≤10:=hg.len;have HPL:=sqH (show ∀y∈l,y.parts.length≤1000000 from fun y hy=>by have:=(zl (hg.one y hy).2.1).1;omega);have HA0:=sqH hA;clear hg hx hA hP hsx;go_enter Tryz.func33,Tryz.ntmps33;go_wp2_with fail;rw [←hH];have HH:=sqH hH;clear hH;generalize w.alloc (.cells #[.string sx,.slice PA x.parts.length pc,.int .i64 x.pins,.int .i64 x.stamp] 35)=w1 at *
 refine HC1.out.mono ?_;rintro e_ w2 ⟨rfl,hb2⟩;dsimp only;have hb12:=hb1.trans (hb2.mono hb1.size);have hX2:=hX.below hb2;have hA2:=hA1.below hb2;have hP2:=hP1.below hb2;have k0:=hX2.cell (k:=0) rfl;have HBS:=ZI A c l x.key w2 (by omega) hg1 hA2;rw [←HSX.out]at HBS;have HBS:=sqH HBS;clear hX hA1 hP1;go_wp2_with fail;clear k0;refine HBS.out.mono ?_;rintro e_ w3 ⟨i,f,rfl,hil,P1,P2,hf,hb3⟩;dsimp only;have hb13:=hb12.trans (hb3.mono hb12.size);have hX3:=hX2.below hb3;have hA3:=hA2.below hb3;have hP3:=hP2.below hb3;have HF:=sqH hf;have HP1:=sqH P1;have HP2:=sqH P2;have HG1:=sqH hg1;have HCP:=sqH (xD A c l w3 (by omega) (fun y hy=>HPL.out y hy) hA3);clear hX2 hA2 hP2 hf P1 P2 hg1;go_wp2_with fail;refine HCP.out.mono ?_;rintro e_ w4 ⟨g,rfl,hx4,hb4⟩;dsimp only;have hb14:=hb13.trans (hb4.mono hb13.size);have hX4:=hX3.below hb4;have hP4:=hP3.below hb4;have hH3:=hX3.lt;have y1:=hX4.cell (k:=1) rfl;have HCN:=sqH (qc PA x.parts.length pc (pcs x.parts) w4 (by omega) hP4.rd (xq _));have hg3:=(hx4.rwo.blk rfl)
 clear hX3 hA3 hP3;go_wp2_with fail;clear y1;refine HCN.out.mono ?_;rintro e_ w5 ⟨v5,rfl,ho5,hb5⟩;dsimp only;obtain⟨A5,c5,rfl,hs5,hl5⟩:=yi ho5;have hX5:=hX4.below hb5;have hx5:=hx4.below hb5;have hb15:=hb14.trans (hb5.mono hb14.size);have f1:=hX5.frozen 1;have y1:=hX5.cell (k:=1) rfl;have hx6:=hx5.set (g:=H) (k:=1) hH3 hH3 (.slice A5 x.parts.length c5);have hX6:=hX5.set (k:=1) (by simp) (.slice A5 x.parts.length c5);have hs6:=hs5.other (g:=H) (k:=1) (fun a ha=>by have:=hl5 a ha;have:=hX4.lt;omega) (.slice A5 x.parts.length c5);have hb06:=hb15.setCell (p:=⟨H,1,none⟩) (by rw [←HH.out];exact Nat.le_refl _) (.slice A5 x.parts.length c5);have hsz4:w4.heap.size≤w5.heap.size:=hb5.size;have hgb:g<w4.heap.size:=hg3.2;have hw03:w.heap.size≤w3.heap.size:=hb13.size;have hw34:w3.heap.size≤w4.heap.size:=hb4.size;clear hx4 hx5 hX4 hX5 hP4 ho5 hs5 hb4 hb5 hb15 hb14 hb13;have hX6':Arr (w5.setCell ⟨H,1,none⟩ (.slice A5 x.parts.length c5)) H 35 [.string sx,.slice A5 x.parts.length c5,.int .i64 x.pins,.int .i64 x.stamp]:=hX6;clear hX6;cases f with
 | true =>
  obtain⟨hi,he⟩:=HF.out.1 rfl;have HPE:=sqH (show kg l x=l.set i { x with pins:=l[i].pins } by
   unfold kg;rw [xN (f:=fun y:EntP=>y.key) HP1.out hi he];show l.set i { x with pins:=(match l[i]? with | some y=>y.pins | none=>0) }=_;rw [List.getElem?_eq_getElem hi])
  obtain⟨b,off,B,cb,rfl,hbb,d0,d1,d2,d3,_⟩:=(HA0.out.below hb06).ent_at i hi;have hi0:(0:Int)≤(i:Int):=by omega
  have hi1:(i:Int)<(l.length:Int):=by omega
  clear he;generalize l[i].pins=pn at *
  have f2:=hX6'.frozen 2;have y2:=hX6'.cell (k:=2) rfl;have hX7:Arr ((w5.setCell ⟨H,1,none⟩ (.slice A5 x.parts.length c5)).setCell ⟨H,2,none⟩ (.int .i64 pn)) H 35 [.string sx,.slice A5 x.parts.length c5,.int .i64 pn,.int .i64 x.stamp]:=hX6'.set (k:=2) (by simp) _;have hx7:=hx6.set (g:=H) (k:=2) hH3 hH3 (.int .i64 pn);have hs7:=hs6.other (g:=H) (k:=2) (fun a ha=>by have:=hl5 a ha;omega) (.int .i64 pn);have hb07:=hb06.setCell (p:=⟨H,2,none⟩) (by rw [←HH.out];exact Nat.le_refl _) (.int .i64 pn);obtain⟨ps7,hx7o,hx7l⟩:∃cs,Arr ((w5.setCell ⟨H,1,none⟩ (.slice A5 x.parts.length c5)).setCell ⟨H,2,none⟩ (.int .i64 pn)) g 35 cs∧cs.length=l.length*4:=by
   obtain⟨ps,_,_,h3,_⟩:=hx7;obtain⟨g',cap',cs,e1,_,h4,_,_,h5,_⟩:=ZS h3 (by omega);injection e1 with e11 _ e13;injection e11 with e11;injection e11 with e11;subst e11 e13;exact⟨cs,h4,h5⟩
  have q0:=hx7o.cell (k:=i*4) (List.getElem?_eq_getElem (by omega));have q1:=hx7o.cell (k:=i*4+1) (List.getElem?_eq_getElem (by omega));have q2:=hx7o.cell (k:=i*4+2) (List.getElem?_eq_getElem (by omega));have q3:=hx7o.cell (k:=i*4+3) (List.getElem?_eq_getElem (by omega));have p0:=hx7o.frozen (i*4);have p1:=hx7o.frozen (i*4+1);have p2:=hx7o.frozen (i*4+2);have p3:=hx7o.frozen (i*4+3);obtain⟨k0,k1,k2,k3⟩:=sqC4 hX7;obtain⟨hx8,hg8⟩:=hx7.put4 (x:= { x with pins:=pn }) (u0:= .string sx) (u1:= .slice A5 x.parts.length c5) (u2:= .int .i64 pn) (u3:= .int .i64 x.stamp) rfl hi ⟨A5,c5,by rw [HSX.out];rfl,hs7⟩ (fun b hb ⟨a,n',c',hm,e⟩=>by
   simp only [List.mem_cons,List.not_mem_nil,or_false,Value.slice.injEq,reduceCtorEq,false_or]at hm;have:=hl5 a hm.1.symm;rcases hb with hb | hb<;>omega)
  have hb08:=hb07.grown hg8 hb07.size (fun k hk=>by cases hk;exact Nat.le_trans hw03 hg3.1);rw [show l.set i { x with pins:=pn }=kg l x from HPE.out.symm]at hx8;have hlen8:(kg l x).length=l.length:=by rw [HPE.out,List.length_set]
  rw [put4]at hx8 hg8 hb08;clear hx7o hx6 hs6 hX6' hx7 hs7 hb06 hb07 hg8 hX7;go_wp2_with fail;clear d0 d1 d2 d3 f2 y2 q0 q1 q2 q3 p0 p1 p2 p3 k0 k1 k2 k3 hx7l;generalize (((((w5.setCell ⟨H,1,none⟩ (.slice A5 x.parts.length c5)).setCell ⟨H,2,none⟩ (.int .i64 pn)).setCell ⟨g,i*4,none⟩ (.string sx)).setCell ⟨g,i*4+1,none⟩ (.slice A5 x.parts.length c5)).setCell ⟨g,i*4+2,none⟩ (.int .i64 pn)).setCell ⟨g,i*4+3,none⟩ (.int .i64 x.stamp)=w8 at *
  have HC8:=qC (some ⟨g,0,none⟩) l.length (kg l x) w8 HGD.out (by
   obtain⟨A',c',e1,_,_,h⟩:=hx8.rwo.rows;injection e1 with e2;rw [e2];exact h)
  rw [hlen8]at HC8;have HC8:=sqH HC8;refine HC8.out.mono ?_;rintro e_ w9 ⟨rfl,hb9⟩;dsimp only;have hx9:=((hx8.below hb9).lower hw03).wider (N':=fun b=>b<w.heap.size) (fun b hb=> .inl (Nat.lt_of_lt_of_le hb hw03));have hb09:=hb08.trans (hb9.mono hb08.size);clear hx8 hb08 hb9;go_wp2_with fail;go_ret2;exact⟨_,rfl,hx9,hb09⟩
 | false =>
  have hn:¬ ∃h:i<l.length,l[i].key=x.key:=fun h=>by have:=HF.out.2 h;cases this
  have HPE:=sqH (show kg l x=l.take i++x::l.drop i by
   unfold kg;rw [jR (f:=fun y:EntP=>y.key) HG1.out HP1.out HP2.out hn];exact(jS (f:=fun y:EntP=>y.key) HG1.out HP1.out HP2.out hn rfl).symm)
  obtain⟨k0,k1,k2,k3⟩:=sqC4 hX6';clear hn HF;have hg31:w3.heap.size≤g:=hg3.1;have hz6:(w5.setCell ⟨H,1,none⟩ (.slice A5 x.parts.length c5)).heap.size=w5.heap.size:=by simp [World.setCell]
  have hV:Arr ((w5.setCell ⟨H,1,none⟩ (.slice A5 x.parts.length c5)).alloc (.cells #[.string sx,.slice A5 x.parts.length c5,.int .i64 x.pins,.int .i64 x.stamp] 35)) (w5.setCell ⟨H,1,none⟩ (.slice A5 x.parts.length c5)).heap.size 35 (zw x A5 c5):=by
   rw [zw,←HSX.out];exact Arr.new (w5.setCell ⟨H,1,none⟩ (.slice A5 x.parts.length c5)) 35 _
  have hba:=(Below.refl (w5.setCell ⟨H,1,none⟩ (.slice A5 x.parts.length c5)).heap.size (w5.setCell ⟨H,1,none⟩ (.slice A5 x.parts.length c5))).alloc (Nat.le_refl _) (.cells #[.string sx,.slice A5 x.parts.length c5,.int .i64 x.pins,.int .i64 x.stamp] 35);have hx7:=hx6.below hba;have hs7:=hs6.below hba;have hb07:=hb06.trans (hba.mono hb06.size);have hgsz:g<(w5.setCell ⟨H,1,none⟩ (.slice A5 x.parts.length c5)).heap.size:=(hx6.rwo.blk rfl).2;have hbs7:w3.heap.size≤((w5.setCell ⟨H,1,none⟩ (.slice A5 x.parts.length c5)).alloc (.cells #[.string sx,.slice A5 x.parts.length c5,.int .i64 x.pins,.int .i64 x.stamp] 35)).heap.size:=by rw [World.size_alloc];omega
  clear hx6 hs6 hX6' hba hb06;go_wp2_with fail;rw [←hz6];clear k0 k1 k2 k3;generalize hw6:(w5.setCell ⟨H,1,none⟩ (.slice A5 x.parts.length c5))=w6 at *
  clear hw6 hz6;generalize w6.alloc (.cells #[.string sx,.slice A5 x.parts.length c5,.int .i64 x.pins,.int .i64 x.stamp] 35)=w7 at *
  have HIN:=sqH (vq l g i x A5 c5 w6.heap.size 1 w7 w3.heap.size (fun b=>b<w3.heap.size) hil (by omega) hbs7 hx7 hV ⟨A5,c5,rfl,hs7⟩ (fun b hb hle=>by
   obtain⟨a,e1,e2⟩:=xS hle;have:=hl5 a e1;rcases hb with hb | hb<;>omega))
  clear hV hx7 hs7 hbs7;refine HIN.out.mono ?_;rintro e_ w8 ⟨v8,rfl,hx8,hg8⟩;dsimp only;have hb08:=hb07.grown hg8 hb07.size (fun k hk=>by cases hk;exact Nat.le_trans hw03 hg3.1);rw [show l.take i++x::l.drop i=kg l x from HPE.out.symm]at hx8;have hlp:(kg l x).length≤10:=HGD.out.len;have HCL:=sqH (vI v8 (kg l x) w8 w3.heap.size _ (by omega) hx8);obtain⟨A8,c8,rfl,_,_,_⟩:=hx8.rwo.rows;clear hx8 hg8 hb07;go_wp2_with fail;refine HCL.out.mono ?_;rintro e_ w9 ⟨v9,rfl,hx9,hb9⟩;dsimp only;have hb09:=hb08.trans (hb9.mono hb08.size);have hw8:w.heap.size≤w8.heap.size:=hb08.size;obtain⟨A9,c9,rfl,_,_,hR9⟩:=hx9.rwo.rows;have HC8:=sqH (qC A9 c9 (kg l x) w9 HGD.out hR9);clear hb9 hb08 hR9;go_wp2_with fail;refine HC8.out.mono ?_;rintro e_ w10 ⟨rfl,hb10⟩;dsimp only;have hx10:=((hx9.below hb10).lower hw8).wider (N':=fun b=>b<w.heap.size) (fun b hb=> .inl (Nat.lt_of_lt_of_le hb hw03));have hb010:=hb09.trans (hb10.mono hb09.size);clear hx9 hb09 hb10;go_wp2_with fail;go_ret2;exact⟨_,rfl,hx10,hb010⟩
theorem x8 (l:List BlobP) (d:List UInt8):(putB l d).length≤l.length+1:=by
 unfold putB;cases hf:l.findIdx? (fun b=>b.dig==shaS d) with
 | none=>show(srt _ _).length≤_;rw [(zm _ _).length_eq];simp
 | some i=>show l.length≤_;omega
theorem vl (gk:Nat) (d:List UInt8) (l:List BlobP) (w:World) (hk:w.cell? ⟨gk,0,none⟩=some (.string ⟨d.toArray⟩)) (hg:gk<w.heap.size):xI w l 103 (.pointer (some ⟨gk,0,none⟩)) (fun b=>b.dig==d):=by
 refine⟨fun _ _=>by kernel_rfl,fun b B cb W hb hbel hs=> ?_⟩;have hg1:gk<W.heap.size:=Nat.lt_of_lt_of_le hg hbel.size;have hk0:W.cell? ⟨gk,0,none⟩=some (.string ⟨d.toArray⟩):=(hbel.cell (p:=⟨gk,0,none⟩) hg).trans hk;generalize hs1:(⟨b.dig.toArray⟩:ByteArray)=s;generalize hs2:(⟨d.toArray⟩:ByteArray)=t at hk0;have hst:(b.dig==d)=(s.toList==t.toList):=by
  rw [←hs1,←hs2,ByteArray.toList_eq,ByteArray.toList_eq]
 dsimp only;rw [hst];have hb1:=(Below.refl W.heap.size W).alloc (Nat.le_refl _) (.cells #[.string s,.slice B b.data.length cb,.int .i64 b.pins,(.bool b.mark)] 32);have hk1:(W.alloc (.cells #[.string s,.slice B b.data.length cb,.int .i64 b.pins,(.bool b.mark)] 32)).cell? ⟨gk,0,none⟩=some (.string t):=(World.cell?_alloc_lt W _ ⟨gk,0,none⟩ hg1).trans hk0;clear hst hs1 hs2;go_enter Tryz.func103,Tryz.ntmps103;go_wp2_with fail;go_ret;exact⟨rfl,hb1⟩
theorem jb (A:Option Addr) (c:Nat) (l:List BlobP) (d:List UInt8) (w:World) (hl:l.length≤1000000) (hA:Rw BlobS w A l) :
  Calls Tryz.prog 63 #[.slice A l.length c,.string ⟨d.toArray⟩] w fun e w'=>e= .returned (ZF (l.findIdx? (fun x=>x.dig==d)))∧Below w.heap.size w w':=by
 obtain⟨s,hs⟩:∃s:ByteArray,s=⟨d.toArray⟩:=⟨_,rfl⟩
 rw [←hs];have hA1:=Arr.new w 9 [.string s];have hb1:=(Below.refl w.heap.size w).alloc (Nat.le_refl _) (.cells #[.string s] 9);have hA1':Arr (w.alloc (.cells #[.string s] 9)) w.heap.size 9 [.string s]:=hA1;have hk:=hA1'.cell (k:=0) rfl;have HI:=vP A c l _ (.pointer (some ⟨w.heap.size,0,none⟩)) (fun x=>x.dig==d) (w.alloc (.cells #[.string s] 9)) hl (hA.below hb1) (vl w.heap.size d l _ (by rw [hk,hs]) hA1'.lt);clear hs hA hA1 hA1' hk;cases hf:l.findIdx? (fun x=>x.dig==d) with
 | none =>
  rw [hf]at HI;have HI:=sqH HI;go_enter Tryz.func63,Tryz.ntmps63;go_wp2_with fail;refine HI.out.mono ?_;rintro e_ w2 ⟨rfl,hb2⟩;dsimp only;have hb12:=hb1.trans (hb2.mono hb1.size);go_wp2_with fail;go_ret2;exact⟨rfl,hb12⟩
 | some i =>
  rw [hf]at HI;have HI:=sqH HI;have hi:decide ((i:Int)<0)=false:=decide_eq_false (by omega);go_enter Tryz.func63,Tryz.ntmps63;go_wp2_with fail;refine HI.out.mono ?_;rintro e_ w2 ⟨rfl,hb2⟩;dsimp only;have hb12:=hb1.trans (hb2.mono hb1.size);go_wp2_with fail;go_ret2;exact⟨rfl,hb12⟩
theorem Z8 (A:Option Addr) (c:Nat) (l:List BlobP) (D:List UInt8) (DA:Option Addr) (dc:Nat) (w:World) (hg:GoodB l) (hd:D.length≤300) (hlen:l.length<24∨(l.findIdx? (fun b=>b.dig==shaS D)).isSome=true) (hA:Rw BlobS w A l) (hD:Sl w 1 DA D.length dc (bys D)) :
  Calls Tryz.prog 27 #[.slice A l.length c,.slice DA D.length dc] w fun e w' =>
   ∃v,e= .returned (.tuple #[v,.string ⟨(shaS D).toArray⟩,.int .i64 0])∧RwX BlobS 32 w' w.heap.size v (putB l D) (fun b=>b<w.heap.size)∧Below w.heap.size w w':=by
 have hgl:l.length≤24:=hg.len;have HPL:=sqH (show ∀b∈l,b.data.length≤1000000 from fun b hb=>by have:=(hg.one b hb).2.1;omega);have HC1:=sqH (yF A c l w hg hA);have HG1:=sqH hg.ris;have HLN:=sqH hlen;have s1:decide ((D.length:Int)>300)=false:=decide_eq_false (by omega);have s2:decide ((300:Int)<(D.length:Int))=false:=decide_eq_false (by omega);have s3:decide (300<D.length)=false:=decide_eq_false (by omega);have hpl:(putB l D).length≤25:=by have:=x8 l D;omega
 obtain⟨sd,hsd⟩:∃s:ByteArray,s=⟨(shaS D).toArray⟩:=⟨_,rfl⟩
 rw [←hsd];have HSD:=sqH hsd;clear hg hlen hsd;go_enter Tryz.func27,Tryz.ntmps27;go_wp2_with fail;refine HC1.out.mono ?_;rintro e_ w1 ⟨rfl,hb1⟩;dsimp only;have hA1:=hA.below hb1;have hD1:=hD.below hb1;have HSM:=jO DA D.length dc D w1 rfl (by omega) hD1.cap hD1.rd;rw [←HSD.out]at HSM;have HSM:=sqH HSM;clear hA hD;go_wp2_with fail;refine HSM.out.mono ?_;rintro e_ w2 ⟨rfl,hb2⟩;dsimp only;have hb12:=hb1.trans (hb2.mono hb1.size);have hA2:=hA1.below hb2;have hD2:=hD1.below hb2;have HBS:=ZH A c l (shaS D) w2 (by omega) HG1.out hA2;rw [←HSD.out]at HBS;have HBS:=sqH HBS;clear hA1 hD1 hb1 hb2;go_wp2_with fail;refine HBS.out.mono ?_;rintro e_ w3 ⟨i,f,rfl,hil,P1,P2,hf,hb3⟩;dsimp only;have hb13:=hb12.trans (hb3.mono hb12.size);have hA3:=hA2.below hb3;have hD3:=hD2.below hb3;have HF:=sqH hf;have HP1:=sqH P1;have HP2:=sqH P2;have HCP:=sqH (xC A c l w3 (by omega) (fun y hy=>HPL.out y hy) hA3);clear hA2 hD2 hf P1 P2 hb12 hb3;go_wp2_with fail;refine HCP.out.mono ?_;rintro e_ w4 ⟨g,rfl,hx4,hb4⟩;dsimp only;have hb14:=hb13.trans (hb4.mono hb13.size);have hD4:=hD3.below hb4;have hw03:w.heap.size≤w3.heap.size:=hb13.size;have hw34:w3.heap.size≤w4.heap.size:=hb4.size;have hg3:w3.heap.size≤g∧g<w4.heap.size:=hx4.rwo.blk rfl;clear hA3 hD3 hb13 hb4;cases f with
 | true =>
  obtain⟨hi,he⟩:=HF.out.1 rfl;have HPE:=sqH (show putB l D=l by
   unfold putB;rw [xN (f:=fun y:BlobP=>y.dig) HP1.out hi he])
  have hx5:=(hx4.lower hw03).wider (N':=fun b=>b<w.heap.size) (fun b hb=> .inl (Nat.lt_of_lt_of_le hb hw03));clear he hx4;go_wp2_with fail;go_ret3;rw [HPE.out];exact⟨_,rfl,hx5,hb14⟩
 | false =>
  have hn:¬ ∃h:i<l.length,l[i].dig=shaS D:=fun h=>by have:=HF.out.2 h;cases this
  have hno:=jR (f:=fun y:BlobP=>y.dig) HG1.out HP1.out HP2.out hn;have hlt24:l.length<24:=by
   rcases HLN.out with h | h
   ·exact h
   ·rw [hno]at h;cases h
  have HPE:=sqH (show putB l D=l.take i++⟨shaS D,D,0,false⟩::l.drop i by
   unfold putB;rw [hno];exact(jS (f:=fun y:BlobP=>y.dig) (x:=⟨shaS D,D,0,false⟩) HG1.out HP1.out HP2.out hn rfl).symm)
  have t1:decide ((l.length:Int)≥24)=false:=decide_eq_false (by omega);have t2:decide ((24:Int)≤(l.length:Int))=false:=decide_eq_false (by omega);have t3:decide (24≤l.length)=false:=decide_eq_false (by omega);have HCN:=sqH (xB DA D.length dc D w4 rfl hD4.cap (by omega) hD4.rd);clear hn HF hno;go_wp2_with fail;refine HCN.out.mono ?_;rintro e_ w5 ⟨v5,rfl,ho5,hb5⟩;dsimp only;obtain⟨A5,c5,rfl,hs5,hl5⟩:=yi ho5;have hb15:=hb14.trans (hb5.mono hb14.size);have hx5:=hx4.below hb5;have hsz5:w4.heap.size≤w5.heap.size:=hb5.size;have hV:Arr (w5.alloc (.cells #[.string sd,.slice A5 D.length c5,.int .i64 0,.bool false] 32)) w5.heap.size 32 (zi ⟨shaS D,D,0,false⟩ A5 c5):=by
   rw [zi,←HSD.out];exact Arr.new w5 32 _
  have hba:=(Below.refl w5.heap.size w5).alloc (Nat.le_refl _) (.cells #[.string sd,.slice A5 D.length c5,.int .i64 0,.bool false] 32);have hx6:=hx5.below hba;have hs6:=hs5.below hba;have hb06:=hb15.trans (hba.mono hb15.size);have hbs6:w3.heap.size≤(w5.alloc (.cells #[.string sd,.slice A5 D.length c5,.int .i64 0,.bool false] 32)).heap.size:=by rw [World.size_alloc];omega
  clear hx4 hx5 hs5 ho5 hb5 hb15 hb14 hba hD4;go_wp2_with fail;generalize w5.alloc (.cells #[.string sd,.slice A5 D.length c5,.int .i64 0,.bool false] 32)=w6 at *
  have HIN:=sqH (vp l g i ⟨shaS D,D,0,false⟩ A5 c5 w5.heap.size 1 w6 w3.heap.size (fun b=>b<w3.heap.size) hil (by omega) hbs6 hx6 hV ⟨A5,c5,rfl,hs6⟩ (fun b hb hle=>by
   obtain⟨a,e1,e2⟩:=yN hle;have:=hl5 a e1;rcases hb with hb | hb<;>omega))
  clear hV hx6 hs6 hbs6;refine HIN.out.mono ?_;rintro e_ w8 ⟨v8,rfl,hx8,hg8⟩;dsimp only;have hb08:=hb06.grown hg8 hb06.size (fun k hk=>by cases hk;exact Nat.le_trans hw03 hg3.1);rw [show l.take i++⟨shaS D,D,0,false⟩::l.drop i=putB l D from HPE.out.symm]at hx8;have HCL:=sqH (vH v8 (putB l D) w8 w3.heap.size _ (by omega) hx8);obtain⟨A8,c8,rfl,_,_,_⟩:=hx8.rwo.rows;clear hx8 hg8 hb06;go_wp2_with fail;refine HCL.out.mono ?_;rintro e_ w9 ⟨v9,rfl,hx9,hb9⟩;dsimp only;have hb09:=hb08.trans (hb9.mono hb08.size);have hw8:w.heap.size≤w8.heap.size:=hb08.size;have hx10:=(hx9.lower hw8).wider (N':=fun b=>b<w.heap.size) (fun b hb=> .inl (Nat.lt_of_lt_of_le hb hw03));clear hx9 hb9 hb08;go_wp2_with fail;go_ret3;exact⟨_,rfl,hx10,hb09⟩
end Go.Proofs.YtfmnggcfhalfnaaGreat
