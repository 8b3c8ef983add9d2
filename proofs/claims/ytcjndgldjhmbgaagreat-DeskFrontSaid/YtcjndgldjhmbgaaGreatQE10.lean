/- Lemmas, as stated. -/
import Derived.Test.YtcjndgldjhmbgaaGreatQE09
set_option linter.unusedVariables false
set_option linter.unusedSimpArgs false
set_option maxRecDepth 100000
namespace Go.Proofs
open Go.Shelf
def Tryz.lays111_ren:Go.Shelf.Ren:=⟨fun | 111=>20 | n=>n,fun | 28=>46 | 3=>3 | 4=>4 | 0=>0 | n=>n,fun | n=>n⟩
theorem Tryz.lays111:Go.Proofs.Lays.n111 Tryz.prog Tryz.lays111_ren:= {
 mixed:=by kernel_rfl
 f111:=Tryz.func20.trans (congrArg some (by kernel_rfl))
 t0:=Tryz.underlying0
 a0:=Tryz.isAgg0
 z0:=Tryz.sizeOf0
 v0:=Tryz.zeroValue0
 t3:=Tryz.underlying3
 a3:=Tryz.isAgg3
 z3:=Tryz.sizeOf3
 v3:=Tryz.zeroValue3
 t4:=Tryz.underlying4
 a4:=Tryz.isAgg4
 z4:=Tryz.sizeOf4
 v4:=Tryz.zeroValue4
 t28:=Tryz.underlying46
 a28:=Tryz.isAgg46
 z28:=Tryz.sizeOf46
 v28:=Tryz.zeroValue46 }
open Go.RowKit Go.Lib in
theorem Tryz.slices_Equal_int (b1 o1 n c b2 o2 m d:Nat) (xs ys:List Int) (w:World) (hx:n<=xs.length) (hy:m<=ys.length) (hbig:n<=9223372036854775807) (hbig2:m<=9223372036854775807) (hc1:∀j,j<xs.length->w.cell? ⟨b1,o1+j,none⟩=some (.int .i64 (xs.getD j 0))) (hc2:∀j,j<ys.length->w.cell? ⟨b2,o2+j,none⟩=some (.int .i64 (ys.getD j 0))) :
  Calls Tryz.prog 20 #[.slice (some ⟨b1,o1,none⟩) n c,.slice (some ⟨b2,o2,none⟩) m d] w fun e w'=>e= .returned (.bool (xs.take n==ys.take m))/\∃q,w'=w.drewN q:=Any.slices_Equal_int Tryz.lays111 b1 o1 n c b2 o2 m d xs ys w hx hy hbig hbig2 hc1 hc2
open Go.RowKit Go.Lib in
theorem Tryz.slices_Equal_int_empty (a1 a2:Option Addr) (c m d:Nat) (w:World) (hbig2:m<=9223372036854775807) :
  Calls Tryz.prog 20 #[.slice a1 0 c,.slice a2 m d] w fun e w'=>e= .returned (.bool (decide (m=0)))/\w'=w:=Any.slices_Equal_int_empty Tryz.lays111 a1 a2 c m d w hbig2
end Go.Proofs
namespace Go.Proofs.YtcjndgldjhmbgaaGreat
open Go.RowKit Go.Maps
theorem FlsO.cap {w:World} {base:Nat} {v:Value} {fs:List FlP} (h:FlsO w base v fs):∀A n c,v= .slice A n c->c<=maxLen:=by
 rintro A n c rfl;obtain⟨As,h1,h2,h3,h4⟩:=h;rcases h2.2 with ⟨h1,h2⟩ | ⟨_,cap,_,h1,_,_,h2,h3,_⟩
 ·injection h1 with _ _ h3;subst h3;simp [maxLen]
 ·injection h1 with _ _ h4;subst h4;exact h3
theorem QR (A B:ae) (c d:Nat) (l:List Int) (w:World) (hn:l.length<=9223372036854775807) (h1:Rd w 1 A l.length (ins l)) (h2:Rd w 1 B l.length (ins l)) :
  Calls Tryz.prog 20 #[.slice A l.length c,.slice B l.length d] w fun e w'=>e= .returned (.bool true)/\∃q,w'=w.drewN q:=by
 rcases Nat.eq_zero_or_pos l.length with h0 | h0
 ·rw [h0];refine(Tryz.slices_Equal_int_empty A B c 0 d w wj).mono ?_;rintro e w' ⟨rfl,rfl⟩;exact⟨ws,0,rfl⟩
 ·obtain⟨b1,o1,rfl,_,hc1⟩:=h1.2 wj;obtain⟨b2,o2,rfl,_,hc2⟩:=h2.2 wj;have hg:∀j,j<l.length->(ins l)[j]?=some (.int .i64 (l.getD j 0)):=fun j hj=>by
   rw [ins,List.getElem?_map,List.getElem?_eq_getElem hj,List.getD_eq_getElem?_getD,List.getElem?_eq_getElem hj];rfl
  refine(Tryz.slices_Equal_int b1 o1 l.length c b2 o2 l.length d l l w ab ab hn hn (fun j hj=>hc1 j _ (hg j hj)) (fun j hj=>hc2 j _ (hg j hj))).mono ?_;rintro e w' ⟨rfl,h⟩;exact⟨ws,h⟩
theorem vP (A B:ae) (n c d:Nat) (x:List PartP) (w:World) (hl:x.length=n) (hn:n<=140737488351232) (hr:Rd w 3 A n (pcs x)) (hs:Rd w 3 B n (pcs x)) :
  Calls Tryz.prog 19 #[.slice A n c,.slice B n d] w fun e w'=>e= .returned (.bool true)/\Below w.heap.size w w':=by
 have hnn:((n:Int) != (n:Int))=false:=ws
 have HL:=sqH hl;clear hl;go_enter Tryz.func19,Tryz.ntmps19;go_wp2_with fail;go_loopg [5,13] n (fun gn u i wr=>∃k:Nat,gn=n - k/\i= .int .i64 k/\k<=n/\Below w.heap.size w wr)
 case atStart=>exact⟨0,rfl,rfl,wj,Below.refl _ _⟩
 case round =>
  obtain⟨k,hgk,rfl,hk,hbel⟩:=hrel;have HGK:=sqH hgk;clear hgk;by_cases hlt:k<n
  ·have hkl:k<x.length:=by have:=HL.o;omega
   obtain⟨b,off,rfl,_,hcell⟩:=(hr.below hbel).2 wj;obtain⟨b',off',rfl,_,hcell'⟩:=(hs.below hbel).2 wj;have hat:=fun j (hj:j<3)=>yA x k j hkl hj;generalize x[k]=p at *
   have c0:=hcell (k*3+0) _ (hat 0 wj);have c1:=hcell (k*3+1) _ (hat 1 wj);have c2:=hcell (k*3+2) _ (hat 2 wj);have d0:=hcell' (k*3+0) _ (hat 0 wj);have d1:=hcell' (k*3+1) _ (hat 1 wj);have d2:=hcell' (k*3+2) _ (hat 2 wj);rw [Nat.add_zero]at c0 d0;rw [show off+(k*3+1)=off+k*3+1 by omega]at c1;rw [show off+(k*3+2)=off+k*3+2 by omega]at c2;rw [show off'+(k*3+1)=off'+k*3+1 by omega]at d1;rw [show off'+(k*3+2)=off'+k*3+2 by omega]at d2;obtain⟨pn,pd,psz⟩:=p;dsimp only [yo,List.getElem?_cons_zero,List.getElem?_cons_succ]at c0 c1 c2 d0 d1 d2;generalize (⟨pn.toArray⟩:ByteArray)=s at *
   generalize (⟨pd.toArray⟩:ByteArray)=t at *
   clear hat hcell hcell';have hk0:=wX k
   have hk1:(k:Int)<(n:Int):=wj
   go_wp2_with fail;go_quiet (fail);go_wp2_with fail;go_roundg (n - (k+1))
   case measure=>exact wW HGK
   case rel=>exact⟨k+1,rfl,by go_num,wj,zN hbel _⟩
  ·go_wp2_with fail;go_ret;exact⟨rfl,hbel⟩
end Go.Proofs.YtcjndgldjhmbgaaGreat
