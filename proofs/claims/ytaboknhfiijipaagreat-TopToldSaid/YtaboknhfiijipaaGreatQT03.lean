/- Lemmas, as stated. -/
import Derived.Deep.RegionHeld3
import Derived.Laws.Pointers
import Derived.StillTactics
import Derived.Lib.Builder
import Derived.Lib.UnsafeStr
import Derived.Laws.Externs
import Derived.StillTailTactics
import Derived.Deep.LoopGhost
import Derived.Test.YtaboknhfiijipaaGreatQT00
import Derived.Test.YtaboknhfiijipaaGreatQT02
set_option linter.unusedVariables false
set_option linter.unusedSimpArgs false
set_option maxRecDepth 200000
set_option maxHeartbeats 4000000
open Go.Proofs.Tryz
open Go.Proofs.Tryz renaming prog->zZZ
open Go.Value renaming slice->ax,int->ay,string->aA
open Go.IntKind renaming i64->az
open Option renaming none->aC,some->aD
open Go.Obj renaming cells->aB
namespace Go.Proofs.YtaboknhfiijipaaGreat
variable {α:Type} {bytes m n size:Nat} {P:Program} {e it t:TypeId} {w:World} {rest:ae} {A:af}
def num (n:Nat):ae:=if n<128 then [UInt8.ofNat n] else UInt8.ofNat (n % 128+128)::num (n / 128)
theorem ke (h:n<128):num n= [UInt8.ofNat n]:=by rw [num,if_pos h]
theorem Q7 (h:¬n<128):num n=UInt8.ofNat (n % 128+128)::num (n / 128):=by rw [num,if_neg h]
theorem Xv (n:Nat):∀k,n<128 ^ (k+1)->1<=(num n).length/\(num n).length<=k+1:=by
 intro k
 induction k generalizing n with
 | zero=>intro h;rw [ke (by simpa using h)];simp
 | succ k ih =>
  intro h;by_cases hn:n<128
  ·rw [ke hn];simp
  ·rw [Q7 hn];have:=ih (n / 128) (by rw [Nat.div_lt_iff_lt_mul wm];simpa [Nat.pow_succ] using h);simp only [List.length_cons];omega
open Go.RowKit
theorem jR:El zZZ 26 5 1 1:=El.mk' (z:= ay .u8 0) underlying26 wo rfl wm wm
theorem JM:El zZZ 125 123 1 4:=El.mk' (z:= ay .u32 0) underlying125 wo rfl wm wm
def wds (l:List (BitVec 32)):ag:=l.map fun b=> ay .u32 (wd b)
theorem yM (l:List (BitVec 32)) (k:Nat) (h:k<l.length):(wds l)[k]?=aD (ay .u32 (wd l[k])):=by simp [wds,h]
theorem jP (l:List (BitVec 32)):∀u∈wds l,u.oneCell'=true:=by
 intro u hu;simp only [wds,List.mem_map]at hu;obtain⟨_,_,rfl⟩:=hu;rfl
def wb (x:BitVec 32):ae:= [UInt8.ofNat (x.toNat / 16777216),UInt8.ofNat (x.toNat / 65536),UInt8.ofNat (x.toNat / 256),UInt8.ofNat x.toNat]
def wbs (l:List (BitVec 32)):ae:=l.flatMap wb
theorem jO (l:List (BitVec 32)):(wbs l).length=4*l.length:=by
 induction l with
 | nil=>rfl
 | cons x l ih=>simp only [wbs,List.flatMap_cons,List.length_append,List.length_cons] at *;rw [ih];simp [wb];omega
theorem K7 (l:List (BitVec 32)) (k:Nat) (h:k<l.length):wbs (l.take (k+1))=wbs (l.take k)++wb l[k]:=by
 unfold wbs;rw [List.take_succ_eq_append_getElem h,List.flatMap_append,List.flatMap_cons,List.flatMap_nil,List.append_nil]
theorem V6 (A:af) (n c:Nat) (l:List (BitVec 32)) (w:World) (hl:l.length=n) (hn:n<=2000) (hc:n<=c) (hr:Rd w 1 A n (wds l)) :
  Calls zZZ 180 #[ax A n c] w fun e w'=>∃A' c',e= .returned (.tuple #[ax A' (wbs l).length c',ay az 0])/\OwnB 5 w.heap.size w' A' c' (wbs l)/\Below w.heap.size w w':=by
 go_enter func180,ntmps180
 refine wH ?_;intros;refine kT rfl _ _ rfl jR (4*n) rfl rfl wm wm ?_;intro w1 g1 hown1 hb1;go_wp2_with fail;go_loopw [4,16] (fun v i wr=>∃k:Nat,i= ay az k/\k<=n/\wr.ownsRow w.heap.size 5 1 v (wbs (l.take k)).length (bys (wbs (l.take k)))/\Below w.heap.size w wr) (fun _ i _=>n - (intOf i).toNat)
 case atStart=>exact⟨0,rfl,wm,hown1,hb1⟩
 case round =>
  obtain⟨k,rfl,hk,hown,hbel⟩:=hrel;have hle:=jO (l.take k);rw [List.length_take]at hle;by_cases hlt:k<n
  ·obtain⟨b,off,u,rfl,_,hu,hcell⟩:=(hr.below hbel).at_ hlt;rw [yM l k wm]at hu;cases hu
   have HS:=sqH (K7 l k wm);have hwn:=z0o l[k];have hwl:=z0n l[k];generalize hx:l[k]=x at *
   have HX:=sqH hx;clear hx
   refine wH ?_;intros;refine zh rfl (.tmp 20) (.tmp 32) rfl jR ww hown rfl rfl (by simp;exact⟨rfl,rfl,rfl,rfl⟩) wm hbel.size ?_;intro v2 w2 hown2 hg2 _;have hb2:=zj hbel hown ac hg2;have hx:=x.isLt;have e1:bys (wb x)= [ay .u8 (wd x / (16777216:Int)),ay .u8 (wd x / (65536:Int) % (256:Int)),ay .u8 (wd x / (256:Int) % (256:Int)),ay .u8 (wd x % (256:Int))]:=by
    simp only [bys,wb,wd,List.map_cons,List.map_nil,UInt8.toNat_ofNat'];rw [show x.toNat / 16777216 % 2 ^ 8=x.toNat / 16777216 by omega];rfl
   go_wp2_with fail;rw [<-e1]at hown2;go_roundw
   case rel=>exact⟨k+1,by go_num,wm,by rw [HS.o,qU,List.length_append];exact hown2,hb2⟩
   case measure=>simp [intOf];omega
  ·obtain rfl:k=n:=by omega
   rw [List.take_of_length_le wm]at hown;obtain⟨A1,c1,rfl,hc1,_⟩:=Rd.of_own' hown;go_wp2_with fail;go_ret2;exact⟨A1,c1,rfl,⟨hown,hc1⟩,hbel⟩
def wOf (a b c d:UInt8):BitVec 32:=BitVec.ofNat 32 (a.toNat*16777216+b.toNat*65536+c.toNat*256+d.toNat)
def ki:List UInt8->List (BitVec 32)
 | a::b::c::d::r=>wOf a b c d::ki r
 | _=> []
theorem vD:∀(k:Nat) (l:ae),l.length=4*k->(ki l).length=k
 | 0,l,h=>by obtain rfl:l= []:=List.eq_nil_of_length_eq_zero wm;rfl
 | k+1,a::b::c::d::r,h=>by simp only [ki,List.length_cons] at *;rw [vD k r wm]
 | k+1, [],h=>by simp at h
 | k+1, [_],h=>by simp at h;omega
 | k+1, [_,_],h=>by simp at h;omega
 | k+1, [_,_,_],h=>by simp at h;omega
theorem ur:∀(k:Nat) (l:ae) (h:4*k+3<l.length),ki (l.take (4*(k+1)))=ki (l.take (4*k))++ [wOf l[4*k] l[4*k+1] l[4*k+2] l[4*k+3]]
 | 0,a::b::c::d::r,h=>by simp [ki]
 | k+1,a::b::c::d::r,h=>by
  have h':4*k+3<r.length:=by simp at h;omega
  have e1:(a::b::c::d::r).take (4*(k+1+1))=a::b::c::d::r.take (4*(k+1)):=rfl
  have e2:(a::b::c::d::r).take (4*(k+1))=a::b::c::d::r.take (4*k):=rfl
  rw [e1,e2,ki,ki,ur k r h']
  rfl
 | 0, [],h=>by simp at h
 | 0, [_],h=>by simp at h
 | 0, [_,_],h=>by simp at h
 | 0, [_,_,_],h=>by simp at h
 | k+1, [],h=>by simp at h
 | k+1, [_],h=>by simp at h
 | k+1, [_,_],h=>by simp at h;omega
 | k+1, [_,_,_],h=>by simp at h;omega
theorem uq (n:Int) (h0:0<=n) (h1:n<2 ^ 32):IntKind.u32.wrap n=n:=by
 rw [IntKind.wrap_u32];simp at h1;omega
theorem K6 (a b c d:UInt8):bits BinOp.or IntKind.u32 (bits BinOp.or IntKind.u32 (bits BinOp.or IntKind.u32 (IntKind.u32.wrap (IntKind.u32.wrap (a.toNat:Int)*16777216)) (IntKind.u32.wrap (IntKind.u32.wrap (b.toNat:Int)*65536)))
  (IntKind.u32.wrap (IntKind.u32.wrap (c.toNat:Int)*256))) (IntKind.u32.wrap (d.toNat:Int))=wd (wOf a b c d):=by
 have ha:=a.toNat_lt;have hb:=b.toNat_lt;have hc:=c.toNat_lt;have hd:=d.toNat_lt;have hw:wd (wOf a b c d)=((a.toNat*16777216+b.toNat*65536+c.toNat*256+d.toNat:Nat):Int):=by
  simp only [wd,wOf,BitVec.toNat_ofNat];omega
 rw [hw];clear hw;generalize a.toNat=a at *
 generalize b.toNat=b at *
 generalize c.toNat=c at *
 generalize d.toNat=d at *
 have e1:∀x:Nat,x<256->IntKind.u32.wrap (x:Int)=x:=fun x h=>by rw [IntKind.wrap_u32];omega
 rw [e1 a ha,e1 b hb,e1 c hc,e1 d hd];have e2:∀x y:Int,0<=x->x<256->0<=y->y<=16777216->IntKind.u32.wrap (x*y)=x*y:=fun x y h1 h2 h3 h4=>by
  rw [IntKind.wrap_u32];have:=Int.mul_nonneg h1 h3;have h5:x*y<=255*16777216:=Int.mul_le_mul wm h4 h3 wm;omega
 rw [e2 a 16777216 wm wm wm wm,e2 b 65536 wm wm wm wm,e2 c 256 wm wm wm wm];rw [bits_join .u32 32 ws uq 24 ((a:Int)*16777216) ((b:Int)*65536) wm wm wm wm wm wm];rw [bits_join .u32 32 ws uq 16 ((a:Int)*16777216+(b:Int)*65536) ((c:Int)*256) wm wm wm wm wm wm];rw [bits_join .u32 32 ws uq 8 ((a:Int)*16777216+(b:Int)*65536+(c:Int)*256) (d:Int) wm wm wm wm wm wm];omega
theorem VI (A:af) (n c:Nat) (l:ae) (w:World) (hl:l.length=n) (hn:n<=2072) (h4:n % 4=0) (hc:n<=c) (hr:Rd w 1 A n (bys l)) :
  Calls zZZ 177 #[ax A n c] w fun e w'=>∃v,e= .returned (.tuple #[v,ay az 0])/\w'.ownsRow w.heap.size 123 1 v (n / 4) (wds (ki l))/\Below w.heap.size w w':=by
 have h4b:((n:Int) % 4 != 0)=false:=by rw [bne_eq_false_iff_eq];omega
 obtain⟨q,hq⟩:∃q,n=4*q:=⟨n / 4,wm⟩
 have HQ:=sqH hq;have hq1:q*4<=n:=wm;have hq2:n<=q*4:=wm;clear hq h4;go_enter func177,ntmps177
 refine wH ?_;intros;refine kT rfl _ _ rfl JM q rfl rfl wm wm ?_;intro w1 g1 hown1 hb1;go_wp2_with fail;go_loopw [4,5] (fun v i wr=>∃k:Nat,i= ay az ((4*k:Nat):Int)/\k<=q/\wr.ownsRow w.heap.size 123 1 v k (wds (ki (l.take (4*k))))/\Below w.heap.size w wr) (fun _ i _=>n - (intOf i).toNat)
 case atStart=>exact⟨0,rfl,wm,hown1,hb1⟩
 case round =>
  obtain⟨k,rfl,hk,hown,hbel⟩:=hrel;by_cases hlt:k<q
  ·have hsz:=hbel.size;obtain⟨b,off,rfl,hbw,hcell0⟩:=hr.2 wm;have hcell:=fun j u h=>(hbel.cell (p:=⟨b,off+j,aC⟩) hbw).trans (hcell0 j u h);clear hcell0;have c0:=hcell (4*k) _ (xU l (4*k) wm);have c1:=hcell (4*k+1) _ (xU l (4*k+1) wm);have c2:=hcell (4*k+2) _ (xU l (4*k+2) wm);have c3:=hcell (4*k+3) _ (xU l (4*k+3) wm);have HS:=sqH (ur k l wm);clear hcell;generalize l[4*k]=b0 at *
   generalize l[4*k+1]=b1 at *
   generalize l[4*k+2]=b2 at *
   generalize l[4*k+3]=b3 at *
   have t0:=b0.toNat_lt;have t1:=b1.toNat_lt;have t2:=b2.toNat_lt;have t3:=b3.toNat_lt;generalize hm:4*k=m at *
   have HM:=sqH hm;have hm1:m+4<=n:=wm;clear hm;go_wp2_with fail;have hm0:=wY m
   have hi0:(m:Int)<n:=wm;have q1:IntKind.i64.wrap ((m:Int)+1)=(m:Int)+1:=IntWalk.i64_in _ wm;have q2:IntKind.i64.wrap ((m:Int)+2)=(m:Int)+2:=IntWalk.i64_in _ wm;have q3:IntKind.i64.wrap ((m:Int)+3)=(m:Int)+3:=IntWalk.i64_in _ wm;have p1:(0:Int)<=(m:Int)+1:=wm;have p2:(0:Int)<=(m:Int)+2:=wm;have p3:(0:Int)<=(m:Int)+3:=wm;have s1:(m:Int)+1<n:=wm;have s2:(m:Int)+2<n:=wm;have s3:(m:Int)+3<n:=wm;have u1:((m:Int)+1).toNat=m+1:=wm;have u2:((m:Int)+2).toNat=m+2:=wm;have u3:((m:Int)+3).toNat=m+3:=wm;go_region_held3 (fun w'=>w'.cell? ⟨b,off+m,aC⟩=aD (ay .u8 b0.toNat)/\w'.cell? ⟨b,off+(m+1),aC⟩=aD (ay .u8 b1.toNat)/\w'.cell? ⟨b,off+(m+2),aC⟩=aD (ay .u8 b2.toNat)/\w'.cell? ⟨b,off+(m+3),aC⟩=aD (ay .u8 b3.toNat))
    (first | go_keep | (go_split_ands;refine⟨xj (yD (hown.alloc _)) hg2 hbw (by assumption),xj (yD (hown.alloc _)) hg2 hbw (by assumption),xj (yD (hown.alloc _)) hg2 hbw (by assumption),xj (yD (hown.alloc _)) hg2 hbw (by assumption)⟩))
    (first | (refine jM rfl (.tmp 23) (.tmp 53) rfl JM ww (yD (hown.alloc _)) ww (Rd.newN (us:= [_]) (m:=1) rfl) (by simp;rfl) wm ab ?_;intro v2 w2 hown2 hg2 _))
   rw [K6]at hown2;have hb2:=zj (hbel.alloc hsz (.cells #[ay .u32 (wd (wOf b0 b1 b2 b3))] 123)).drew (yD (hown.alloc _)) ac (by rw [<-K6];exact hg2);clear hg2 q1 q2 q3 p1 p2 p3 s1 s2 s3 u1 u2 u3;go_wp2_with fail;go_roundw
   case rel=>exact⟨k+1,by have:=HM.o;go_num,wm,by rw [HS.o];simpa [wds] using hown2,hb2⟩
   case measure=>simp [intOf];omega
  ·obtain rfl:k=q:=by omega
   rw [List.take_of_length_le wm]at hown;have hqq:n / 4=k:=wm;have HQQ:=sqH hqq;clear hqq;generalize hm:4*k=m at *
   have HM:=sqH hm;have hm1:n<=m:=wm;clear hm;go_wp2_with fail;go_ret2;exact⟨_,rfl,by rw [HQQ.o];exact hown,hbel⟩
theorem KL (x:BitVec 32) (n:Nat) (w:World) (hn:n<=31):Calls zZZ 216 #[ay .u32 (wd x),ay az n] w fun e w'=>e= .returned (ay .u32 (wd (x.rotateRight n)))/\∃k,w'=w.drewN k:=by
 go_enter func216,ntmps216;go_wp2_with fail;go_quiet (fail);go_wp2_with fail;go_ret;refine⟨?_,_,rfl⟩;show Ending.returned (ay .u32 (bits BinOp.or IntKind.u32 (wd x / 2 ^ n) (wd x*2 ^ (32 - n) % 4294967296)))=_;rw [z1t x n hn]
theorem qd (x:BitVec 32) (n:Nat) (N:Int) (hN:N=n) (w:World) (hn:n<=31):Calls zZZ 216 #[ay .u32 (wd x),ay az N] w fun e w'=>e= .returned (ay .u32 (wd (x.rotateRight n)))/\∃k,w'=w.drewN k:=by
 subst hN;exact KL x n w hn
def ym (x:BitVec 32):Nat->BitVec 32
 | 0=>x.rotateRight 2 ^^^ x.rotateRight 13 ^^^ x.rotateRight 22
 | 1=>x.rotateRight 6 ^^^ x.rotateRight 11 ^^^ x.rotateRight 25
 | 2=>x.rotateRight 7 ^^^ x.rotateRight 18 ^^^ x >>> 3
 | _=>x.rotateRight 17 ^^^ x.rotateRight 19 ^^^ x >>> 10
theorem Qp (x:BitVec 32) (n:Nat) (N:Int) (hN:N=n) (w:World) (hn:n<=3):Calls zZZ 200 #[ay .u32 (wd x),ay az N] w fun e w'=>e= .returned (.tuple #[ay .u32 (wd (ym x n)),ay az 0])/\∃k,w'=w.drewN k:=by
 match n,hn with
 | 0,_ =>
  obtain rfl:N=0:=hN;go_enter func200,ntmps200;go_wp2_with fail;refine(qd x 2 _ rfl _ wm).mono ?_;rintro e_ w_ ⟨rfl,k1,rfl⟩;dsimp only;go_wp2_with fail;refine(qd x 13 _ rfl _ wm).mono ?_;rintro e_ w_ ⟨rfl,k2,rfl⟩;dsimp only;go_wp2_with fail;refine(qd x 22 _ rfl _ wm).mono ?_;rintro e_ w_ ⟨rfl,k3,rfl⟩;dsimp only;go_wp2_with fail;go_ret2;refine⟨?_,_,rfl⟩;simp only [qF];rfl
 | 1,_ =>
  obtain rfl:N=1:=hN;go_enter func200,ntmps200;go_wp2_with fail;refine(qd x 6 _ rfl _ wm).mono ?_;rintro e_ w_ ⟨rfl,k1,rfl⟩;dsimp only;go_wp2_with fail;refine(qd x 11 _ rfl _ wm).mono ?_;rintro e_ w_ ⟨rfl,k2,rfl⟩;dsimp only;go_wp2_with fail;refine(qd x 25 _ rfl _ wm).mono ?_;rintro e_ w_ ⟨rfl,k3,rfl⟩;dsimp only;go_wp2_with fail;go_ret2;refine⟨?_,_,rfl⟩;simp only [qF];rfl
 | 2,_ =>
  obtain rfl:N=2:=hN;go_enter func200,ntmps200;go_wp2_with fail;refine(qd x 7 _ rfl _ wm).mono ?_;rintro e_ w_ ⟨rfl,k1,rfl⟩;dsimp only;go_wp2_with fail;refine(qd x 18 _ rfl _ wm).mono ?_;rintro e_ w_ ⟨rfl,k2,rfl⟩;dsimp only;go_wp2_with fail;go_ret2;refine⟨?_,_,rfl⟩;rw [show(wd x:Int) / (8:Int)=wd (x >>> 3) from ZC x 3];simp only [qF];rfl
 | 3,_ =>
  obtain rfl:N=3:=hN;go_enter func200,ntmps200;go_wp2_with fail;refine(qd x 17 _ rfl _ wm).mono ?_;rintro e_ w_ ⟨rfl,k1,rfl⟩;dsimp only;go_wp2_with fail;refine(qd x 19 _ rfl _ wm).mono ?_;rintro e_ w_ ⟨rfl,k2,rfl⟩;dsimp only;go_wp2_with fail;go_ret2;refine⟨?_,_,rfl⟩;rw [show(wd x:Int) / (1024:Int)=wd (x >>> 10) from ZC x 10];simp only [qF];rfl
theorem XS:(zZZ.info? 171).map (·.size)=aD 2:=by kernel_rfl
theorem z00:liesAt zZZ zZZ.depth 171 (2 / zZZ.cellsOf 171) 0 171 1=true:=by kernel_rfl
theorem uv (b:Nat) (w:World) (h0:w.cell? ⟨b,0,aC⟩=aD (.pointer (aD ⟨b,0,aC⟩))) :
  Calls zZZ 144 #[.pointer (aD ⟨b,0,aC⟩)] w fun e w'=>e= .returned (.tuple #[])/\w=w':=by
 obtain⟨j,hj,_⟩:=Option.map_eq_some_iff.1 XS;have hne:=fun W=>Lib.run_neq_ptr_same (P:=zZZ) W (tp:=169) ⟨b,0,aC⟩ underlying169 hj;clear hj;go_enter func144,ntmps144;go_wp2;go_end0;exact⟨rfl,rfl⟩
theorem vR (b:Nat) (w:World) (h0:w.cell? ⟨b,0,aC⟩=aD (.pointer aC)) (hsh:w.shape? b=aD (171,2)) (hfz:w.frozen? ⟨b,0,aC⟩=false) :
  Calls zZZ 144 #[.pointer (aD ⟨b,0,aC⟩)] w fun e w'=>e= .returned (.tuple #[])/\w.setCell ⟨b,0,aC⟩ (.pointer (aD ⟨b,0,aC⟩))=w':=by
 obtain⟨j,hj,hjs⟩:=Option.map_eq_some_iff.1 XS;have h1:=Lib.run_to_unsafe (P:=zZZ) w (src:=169) (dst:=240) ⟨b,0,aC⟩ underlying169 underlying240 hj (by rw [hjs];decide) hsh (Nat.zero_lt_succ 1);have h2:=Lib.run_from_unsafe (P:=zZZ) w (src:=240) (dst:=169) ⟨b,0,aC⟩ underlying240 underlying169 hj hsh z00;have h3:∀W,(callFunc 165 #[.pointer (aD ⟨b,0,aC⟩)]).run zZZ W= .ok (.value (.pointer (aD ⟨b,0,aC⟩))) W:=fun W=>by
  rw [run_callFunc_extern func165 wo wo wo (e:=Extern.AbiNoEscape.same) wo,Lib.run_noEscape];rfl
 clear hj;go_enter func144,ntmps144;go_wp2;go_end0;exact⟨rfl,rfl⟩
theorem Z7 (B b:Nat) (bs:ag) (w:World) (h:Lib.IsBuilder 171 5 B b bs w) :
  Calls zZZ 144 #[.pointer (aD ⟨b,0,aC⟩)] w fun e w'=>e= .returned (.tuple #[])/\(Lib.BuilderAt 171 5 B b (.pointer (aD ⟨b,0,aC⟩)) bs w'/\Below B w w'):=by
 rcases h with h | h
 ·refine(vR b w h.cell0 h.shape h.frozen0).mono fun e w' ⟨he,hw⟩=>⟨he,?_⟩
  subst hw;exact⟨h.used _,(Below.refl _ _).setCell (p:=⟨b,0,aC⟩) h.1 _⟩
 ·refine(uv b w h.cell0).mono fun e w' ⟨he,hw⟩=>⟨he,?_⟩
  subst hw;exact⟨h,Below.refl _ _⟩
theorem xT (B b:Nat) (bs:ag) (c:Int) (w:World) (h:Lib.IsBuilder 171 5 B b bs w) (hlen:bs.length+1<=140737488355328) (hBw:B<=w.heap.size) :
  Calls zZZ 104 #[.pointer (aD ⟨b,0,aC⟩),ay .u8 c] w fun e w'=>e= .returned .nilIface/\(Lib.BuilderAt 171 5 B b (.pointer (aD ⟨b,0,aC⟩)) (bs++ [ay .u8 c]) w'/\Below B w w'):=by
 go_enter func104,ntmps104;go_wp2_with fail;refine(Z7 B b bs _ h).mono ?_;rintro e_ w1 ⟨rfl,h1,hb1⟩;dsimp only;obtain⟨hB,v,hbk,hown,hne⟩:=h1;have c0:w1.cell? ⟨b,0,aC⟩=aD (.pointer (aD ⟨b,0,aC⟩)):=by rw [Lib.cell_of_heap hbk];rfl
 have c1:w1.cell? ⟨b,1,aC⟩=aD v:=by rw [Lib.cell_of_heap hbk];rfl
 have hz:=hb1.size
 refine wH ?_;intros;refine zh rfl _ _ rfl jR ww hown rfl rfl (by simp;rfl) wm wm ?_;intro v' w2 hown' hgrow _;have hlt:b<w1.heap.size:=by
  rcases Nat.lt_or_ge b w1.heap.size with h' | h'
  ·exact h'
  ·simp [Array.getElem?_eq_none h']at hbk
 have hb2:w2.heap[b]?=aD (.cells #[.pointer (aD ⟨b,0,aC⟩),v] 171 (0,0)):=by
  rw [hgrow.block b hlt (fun e=>hne e.symm)];exact hbk
 have d0:w2.cell? ⟨b,0,aC⟩=aD (.pointer (aD ⟨b,0,aC⟩)):=by rw [Lib.cell_of_heap hb2];rfl
 have d1:w2.cell? ⟨b,1,aC⟩=aD v:=by rw [Lib.cell_of_heap hb2];rfl
 have f1:w2.frozen? ⟨b,1,aC⟩=false:=Lib.frozen_of_heap hb2 1;obtain⟨g,cap,rfl⟩:∃g cap,v'= ax (aD ⟨g,0,aC⟩) (bs.length+1) cap:=by
  rcases hown'.2 with ⟨_,h0⟩ | ⟨g,cap,cur,hv,_⟩
  ·omega
  ·exact⟨g,cap,hv⟩
 go_wp2_with fail;go_ret;refine⟨rfl,?_,?_⟩
 ·exact Lib.BuilderAt.put (T:=171) (e:=5) hB hb2 (bs':=bs++ [ay .u8 c]) (by simpa using hown') ws
 ·exact(hb1.grown hgrow wm (fun k hk=>(hown.lt k hk).1)).setCell (p:=⟨b,1,aC⟩) hB _
def dig (n:Nat):UInt8:=if n<10 then UInt8.ofNat (48+n) else UInt8.ofNat (87+n)
def hx1 (c:UInt8):ae:= [dig (c.toNat / 16),dig (c.toNat % 16)]
def kV (l:ae):ae:=l.flatMap hx1
theorem yc (l:ae):(kV l).length=2*l.length:=by
 induction l with
 | nil=>rfl
 | cons x l ih=>simp only [kV,List.flatMap_cons,List.length_append,List.length_cons] at *;rw [ih];simp [hx1];omega
theorem Xd (l:ae) (k:Nat) (h:k<l.length):kV (l.take (k+1))=kV (l.take k)++hx1 l[k]:=by
 unfold kV;rw [List.take_succ_eq_append_getElem h,List.flatMap_append,List.flatMap_cons,List.flatMap_nil,List.append_nil]
theorem JJ (m:Nat) (h:m<(⟨#[48,49,50,51,52,53,54,55,56,57,97,98,99,100,101,102]⟩:ByteArray).size) :
  ((⟨#[48,49,50,51,52,53,54,55,56,57,97,98,99,100,101,102]⟩:ByteArray)[m]'h).toNat=(dig m).toNat:=by
 have key:∀m:Fin 16,((⟨#[48,49,50,51,52,53,54,55,56,57,97,98,99,100,101,102]⟩:ByteArray)[m.val]'m.isLt).toNat=(dig m.val).toNat:=ws;exact key ⟨m,h⟩
theorem Yv (A:af) (n c:Nat) (l:ae) (w:World) (hl:l.length=n) (hn:n<=70368744177664) (hc:n<=c) (hr:Rd w 1 A n (bys l)) :
  Calls zZZ 57 #[ax A n c] w fun e w'=>e= .returned (aA ⟨(kV l).toArray⟩)/\Below w.heap.size w w':=by
 go_enter func57,ntmps57;go_wp2_with fail;go_loopw [5,8] (fun u i wr=>∃k:Nat,i= ay az k/\k<=n/\Lib.IsBuilder 171 5 w.heap.size w.heap.size (bys (kV (l.take k))) wr/\Below w.heap.size w wr) (fun _ i _=>n - (intOf i).toNat)
 case atStart=>exact⟨0,rfl,wm,Lib.fresh_isBuilder _ _ _,(Below.refl _ _).alloc ac _⟩
 case round =>
  obtain⟨k,rfl,hk,hB,hbel⟩:=hrel;have hle:=yc (l.take k);rw [List.length_take]at hle;by_cases hlt:k<n
  ·obtain⟨b,off,u,rfl,_,hu,hcell⟩:=(hr.below hbel).at_ hlt;rw [xU l k wm]at hu;cases hu
   have HS:=sqH (Xd l k wm);generalize l[k]=x at *
   have hx:=x.toNat_lt
   refine wH ?_;intros;rw [dif_pos ⟨wm,wm⟩];simp only [JJ,Result.andThen];go_wp2_with fail;refine(xT _ _ _ _ _ hB (by rw [qV];omega) hbel.size).mono ?_;rintro e_ w1 ⟨rfl,hB1,hb1⟩;dsimp only;have hbel1:=hbel.trans hb1
   refine wH ?_;intros;rw [dif_pos ⟨wm,wm⟩];simp only [JJ,Result.andThen];go_wp2_with fail;refine(xT _ _ _ _ _ (.inr hB1) (by simp [qV];omega) hbel1.size).mono ?_;rintro e_ w2 ⟨rfl,hB2,hb2⟩;dsimp only;have hbel2:=hbel1.trans hb2;go_wp2_with fail;go_roundw
   case rel=>exact⟨k+1,by go_num,wm,.inr (by rw [HS.o,qU];simpa [hx1,bys] using hB2),hbel2⟩
   case measure=>simp [intOf];omega
  ·obtain rfl:k=n:=by omega
   rw [List.take_of_length_le wm]at hB;go_wp2_with fail;refine wW (Tryz.Builder_String_any _ _ (kV l) _ hB hbel.size) fun w1 hb1=>?_;dsimp only;go_wp2_with fail;go_ret;exact⟨rfl,hbel.trans hb1⟩
def z3g:ByteArray:=⟨#[48,49,50,51,52,53,54,55,56,57,97,98,99,100,101,102]⟩
def val (c:UInt8):Int:=Lib.indexByte [48,49,50,51,52,53,54,55,56,57,97,98,99,100,101,102] c
def yY:List UInt8->Option (ae)
 | []=>aD []
 | [_]=>aC
 | a::b::r=>if val a<0\/val b<0 then aC else (yY r).map (UInt8.ofNat (16*(val a).toNat+(val b).toNat):: ·)
def xC (l:ae):ae×Nat :=
 if 4000<l.length then ([],1) else if l.length % 2=1 then ([],3) else match yY l with | none=>([],3) | some r=>(r,0)
theorem kS (c:UInt8): -1<=val c/\val c<=15:=by
 have key:∀n:Fin 256, -1<=val (UInt8.ofNat n.val)/\val (UInt8.ofNat n.val)<=15:=by decide +kernel
 have:=key ⟨c.toNat,c.toNat_lt⟩;rw [show UInt8.ofNat (c.toNat)=c from UInt8.ofNat_toNat]at this;exact this
theorem Vu (c:UInt8) (w:World):Calls zZZ 102 #[aA z3g,ay .u8 (c.toNat:Int)] w fun e w'=>e= .returned (ay az (val c))/\w'=w:=by
 refine(Tryz.strings_IndexByte z3g (c.toNat:Int) w).mono fun e w' ⟨he,hw⟩=>⟨?_,hw⟩
 rw [he];have:((c.toNat:Int)).toNat.toUInt8=c:=by rw [Int.toNat_natCast];exact UInt8.ofNat_toNat
 rw [this];rfl
theorem X9 (s:ByteArray) (w:World) (hs:s.size<=140737488351232) :
  Calls zZZ 51 #[aA s] w fun e w'=>∃A c,e= .returned (.tuple #[ax A (xC s.data.toList).1.length c,ay az (xC s.data.toList).2])/\OwnB 5 w.heap.size w' A c (xC s.data.toList).1/\Below w.heap.size w w':=by
 have hsz:s.data.toList.length=s.size:=by rw [Array.length_toList];rfl
 by_cases hbig:4000<s.size
 ·have hfin:xC s.data.toList=([],1):=by rw [xC,if_pos wm]
  have HF:=sqH hfin;clear hfin;go_enter func51,ntmps51;go_wp2_with fail;go_ret2;rw [HF.o];exact⟨aC,0,rfl,OwnB.nil_ _ _ _,Below.refl _ _⟩
 ·by_cases hodd:s.size % 2=1
  ·have hfin:xC s.data.toList=([],3):=by rw [xC,if_neg wm,if_pos wm]
   have HF:=sqH hfin;clear hfin;have h2:((s.size:Int) % 2 != 0)=true:=by rw [bne_iff_ne];omega
   clear hodd;go_enter func51,ntmps51;go_wp2_with fail;go_ret2;rw [HF.o];exact⟨aC,0,rfl,OwnB.nil_ _ _ _,Below.refl _ _⟩
  ·have hfin:xC s.data.toList=match yY s.data.toList with | none=>([],3) | some r=>(r,0):=by rw [xC,if_neg wm,if_neg wm]
   have HF:=sqH hfin;clear hfin;have h2:((s.size:Int) % 2 != 0)=false:=by rw [bne_eq_false_iff_eq];omega
   obtain⟨q,hq⟩:∃q,s.size=2*q:=⟨s.size / 2,wm⟩
   have hq1:q*2<=s.size:=wm;have hq2:s.size<=q*2:=wm;have HZ:=sqH hsz;clear hodd hq hsz;go_enter func51,ntmps51
   refine wH ?_;intros;refine kT rfl _ _ rfl jR q rfl rfl wm wm ?_;intro w1 g1 hown1 hb1;go_wp2_with fail;go_loopw [4,5,6,7] (fun v i x y wr=>∃(k:Nat) (acc:ae),i= ay az ((2*k:Nat):Int)/\k<=q/\acc.length=k/\yY s.data.toList=(yY (s.data.toList.drop (2*k))).map (acc++ ·) /\
    wr.ownsRow w.heap.size 5 1 v acc.length (bys acc)/\Below w.heap.size w wr) (fun _ i _ _ _=>s.size - (intOf i).toNat)
   case atStart=>exact⟨0, [],rfl,wm,rfl,wu,hown1,hb1⟩
   case round =>
    obtain⟨k,acc,rfl,hk,hacc,hun,hown,hbel⟩:=hrel;have HU:=sqH hun;clear hun;have HA:=sqH hacc;clear hacc;have hsw:=hbel.size;generalize hm:2*k=m at *
    have HM:=sqH hm;by_cases hlt:k<q
    ·have hm1:m+1<s.size:=wm
     have hm0:m<s.size:=wm;have hi0:=wY m
     have hi1:(m:Int)<(s.size:Int):=wm;have hi2:(m:Int)+1<(s.size:Int):=wm;have hi3:(0:Int)<=(m:Int)+1:=wm;have hw1:IntKind.i64.wrap ((m:Int)+1)=(m:Int)+1:=IntWalk.i64_in _ wm;have hn1:((m:Int)+1).toNat=m+1:=wm;have hd:s.data.toList.drop m=s[m]::s[m+1]::s.data.toList.drop (m+2):=by
      have hz:=HZ.o;rw [List.drop_eq_getElem_cons wm,List.drop_eq_getElem_cons (i:=m+1) wm];rfl
     have HD:=sqH hd;have ra:=kS s[m];have rb:=kS s[m+1];clear hm hd;by_cases hbad:val s[m]<0\/val s[m+1]<0
     ·have hfin:xC s.data.toList=([],3):=by rw [HF.o,HU.o,HD.o,yY,if_pos hbad];rfl
      have HG:=sqH hfin;clear hfin;have ha0:val s[m]<0\/¬val s[m]<0/\val s[m+1]<0:=wm;clear hbad;rcases ha0 with ha0 | ⟨ha0,ha1⟩
      all_goals
       go_wp2_with fail;go_quiet ((go_at_call 102;exact Calls.quiet_of_same (Vu _ _)));go_wp2_with fail;go_ret2;rw [HG.o];exact⟨aC,0,rfl,OwnB.nil_ _ _ _,zW hbel _⟩
     ·have hstep:yY s.data.toList=(yY (s.data.toList.drop (m+2))).map ((acc++ [UInt8.ofNat (16*(val s[m]).toNat+(val s[m+1]).toNat)])++ ·):=by
       rw [HU.o,HD.o,yY,if_neg hbad,Option.map_map]
       congr 1;funext x;simp
      have HG:=sqH hstep;clear hstep;have hna:¬val s[m]<0:=fun h=>hbad (.inl h);have hnb:¬val s[m+1]<0:=fun h=>hbad (.inr h);clear hbad;have hacl:=HA.o;go_wp2_with fail;go_quiet ((go_at_call 102;exact Calls.quiet_of_same (Vu _ _)))
      refine wH ?_;intros;refine zh rfl (.tmp 40) (.tmp 46) rfl jR ww (Zu hown nq) rfl rfl (by simp;rfl) wm hsw ?_;intro v2 w2 hown2 hg2 _;have hb2:=zj (zW hbel nq) (Zu hown nq) ac hg2;have e1:bys (acc++ [UInt8.ofNat (16*(val s[m]).toNat+(val s[m+1]).toNat)])=bys acc++ [ay .u8 (16*val s[m]+val s[m+1])]:=by
       rw [qU];congr 1;simp only [bys,List.map_cons,List.map_nil,UInt8.toNat_ofNat']
       congr 2;omega
      go_wp2_with fail;rw [<-e1]at hown2;go_roundw
      case rel=>exact⟨k+1,acc++ [UInt8.ofNat (16*(val s[m]).toNat+(val s[m+1]).toNat)],by have:=HM.o;go_num,wm,by rw [List.length_append];simp only [List.length_cons,List.length_nil];omega,by rw [show 2*(k+1)=m+2 by have:=HM.o;omega];exact HG.o,by rw [List.length_append];exact hown2,hb2⟩
      case measure=>simp [intOf];omega
    ·have hkq:k=q:=wm
     have hfin:xC s.data.toList=(acc,0):=by
      rw [HF.o,HU.o,List.drop_of_length_le (wX HZ),yY];simp
     have HG:=sqH hfin;clear hfin;obtain⟨A1,c1,rfl,hc1,_⟩:=Rd.of_own' hown;have hmm:s.size<=m:=wm;clear hkq hm;go_wp2_with fail;go_ret2;rw [HG.o];exact⟨A1,c1,rfl,⟨hown,hc1⟩,hbel⟩
theorem kW (A:af) (n c:Nat) (l:ae) (w:World) (hl:l.length=n) (hc:n<=c) (hm:n<=140737488353280) (hr:Rd w 1 A n (bys l)) :
  Calls zZZ 54 #[ax A n c] w fun e w'=>∃v,e= .returned v/\w'.ownsRow w.heap.size 5 1 v n (bys l)/\Below w.heap.size w w':=by
 have heq:=fun W=>Lib.run_eql_slice_nil (P:=zZZ) W 26 5 A n c 0 0 underlying26;cases A with
 | none =>
  obtain rfl:n=0:=by
   rcases Nat.eq_zero_or_pos n with h | h
   ·exact h
   ·obtain⟨_,_,h1,_⟩:=hr.2 h;cases h1
  obtain rfl:l= []:=List.eq_nil_of_length_eq_zero hl;go_enter func54,ntmps54;go_wp2_with fail;go_ret;exact⟨_,rfl,World.ownsRow_nil _ _ _ _,Below.refl _ _⟩
 | some ad =>
  go_enter func54,ntmps54
  refine wH ?_;intros;refine zM rfl (.tmp 5) (.tmp 6) rfl jR ww (World.ownsRow_made (size:=1) w #[] 0 ac (by simp [maxLen]) rfl) ww (hr.alloc _) (xF _) wm wu ?_;intro v1 w1 hown1 hg1 _;have hb1:=zj ((Below.refl _ _).alloc ac _) (World.ownsRow_made (size:=1) w #[] 0 ac (by simp [maxLen]) rfl) ac hg1;go_wp2_with fail;go_ret;exact⟨_,rfl,by simpa using hown1,hb1⟩
def vf:Nat->Nat->List UInt8->Nat×ae×Nat
 | _,_, []=>(0, [],8)
 | i,n,c::r =>
  if c.toNat<128 then
   if 4294967295<n+c.toNat % 128*128 ^ i\/(c.toNat=0/\0<i) then (0, [],3) else (n+c.toNat % 128*128 ^ i,r,0)
  else if i=4 then (0, [],3) else vf (i+1) (n+c.toNat % 128*128 ^ i) r
def zB (b:ae):Nat×ae×Nat:=vf 0 0 b
theorem V7 (n:Int) (h0:0<=n) (h1:n<2 ^ 63):IntKind.i64.wrap n=n:=by
 rw [IntKind.wrap_i64];simp at h1;omega
theorem US (N c k:Nat) (hk:k<=4) (hN:N<128 ^ k) (hc:c<128):bits .or az (N:Int) (wrap64 ((c:Int) % 128*2 ^ (7*k)))=((N+c % 128*128 ^ k:Nat):Int):=by
 have e0:(128:Nat) ^ k=2 ^ (7*k):=by rw [show(128:Nat)=2 ^ 7 by rfl,<-Nat.pow_mul]
 have hp:2 ^ (7*k)<=2 ^ 28:=Nat.pow_le_pow_right wm wm;have hm:c % 128=c:=Nat.mod_eq_of_lt hc;have hb:c*2 ^ (7*k)<=127*2 ^ 28:=Nat.mul_le_mul wm hp;have e1:((c:Int) % 128*2 ^ (7*k))=((c*2 ^ (7*k):Nat):Int):=by
  rw [show((c:Int) % 128)=(c:Int) by omega,Int.natCast_mul,Int.natCast_pow];rfl
 rw [e1,show wrap64 ((c*2 ^ (7*k):Nat):Int)=((c*2 ^ (7*k):Nat):Int) from IntWalk.wrap64_in _ ⟨wm,wm⟩];have h2:N<2 ^ 63:=by rw [e0]at hN;omega
 rw [(bits_nat az 63 ws V7 N (c*2 ^ (7*k)) h2 wm).2,hm,e0]
 congr 1
 rw [e0]at hN;have:=Nat.two_pow_add_eq_or_of_lt hN c;rw [Nat.or_comm,Nat.mul_comm,<-this];omega
set_option maxRecDepth 20000 in
theorem jm (A:af) (n c:Nat) (l:ae) (w:World) (hl:l.length=n) (hc:n<=c) (hm:n<=140737488353280) (hr:Rd w 1 A n (bys l)) :
  Calls zZZ 56 #[ax A n c] w fun e w'=>∃v,e= .returned (.tuple #[ay az (zB l).1,v,ay az (zB l).2.2]) /\
   w'.ownsRow w.heap.size 5 1 v (zB l).2.1.length (bys (zB l).2.1)/\Below w.heap.size w w':=by
 go_enter func56,ntmps56
 refine wH ?_;intros;go_loop [5,10] (fun m i=>∃k N:Nat,i= ay az k/\m= ay az N/\k<=n/\k<=4/\N<128 ^ k/\zB l=vf k N (l.drop k)) (fun _ i=>n - (intOf i).toNat)
 case atStart=>exact⟨0,0,rfl,rfl,wm,wm,wu,rfl⟩
 case round =>
  obtain⟨k,N,rfl,rfl,hk,hk4,hN,hrd⟩:=hrel;have HR:=sqH hrd;clear hrd;have HN:=sqH hN;clear hN;by_cases hlt:k<n
  ·obtain⟨b,off,u,rfl,_,hu,hcell⟩:=hr.at_ hlt;rw [xU l k wm]at hu;cases hu
   have hc0:=l[k].toNat_lt;generalize hcc:l[k].toNat=cc at *
   have HC:=sqH hcc;clear hcc;have hdr:l.drop k=l[k]::l.drop (k+1):=List.drop_eq_getElem_cons wm;have HD:=sqH hdr;clear hdr;by_cases h128:cc<128
   ·have hor:=US N cc k hk4 HN.o h128;generalize hM:N+cc % 128*128 ^ k=M at *
    have HM:=sqH hM;clear hM;by_cases hbig:4294967295<M
    ·have hfin:zB l=(0, [],3):=by rw [HR.o,HD.o,vf,HC.o,if_pos h128,HM.o,if_pos (.inl hbig)]
     have HF:=sqH hfin;clear hfin
     refine wH ?_;intros;go_ret3;rw [HF.o];exact⟨_,rfl,World.ownsRow_nil _ _ _ _,Below.refl _ _⟩
    ·by_cases h00:cc=0/\0<k
     ·have hfin:zB l=(0, [],3):=by rw [HR.o,HD.o,vf,HC.o,if_pos h128,if_pos (.inr h00)]
      have HF:=sqH hfin;clear hfin;obtain⟨h0,hk0⟩:=h00;have hcc1:((cc:Int)==0)=true:=beq_iff_eq.2 wm;clear h0
      refine wH ?_;intros;go_ret3;rw [HF.o];exact⟨_,rfl,World.ownsRow_nil _ _ _ _,Below.refl _ _⟩
     ·have hfin:zB l=(M,l.drop (k+1),0):=by rw [HR.o,HD.o,vf,HC.o,if_pos h128,HM.o,if_neg wm]
      have HF:=sqH hfin;clear hfin;have hcut:=hr.cutAt (k:=k+1) (c:=c) wm hc;rw [xd]at hcut;have hlen:(l.drop (k+1)).length=n - (k+1):=by rw [List.length_drop,hl]
      have HL:=sqH hlen;clear hlen;by_cases hc0':cc=0
      ·have hcc1:((cc:Int)==0)=true:=beq_iff_eq.2 wm;have hk0:k<=0:=wm
       clear hc0' h00
       refine wH ?_;intros;refine(kW _ _ _ _ _ HL.o wm wm hcut).mono ?_;rintro e_ w_ ⟨v1,rfl,hown1,hb1⟩;dsimp only
       refine wH ?_;intros;go_ret3;rw [HF.o];exact⟨_,rfl,by rw [HL.o];exact hown1,hb1⟩
      ·have hcc0:((cc:Int)==0)=false:=beq_eq_false_iff_ne.2 wm
       refine wH ?_;intros;refine(kW _ _ _ _ _ HL.o wm wm hcut).mono ?_;rintro e_ w_ ⟨v1,rfl,hown1,hb1⟩;dsimp only
       refine wH ?_;intros;go_ret3;rw [HF.o];exact⟨_,rfl,by rw [HL.o];exact hown1,hb1⟩
   ·have hor:=US N (cc - 128) k hk4 HN.o wm;have ecc:((cc - 128:Nat):Int) % 128=(cc:Int) % 128:=wm
    have ecd:(cc - 128) % 128=cc % 128:=wm;rw [ecc,ecd]at hor;clear ecc ecd;generalize hM:N+cc % 128*128 ^ k=M at *
    have HM:=sqH hM;clear hM;by_cases h4:k=4
    ·subst h4;have hfin:zB l=(0, [],3):=by rw [HR.o,HD.o,vf,HC.o,if_neg h128,if_pos rfl]
     have HF:=sqH hfin;clear hfin
     refine wH ?_;intros;go_ret3;rw [HF.o];exact⟨_,rfl,World.ownsRow_nil _ _ _ _,Below.refl _ _⟩
    ·have hnext:zB l=vf (k+1) M (l.drop (k+1)):=by rw [HR.o,HD.o,vf,HC.o,if_neg h128,if_neg h4,HM.o]
     have HF:=sqH hnext;clear hnext;have hMlt:M<128 ^ (k+1):=by
      have h1:=HM.o;have h2:=HN.o;have h3:cc % 128*128 ^ k<=127*128 ^ k:=Nat.mul_le_mul wm ac;rw [Nat.pow_succ];omega
     have HG:=sqH hMlt;clear hMlt;have hk4b:((k:Int)==4)=false:=beq_eq_false_iff_ne.2 wm
     refine wH ?_;intros;go_round
     case rel=>exact⟨k+1,M,by go_num,rfl,wm,wm,HG.o,HF.o⟩
     case measure=>simp [intOf];omega
  ·have hfin:zB l=(0, [],8):=by rw [HR.o,List.drop_of_length_le wm,vf]
   have HF:=sqH hfin;clear hfin
   refine wH ?_;intros;go_ret3;rw [HF.o];exact⟨_,rfl,World.ownsRow_nil _ _ _ _,Below.refl _ _⟩
theorem kX {c:Nat} {l:ae} {er:Nat} (E:Int) (hE:er=E) (hrd:zB l=(m,rest,er)) (hl:l.length=n) (hc:n<=c) (hm:n<=140737488353280) (hr:Rd w 1 A n (bys l)) :
  Calls zZZ 56 #[ax A n c] w fun e w'=>∃A' c',e= .returned (.tuple #[ay az m,ax A' rest.length c',ay az E]) /\
   OwnB 5 w.heap.size w' A' c' rest/\Below w.heap.size w w':=by
 subst hE;refine(jm A n c l w hl hc hm hr).mono fun e w' ⟨v,he,ho,hb⟩=> ?_;rw [hrd]at he ho;obtain⟨A',c',rfl,h⟩:=OwnB.of rfl ho;exact⟨A',c',he,h,hb⟩
theorem Uo:∀(b:ae) (i a m:Nat) (rest:ae),i<=4->vf i a b=(m,rest,0) ->
  m<=4294967295/\∃n,m=a+n*128 ^ i/\b=num n++rest/\(i=0\/0<n):=by
 intro b
 induction b with
 | nil=>intro i a m rest _ h;simp [vf]at h
 | cons c r ih =>
  intro i a m rest hi h;rw [vf]at h;by_cases hc:c.toNat<128
  ·rw [if_pos hc]at h;split at h
   ·simp at h
   ·rename_i hx;simp only [Prod.mk.injEq,and_true]at h;obtain⟨rfl,rfl⟩:=h;rw [Nat.mod_eq_of_lt hc]at hx ⊢
    refine⟨wm,c.toNat,rfl,?_,wm⟩;rw [ke hc];simp
  ·rw [if_neg hc]at h;split at h
   ·simp at h
   ·rename_i h4;obtain⟨hm,n,e1,e2,e3⟩:=ih (i+1) _ m rest wm h;have hn:0<n:=wm
    have hc2:=c.toNat_lt;refine⟨hm,c.toNat % 128+128*n,?_,?_,.inr wm⟩
    ·rw [e1,Nat.pow_succ,Nat.add_mul];have:n*(128 ^ i*128)=128*n*128 ^ i:=by rw [Nat.mul_comm (128 ^ i) 128,<-Nat.mul_assoc,Nat.mul_comm n 128]
     omega
    ·rw [Q7 wm,e2];have h1:(c.toNat % 128+128*n) % 128+128=c.toNat:=wm
     have h2:(c.toNat % 128+128*n) / 128=n:=wm;rw [h1,h2];simp
theorem xp {b:ae} (h:zB b=(m,rest,0)):m<=4294967295/\b=num m++rest:=by
 obtain⟨h1,n,h2,h3,_⟩:=Uo b 0 0 m rest wm h;simp at h2;subst h2;exact⟨h1,h3⟩
def bl (n:Nat):Nat:=if h:n=0 then 0 else bl (n / 2)+1
termination_by n
decreasing_by omega
theorem z04 {base:Nat} {cap k:Nat} {xs:ag} (h:w.ownsRow base e size (ax A n cap) n xs) (hk:k<=n) :
  w.ownsRow base e size (ax A k cap) k (xs.take (k*size)):=by
 refine⟨by rw [List.length_take,h.1];exact Nat.min_eq_left (Nat.mul_le_mul_right _ hk),?_⟩;rcases h.2 with ⟨h1,h2⟩ | ⟨g,cap',cur,hv,hb,hg,hnc,hcm,hcs,htake⟩
 ·left;injection h1 with e1 e2 e3;subst e1 e3;obtain rfl:k=0:=by omega
  exact⟨rfl,rfl⟩
 ·right;injection hv with e1 e2 e3;subst e1 e3;refine⟨g,cap,cur,rfl,hb,hg,wm,hcm,hcs,?_⟩;rw [<-htake,List.take_take,Nat.min_eq_left (Nat.mul_le_mul_right _ hk)]
theorem Qc {ty:TypeId} (E:El P t e size bytes) (hit:P.underlying it=aD (.int az)) (n:Nat) (h0:0<n) (hb:n*bytes<=140737488355328) :
  ∃cap cells,(Builtin.append_ #[t,it] ty #[ax aC 0 0,ay az n]).run P w= .ok (ax (aD ⟨w.heap.size,0,aC⟩) n cap) (w.drew.alloc (.cells cells e))/\n<=cap/\cap<=maxLen/\cells.size=cap*size:=by
 have hpb:=E.posb;have hps:=E.pos;obtain⟨hu,⟨i,z,hi,hz,hs,hby,hzs⟩,_,_⟩:=E;have hn47:n<=140737488355328:=Nat.le_trans (Nat.le_mul_of_pos_right n hpb) hb;have hge:=grownCap_ge w n 0 e;have hcm:=grownCap_le_maxLen w n 0 e (by simp only [maxLen];omega);have h63':¬(9223372036854775807<(n:Int)):=wm;have h48':¬(281474976710656<Builtin.nextslicecap n 0*i.bytes):=by rw [nextslicecap_zero h0,hby];omega
 have hw:IntKind.i64.wrap (n:Int)=n:=by rw [IntKind.wrap_i64];omega
 have hl:¬((n:Int)<0):=wm;have hl2:¬(281474976710656<(n:Int)*(i.bytes:Int)):=by rw [hby,<-Int.natCast_mul];omega
 have hns:¬(n*i.size=0):=by rw [hs];exact Nat.ne_of_gt (Nat.mul_pos h0 hps)
 have hn0:n≠0:=wm;refine⟨grownCap w n 0 e,#[]++Builtin.zeroCells z.cells n++Builtin.zeroCells z.cells (grownCap w n 0 e - n),?_,hge,hcm,?_⟩
 ·simp [Builtin.append_,run_underlying hu,run_underlying hit,sizeOf,typeInfo,zeroValue,hi,hz,asInt,asIntOf,hw,hl,hl2,hn0,h63',h48',Question.forced,run_firstCells_none,newRow,grownCap];intro h;exact absurd h hns
 ·simp only [Array.size_append,size_zeroCells,hzs];rw [show(#[]:Array Value).size=0 from rfl,Nat.zero_add,<-Nat.add_mul];congr 1;omega
theorem KW {ops:Array Oper} {rest:List Oper} {o:Oper} {a:Act} {Q:ai} (hgd:o.guard=aC) (s x:Operand) 
  (ho:o.op= .call { callee:= .builtin .append,args:=#[s,x],argTypes:=#[t,it] }) (E:El P t e size bytes) (hit:P.underlying it=aD (.int az))
  (n:Nat) (h0:0<n) (hb:n*bytes<=140737488355328) (hs:a.eval s= ax aC 0 0) (hx:a.eval x= ay az n)
  (h:∀A c w',w'.ownsRow w.heap.size e size (ax A 0 c) 0 []->n<=c->Below w.heap.size w w'->wpList P ops Q rest (a.put o.dst (ax A n c)) w') :
  wpList P ops Q (o::rest) a w:=by
 refine wpList_plain hgd fun _ hK=> ?_;obtain⟨cap,cells,hrun,h1,h2,h3⟩:=Qc (P:=P) (w:=w) (ty:=o.type) E hit n h0 hb;unfold Oper.wp execOp;simp only [ho,resolve,invoke,builtin,Sem.run_bind,Sem.run_pure,Result.andThen_ok,List.map_toArray,List.map_cons,List.map_nil,hs,hx,hrun];refine hK _ _ (h _ _ _ ?_ h1 ((Below.refl _ _).drew.alloc ac _));exact World.ownsRow_made w.drew cells cap ac h2 h3
abbrev W32:=BitVec 32
def ZZ (n:Nat):ae:= [7,6,5,4,3,2,1,0].map fun i=>UInt8.ofNat (n / 256 ^ i)
def xD (n:Nat):Nat:=(119 - n % 64) % 64
def qj (l:ae):ae:=l++ [128]++List.replicate (xD l.length) 0++ZZ (8*l.length)
theorem j5 (l:ae):(qj l).length % 64=0/\l.length+9<=(qj l).length/\(qj l).length<=l.length+72:=by
 simp only [qj,ZZ,xD,List.length_append,List.length_cons,List.length_nil,List.length_replicate,List.length_map];omega
def yX (w:List W32):W32:=w[w.length - 16]! + ym w[w.length - 15]! 2+w[w.length - 7]! + ym w[w.length - 2]! 3
def qo (b:List W32):Nat->List W32
 | 0=>b
 | k+1=>qo b k++ [yX (qo b k)]
theorem kR (b:List W32):∀k,(qo b k).length=b.length+k
 | 0=>rfl
 | k+1=>by rw [qo,List.length_append,kR b k];simp;omega
def rks:List W32:= [
 0x428a2f98,0x71374491,0xb5c0fbcf,0xe9b5dba5,0x3956c25b,0x59f111f1,0x923f82a4,0xab1c5ed5,
 0xd807aa98,0x12835b01,0x243185be,0x550c7dc3,0x72be5d74,0x80deb1fe,0x9bdc06a7,0xc19bf174,
 0xe49b69c1,0xefbe4786,0x0fc19dc6,0x240ca1cc,0x2de92c6f,0x4a7484aa,0x5cb0a9dc,0x76f988da,
 0x983e5152,0xa831c66d,0xb00327c8,0xbf597fc7,0xc6e00bf3,0xd5a79147,0x06ca6351,0x14292967,
 0x27b70a85,0x2e1b2138,0x4d2c6dfc,0x53380d13,0x650a7354,0x766a0abb,0x81c2c92e,0x92722c85,
 0xa2bfe8a1,0xa81a664b,0xc24b8b70,0xc76c51a3,0xd192e819,0xd6990624,0xf40e3585,0x106aa070,
 0x19a4c116,0x1e376c08,0x2748774c,0x34b0bcb5,0x391c0cb3,0x4ed8aa4a,0x5b9cca4f,0x682e6ff3,
 0x748f82ee,0x78a5636f,0x84c87814,0x8cc70208,0x90befffa,0xa4506ceb,0xbef9a3f7,0xc67178f2]
def h0s:List W32:= [0x6a09e667,0xbb67ae85,0x3c6ef372,0xa54ff53a,0x510e527f,0x9b05688c,0x1f83d9ab,0x5be0cd19]
def UK (x y z:W32):W32:=(x &&& y) ^^^ (~~~x &&& z)
def Zo (x y z:W32):W32:=(x &&& y) ^^^ (x &&& z) ^^^ (y &&& z)
def rnd (k w:W32):List W32->List W32
 | [a,b,c,d,e,f,g,h] =>
  let one:=h+ym e 1+UK e f g+k+w
  let two:=ym a 0+Zo a b c
  [one+two,a,b,c,d+one,e,f,g]
 | v=>v
def uX (w v:List W32):Nat->List W32
 | 0=>v
 | n+1=>rnd rks[n]! w[n]! (uX w v n)
theorem z08 (k w:W32) (v:List W32) (h:v.length=8):(rnd k w v).length=8:=by
 match v,h with
 | [a,b,c,d,e,f,g,h],_=>rfl
theorem xt (w v:List W32) (h:v.length=8):∀n,(uX w v n).length=8
 | 0=>h
 | n+1=>z08 _ _ _ (xt w v h n)
theorem YN (v:List α) (h:v.length=8):∃a b c d e f g i,v= [a,b,c,d,e,f,g,i]:=by
 match v,h with
 | [a,b,c,d,e,f,g,i],_=>exact⟨_,_,_,_,_,_,_,_,rfl⟩
def xx (h b:List W32):List W32:=List.zipWith (· + ·) (uX (qo b 48) h 64) h
theorem XX (h b:List W32) (hh:h.length=8):(xx h b).length=8:=by
 simp [xx,xt _ _ hh,hh]
def va (h w:List W32):Nat->List W32
 | 0=>h
 | k+1=>xx (va h w k) ((w.drop (16*k)).take 16)
theorem kO (h w:List W32) (hh:h.length=8):∀k,(va h w k).length=8
 | 0=>hh
 | k+1=>XX _ _ (kO h w hh k)
def Uq (l:ae):List W32:=va h0s (ki (qj l)) ((qj l).length / 64)
theorem ZB (l:ae):(Uq l).length=8:=kO _ _ rfl _
def shaS (l:ae):ae:=kV (wbs (Uq l))
theorem jK (l:ae):(shaS l).length=64:=by
 rw [shaS,yc,jO,ZB]
theorem YI (x y z:W32):UK x y z=(x &&& y) ||| (~~~x &&& z):=by
 ext i;simp only [UK,BitVec.getElem_xor,BitVec.getElem_and,BitVec.getElem_or,BitVec.getElem_not]
 cases x[i]<;>simp
theorem Ue (x y z:W32):Zo x y z=((x &&& y) ||| (x &&& z)) ||| (y &&& z):=by
 ext i;simp only [Zo,BitVec.getElem_xor,BitVec.getElem_and,BitVec.getElem_or]
 cases x[i]<;>cases y[i]<;>cases z[i]<;>rfl
theorem z2w (n:Nat) (h:n<=31):bits BinOp.and .u64 (n:Int) 31=(n:Int):=by
 have key:∀n:Fin 32,bits BinOp.and .u64 (n.val:Int) 31=(n.val:Int):=by decide +kernel
 exact key ⟨n,wm⟩
theorem Ju (x:BitVec 32) (n:Nat) (w:World) (h0:0<n) (hn:n<=31):Calls zZZ 110 #[ay .u32 (wd x),ay az n] w fun e w'=>e= .returned (ay .u32 (wd (x.rotateRight (32 - n))))/\w=w':=by
 have h1:=z2w n hn;have h2:(n:Int)<32:=wm;have h3:IntKind.u64.wrap (n:Int)=n:=by rw [IntKind.wrap_u64];omega
 have h4:IntKind.u64.wrap (32 - (n:Int))=32 - (n:Int):=by rw [IntKind.wrap_u64];omega
 have h5:(32 - (n:Int))<32:=wm;have h6:(32 - (n:Int)).toNat=32 - n:=wm;go_enter func110,ntmps110;go_wp2_with fail;go_ret;refine⟨?_,rfl⟩;have t:=z1t x (32 - n) wm;rw [show 32 - (32 - n)=n by omega,Ur,ZC,kM,UZ]at t;have e:bits .or .u32 (wd x*2 ^ n % 4294967296) (wd x / 2 ^ (32 - n))=wd (x.rotateRight (32 - n)):=by
  rw [Ur,ZC,kM,BitVec.or_comm,t]
 show Ending.returned (ay .u32 (bits .or .u32 (wd x*2 ^ n % 4294967296) (wd x / 2 ^ (32 - n))))=_;rw [e]
theorem q7 (l:List W32):(wds l).length=l.length:=by simp [wds]
theorem uo (l:List W32) (k:Nat) (x:W32):(wds l).set k (ay .u32 (wd x))=wds (l.set k x):=by simp [wds,List.map_set]
theorem Jt (x:BitVec 32) (n:Nat) (N:Int) (hN:N=n) (w:World) (h0:0<n) (hn:n<=31):Calls zZZ 110 #[ay .u32 (wd x),ay az N] w fun e w'=>e= .returned (ay .u32 (wd (x.rotateRight (32 - n))))/\w=w':=by
 subst hN;exact Ju x n w h0 hn
theorem vK (x:BitVec 32) (n:Nat) (N:Int) (hN:N=n) (w:World) (h0:0<n) (hn:n<=31):Calls zZZ 110 #[ay .u32 (wd x),ay az N] w fun e w'=>e= .returned (ay .u32 (wd (x.rotateRight (32 - n))))/\w'=w :=
 (Jt x n N hN w h0 hn).mono fun _ _ h=>⟨h.1,h.2.symm⟩
theorem Qs (x:BitVec 32) (N:Int) (w:World) (h0:0<N) (hn:N<=31):Calls zZZ 110 #[ay .u32 (wd x),ay az N] w fun e w'=>e= .returned (ay .u32 (wd (x.rotateRight (32 - N.toNat))))/\w'=w:=by
 obtain⟨n,rfl⟩:=Int.eq_ofNat_of_zero_le (Int.le_of_lt h0);exact vK x n n rfl w wm wm
theorem z3p (y:W32) (b:UInt8):bits BinOp.or IntKind.u32 (IntKind.u32.wrap (wd y*256)) (IntKind.u32.wrap (b.toNat:Int))=wd (y <<< 8 ||| BitVec.ofNat 32 b.toNat):=by
 have h1:IntKind.u32.wrap (wd y*256)=wd y*2 ^ 8 % 4294967296:=by rw [IntKind.wrap_u32,show(2:Int) ^ 8=256 by decide]
 have h2:IntKind.u32.wrap (b.toNat:Int)=wd (BitVec.ofNat 32 b.toNat):=by
  have:=b.toNat_lt;rw [jQ];simp [wd]
 rw [h1,h2,Ur,kM]
def Qu (l:ae) (i j:Nat):W32:=(((l.take i).drop (4*j)).take 4).foldl (fun a b=>a <<< 8 ||| BitVec.ofNat 32 b.toNat) 0
def jo (l:ae) (i:Nat):List W32:=(List.range 64).map (Qu l i)
theorem vm (l:ae) (i:Nat):(jo l i).length=64:=by simp [jo]
theorem Yz (l:ae) (i:Nat) (h:i<l.length):Qu l (i+1) (i / 4)=Qu l i (i / 4) <<< 8 ||| BitVec.ofNat 32 l[i].toNat:=by
 unfold Qu;have h1:(((l.take i).drop (4*(i / 4))).take 4)=(l.take i).drop (4*(i / 4)):=List.take_of_length_le (by rw [List.length_drop,List.length_take];omega);have h2:(((l.take (i+1)).drop (4*(i / 4))).take 4)=(l.take i).drop (4*(i / 4))++ [l[i]]:=by
  rw [List.take_succ_eq_append_getElem h,List.drop_append_of_le_length (by rw [List.length_take];omega)];exact List.take_of_length_le (by rw [List.length_append,List.length_drop,List.length_take];simp only [List.length_cons,List.length_nil];omega)
 rw [h1,h2,List.foldl_append];rfl
theorem Ks (l:ae) (i j:Nat) (h:i<l.length) (hj:j≠i / 4):Qu l (i+1) j=Qu l i j:=by
 unfold Qu;rw [List.take_succ_eq_append_getElem h];rcases Nat.lt_or_ge j (i / 4) with hlt | hge
 ·rw [List.drop_append_of_le_length (by rw [List.length_take];omega),List.take_append_of_le_length (by rw [List.length_drop,List.length_take];omega)]
 ·rw [List.drop_eq_nil_of_le ab,List.drop_eq_nil_of_le ab]
theorem YA (l:ae) (i:Nat) (h:i<l.length) (hi:i<256):jo l (i+1)=(jo l i).set (i / 4) (Qu l i (i / 4) <<< 8 ||| BitVec.ofNat 32 l[i].toNat):=by
 apply List.ext_getElem (by simp [jo]);intro j h1 h2;simp only [jo,List.getElem_map,List.getElem_range,List.getElem_set];split
 ·rename_i e;subst e;exact Yz l i h
 ·rename_i e;exact Ks l i j h (fun x=>e x.symm)
theorem YB (l:ae):jo l 0=List.replicate 64 0:=by
 apply List.ext_getElem (by simp [jo]);intro j h1 h2;rw [List.getElem_replicate];simp only [jo,Qu,List.getElem_map,List.take_zero,List.drop_nil,List.take_nil,List.foldl_nil]
theorem z1x (x:W32) (b:UInt8):x <<< 8 ||| BitVec.ofNat 32 b.toNat=x <<< 8+BitVec.ofNat 32 b.toNat:=by
 refine(BitVec.add_eq_or_of_and_eq_zero _ _ ?_).symm;have hb:=b.toNat_lt
 ext i hi
 simp only [BitVec.getElem_and,BitVec.getElem_shiftLeft,BitVec.getElem_zero];by_cases h:i<8
 ·simp [h]
 ·have e:(BitVec.ofNat 32 b.toNat)[i]=false:=by
   rw [<-BitVec.getLsbD_eq_getElem,BitVec.getLsbD_ofNat,Nat.testBit_lt_two_pow (Nat.lt_of_lt_of_le hb (Nat.pow_le_pow_right wm wm))];simp
  rw [e];simp
theorem z3r (a b c d:UInt8): [a,b,c,d].foldl (fun (a:W32) (b:UInt8)=>a <<< 8 ||| BitVec.ofNat 32 b.toNat) (0:W32)=wOf a b c d:=by
 simp only [List.foldl_cons,List.foldl_nil,z1x];have ha:=a.toNat_lt;have hb:=b.toNat_lt;have hc:=c.toNat_lt;have hd:=d.toNat_lt;apply BitVec.eq_of_toNat_eq;simp only [wOf,BitVec.toNat_add,BitVec.toNat_shiftLeft,BitVec.toNat_ofNat,Nat.shiftLeft_eq];omega
theorem z3b (l:List α) (k:Nat) (h:k+3<l.length):(l.drop k).take 4= [l[k],l[k+1],l[k+2],l[k+3]]:=by
 rw [List.drop_eq_getElem_cons wm,List.drop_eq_getElem_cons wm,List.drop_eq_getElem_cons wm,List.drop_eq_getElem_cons wm];rfl
theorem Z0 (l:ae) (hl:64<=l.length):∀k,k<=16->(jo l 64).take k=ki (l.take (4*k))
 | 0,_=>rfl
 | k+1,hk=>by
  have ih:=Z0 l hl k wm
  rw [List.take_succ_eq_append_getElem (by rw [vm];omega),ih,ur k l wm]
  congr 2
  simp only [jo,List.getElem_map,List.getElem_range,Qu]
  rw [z3b _ _ (by rw [List.length_take];omega)]
  simp only [List.getElem_take]
  exact z3r _ _ _ _
theorem VJ (l:ae) (hl:64<=l.length):jo l 64=qo (ki (l.take 64)) 0++List.replicate 48 0:=by
 have h:=Z0 l hl 16 wm;rw [<-List.take_append_drop 16 (jo l 64),h]
 congr 1
 apply List.ext_getElem (by simp [vm]);intro j h1 h2;rw [List.getElem_replicate];simp only [jo,List.getElem_drop,List.getElem_map,List.getElem_range,Qu];rw [List.drop_eq_nil_of_le (by rw [List.length_take];omega)];rfl
theorem j0 (L:List W32) (t:Nat) (hL:L.length=t) (h:16<=t):yX L=L[t - 16]+ym L[t - 15] 2+L[t - 7]+ym L[t - 2] 3:=by
 subst hL;unfold yX;rw [getElem!_pos L _ wm,getElem!_pos L _ wm,getElem!_pos L _ wm,getElem!_pos L _ wm]
theorem grow (L:List W32) (t:Nat) (hL:L.length=t) (h:t<64) (v:W32):(L++List.replicate (64 - t) 0).set t v=(L++ [v])++List.replicate (64 - (t+1)) 0:=by
 subst hL;rw [List.set_append_right _ _ ac,Nat.sub_self,show 64 - L.length=(64 - (L.length+1))+1 by omega,List.replicate_succ,List.set_cons_zero,List.append_assoc];rfl
theorem Kt (a b:W32):IntKind.u32.wrap (wd a+wd b)=wd (a+b):=by
 rw [IntKind.wrap_u32];simp only [wd,BitVec.toNat_add];omega
theorem z3q (a:W32):wd a / (8:Int)=wd (a >>> 3):=by have:=ZC a 3;simpa using this
theorem JK (a:W32):wd a / (1024:Int)=wd (a >>> 10):=by have:=ZC a 10;simpa using this
theorem z1w (x1 x2 x3 x4:W32):IntKind.u32.wrap (IntKind.u32.wrap (IntKind.u32.wrap (wd x1+wd x3)+bits BinOp.xor IntKind.u32 (bits BinOp.xor IntKind.u32 (wd (BitVec.rotateRight x2 7)) (wd (BitVec.rotateRight x2 18))) (wd x2 / (8:Int)))+bits BinOp.xor IntKind.u32 (bits BinOp.xor IntKind.u32 (wd (BitVec.rotateRight x4 17)) (wd (BitVec.rotateRight x4 19))) (wd x4 / (1024:Int)))=wd (x1+ym x2 2+x3+ym x4 3):=by
 rw [z3q,JK];simp only [qF,Kt,ym];rw [UZ]
 ac_rfl
theorem z3f (a b c d e:W32):((wd a+wd b+wd c+wd d) % 4294967296+wd e) % 4294967296=wd (a+b+c+d+e):=by
 simp only [wd,BitVec.toNat_add];omega
theorem z1q (h e f g k w:W32):((wd h+bits BinOp.xor IntKind.u32 (bits BinOp.xor IntKind.u32 (wd (BitVec.rotateRight e 6)) (wd (BitVec.rotateRight e 11))) (wd (BitVec.rotateRight e 25)) +
   bits BinOp.xor IntKind.u32 (bits BinOp.and IntKind.u32 (wd e) (wd f)) (bits BinOp.and IntKind.u32 (bits BinOp.xor IntKind.u32 (if IntKind.u32.signed=true then -1 else IntKind.u32.max) (wd e)) (wd g))+wd k) % 4294967296+wd w) % 4294967296=wd (h+ym e 1+UK e f g+k+w):=by
 rw [if_neg ws];simp only [uG,qF,kL,z3f,ym,UK]
theorem z0t (a b:W32):(wd a+wd b) % 4294967296=wd (a+b):=by
 simp only [wd,BitVec.toNat_add];omega
theorem z22 (a b c:W32):(bits BinOp.xor IntKind.u32 (bits BinOp.xor IntKind.u32 (wd (BitVec.rotateRight a 2)) (wd (BitVec.rotateRight a 13))) (wd (BitVec.rotateRight a 22))+bits BinOp.xor IntKind.u32 (bits BinOp.xor IntKind.u32 (bits BinOp.and IntKind.u32 (wd a) (wd b)) (bits BinOp.and IntKind.u32 (wd a) (wd c))) (bits BinOp.and IntKind.u32 (wd b) (wd c))) % 4294967296=wd (ym a 0+Zo a b c):=by
 simp only [qF,kL,z0t,ym,Zo]
def uA (h v:List W32) (k:Nat):List W32:=(List.zipWith (· + ·) v h).take k++h.drop k
theorem Zx (h v:List W32):uA h v 0=h:=by simp [uA]
theorem QQ (h v:List W32) (k:Nat) (h1:h.length<=k) (h2:v.length=h.length):uA h v k=List.zipWith (· + ·) v h:=by
 rw [uA,List.drop_eq_nil_of_le h1,List.append_nil,List.take_of_length_le (by rw [List.length_zipWith];omega)]
theorem yE (h v:List W32) (k:Nat) (h2:v.length=h.length):(uA h v k).length=h.length:=by
 simp only [uA,List.length_append,List.length_take,List.length_zipWith,List.length_drop];omega
theorem Zw (h v:List W32) (k:Nat) (hk:k<h.length) (h2:v.length=h.length):∃x y,(wds (uA h v k))[k]?=aD (ay .u32 (wd x))/\(wds v)[k]?=aD (ay .u32 (wd y))/\(uA h v k).set k (x+y)=uA h v (k+1):=by
 have hz:(List.zipWith (· + ·) v h).length=h.length:=by rw [List.length_zipWith];omega
 refine⟨h[k],v[k],?_,yM v k wm,?_⟩
 ·rw [yM _ k (by rw [yE h v k h2];exact hk)];have:(uA h v k)[k]'(by rw [yE h v k h2];exact hk)=h[k]:=by
   simp only [uA];rw [List.getElem_append_right (by simp [hz];omega)];simp only [List.getElem_drop,List.length_take,hz,Nat.min_eq_left (Nat.le_of_lt hk),Nat.sub_self,Nat.add_zero]
  rw [this]
 ·simp only [uA];rw [List.set_append_right _ _ (by simp [hz];omega),List.length_take,hz,Nat.min_eq_left (Nat.le_of_lt hk),Nat.sub_self,List.drop_eq_getElem_cons hk,List.set_cons_zero,List.take_succ_eq_append_getElem wm,List.append_assoc];simp [List.getElem_zipWith,BitVec.add_comm]
theorem XM (W v:List W32) (t:Nat) (h:t<64) (hW:W.length=64):uX W v (t+1)=rnd (rks[t]'h) (W[t]'(by omega)) (uX W v t):=by
 rw [uX,getElem!_pos rks t h,getElem!_pos W t wm]
theorem z1s (t:Nat) (h:t<64):(wds rks)[t]?=aD (ay .u32 (wd (rks[t]'h))):=yM rks t h
theorem uY (W v:List W32) (hv:v.length=8) (t:Nat) (h:t<64) (hW:W.length=64):∃v0 v1 v2 v3 v4 v5 v6 v7 kt wt,uX W v t= [v0,v1,v2,v3,v4,v5,v6,v7]/\(wds rks)[t]?=aD (ay .u32 (wd kt))/\(wds W)[t]?=aD (ay .u32 (wd wt)) /\
  uX W v (t+1)=rnd kt wt [v0,v1,v2,v3,v4,v5,v6,v7]:=by
 obtain⟨v0,v1,v2,v3,v4,v5,v6,v7,e⟩:=YN _ (xt W v hv t);exact⟨v0,v1,v2,v3,v4,v5,v6,v7,_,_,e,z1s t h,yM W t wm,by rw [XM W v t h hW,e]⟩
theorem Xb (A:af) (n c:Nat) (l:ae) (B:af) (d:Nat) (h:List W32) (w:World) (hl:l.length=n) (hn:64<=n) (hc:n<=c) (hm:n<=140737488353280) (hr:Rd w 1 A n (bys l)) (hk:Rd w 1 B 64 (wds rks)) (hd:64<=d) (hh:h.length=8) :
  Calls zZZ 64 #[.agg (wds h).toArray,ax A n c,ax B 64 d] w fun e w'=>e= .returned (.agg (wds (xx h (ki (l.take 64)))).toArray)/\Below w.heap.size w w':=by
 obtain⟨a0,a1,a2,a3,a4,a5,a6,a7,rfl⟩:=YN h hh;go_enter func64,ntmps64
 refine wH ?_;intros;have hA0:Arr (((w.alloc (aB (wds [a0,a1,a2,a3,a4,a5,a6,a7]).toArray 124)).alloc (aB (wds (List.replicate 8 0)).toArray 124)).alloc (aB (wds (List.replicate 64 0)).toArray 183)) w.heap.size 124 (wds [a0,a1,a2,a3,a4,a5,a6,a7]):=((Arr.new _ _ _).alloc _).alloc _;have hA1:Arr (((w.alloc (aB (wds [a0,a1,a2,a3,a4,a5,a6,a7]).toArray 124)).alloc (aB (wds (List.replicate 8 0)).toArray 124)).alloc (aB (wds (List.replicate 64 0)).toArray 183)) (w.heap.size+1) 124 (wds (List.replicate 8 0)):=by
  have:=(Arr.new (w.alloc (aB (wds [a0,a1,a2,a3,a4,a5,a6,a7]).toArray 124)) 124 (wds (List.replicate 8 0))).alloc (aB (wds (List.replicate 64 0)).toArray 183);simpa using this
 have hA2:Arr (((w.alloc (aB (wds [a0,a1,a2,a3,a4,a5,a6,a7]).toArray 124)).alloc (aB (wds (List.replicate 8 0)).toArray 124)).alloc (aB (wds (List.replicate 64 0)).toArray 183)) (w.heap.size+1+1) 183 (wds (jo l 0)):=by
  rw [YB];have:=(Arr.new ((w.alloc (aB (wds [a0,a1,a2,a3,a4,a5,a6,a7]).toArray 124)).alloc (aB (wds (List.replicate 8 0)).toArray 124)) 183 (wds (List.replicate 64 0)))
  simpa using this
 have hA3:Below w.heap.size w (((w.alloc (aB (wds [a0,a1,a2,a3,a4,a5,a6,a7]).toArray 124)).alloc (aB (wds (List.replicate 8 0)).toArray 124)).alloc (aB (wds (List.replicate 64 0)).toArray 183)) :=
  (((Below.refl _ w).alloc wu _).alloc wu _).alloc ab _
 generalize hg0:w.heap.size=g0 at *
 generalize hg1:g0+1=g1 at *
 generalize hg2:g1+1=g2 at *
 have ne0:g0≠g2:=wm;have ne1:g1≠g2:=wm;have hgb:w.heap.size<=g2:=wm;go_loopw [19] (fun i wr=>∃k:Nat,i= ay az k/\k<=64/\Arr wr g0 124 (wds [a0,a1,a2,a3,a4,a5,a6,a7])/\Arr wr g1 124 (wds (List.replicate 8 0))/\Arr wr g2 183 (wds (jo l k))/\Below w.heap.size w wr) (fun i _=>64 - (intOf i).toNat)
 case atStart=>exact⟨0,rfl,wm,hA0,hA1,hA2,by rw [hg0];exact hA3⟩
 case round =>
  obtain⟨k,rfl,hk,q0,q1,q2,hbel⟩:=hrel;by_cases hlt:k<64
  ·
   obtain⟨b,off,u,rfl,hbw,hu,hcell⟩:=(hr.below hbel).at_ (k:=k) wm;rw [xU l k wm]at hu;cases hu
   have hx8:=l[k].toNat_lt;have hq:(wds (jo l k))[k / 4]?=aD (ay .u32 (wd (Qu l k (k / 4)))):=by
    rw [yM _ _ (by rw [vm];omega)];simp [jo]
   have hc4:=q2.cell hq;have hf4:=q2.frozen (k / 4);have hs:=q2.set (k:=k / 4) (by rw [q7,vm];omega) (ay .u32 (wd (Qu l k (k / 4) <<< 8 ||| BitVec.ofNat 32 l[k].toNat)));have HN:=sqH (YA l k wm wm);generalize Qu l k (k / 4)=y at *
   generalize hb8:l[k]=b8 at *
   have HB8:=sqH hb8;clear hb8 hq;generalize hj:k / 4=j at *
   have HJ:=sqH hj;have i0:(k:Int) / 4=(j:Int):=wm;have i1:(j:Int)<64:=wm;have i2:=wY j
   have i3:(k:Int)<n:=wm;have i4:(k:Int)<64:=wm;have i5:decide ((k:Int)<64)=true:=by simpa using i4
   have i6:IntKind.i64.wrap (j:Int)=(j:Int):=by rw [IntKind.wrap_i64];omega
   have i7:((j:Int)).toNat=j:=wm;clear hj;have hyn:=z0o y;have hyl:=z0n y;have hsv:=sqH hs;clear hs hA0 hA1 hA2 hA3 hh hg0 hg1 hg2
   refine wH ?_;intros;go_still_tail 14,wo
   change wpList _ _ _ _ _ wr.drew;rw [z3p];have hc5:wr.drew.cell? ⟨g2,j,aC⟩=aD (ay .u32 (wd y)):=hc4;have hf5:wr.drew.frozen? ⟨g2,j,aC⟩=false:=hf4
   refine wH ?_;intros;go_roundw
   case rel =>
    refine⟨k+1,by go_num,wm,q0.other ne0 _,q1.other ne1 _,?_,Below.setCell hbel.drew hgb _⟩;rw [HN.o,<-uo];exact hsv.o
   case measure=>simp [intOf];omega
  ·obtain rfl:k=64:=by omega
   have e64:jo l 64=qo (ki (l.take 64)) 0++List.replicate 48 0:=VJ l wm;rw [e64]at q2;clear e64 hA0 hA1 hA2 hA3
   refine wH ?_;intros;have hq2:Arr wr g2 183 (wds (qo (ki (l.take 64)) (16 - 16)++List.replicate (64 - 16) 0)):=q2;have hWl:(ki (l.take 64)).length=16:=vD 16 _ (by rw [List.length_take];omega);generalize hM:ki (l.take 64)=M at *
   have HM:=sqH hM;clear hM;clear q2;rw [show((64:Nat):Int)=(64:Int) from rfl];go_loopw [9] (fun i wr=>∃t:Nat,i= ay az t/\16<=t/\t<=64/\Arr wr g0 124 (wds [a0,a1,a2,a3,a4,a5,a6,a7])/\Arr wr g1 124 (wds (List.replicate 8 0))/\Arr wr g2 183 (wds (qo M (t - 16)++List.replicate (64 - t) 0))/\Below w.heap.size w wr) (fun i _=>64 - (intOf i).toNat)
   case atStart=>exact⟨16,rfl,wm,wm,q0,q1,hq2,hbel⟩
   case round =>
    clear q0 q1 hq2 hbel;obtain⟨t,rfl,ht0,ht,q0,q1,q2,hbel⟩:=hrel;by_cases hlt2:t<64
    ·
     have hLl:(qo M (t - 16)).length=t:=by rw [kR,hWl];omega
     have hnx:=j0 _ t hLl ht0;have hss:qo M (t+1 - 16)=qo M (t - 16)++ [yX (qo M (t - 16))]:=by rw [show t+1 - 16=(t - 16)+1 by omega];rfl
     have HSS:=sqH hss;clear hss;generalize qo M (t - 16)=L at *
     have hcl:∀j (hj:j<L.length),wr.cell? ⟨g2,j,aC⟩=aD (ay .u32 (wd L[j])):=fun j hj=>q2.cell (by rw [yM _ _ (by rw [List.length_append];omega),List.getElem_append_left hj]);have c1:=hcl (t - 16) wm;have c2:=hcl (t - 15) wm;have c3:=hcl (t - 7) wm;have c4:=hcl (t - 2) wm;clear hcl;generalize L[t - 16]=x1 at *
     generalize L[t - 15]=x2 at *
     generalize L[t - 7]=x3 at *
     generalize L[t - 2]=x4 at *
     have HNX:=sqH hnx;clear hnx;have j1:((t:Int) - 16).toNat=t - 16:=wm;have j2:((t:Int) - 15).toNat=t - 15:=wm;have j3:((t:Int) - 7).toNat=t - 7:=wm;have j4:((t:Int) - 2).toNat=t - 2:=wm;have k1:(0:Int)<=(t:Int) - 16:=wm;have k2:(0:Int)<=(t:Int) - 15:=wm;have k3:(0:Int)<=(t:Int) - 7:=wm;have k4:(0:Int)<=(t:Int) - 2:=wm;have l1:(t:Int) - 16<64:=wm;have l2:(t:Int) - 15<64:=wm;have l3:(t:Int) - 7<64:=wm;have l4:(t:Int) - 2<64:=wm;have n1:(16:Int)<=(t:Int):=wm;have n2:(15:Int)<=(t:Int):=wm;have n3:(7:Int)<=(t:Int):=wm;have n4:(2:Int)<=(t:Int):=wm;have m1:IntKind.i64.wrap ((t:Int) - 16)=(t:Int) - 16:=by rw [IntKind.wrap_i64];omega
     have m2:IntKind.i64.wrap ((t:Int) - 15)=(t:Int) - 15:=by rw [IntKind.wrap_i64];omega
     have m3:IntKind.i64.wrap ((t:Int) - 7)=(t:Int) - 7:=by rw [IntKind.wrap_i64];omega
     have m4:IntKind.i64.wrap ((t:Int) - 2)=(t:Int) - 2:=by rw [IntKind.wrap_i64];omega
     have i4:(t:Int)<64:=wm;have i5:decide ((t:Int)<64)=true:=by simpa using i4
     refine wH ?_;intros;go_quiet (fail)
     refine wH ?_;intros;have hb2:=zW hbel nq;have q0':=q0.drewN nq;have q1':=q1.drewN nq;have q2':=q2.drewN nq;have d1:(wr.drewN nq).cell? ⟨g2,t - 16,aC⟩=_:=c1;have d2:(wr.drewN nq).cell? ⟨g2,t - 15,aC⟩=_:=c2;have d3:(wr.drewN nq).cell? ⟨g2,t - 7,aC⟩=_:=c3;have d4:(wr.drewN nq).cell? ⟨g2,t - 2,aC⟩=_:=c4;clear c1 c2 c3 c4 q0 q1 q2 hbel;generalize wr.drewN nq=wz at *
     go_still_tail 29,wo
     still_call (vK x2 25 25 rfl _ wm wm)
     repeat still_step
     still_call (vK x2 14 14 rfl _ wm wm)
     repeat still_step
     still_call (vK x4 15 15 rfl _ wm wm)
     repeat still_step
     still_call (vK x4 13 13 rfl _ wm wm)
     repeat still_step
     change wpList _ _ _ _ _ wz.drew;rw [z1w,<-HNX.o];have hc5:∃v,wz.drew.cell? ⟨g2,t,aC⟩=aD v:=⟨_,q2'.cell (k:=t) (by rw [yM _ _ (by rw [List.length_append,List.length_replicate];omega)])⟩
     obtain⟨v5,hc5⟩:=hc5;have hf5:wz.drew.frozen? ⟨g2,t,aC⟩=false:=q2'.frozen t;have hs5:=q2'.set (k:=t) (by rw [q7,List.length_append,List.length_replicate];omega) (ay .u32 (wd (yX L)));rw [uo,grow L t hLl wm,<-HSS.o]at hs5;have HS5:=sqH hs5;clear hs5 q2'
     refine wH ?_;intros;go_roundw
     case rel =>
      exact⟨t+1,by go_num,wm,wm,q0'.other ne0 _,q1'.other ne1 _,HS5.o,Below.setCell hb2.drew hgb _⟩
     case measure=>simp [intOf];omega
    ·obtain rfl:t=64:=by omega
     rw [List.replicate_zero,List.append_nil]at q2;obtain⟨e0,e1,e2,e3,e4,e5,e6,e7⟩:=sqC8 q0
     refine wH ?_;intros;have hq3:Arr (wr.alloc (aB #[ay .u32 (wd a0),ay .u32 (wd a1),ay .u32 (wd a2),ay .u32 (wd a3),ay .u32 (wd a4),ay .u32 (wd a5),ay .u32 (wd a6),ay .u32 (wd a7)] 124)) wr.heap.size 124 (wds (uX (qo M 48) [a0,a1,a2,a3,a4,a5,a6,a7] 0)):=Arr.new _ _ _;have hlt0:=q0.lt;have hlt1:=q1.lt;have hlt2:=q2.lt;have q0':=q0.alloc (aB #[ay .u32 (wd a0),ay .u32 (wd a1),ay .u32 (wd a2),ay .u32 (wd a3),ay .u32 (wd a4),ay .u32 (wd a5),ay .u32 (wd a6),ay .u32 (wd a7)] 124);have q1':=q1.alloc (aB #[ay .u32 (wd a0),ay .u32 (wd a1),ay .u32 (wd a2),ay .u32 (wd a3),ay .u32 (wd a4),ay .u32 (wd a5),ay .u32 (wd a6),ay .u32 (wd a7)] 124);have q2':=q2.alloc (aB #[ay .u32 (wd a0),ay .u32 (wd a1),ay .u32 (wd a2),ay .u32 (wd a3),ay .u32 (wd a4),ay .u32 (wd a5),ay .u32 (wd a6),ay .u32 (wd a7)] 124);have hbl':=hbel.alloc hbel.size (aB #[ay .u32 (wd a0),ay .u32 (wd a1),ay .u32 (wd a2),ay .u32 (wd a3),ay .u32 (wd a4),ay .u32 (wd a5),ay .u32 (wd a6),ay .u32 (wd a7)] 124);have hgb3:=hbel.size;generalize (wr.alloc (aB #[ay .u32 (wd a0),ay .u32 (wd a1),ay .u32 (wd a2),ay .u32 (wd a3),ay .u32 (wd a4),ay .u32 (wd a5),ay .u32 (wd a6),ay .u32 (wd a7)] 124))=wy at *
     generalize hg3:wr.heap.size=g3 at *
     have ne03:g0≠g3:=wm;have ne13:g1≠g3:=wm;have ne23:g2≠g3:=wm;clear q0 q1 q2 hbel e0 e1 e2 e3 e4 e5 e6 e7 hlt2 ht0 ht hlt hk hg3;rw [show((64:Nat):Int)=(64:Int) from rfl];have hWl2:(qo M 48).length=64:=by rw [kR,hWl]
     generalize hW:qo M 48=W at *
     have HW:=sqH hW;clear hW;go_loopw [79] (fun i wr=>∃t:Nat,i= ay az t/\t<=64/\Arr wr g0 124 (wds [a0,a1,a2,a3,a4,a5,a6,a7])/\Arr wr g1 124 (wds (List.replicate 8 0))/\Arr wr g2 183 (wds W)/\Arr wr g3 124 (wds (uX W [a0,a1,a2,a3,a4,a5,a6,a7] t))/\Below w.heap.size w wr) (fun i _=>64 - (intOf i).toNat)
     case atStart=>exact⟨0,rfl,wm,q0',q1',q2',hq3,hbl'⟩
     case round =>
      clear q0' q1' q2' hq3 hbl';obtain⟨t,rfl,ht,q0,q1,q2,q3,hbel⟩:=hrel;by_cases hlt3:t<64
      ·
       obtain⟨v0,v1,v2,v3,v4,v5,v6,v7,kt,wt,hv,hkt,hwt,hnx⟩:=uY W [a0,a1,a2,a3,a4,a5,a6,a7] rfl t hlt3 hWl2;rw [hv]at q3;have HNX:=sqH hnx;obtain⟨bk,ok,uk,rfl,hbk,huk,hck⟩:=(hk.below hbel).at_ (k:=t) hlt3;rw [hkt]at huk;cases huk
       have hcw:=q2.cell hwt;clear hnx hv hkt hwt;obtain⟨f0,f1,f2,f3,f4,f5,f6,f7⟩:=sqC8 q3;have i1:(t:Int)<64:=wm;have i2:=wY t
       have i5:decide ((t:Int)<64)=true:=by simpa using i1
       have hl64:(64:Int)<=(d:Int):=wm;clear hh hg0 hg1 hg2 hr hl
       refine wH ?_;intros;go_quiet (fail)
       refine wH ?_;intros;have p0:=q0.drewN nq;have p1:=q1.drewN nq;have p2:=q2.drewN nq;have p3:=q3.drewN nq;have pb:=zW hbel nq;have dk:(wr.drewN nq).cell? ⟨bk,ok+t,aC⟩=_:=hck;have dw:(wr.drewN nq).cell? ⟨g2,t,aC⟩=_:=hcw;clear q0 q1 q2 q3 hbel hck hcw f0 f1 f2 f3 f4 f5 f6 f7;generalize wr.drewN nq=wz at *
       have f5:=p3.c5;have f6:=p3.c6;have f7:=p3.c7;go_quiet ((go_at_call 110;exact Calls.quiet_of_same (Qs _ _ _ ws ws)));rw [z1q];have r0:=p0.drewN nq;have r1:=p1.drewN nq;have r2:=p2.drewN nq;have r3:=p3.drewN nq;have rb:=zW pb nq;clear p0 p1 p2 p3 pb dk dw f5 f6 f7;generalize wz.drewN nq=wx at *
       have f1:=r3.c1;have f2:=r3.c2;generalize hone:v7+ym v4 1+UK v4 v5 v6+kt+wt=one at *
       have HONE:=sqH hone;clear hone
       refine wH ?_;intros;go_quiet ((go_at_call 110;exact Calls.quiet_of_same (Qs _ _ _ ws ws)));rw [z22];generalize htwo:ym v0 0+Zo v0 v1 v2=two at *
       have HTWO:=sqH htwo;clear htwo;have s0:=r0.drewN nq;have s1:=r1.drewN nq;have s2:=r2.drewN nq;have s3:=r3.drewN nq;have sb:=zW rb nq;clear r0 r1 r2 r3 rb f1 f2;generalize wx.drewN nq=wv at *
       obtain⟨f0,f1,f2,f3,f4,f5,f6,f7⟩:=sqC8 s3;have z:=s3.frozen
       refine wH ?_;intros;rw [z0t,z0t];have hrn:uX W [a0,a1,a2,a3,a4,a5,a6,a7] (t+1)= [one+two,v0,v1,v2,v3+one,v4,v5,v6]:=by rw [HNX.o,<-HONE.o,<-HTWO.o];rfl
       have t3:=s3.set8 (ay .u32 (wd (one+two))) (ay .u32 (wd v0)) (ay .u32 (wd v1)) (ay .u32 (wd v2)) (ay .u32 (wd (v3+one))) (ay .u32 (wd v4)) (ay .u32 (wd v5)) (ay .u32 (wd v6));have T3:=sqH t3;have HRN:=sqH hrn;clear t3 hrn s3 f0 f1 f2 f3 f4 f5 f6 f7 z;go_roundw
       case rel =>
        refine⟨t+1,by go_num,wm,s0.other8 ne03 _ _ _ _ _ _ _ _,s1.other8 ne13 _ _ _ _ _ _ _ _,s2.other8 ne23 _ _ _ _ _ _ _ _,?_,Below.set8 sb hgb3 _ _ _ _ _ _ _ _⟩;rw [HRN.o];exact T3.o
       case measure=>simp [intOf];omega
      ·obtain rfl:t=64:=by omega
       have hVl:(uX W [a0,a1,a2,a3,a4,a5,a6,a7] 64).length=8:=xt W _ rfl 64;have hst:xx [a0,a1,a2,a3,a4,a5,a6,a7] M=List.zipWith (· + ·) (uX W [a0,a1,a2,a3,a4,a5,a6,a7] 64) [a0,a1,a2,a3,a4,a5,a6,a7]:=by rw [xx,HW.o]
       generalize uX W [a0,a1,a2,a3,a4,a5,a6,a7] 64=V at *
       have hhl: [a0,a1,a2,a3,a4,a5,a6,a7].length=8:=rfl;generalize hH: [a0,a1,a2,a3,a4,a5,a6,a7]=H at *
       have HST:=sqH hst;have HH:=sqH hH;clear hst hH hh q2
       refine wH ?_;intros;have q0':Arr wr g0 124 (wds (uA H V 0)):=by rw [Zx];exact q0
       clear q0;rw [show((64:Nat):Int)=(64:Int) from rfl];go_loopw [160] (fun i wr=>∃t:Nat,i= ay az t/\t<=8/\Arr wr g0 124 (wds (uA H V t))/\Arr wr g1 124 (wds (List.replicate 8 0))/\Arr wr g3 124 (wds V)/\Below w.heap.size w wr) (fun i _=>8 - (intOf i).toNat)
       case atStart=>exact⟨0,rfl,wm,q0',q1,q3,hbel⟩
       case round =>
        clear q0' q1 q3 hbel;obtain⟨t,rfl,ht,q0,q1,q3,hbel⟩:=hrel;by_cases hlt4:t<8
        ·obtain⟨x,y,hx,hy,hnx⟩:=Zw H V t wm wm;have HNX:=sqH hnx;have cx:=q0.cell hx;have cy:=q3.cell hy;have fx:=q0.frozen t;have hs:=q0.set (k:=t) (by rw [q7,yE H V t wm];omega) (ay .u32 (wd (x+y)));rw [uo,hnx]at hs;have HS:=sqH hs;clear hnx hx hy hs;have i1:(t:Int)<8:=wm
         have i2:=wY t
         have i5:decide ((t:Int)<8)=true:=by simpa using i1
         refine wH ?_;intros;go_still_tail 8,wo
         change wpList _ _ _ _ _ wr.drew;rw [Kt];have dx:wr.drew.cell? ⟨g0,t,aC⟩=aD (ay .u32 (wd x)):=cx;have gx:wr.drew.frozen? ⟨g0,t,aC⟩=false:=fx
         refine wH ?_;intros;go_roundw
         case rel =>
          exact⟨t+1,by go_num,wm,HS.o,q1.other wm _,q3.other wm _,Below.setCell hbel.drew (show w.heap.size<=g0 by omega) _⟩
         case measure=>simp [intOf];omega
        ·obtain rfl:t=8:=by omega
         have hpl:(uA H V 8).length=8:=by rw [yE H V 8 wm];exact hhl
         have hpe:uA H V 8=xx H M:=by rw [QQ H V 8 wm wm,HST.o]
         rw [hpe]at q0 hpl;clear hpe;obtain⟨c0,c1,c2,c3,c4,c5,c6,c7,hc8⟩:=YN _ hpl;rw [hc8]at q0;have HC8:=sqH hc8;clear hc8 hpl;obtain⟨e0,e1,e2,e3,e4,e5,e6,e7⟩:=sqC8 q0;obtain⟨o0,o1,o2,o3,o4,o5,o6,o7⟩:=sqC8 q1;have z:=q1.frozen
         refine wH ?_;intros;have r1:=q1.set8 (ay .u32 (wd c0)) (ay .u32 (wd c1)) (ay .u32 (wd c2)) (ay .u32 (wd c3)) (ay .u32 (wd c4)) (ay .u32 (wd c5)) (ay .u32 (wd c6)) (ay .u32 (wd c7));have rb:=Below.set8 hbel (show w.heap.size<=g1 by omega) (ay .u32 (wd c0)) (ay .u32 (wd c1)) (ay .u32 (wd c2)) (ay .u32 (wd c3)) (ay .u32 (wd c4)) (ay .u32 (wd c5)) (ay .u32 (wd c6)) (ay .u32 (wd c7));refine bodyPost_ret (results_cell_row rfl _ _ g1 _ _ _ _ ww r1 underlying124 rfl wo) rfl ⟨?_,rb⟩;rw [HH.o,HM.o,HC8.o];rfl
theorem KX (l:ae) (h:l.length<4):ki l= []:=by
 match l,h with
 | [],_=>rfl
 | [_],_=>rfl
 | [_,_],_=>rfl
 | [_,_,_],_=>rfl
theorem jh:∀(k:Nat) (l:ae),ki (l.drop (4*k))=(ki l).drop k
 | 0,l=>by simp
 | k+1,l=>by
  by_cases h:l.length<4
  ·rw [KX l h,List.drop_nil,List.drop_eq_nil_of_le wm];rfl
  ·match l,h with
   | a::b::c::d::r,_ =>
    rw [show 4*(k+1)=4*k+4 by omega]
    show ki (r.drop (4*k))=_
    rw [jh k r,ki,List.drop_succ_cons]
   | [],h=>simp at h
   | [_],h=>simp at h
   | [_,_],h=>simp at h
   | [_,_,_],h=>simp at h
theorem ji:∀(k:Nat) (l:ae),4*k<=l.length->ki (l.take (4*k))=(ki l).take k
 | 0,l,_=>by simp [ki]
 | k+1,a::b::c::d::r,h=>by
  rw [show 4*(k+1)=4*k+1+1+1+1 by omega]
  simp only [List.take_succ_cons,ki]
  rw [ji k r (by simp at h;omega)]
 | k+1, [],h=>by simp at h
 | k+1, [_],h=>by simp at h;omega
 | k+1, [_,_],h=>by simp at h;omega
 | k+1, [_,_,_],h=>by simp at h;omega
theorem Kx (h:List W32) (P:ae) (k:Nat) (hk:64*(k+1)<=P.length):xx (va h (ki P) k) (ki ((P.drop (64*k)).take 64))=va h (ki P) (k+1):=by
 have e:ki ((P.drop (64*k)).take 64)=((ki P).drop (16*k)).take 16:=by
  rw [show(64:Nat)=4*16 from rfl,ji 16 _ (by rw [List.length_drop];omega),show 4*16*k=4*(16*k) by omega,jh]
 rw [e];rfl
def nib (x:W32) (i:Nat):UInt8:=dig (x.toNat / 16 ^ (7 - i) % 16)
def z02 (x:W32) (k:Nat):ae:=(List.range k).map (nib x)
theorem Xr (x:W32) (k:Nat):z02 x (k+1)=z02 x k++ [nib x k]:=by simp [z02,List.range_succ]
theorem Uk (x:W32):z02 x 8=kV (wb x):=by
 have hx:=x.isLt;show [nib x 0,nib x 1,nib x 2,nib x 3,nib x 4,nib x 5,nib x 6,nib x 7]=kV [_,_,_,_];simp only [kV,List.flatMap_cons,List.flatMap_nil,hx1,List.append_nil,List.cons_append,List.nil_append,nib,UInt8.toNat_ofNat'];generalize x.toNat=n at *
 have e (i:Nat):(2:Nat) ^ 8=256:=rfl;rw [show n / 16777216 % 2 ^ 8 / 16=n / 16 ^ (7 - 0) % 16 by simp only [Nat.reduceSub,Nat.reducePow];omega,show n / 16777216 % 2 ^ 8 % 16=n / 16 ^ (7 - 1) % 16 by simp only [Nat.reduceSub,Nat.reducePow];omega,
  show n / 65536 % 2 ^ 8 / 16=n / 16 ^ (7 - 2) % 16 by simp only [Nat.reduceSub,Nat.reducePow];omega,show n / 65536 % 2 ^ 8 % 16=n / 16 ^ (7 - 3) % 16 by simp only [Nat.reduceSub,Nat.reducePow];omega,
  show n / 256 % 2 ^ 8 / 16=n / 16 ^ (7 - 4) % 16 by simp only [Nat.reduceSub,Nat.reducePow];omega,show n / 256 % 2 ^ 8 % 16=n / 16 ^ (7 - 5) % 16 by simp only [Nat.reduceSub,Nat.reducePow];omega,
  show n % 2 ^ 8 / 16=n / 16 ^ (7 - 6) % 16 by simp only [Nat.reduceSub,Nat.reducePow];omega,show n % 2 ^ 8 % 16=n / 16 ^ (7 - 7) % 16 by simp only [Nat.reduceSub,Nat.reducePow];omega]
theorem Z3 (N:Nat):(ZZ N).length=8:=by simp [ZZ]
theorem YD (N k:Nat) (hk:k<8):(ZZ N).take (k+1)=(ZZ N).take k++ [UInt8.ofNat (N / 256 ^ (7 - k))]:=by
 have h:k<(ZZ N).length:=by rw [Z3];exact hk
 rw [List.take_succ_eq_append_getElem h]
 congr 2
 match k,hk with
 | 0,_=>rfl
 | 1,_=>rfl
 | 2,_=>rfl
 | 3,_=>rfl
 | 4,_=>rfl
 | 5,_=>rfl
 | 6,_=>rfl
 | 7,_=>rfl
theorem UH (n k:Nat) (hk:k<8):(n:Int)*8 / 2 ^ (56 - 8*k) % 256=((UInt8.ofNat (8*n / 256 ^ (7 - k))).toNat:Int):=by
 have e:(256:Nat) ^ (7 - k)=2 ^ (56 - 8*k):=by
  rw [show(256:Nat)=2 ^ 8 by rfl,<-Nat.pow_mul];congr 1;omega
 rw [UInt8.toNat_ofNat',e,show(n:Int)*8=((8*n:Nat):Int) by omega,show(2:Int) ^ (56 - 8*k)=((2 ^ (56 - 8*k):Nat):Int) by simp];generalize 2 ^ (56 - 8*k)=q;rw [<-Int.natCast_ediv,show(2:Nat) ^ 8=256 by rfl];omega
theorem Uj (x:W32) (k:Nat) (hk:k<8):bits BinOp.and IntKind.u32 (wd x / 2 ^ (28 - 4*k)) 15=((x.toNat / 16 ^ (7 - k) % 16:Nat):Int):=by
 have e:(16:Nat) ^ (7 - k)=2 ^ (28 - 4*k):=by
  rw [show(16:Nat)=2 ^ 4 by rfl,<-Nat.pow_mul];congr 1;omega
 have h15:(15:Int)=wd (15:W32):=rfl;rw [ZC,h15,kL,e];show(((x >>> (28 - 4*k)) &&& 15#32).toNat:Int)=_;rw [BitVec.toNat_and,BitVec.toNat_ushiftRight,Nat.shiftRight_eq_div_pow];show(((x.toNat / 2 ^ (28 - 4*k)) &&& (2 ^ 4 - 1):Nat):Int)=_;rw [Nat.and_two_pow_sub_one_eq_mod]
theorem z3s (a0 a1 a2 a3 a4 a5 a6 a7:W32) (j:Nat) (hj:j<8):∃x, [a0,a1,a2,a3,a4,a5,a6,a7][j]?=aD x/\∀w:World,(Instr.index 124 (.agg #[ay .u32 (wd a0),ay .u32 (wd a1),ay .u32 (wd a2),ay .u32 (wd a3),ay .u32 (wd a4),ay .u32 (wd a5),ay .u32 (wd a6),ay .u32 (wd a7)]) (ay az j)).run zZZ w= .ok (ay .u32 (wd x)) w :=
 match j,hj with
 | 0,_=>⟨a0,rfl,fun _=>wo⟩
 | 1,_=>⟨a1,rfl,fun _=>wo⟩
 | 2,_=>⟨a2,rfl,fun _=>wo⟩
 | 3,_=>⟨a3,rfl,fun _=>wo⟩
 | 4,_=>⟨a4,rfl,fun _=>wo⟩
 | 5,_=>⟨a5,rfl,fun _=>wo⟩
 | 6,_=>⟨a6,rfl,fun _=>wo⟩
 | 7,_=>⟨a7,rfl,fun _=>wo⟩
theorem U1 (a b:ae):kV (a++b)=kV a++kV b:=by simp [kV]
theorem V8 (n k:Nat) (h:(n+1+k) % 64≠56) (hk:k<=xD n):k<xD n:=by unfold xD at *;omega
theorem K8 (n k:Nat) (h:(n+1+k) % 64=56) (hk:k<=xD n):k=xD n:=by unfold xD at *;omega
theorem Yp (A:af) (n c:Nat) (l:ae) (w:World) (hl:l.length=n) (hc:n<=c) (hm:n<=140737488353280) (hr:Rd w 1 A n (bys l)) :
  Calls zZZ 62 #[ax A n c] w fun e w'=>∃v,e= .returned v/\w'.ownsRow w.heap.size 5 1 v n (bys l)/\Below w.heap.size w w':=by
 have heq:=fun W=>Lib.run_eql_slice_nil (P:=zZZ) W 26 5 A n c 0 0 underlying26;cases A with
 | none =>
  obtain rfl:n=0:=by
   rcases Nat.eq_zero_or_pos n with h | h
   ·exact h
   ·obtain⟨_,_,h1,_⟩:=hr.2 h;cases h1
  obtain rfl:l= []:=List.eq_nil_of_length_eq_zero hl;go_enter func62,ntmps62;go_wp2_with fail;go_ret;exact⟨_,rfl,World.ownsRow_nil _ _ _ _,Below.refl _ _⟩
 | some ad =>
  go_enter func62,ntmps62
  refine wH ?_;intros;refine zM rfl (.tmp 5) (.tmp 6) rfl jR ww (World.ownsRow_made (size:=1) w #[] 0 ac (by simp [maxLen]) rfl) ww (hr.alloc _) (xF _) wm wu ?_;intro v1 w1 hown1 hg1 _;have hb1:=zj ((Below.refl _ _).alloc ac _) (World.ownsRow_made (size:=1) w #[] 0 ac (by simp [maxLen]) rfl) ac hg1;go_wp2_with fail;go_ret;exact⟨_,rfl,by simpa using hown1,hb1⟩
theorem Z6 (w:World):Calls zZZ 63 #[] w fun e w'=>e= .returned (ax (aD ⟨w.heap.size,0,aC⟩) 64 64)/\Rd w' 1 (aD ⟨w.heap.size,0,aC⟩) 64 (wds rks)/\Below w.heap.size w w':=by
 go_enter func63,ntmps63;go_wp2_with fail;go_ret;refine⟨rfl,?_,(Below.refl _ _).alloc ac _⟩;exact Rd.newN (w:=w) (e:=123) (size:=1) (m:=64) (wds rks) ww
theorem Xa (A:af) (n c:Nat) (l:ae) (B:af) (d:Nat) (a0 a1 a2 a3 a4 a5 a6 a7 d0 d1 d2 d3 d4 d5 d6 d7:W32) (w:World) (hst:xx [a0,a1,a2,a3,a4,a5,a6,a7] (ki (l.take 64))= [d0,d1,d2,d3,d4,d5,d6,d7]) (hl:l.length=n) (hn:64<=n) (hc:n<=c) (hm:n<=140737488353280) (hr:Rd w 1 A n (bys l)) (hk:Rd w 1 B 64 (wds rks)) (hd:64<=d) :
  Calls zZZ 64 #[.agg #[ay .u32 (wd a0),ay .u32 (wd a1),ay .u32 (wd a2),ay .u32 (wd a3),ay .u32 (wd a4),ay .u32 (wd a5),ay .u32 (wd a6),ay .u32 (wd a7)],ax A n c,ax B 64 d] w fun e w' =>
   e= .returned (.agg #[ay .u32 (wd d0),ay .u32 (wd d1),ay .u32 (wd d2),ay .u32 (wd d3),ay .u32 (wd d4),ay .u32 (wd d5),ay .u32 (wd d6),ay .u32 (wd d7)])/\Below w.heap.size w w':=by
 refine(Xb A n c l B d [a0,a1,a2,a3,a4,a5,a6,a7] w hl hn hc hm hr hk hd rfl).mono fun e w' h=> ?_;rw [hst]at h;exact h
theorem Kc (A:af) (n c:Nat) (l:ae) (w:World) (hl:l.length=n) (hc:n<=c) (hm:n<=140737488351300) (hr:Rd w 1 A n (bys l)) :
  Calls zZZ 27 #[ax A n c] w fun e w'=>e= .returned (aA ⟨(shaS l).toArray⟩)/\Below w.heap.size w w':=by
 have HL:=sqH hl;clear hl;go_enter func27,ntmps27
 refine wH ?_;intros;refine(Yp _ _ _ l _ HL.o hc wm hr).mono ?_;rintro e_ w1 ⟨v1,rfl,ho1,hb1⟩;dsimp only
 refine wH ?_;intros;have hl:=HL.o;refine zh rfl (.tmp 13) (.tmp 14) rfl jR ww ho1 rfl rfl (by simp;rfl) wm hb1.size ?_;intro v2 w2 ho2 hg2 _;have hb2:=zj hb1 ho1 ac hg2;have ho3:w2.ownsRow w.heap.size 5 1 v2 (n+1+0) (bys (l++ [128]++List.replicate 0 0)):=by
  rw [List.replicate_zero,List.append_nil,qU];exact ho2
 clear hl ho1 ho2 hg2 hb1
 refine wH ?_;intros;go_loopg [3] (xD n) (fun gn v wr=>∃k,gn=xD n - k/\k<=xD n/\wr.ownsRow w.heap.size 5 1 v (n+1+k) (bys (l++ [128]++List.replicate k 0))/\Below w.heap.size w wr)
 case atStart=>exact⟨0,rfl,wm,ho3,hb2⟩
 case round =>
  clear ho3 hb2;obtain⟨k,hgk,hk,hown,hbel⟩:=hrel;obtain⟨A3,c3,rfl,hc3,hrd3⟩:=Rd.of_own' hown;have hz:xD n<=63:=by unfold xD;omega
  by_cases h56:(n+1+k) % 64=56
  ·have hkz:=K8 n k h56 hk;have hb56:(((n+1+k:Nat):Int) % 64 != 56)=false:=by rw [bne_eq_false_iff_eq];omega
   generalize hm1:n+1+k=m at *
   have HM:=sqH hm1;have hm2:m<=n+64:=wm;clear hm1 h56 hgk;subst hkz
   refine wH ?_;intros;have ho4:wr.ownsRow w.heap.size 5 1 (ax A3 m c3) (m+0) (bys (l++ [128]++List.replicate (xD n) 0++(ZZ (8*n)).take 0)):=by
    rw [List.take_zero,List.append_nil];exact hown
   clear hown hrd3 hc3 hb56;go_loopg [3,27] 8 (fun gn v i wr=>∃k:Nat,gn=8 - k/\i= ay az k/\k<=8/\wr.ownsRow w.heap.size 5 1 v (m+k) (bys (l++ [128]++List.replicate (xD n) 0++(ZZ (8*n)).take k))/\Below w.heap.size w wr)
   case atStart=>exact⟨0,rfl,rfl,wm,ho4,hbel⟩
   case round =>
    clear ho4 hbel;obtain⟨k,hgk,rfl,hk,hown,hbel⟩:=hrel;have HGK:=sqH hgk;clear hgk;by_cases hk8:k<8
    ·have hbn:=YD (8*n) k hk8;have HBN:=sqH hbn;clear hbn
     refine wH ?_;intros;refine zh rfl (.tmp 30) (.tmp 37) rfl jR ww hown rfl rfl (by simp;rfl) wm hbel.size ?_;intro v2 w2 ho2 hg2 _;have hb2:=zj hbel hown ac hg2
     refine wH ?_;intros;go_roundg (8 - (k+1))
     case measure=>exact wX HGK
     case rel =>
      refine⟨k+1,rfl,by go_num,wm,?_,hb2⟩;rw [UH n k hk8]at ho2;rw [HBN.o,<-List.append_assoc,qU _ [_]];exact ho2
    ·obtain rfl:k=8:=by omega
     have hsp:l++ [128]++List.replicate (xD n) 0++(ZZ (8*n)).take 8=qj l:=by
      rw [List.take_of_length_le (by rw [Z3];omega)];unfold qj;rw [HL.o]
     have hpl:=j5 l;have hpl2:(qj l).length=m+8:=by rw [<-hsp];have:=HM.o;have:=HL.o;simp [Z3];omega
     rw [hsp]at hown;clear hsp;obtain⟨q,hq⟩:∃q,(qj l).length=64*q:=⟨(qj l).length / 64,wm⟩
     have hfin:shaS l=kV (wbs (va h0s (ki (qj l)) q)):=by
      unfold shaS Uq;rw [hq,Nat.mul_div_cancel_left _ wm]
     have HFIN:=sqH hfin;clear hfin;generalize qj l=P at *
     obtain⟨A5,c5,rfl,hc5,hrd5⟩:=Rd.of_own' hown;have hm8:m+8<=n+72:=wm;have HPL:=sqH hpl2;have HQ:=sqH hq;clear hq hpl2 hown hpl hm2;generalize m+8=L at *
     have hLq:L=64*q:=by rw [<-HPL.o];exact HQ.o
     have HLQ:=sqH hLq;clear hLq;rw [show((8:Nat):Int)=(8:Int) from rfl]
     refine wH ?_;intros;have qa:=Arr.new wr 124 (wds h0s);have qb:=hbel.alloc hbel.size (aB (wds h0s).toArray 124);have qr:=hrd5.alloc (aB (wds h0s).toArray 124);have qw:0<L - 64*0->∃b off,A5=aD ⟨b,off,aC⟩/\b<wr.heap.size:=fun h=>by
      obtain⟨b,off,e,hb,_⟩:=hrd5.2 h;exact⟨b,off,e,hb⟩
     change Calls _ _ _ (wr.alloc (aB (wds h0s).toArray 124)) _;have hgb:=hbel.size;clear hbel hrd5 hk;generalize wr.alloc (aB (wds h0s).toArray 124)=wa at *
     generalize wr.heap.size=gh at *
     refine(Z6 _).mono ?_;rintro e_ w5 ⟨rfl,qk,hb5⟩;dsimp only;have qa2:=qa.below hb5;have qr2:=qr.below hb5;have qb2:=wh qb hb5;have hga:=qa.lt;generalize wa.heap.size=gc at *
     have qr3:Rd w5 1 A5 (L - 64*0) (bys (P.drop (64*0))):=qr2;clear qa qb qr hb5 qr2
     refine wH ?_;intros;go_loopg [3] q (fun gn v wr=>∃k A' c',gn=q - k/\k<=q/\v= ax A' (L - 64*k) c'/\L - 64*k<=c'/\(0<L - 64*k->∃b off,A'=aD ⟨b,off,aC⟩/\b<gh)/\Rd wr 1 A' (L - 64*k) (bys (P.drop (64*k)))/\Arr wr gh 124 (wds (va h0s (ki P) k))/\Rd wr 1 (aD ⟨gc,0,aC⟩) 64 (wds rks)/\Below w.heap.size w wr)
     case atStart=>exact⟨0,A5,c5,rfl,wm,rfl,hc5,qw,qr3,qa2,qk,qb2⟩
     case round =>
      clear qa2 qk qb2 qr3 qw;obtain⟨k,A',c',hgk,hk,rfl,hc',qw,qr,qa,qk,qb⟩:=hrel;have hclen:=kO h0s (ki P) rfl k;obtain⟨a0,a1,a2,a3,a4,a5,a6,a7,hch⟩:=YN _ hclen;have HCH:=sqH hch;rw [hch]at qa;have HGK:=sqH hgk;by_cases hkq:k<q
      ·have hnx:=Kx h0s P k (wX HQ);have hclen2:=kO h0s (ki P) rfl (k+1);obtain⟨d0,d1,d2,d3,d4,d5,d6,d7,hch2⟩:=YN _ hclen2;rw [hch,hch2]at hnx;have HCH2:=sqH hch2;have hr64:64<=L - 64*k:=by have:=HLQ.o;omega
       have hpd:(P.drop (64*k)).length=L - 64*k:=by rw [List.length_drop,HPL.o]
       have hdd:(P.drop (64*k)).drop 64=P.drop (64*(k+1)):=by rw [List.drop_drop];congr 1
       have hll:L - 64*k - 64=L - 64*(k+1):=wm;obtain⟨b,off,rfl,hbg⟩:=qw wm;clear qw;generalize hr1:L - 64*k=r at *
       obtain⟨HNX,HPD,HDD,HLL⟩:=sqJ4 hnx hpd hdd hll;have hr2:r<=n+72:=wm;generalize P.drop (64*k)=Q at *
       clear hch hch2 hclen hclen2 hgk hnx hpd hdd hll hr1;obtain⟨f0,f1,f2,f3,f4,f5,f6,f7⟩:=sqC8 qa
       refine wH ?_;intros;refine wW (Xa _ _ _ Q _ _ _ _ _ _ _ _ _ _ d0 d1 d2 d3 d4 d5 d6 d7 _ HNX.o HPD.o hr64 hc' wm qr qk wm) fun w6 hb6=>?_;dsimp only;have qa6:=qa.below hb6;have qr6:=qr.below hb6;have qk6:=qk.below hb6;have qb6:=wh qb hb6;clear qa qr qk qb hb6 f0 f1 f2 f3 f4 f5 f6 f7;obtain⟨f0,f1,f2,f3,f4,f5,f6,f7⟩:=sqC8 qa6;have z:=qa6.frozen;have i64:(64:Int)<=(r:Int):=wm;have i65:(r:Int)<=(c':Int):=wm;refine wH ?_;intros;go_roundg (q - (k+1))
       case measure=>exact wX HGK
       case rel =>
        have hcut:=(qr6.other8 (show b≠gh by omega) (ay .u32 (wd d0)) (ay .u32 (wd d1)) (ay .u32 (wd d2)) (ay .u32 (wd d3)) (ay .u32 (wd d4)) (ay .u32 (wd d5)) (ay .u32 (wd d6)) (ay .u32 (wd d7))).cutAt (k:=64) (c:=c') hr64 hc';rw [xd,HDD.o]at hcut;refine⟨k+1,_,c' - 64,rfl,wm,by rw [HLL.o],by rw [<-HLL.o];omega,fun _=> ?_,by rw [<-HLL.o];exact hcut,?_,qk6.other8 (show gc≠gh by omega) _ _ _ _ _ _ _ _,Below.set8 qb6 hgb _ _ _ _ _ _ _ _⟩
        ·split
         ·exact⟨_,_,rfl,hbg⟩
         ·exact⟨_,_,rfl,hbg⟩
        ·rw [HCH2.o];exact qa6.set8 _ _ _ _ _ _ _ _
      ·obtain rfl:k=q:=by omega
       have hL0:L - 64*k=0:=by have:=HLQ.o;omega
       rw [hL0];have hfin:=HFIN.o;rw [hch]at hfin;have hHl: [a0,a1,a2,a3,a4,a5,a6,a7].length=8:=rfl;have hidx:=fun j hj=>z3s a0 a1 a2 a3 a4 a5 a6 a7 j hj;have HIDX:=sqH hidx;have HFIN2:=sqH hfin;clear hidx hfin hch hgk HCH HFIN HGK qw qr qk hclen hL0 hkq hk hc' HQ HLQ;obtain⟨f0,f1,f2,f3,f4,f5,f6,f7⟩:=sqC8 qa;clear qa
       refine wH ?_;intros;clear f0 f1 f2 f3 f4 f5 f6 f7;go_loopg [8,52] 8 (fun gn v i wr=>∃j:Nat,gn=8 - j/\i= ay az j/\j<=8/\wr.ownsRow w.heap.size 5 1 v (8*j) (bys (kV (wbs ([a0,a1,a2,a3,a4,a5,a6,a7].take j))))/\Below w.heap.size w wr)
       case atStart=>exact⟨0,rfl,rfl,wm,World.ownsRow_nil _ _ _ _,qb⟩
       case round =>
        clear qb;obtain⟨j,hgj,rfl,hj,hown,hbel⟩:=hrel;have HGJ:=sqH hgj;clear hgj;by_cases hj8:j<8
        ·obtain⟨x,hx,hxi⟩:=HIDX.o j hj8;have hwx:=K7 [a0,a1,a2,a3,a4,a5,a6,a7] j hj8;have hxe: [a0,a1,a2,a3,a4,a5,a6,a7][j]'hj8=x:=by
          rw [List.getElem?_eq_getElem hj8]at hx;exact Option.some.inj hx
         rw [hxe]at hwx;have HWX:=sqH hwx;clear hwx hxe hx;have hjl:(j:Int)<8:=wm;have hjb:decide ((j:Int)<8)=true:=by simpa using hjl
         refine wH ?_;intros;have ho5:wr.ownsRow w.heap.size 5 1 u8 (8*j+0) (bys (kV (wbs ([a0,a1,a2,a3,a4,a5,a6,a7].take j))++z02 x 0)):=by
          rw [show z02 x 0= [] from rfl,List.append_nil];exact hown
         clear hown hxi;generalize hF:kV (wbs ([a0,a1,a2,a3,a4,a5,a6,a7].take j))=F at *
         have HF:=sqH hF;clear hF;go_loopg [8,55] 8 (fun gn v i wr=>∃k:Nat,gn=8 - k/\i= ay az k/\k<=8/\wr.ownsRow w.heap.size 5 1 v (8*j+k) (bys (F++z02 x k))/\Below w.heap.size w wr)
         case atStart=>exact⟨0,rfl,rfl,wm,ho5,hbel⟩
         case round =>
          clear ho5 hbel;obtain⟨k,hgk,rfl,hk,hown,hbel⟩:=hrel;have HGK:=sqH hgk;clear hgk;by_cases hk8:k<8
          ·have hnb:=Uj x k hk8;have hq16:x.toNat / 16 ^ (7 - k) % 16<16:=wm
           have hnib:nib x k=dig (x.toNat / 16 ^ (7 - k) % 16):=rfl;generalize x.toNat / 16 ^ (7 - k) % 16=qn at *
           have HNIB:=sqH hnib;clear hnib;have hwx0:=z0o x;have hwx1:=z0n x;have hkl:(k:Int)<8:=wm;refine wH ?_;intros;rw [dif_pos wm];simp only [JJ,Result.andThen]
           refine wH ?_;intros;refine zh rfl (.tmp 58) (.tmp 66) rfl jR ww hown rfl rfl (by simp;rfl) wm hbel.size ?_;intro v7 w7 ho7 hg7 _;have hb7:=zj hbel hown ac hg7
           refine wH ?_;intros;go_roundg (8 - (k+1))
           case measure=>exact wX HGK
           case rel =>
            refine⟨k+1,rfl,by go_num,wm,?_,hb7⟩;rw [Xr,<-List.append_assoc,qU _ [_],HNIB.o];exact ho7
          ·obtain rfl:k=8:=by omega
           have ho6:wr.ownsRow w.heap.size 5 1 u8 (8*(j+1)) (bys (F++kV (wb x))):=by
            rw [<-Uk];exact hown
           clear hown
           refine wH ?_;intros;go_roundg (8 - (j+1))
           case measure=>exact wX HGJ
           case rel =>
            refine⟨j+1,rfl,by go_num,wm,?_,hbel⟩;rw [HWX.o,U1,HF.o];exact ho6
        ·obtain rfl:j=8:=by omega
         obtain⟨A8,c8,rfl,hc8,hrd8⟩:=Rd.of_own' hown;rw [List.take_of_length_le (show [a0,a1,a2,a3,a4,a5,a6,a7].length<=8 by rw [hHl];omega),<-HFIN2.o]at hrd8;have hstr:=Qd (P:=zZZ) (w:=wr) (c:=c8) (src:=26) (dst:=9) underlying26 underlying5 underlying9 (jK l) hrd8;generalize hS:shaS l=S at *
         have HS:=sqH hS;clear hS
         refine wH ?_;intros;go_ret;rw [HS.o];exact⟨rfl,hbel⟩
  ·have hkz:=V8 n k h56 hk;have hb56:(((n+1+k:Nat):Int) % 64 != 56)=true:=by rw [bne_iff_ne];omega
   generalize hm1:n+1+k=m at *
   have HM:=sqH hm1;have hm2:m<=n+64:=wm;have HGK:=sqH hgk;clear hm1 h56 hgk
   refine wH ?_;intros;refine zh rfl (.tmp 20) (.tmp 21) rfl jR ww hown rfl rfl (by simp;rfl) wm hbel.size ?_;intro v2 w2 ho2 hg2 _;have hb2:=zj hbel hown ac hg2
   refine wH ?_;intros;go_roundg (xD n - (k+1))
   case measure=>exact wX HGK
   case rel =>
    refine⟨k+1,rfl,wm,?_,hb2⟩;rw [<-Nat.add_assoc,HM.o,List.replicate_succ',<-List.append_assoc,qU];exact ho2
theorem yq (A:af) (n c:Nat) (l:ae) (w:World) (hl:l.length=n) (hc:n<=c) (hm:n<=140737488351232) (hr:Rd w 1 A n (bys l)) :
  Calls zZZ 27 #[ax A n c] w fun e w'=>e= .returned (aA ⟨(shaS l).toArray⟩)/\Below w.heap.size w w':=Kc A n c l w hl hc wm hr
theorem YM (a:UInt8) (h:¬val a<0):dig (val a).toNat=a:=by
 have key:∀n:Fin 256,¬val (UInt8.ofNat n.val)<0->dig (val (UInt8.ofNat n.val)).toNat=UInt8.ofNat n.val:=by decide +kernel
 have:=key ⟨a.toNat,a.toNat_lt⟩;rw [show UInt8.ofNat (a.toNat)=a from UInt8.ofNat_toNat]at this;exact this h
theorem Zk:∀(l r:ae),yY l=aD r->kV r=l
 | [],r,h=>by simp [yY]at h;subst h;rfl
 | [_],r,h=>by simp [yY]at h
 | a::b::l,r,h=>by
  rw [yY]at h
  split at h
  ·cases h
  ·rename_i hv
   simp only [Option.map_eq_some_iff]at h
   obtain⟨r',hr,rfl⟩:=h
   have ih:=Zk l r' hr
   have ra:=kS a
   have rb:=kS b
   have ea:=YM a (fun h=>hv (.inl h))
   have eb:=YM b (fun h=>hv (.inr h))
   show dig ((UInt8.ofNat (16*(val a).toNat+(val b).toNat)).toNat / 16)::dig ((UInt8.ofNat (16*(val a).toNat+(val b).toNat)).toNat % 16)::kV r'=_
   have e:(UInt8.ofNat (16*(val a).toNat+(val b).toNat)).toNat=16*(val a).toNat+(val b).toNat:=by rw [UInt8.toNat_ofNat'];omega
   rw [e,show(16*(val a).toNat+(val b).toNat) / 16=(val a).toNat by omega,show(16*(val a).toNat+(val b).toNat) % 16=(val b).toNat by omega,ea,eb,ih]
theorem Jz (n k j:Nat) (hj:j+k=7):8*(n:Int) / 2 ^ (8*j) % 256=((UInt8.ofNat (8*n / 256 ^ (7 - k))).toNat:Int):=by
 have h:=UH n k wm;rw [show 56 - 8*k=8*j by omega]at h;rw [Int.mul_comm];exact h
theorem z1b (A:af) (n c:Nat) (l:ae) (w:World) (hl:l.length=n) (hn:n<=2000) (hc:n<=c) (hr:Rd w 1 A n (bys l)) :
  Calls zZZ 176 #[ax A n c] w fun e w'=>∃A' c',e= .returned (.tuple #[ax A' (qj l).length c',ay az 0])/\OwnB 5 w.heap.size w' A' c' (qj l)/\Below w.heap.size w w':=by
 have HL:=sqH hl;clear hl;go_enter func176,ntmps176
 refine wH ?_;intros;have hl:=HL.o;refine zM rfl (.const (ax aC 0 0)) (.tmp 10) rfl jR ww (World.ownsRow_nil w w.heap.size _ _) ww hr (xF _) wm ac ?_;intro v1 w1 ho1 hg1 _;have hb1:=zj (Below.refl _ _) (World.ownsRow_nil w w.heap.size 5 1) ac hg1;rw [List.nil_append,Nat.zero_add]at ho1
 refine wH ?_;intros;refine zh rfl (.tmp 11) (.tmp 12) rfl jR ww ho1 rfl rfl (by simp;rfl) wm hb1.size ?_;intro v2 w2 ho2 hg2 _;have hb2:=zj hb1 ho1 ac hg2;have ho3:w2.ownsRow w.heap.size 5 1 v2 (n+1+0) (bys (l++ [128]++List.replicate 0 0)):=by
  rw [List.replicate_zero,List.append_nil,qU];exact ho2
 clear hl ho1 ho2 hg2 hg1 hb1;go_wp2_with fail;go_loopg [4] (xD n) (fun gn v wr=>∃k,gn=xD n - k/\k<=xD n/\wr.ownsRow w.heap.size 5 1 v (n+1+k) (bys (l++ [128]++List.replicate k 0))/\Below w.heap.size w wr)
 case atStart=>exact⟨0,rfl,wm,ho3,hb2⟩
 case round =>
  clear ho3 hb2;obtain⟨k,hgk,hk,hown,hbel⟩:=hrel;obtain⟨A3,c3,rfl,hc3,hrd3⟩:=Rd.of_own' hown;have hz:xD n<=63:=by unfold xD;omega
  by_cases h56:(n+1+k) % 64=56
  ·have hkz:=K8 n k h56 hk;have hb56:(((n+1+k:Nat):Int) % 64 != 56)=false:=by rw [bne_eq_false_iff_eq];omega
   generalize hm1:n+1+k=m at *
   have HM:=sqH hm1;have hm2:m<=n+64:=wm;clear hm1 h56 hgk;subst hkz;go_wp2_with fail;have ho4:wr.ownsRow w.heap.size 5 1 (ax A3 m c3) (m+0) (bys (l++ [128]++List.replicate (xD n) 0++(ZZ (8*n)).take 0)):=by
    rw [List.take_zero,List.append_nil];exact hown
   clear hown hrd3 hc3 hb56;go_loopg [4,6] 8 (fun gn v i wr=>Below w.heap.size w wr/\((∃k j:Nat,gn=8 - k/\i= ay az j/\j+k=7/\wr.ownsRow w.heap.size 5 1 v (m+k) (bys (l++ [128]++List.replicate (xD n) 0++(ZZ (8*n)).take k))) \/
    (i= ay az (-1)/\wr.ownsRow w.heap.size 5 1 v (m+8) (bys (l++ [128]++List.replicate (xD n) 0++(ZZ (8*n)).take 8)))))
   case atStart=>exact⟨hbel,.inl ⟨0,7,rfl,rfl,rfl,ho4⟩⟩
   case round =>
    clear ho4 hbel;obtain⟨hbel,⟨k,j,hgk,rfl,hjk,hown⟩ | ⟨rfl,hown⟩⟩:=hrel
    ·have HGK:=sqH hgk;clear hgk;have HJK:=sqH hjk;have hk7:k<=7:=wm
     have hj7:j<=7:=wm;clear hjk;have hbn:=YD (8*n) k wm;have HBN:=sqH hbn;clear hbn
     refine wH ?_;intros;refine zh rfl (.tmp 28) (.tmp 34) rfl jR ww hown rfl rfl (by simp;rfl) wm hbel.size ?_;intro v2 w2 ho2 hg2 _;have hb2:=zj hbel hown ac hg2;rw [Jz n k j HJK.o]at ho2;have ho9:w2.ownsRow w.heap.size 5 1 v2 (m+(k+1)) (bys (l++ [128]++List.replicate (xD n) 0++(ZZ (8*n)).take (k+1))):=by
      rw [HBN.o,<-List.append_assoc,qU _ [_]];exact ho2
     by_cases hj0:j=0
     ·subst hj0;go_wp2_with fail;go_roundg 0
      case measure=>exact wX HGK
      case rel =>
       have hk:k=7:=by have:=HJK.o;omega
       subst hk;exact⟨hb2,.inr ⟨by go_num,ho9⟩⟩
     ·have hj1:1<=j:=wm
      clear hj0;go_wp2_with fail;go_roundg (8 - (k+1))
      case measure=>exact wX HGK
      case rel=>exact⟨hb2,.inl ⟨k+1,j - 1,rfl,by go_num,by have:=HJK.o;omega,ho9⟩⟩
    ·have hsp:l++ [128]++List.replicate (xD n) 0++(ZZ (8*n)).take 8=qj l:=by
      rw [List.take_of_length_le (by rw [Z3];omega)];unfold qj;rw [HL.o]
     have hpl2:(qj l).length=m+8:=by rw [<-hsp];have:=HM.o;have:=HL.o;simp [Z3];omega
     rw [hsp]at hown;clear hsp;obtain⟨A5,c5,rfl,hc5,hrd5⟩:=Rd.of_own' hown;have HPL:=sqH hpl2;clear hpl2 hown
     refine wH ?_;intros;refine zM rfl (.const (ax aC 0 0)) (.tmp 36) rfl jR ww (World.ownsRow_nil wr w.heap.size _ _) ww hrd5 (xF _) wm hbel.size ?_;intro v8 w8 ho8 hg8 _;have hb8:=zj hbel (World.ownsRow_nil wr w.heap.size 5 1) ac hg8;rw [List.nil_append,Nat.zero_add]at ho8;obtain⟨A9,c9,rfl,ho9⟩:=OwnB.of HPL.o ho8;go_wp2_with fail;go_ret2;exact⟨A9,c9,rfl,ho9,hb8⟩
  ·have hkz:=V8 n k h56 hk;have hb56:(((n+1+k:Nat):Int) % 64 != 56)=true:=by rw [bne_iff_ne];omega
   generalize hm1:n+1+k=m at *
   have HM:=sqH hm1;have hm2:m<=n+64:=wm;have HGK:=sqH hgk;clear hm1 h56 hgk
   refine wH ?_;intros;refine zh rfl (.tmp 18) (.tmp 19) rfl jR ww hown rfl rfl (by simp;rfl) wm hbel.size ?_;intro v2 w2 ho2 hg2 _;have hb2:=zj hbel hown ac hg2;go_wp2_with fail;go_roundg (xD n - (k+1))
   case measure=>exact wX HGK
   case rel =>
    refine⟨k+1,rfl,wm,?_,hb2⟩;rw [<-Nat.add_assoc,HM.o,List.replicate_succ',<-List.append_assoc,qU];exact ho2
def hexC (l:ae):Nat:=if l.length≠64 then 1 else (xC l).2
theorem ky (s:ByteArray) (w:World) (hs:s.size<=140737488351232) :
  Calls zZZ 89 #[aA s] w fun e w'=>e= .returned (ay az (hexC s.data.toList))/\Below w.heap.size w w':=by
 have hsz:s.data.toList.length=s.size:=by rw [Array.length_toList];rfl
 by_cases h64:s.size=64
 ·have hb:((s.size:Int) != 64)=false:=by rw [bne_eq_false_iff_eq];omega
  have hfin:hexC s.data.toList=(xC s.data.toList).2:=by rw [hexC,if_neg wm]
  have HF:=sqH hfin;clear hfin hsz h64;go_enter func89,ntmps89;go_wp2_with fail;refine(X9 s _ hs).mono ?_;rintro e_ w1 ⟨A1,c1,rfl,ho1,hb1⟩;dsimp only;go_wp2_with fail;go_ret;rw [HF.o];exact⟨rfl,hb1⟩
 ·have hb:((s.size:Int) != 64)=true:=by rw [bne_iff_ne];omega
  have hfin:hexC s.data.toList=1:=by rw [hexC,if_pos wm]
  have HF:=sqH hfin;clear hfin hsz h64;go_enter func89,ntmps89;go_wp2_with fail;go_ret;rw [HF.o];exact⟨rfl,Below.refl _ _⟩
end Go.Proofs.YtaboknhfiijipaaGreat
