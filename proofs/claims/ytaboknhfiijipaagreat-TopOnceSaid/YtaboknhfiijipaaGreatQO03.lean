/- Lemmas, as stated. -/
import Derived.Deep.RegionHeld3
import Derived.Laws.Pointers
import Derived.StillTactics
import Derived.Lib.Builder
import Derived.Lib.UnsafeStr
import Derived.Laws.Externs
import Derived.StillTailTactics
import Derived.Deep.LoopGhost
import Derived.Test.YtaboknhfiijipaaGreatQO00
import Derived.Test.YtaboknhfiijipaaGreatQO02
set_option linter.unusedVariables false
set_option linter.unusedSimpArgs false
set_option maxRecDepth 200000
set_option maxHeartbeats 4000000
open Go.Proofs.Tryz
open Go.Proofs.Tryz renaming prog->zZZ
open Go.Value renaming slice->aA,int->aB,string->aD
open Go.IntKind renaming i64->aC
open Option renaming none->aF,some->aG
open Go.Obj renaming cells->aE
namespace Go.Proofs.YtaboknhfiijipaaGreat
variable {α:Type} {bytes m n size:Nat} {P:Program} {e it t:TypeId} {w:World} {rest:ai} {A:aj}
def num (n:Nat):ai:=if n<128 then [UInt8.ofNat n] else UInt8.ofNat (n % 128+128)::num (n / 128)
theorem kf (h:n<128):num n= [UInt8.ofNat n]:=by rw [num,if_pos h]
theorem Q9 (h:¬n<128):num n=UInt8.ofNat (n % 128+128)::num (n / 128):=by rw [num,if_neg h]
theorem Xz (n:Nat):∀k,n<128 ^ (k+1)->1<=(num n).length/\(num n).length<=k+1:=by
 intro k
 induction k generalizing n with
 | zero=>intro h;rw [kf (by simpa using h)];simp
 | succ k ih =>
  intro h;by_cases hn:n<128
  ·rw [kf hn];simp
  ·rw [Q9 hn];have:=ih (n / 128) (by rw [Nat.div_lt_iff_lt_mul wu];simpa [Nat.pow_succ] using h);simp only [List.length_cons];omega
open Go.RowKit
theorem jT:El zZZ 26 5 1 1:=El.mk' (z:= aB .u8 0) underlying26 ww rfl wu wu
theorem JZ:El zZZ 125 123 1 4:=El.mk' (z:= aB .u32 0) underlying125 ww rfl wu wu
def wds (l:List (BitVec 32)):ak:=l.map fun b=> aB .u32 (wd b)
theorem yO (l:List (BitVec 32)) (k:Nat) (h:k<l.length):(wds l)[k]?=aG (aB .u32 (wd l[k])):=by simp [wds,h]
theorem jR (l:List (BitVec 32)):∀u∈wds l,u.oneCell'=true:=by
 intro u hu;simp only [wds,List.mem_map]at hu;obtain⟨_,_,rfl⟩:=hu;rfl
def wb (x:BitVec 32):ai:= [UInt8.ofNat (x.toNat / 16777216),UInt8.ofNat (x.toNat / 65536),UInt8.ofNat (x.toNat / 256),UInt8.ofNat x.toNat]
def wbs (l:List (BitVec 32)):ai:=l.flatMap wb
theorem jQ (l:List (BitVec 32)):(wbs l).length=4*l.length:=by
 induction l with
 | nil=>rfl
 | cons x l ih=>simp only [wbs,List.flatMap_cons,List.length_append,List.length_cons] at *;rw [ih];simp [wb];omega
theorem K6 (l:List (BitVec 32)) (k:Nat) (h:k<l.length):wbs (l.take (k+1))=wbs (l.take k)++wb l[k]:=by
 unfold wbs;rw [List.take_succ_eq_append_getElem h,List.flatMap_append,List.flatMap_cons,List.flatMap_nil,List.append_nil]
theorem V9 (A:aj) (n c:Nat) (l:List (BitVec 32)) (w:World) (hl:l.length=n) (hn:n<=2000) (hc:n<=c) (hr:Rd w 1 A n (wds l)) :
  Calls zZZ 180 #[aA A n c] w fun e w'=>∃A' c',e= .returned (.tuple #[aA A' (wbs l).length c',aB aC 0])/\OwnB 5 w.heap.size w' A' c' (wbs l)/\Below w.heap.size w w':=by
 go_enter func180,ntmps180
 refine wL ?_;intros;refine kV rfl _ _ rfl jT (4*n) rfl rfl wu wu ?_;intro w1 g1 hown1 hb1;go_wp2_with fail;go_loopw [4,16] (fun v i wr=>∃k:Nat,i= aB aC k/\k<=n/\wr.ownsRow w.heap.size 5 1 v (wbs (l.take k)).length (bys (wbs (l.take k)))/\Below w.heap.size w wr) (fun _ i _=>n - (intOf i).toNat)
 case atStart=>exact⟨0,rfl,wu,hown1,hb1⟩
 case round =>
  obtain⟨k,rfl,hk,hown,hbel⟩:=hrel;have hle:=jQ (l.take k);rw [List.length_take]at hle;by_cases hlt:k<n
  ·obtain⟨b,off,u,rfl,_,hu,hcell⟩:=(hr.below hbel).at_ hlt;rw [yO l k wu]at hu;cases hu
   have HS:=sqH (K6 l k wu);have hwn:=z15 l[k];have hwl:=z14 l[k];generalize hx:l[k]=x at *
   have HX:=sqH hx;clear hx
   refine wL ?_;intros;refine zh rfl (.tmp 20) (.tmp 32) rfl jT ac hown rfl rfl (by simp;exact⟨rfl,rfl,rfl,rfl⟩) wu hbel.size ?_;intro v2 w2 hown2 hg2 _;have hb2:=zj hbel hown ag hg2;have hx:=x.isLt;have e1:bys (wb x)= [aB .u8 (wd x / (16777216:Int)),aB .u8 (wd x / (65536:Int) % (256:Int)),aB .u8 (wd x / (256:Int) % (256:Int)),aB .u8 (wd x % (256:Int))]:=by
    simp only [bys,wb,wd,List.map_cons,List.map_nil,UInt8.toNat_ofNat'];rw [show x.toNat / 16777216 % 2 ^ 8=x.toNat / 16777216 by omega];rfl
   go_wp2_with fail;rw [<-e1]at hown2;go_roundw
   case rel=>exact⟨k+1,by go_num,wu,by rw [HS.o,qV,List.length_append];exact hown2,hb2⟩
   case measure=>simp [intOf];omega
  ·obtain rfl:k=n:=by omega
   rw [List.take_of_length_le wu]at hown;obtain⟨A1,c1,rfl,hc1,_⟩:=Rd.of_own' hown;go_wp2_with fail;go_ret2;exact⟨A1,c1,rfl,⟨hown,hc1⟩,hbel⟩
def wOf (a b c d:UInt8):BitVec 32:=BitVec.ofNat 32 (a.toNat*16777216+b.toNat*65536+c.toNat*256+d.toNat)
def km:List UInt8->List (BitVec 32)
 | a::b::c::d::r=>wOf a b c d::km r
 | _=> []
theorem vJ:∀(k:Nat) (l:ai),l.length=4*k->(km l).length=k
 | 0,l,h=>by obtain rfl:l= []:=List.eq_nil_of_length_eq_zero wu;rfl
 | k+1,a::b::c::d::r,h=>by simp only [km,List.length_cons] at *;rw [vJ k r wu]
 | k+1, [],h=>by simp at h
 | k+1, [_],h=>by simp at h;omega
 | k+1, [_,_],h=>by simp at h;omega
 | k+1, [_,_,_],h=>by simp at h;omega
theorem uA:∀(k:Nat) (l:ai) (h:4*k+3<l.length),km (l.take (4*(k+1)))=km (l.take (4*k))++ [wOf l[4*k] l[4*k+1] l[4*k+2] l[4*k+3]]
 | 0,a::b::c::d::r,h=>by simp [km]
 | k+1,a::b::c::d::r,h=>by
  have h':4*k+3<r.length:=by simp at h;omega
  have e1:(a::b::c::d::r).take (4*(k+1+1))=a::b::c::d::r.take (4*(k+1)):=rfl
  have e2:(a::b::c::d::r).take (4*(k+1))=a::b::c::d::r.take (4*k):=rfl
  rw [e1,e2,km,km,uA k r h']
  rfl
 | 0, [],h=>by simp at h
 | 0, [_],h=>by simp at h
 | 0, [_,_],h=>by simp at h
 | 0, [_,_,_],h=>by simp at h
 | k+1, [],h=>by simp at h
 | k+1, [_],h=>by simp at h
 | k+1, [_,_],h=>by simp at h;omega
 | k+1, [_,_,_],h=>by simp at h;omega
theorem uz (n:Int) (h0:0<=n) (h1:n<2 ^ 32):IntKind.u32.wrap n=n:=by
 rw [IntKind.wrap_u32];simp at h1;omega
theorem K5 (a b c d:UInt8):bits BinOp.or IntKind.u32 (bits BinOp.or IntKind.u32 (bits BinOp.or IntKind.u32 (IntKind.u32.wrap (IntKind.u32.wrap (a.toNat:Int)*16777216)) (IntKind.u32.wrap (IntKind.u32.wrap (b.toNat:Int)*65536)))
  (IntKind.u32.wrap (IntKind.u32.wrap (c.toNat:Int)*256))) (IntKind.u32.wrap (d.toNat:Int))=wd (wOf a b c d):=by
 have ha:=a.toNat_lt;have hb:=b.toNat_lt;have hc:=c.toNat_lt;have hd:=d.toNat_lt;have hw:wd (wOf a b c d)=((a.toNat*16777216+b.toNat*65536+c.toNat*256+d.toNat:Nat):Int):=by
  simp only [wd,wOf,BitVec.toNat_ofNat];omega
 rw [hw];clear hw;generalize a.toNat=a at *
 generalize b.toNat=b at *
 generalize c.toNat=c at *
 generalize d.toNat=d at *
 have e1:∀x:Nat,x<256->IntKind.u32.wrap (x:Int)=x:=fun x h=>by rw [IntKind.wrap_u32];omega
 rw [e1 a ha,e1 b hb,e1 c hc,e1 d hd];have e2:∀x y:Int,0<=x->x<256->0<=y->y<=16777216->IntKind.u32.wrap (x*y)=x*y:=fun x y h1 h2 h3 h4=>by
  rw [IntKind.wrap_u32];have:=Int.mul_nonneg h1 h3;have h5:x*y<=255*16777216:=Int.mul_le_mul wu h4 h3 wu;omega
 rw [e2 a 16777216 wu wu wu wu,e2 b 65536 wu wu wu wu,e2 c 256 wu wu wu wu];rw [bits_join .u32 32 aa uz 24 ((a:Int)*16777216) ((b:Int)*65536) wu wu wu wu wu wu];rw [bits_join .u32 32 aa uz 16 ((a:Int)*16777216+(b:Int)*65536) ((c:Int)*256) wu wu wu wu wu wu];rw [bits_join .u32 32 aa uz 8 ((a:Int)*16777216+(b:Int)*65536+(c:Int)*256) (d:Int) wu wu wu wu wu wu];omega
theorem VN (A:aj) (n c:Nat) (l:ai) (w:World) (hl:l.length=n) (hn:n<=2072) (h4:n % 4=0) (hc:n<=c) (hr:Rd w 1 A n (bys l)) :
  Calls zZZ 177 #[aA A n c] w fun e w'=>∃v,e= .returned (.tuple #[v,aB aC 0])/\w'.ownsRow w.heap.size 123 1 v (n / 4) (wds (km l))/\Below w.heap.size w w':=by
 have h4b:((n:Int) % 4 != 0)=false:=by rw [bne_eq_false_iff_eq];omega
 obtain⟨q,hq⟩:∃q,n=4*q:=⟨n / 4,wu⟩
 have HQ:=sqH hq;have hq1:q*4<=n:=wu;have hq2:n<=q*4:=wu;clear hq h4;go_enter func177,ntmps177
 refine wL ?_;intros;refine kV rfl _ _ rfl JZ q rfl rfl wu wu ?_;intro w1 g1 hown1 hb1;go_wp2_with fail;go_loopw [4,5] (fun v i wr=>∃k:Nat,i= aB aC ((4*k:Nat):Int)/\k<=q/\wr.ownsRow w.heap.size 123 1 v k (wds (km (l.take (4*k))))/\Below w.heap.size w wr) (fun _ i _=>n - (intOf i).toNat)
 case atStart=>exact⟨0,rfl,wu,hown1,hb1⟩
 case round =>
  obtain⟨k,rfl,hk,hown,hbel⟩:=hrel;by_cases hlt:k<q
  ·have hsz:=hbel.size;obtain⟨b,off,rfl,hbw,hcell0⟩:=hr.2 wu;have hcell:=fun j u h=>(hbel.cell (p:=⟨b,off+j,aF⟩) hbw).trans (hcell0 j u h);clear hcell0;have c0:=hcell (4*k) _ (va l (4*k) wu);have c1:=hcell (4*k+1) _ (va l (4*k+1) wu);have c2:=hcell (4*k+2) _ (va l (4*k+2) wu);have c3:=hcell (4*k+3) _ (va l (4*k+3) wu);have HS:=sqH (uA k l wu);clear hcell;generalize l[4*k]=b0 at *
   generalize l[4*k+1]=b1 at *
   generalize l[4*k+2]=b2 at *
   generalize l[4*k+3]=b3 at *
   have t0:=b0.toNat_lt;have t1:=b1.toNat_lt;have t2:=b2.toNat_lt;have t3:=b3.toNat_lt;generalize hm:4*k=m at *
   have HM:=sqH hm;have hm1:m+4<=n:=wu;clear hm;go_wp2_with fail;have hm0:=we m
   have hi0:(m:Int)<n:=wu;have q1:IntKind.i64.wrap ((m:Int)+1)=(m:Int)+1:=IntWalk.i64_in _ wu;have q2:IntKind.i64.wrap ((m:Int)+2)=(m:Int)+2:=IntWalk.i64_in _ wu;have q3:IntKind.i64.wrap ((m:Int)+3)=(m:Int)+3:=IntWalk.i64_in _ wu;have p1:(0:Int)<=(m:Int)+1:=wu;have p2:(0:Int)<=(m:Int)+2:=wu;have p3:(0:Int)<=(m:Int)+3:=wu;have s1:(m:Int)+1<n:=wu;have s2:(m:Int)+2<n:=wu;have s3:(m:Int)+3<n:=wu;have u1:((m:Int)+1).toNat=m+1:=wu;have u2:((m:Int)+2).toNat=m+2:=wu;have u3:((m:Int)+3).toNat=m+3:=wu;go_region_held3 (fun w'=>w'.cell? ⟨b,off+m,aF⟩=aG (aB .u8 b0.toNat)/\w'.cell? ⟨b,off+(m+1),aF⟩=aG (aB .u8 b1.toNat)/\w'.cell? ⟨b,off+(m+2),aF⟩=aG (aB .u8 b2.toNat)/\w'.cell? ⟨b,off+(m+3),aF⟩=aG (aB .u8 b3.toNat))
    (first | go_keep | (go_split_ands;refine⟨xr (yI (hown.alloc _)) hg2 hbw (by assumption),xr (yI (hown.alloc _)) hg2 hbw (by assumption),xr (yI (hown.alloc _)) hg2 hbw (by assumption),xr (yI (hown.alloc _)) hg2 hbw (by assumption)⟩))
    (first | (refine uv rfl (.tmp 23) (.tmp 53) rfl JZ ac (yI (hown.alloc _)) ac (Rd.newN (us:= [_]) (m:=1) rfl) (by simp;rfl) wu af ?_;intro v2 w2 hown2 hg2 _))
   rw [K5]at hown2;have hb2:=zj (hbel.alloc hsz (.cells #[aB .u32 (wd (wOf b0 b1 b2 b3))] 123)).drew (yI (hown.alloc _)) ag (by rw [<-K5];exact hg2);clear hg2 q1 q2 q3 p1 p2 p3 s1 s2 s3 u1 u2 u3;go_wp2_with fail;go_roundw
   case rel=>exact⟨k+1,by have:=HM.o;go_num,wu,by rw [HS.o];simpa [wds] using hown2,hb2⟩
   case measure=>simp [intOf];omega
  ·obtain rfl:k=q:=by omega
   rw [List.take_of_length_le wu]at hown;have hqq:n / 4=k:=wu;have HQQ:=sqH hqq;clear hqq;generalize hm:4*k=m at *
   have HM:=sqH hm;have hm1:n<=m:=wu;clear hm;go_wp2_with fail;go_ret2;exact⟨_,rfl,by rw [HQQ.o];exact hown,hbel⟩
theorem KN (x:BitVec 32) (n:Nat) (w:World) (hn:n<=31):Calls zZZ 216 #[aB .u32 (wd x),aB aC n] w fun e w'=>e= .returned (aB .u32 (wd (x.rotateRight n)))/\∃k,w'=w.drewN k:=by
 go_enter func216,ntmps216;go_wp2_with fail;go_quiet (fail);go_wp2_with fail;go_ret;refine⟨?_,_,rfl⟩;show Ending.returned (aB .u32 (bits BinOp.or IntKind.u32 (wd x / 2 ^ n) (wd x*2 ^ (32 - n) % 4294967296)))=_;rw [z2h x n hn]
theorem qh (x:BitVec 32) (n:Nat) (N:Int) (hN:N=n) (w:World) (hn:n<=31):Calls zZZ 216 #[aB .u32 (wd x),aB aC N] w fun e w'=>e= .returned (aB .u32 (wd (x.rotateRight n)))/\∃k,w'=w.drewN k:=by
 subst hN;exact KN x n w hn
def yo (x:BitVec 32):Nat->BitVec 32
 | 0=>x.rotateRight 2 ^^^ x.rotateRight 13 ^^^ x.rotateRight 22
 | 1=>x.rotateRight 6 ^^^ x.rotateRight 11 ^^^ x.rotateRight 25
 | 2=>x.rotateRight 7 ^^^ x.rotateRight 18 ^^^ x >>> 3
 | _=>x.rotateRight 17 ^^^ x.rotateRight 19 ^^^ x >>> 10
theorem Qq (x:BitVec 32) (n:Nat) (N:Int) (hN:N=n) (w:World) (hn:n<=3):Calls zZZ 200 #[aB .u32 (wd x),aB aC N] w fun e w'=>e= .returned (.tuple #[aB .u32 (wd (yo x n)),aB aC 0])/\∃k,w'=w.drewN k:=by
 match n,hn with
 | 0,_ =>
  obtain rfl:N=0:=hN;go_enter func200,ntmps200;go_wp2_with fail;refine(qh x 2 _ rfl _ wu).mono ?_;rintro e_ w_ ⟨rfl,k1,rfl⟩;dsimp only;go_wp2_with fail;refine(qh x 13 _ rfl _ wu).mono ?_;rintro e_ w_ ⟨rfl,k2,rfl⟩;dsimp only;go_wp2_with fail;refine(qh x 22 _ rfl _ wu).mono ?_;rintro e_ w_ ⟨rfl,k3,rfl⟩;dsimp only;go_wp2_with fail;go_ret2;refine⟨?_,_,rfl⟩;simp only [qH];rfl
 | 1,_ =>
  obtain rfl:N=1:=hN;go_enter func200,ntmps200;go_wp2_with fail;refine(qh x 6 _ rfl _ wu).mono ?_;rintro e_ w_ ⟨rfl,k1,rfl⟩;dsimp only;go_wp2_with fail;refine(qh x 11 _ rfl _ wu).mono ?_;rintro e_ w_ ⟨rfl,k2,rfl⟩;dsimp only;go_wp2_with fail;refine(qh x 25 _ rfl _ wu).mono ?_;rintro e_ w_ ⟨rfl,k3,rfl⟩;dsimp only;go_wp2_with fail;go_ret2;refine⟨?_,_,rfl⟩;simp only [qH];rfl
 | 2,_ =>
  obtain rfl:N=2:=hN;go_enter func200,ntmps200;go_wp2_with fail;refine(qh x 7 _ rfl _ wu).mono ?_;rintro e_ w_ ⟨rfl,k1,rfl⟩;dsimp only;go_wp2_with fail;refine(qh x 18 _ rfl _ wu).mono ?_;rintro e_ w_ ⟨rfl,k2,rfl⟩;dsimp only;go_wp2_with fail;go_ret2;refine⟨?_,_,rfl⟩;rw [show(wd x:Int) / (8:Int)=wd (x >>> 3) from ZE x 3];simp only [qH];rfl
 | 3,_ =>
  obtain rfl:N=3:=hN;go_enter func200,ntmps200;go_wp2_with fail;refine(qh x 17 _ rfl _ wu).mono ?_;rintro e_ w_ ⟨rfl,k1,rfl⟩;dsimp only;go_wp2_with fail;refine(qh x 19 _ rfl _ wu).mono ?_;rintro e_ w_ ⟨rfl,k2,rfl⟩;dsimp only;go_wp2_with fail;go_ret2;refine⟨?_,_,rfl⟩;rw [show(wd x:Int) / (1024:Int)=wd (x >>> 10) from ZE x 10];simp only [qH];rfl
theorem XW:(zZZ.info? 171).map (·.size)=aG 2:=by kernel_rfl
theorem z0f:liesAt zZZ zZZ.depth 171 (2 / zZZ.cellsOf 171) 0 171 1=true:=by kernel_rfl
theorem uC (b:Nat) (w:World) (h0:w.cell? ⟨b,0,aF⟩=aG (.pointer (aG ⟨b,0,aF⟩))) :
  Calls zZZ 144 #[.pointer (aG ⟨b,0,aF⟩)] w fun e w'=>e= .returned (.tuple #[])/\w=w':=by
 obtain⟨j,hj,_⟩:=Option.map_eq_some_iff.1 XW;have hne:=fun W=>Lib.run_neq_ptr_same (P:=zZZ) W (tp:=169) ⟨b,0,aF⟩ underlying169 hj;clear hj;go_enter func144,ntmps144;go_wp2;go_end0;exact⟨rfl,rfl⟩
theorem vW (b:Nat) (w:World) (h0:w.cell? ⟨b,0,aF⟩=aG (.pointer aF)) (hsh:w.shape? b=aG (171,2)) (hfz:w.frozen? ⟨b,0,aF⟩=false) :
  Calls zZZ 144 #[.pointer (aG ⟨b,0,aF⟩)] w fun e w'=>e= .returned (.tuple #[])/\w.setCell ⟨b,0,aF⟩ (.pointer (aG ⟨b,0,aF⟩))=w':=by
 obtain⟨j,hj,hjs⟩:=Option.map_eq_some_iff.1 XW;have h1:=Lib.run_to_unsafe (P:=zZZ) w (src:=169) (dst:=240) ⟨b,0,aF⟩ underlying169 underlying240 hj (by rw [hjs];decide) hsh (Nat.zero_lt_succ 1);have h2:=Lib.run_from_unsafe (P:=zZZ) w (src:=240) (dst:=169) ⟨b,0,aF⟩ underlying240 underlying169 hj hsh z0f;have h3:∀W,(callFunc 165 #[.pointer (aG ⟨b,0,aF⟩)]).run zZZ W= .ok (.value (.pointer (aG ⟨b,0,aF⟩))) W:=fun W=>by
  rw [run_callFunc_extern func165 ww ww ww (e:=Extern.AbiNoEscape.same) ww,Lib.run_noEscape];rfl
 clear hj;go_enter func144,ntmps144;go_wp2;go_end0;exact⟨rfl,rfl⟩
theorem Z8 (B b:Nat) (bs:ak) (w:World) (h:Lib.IsBuilder 171 5 B b bs w) :
  Calls zZZ 144 #[.pointer (aG ⟨b,0,aF⟩)] w fun e w'=>e= .returned (.tuple #[])/\(Lib.BuilderAt 171 5 B b (.pointer (aG ⟨b,0,aF⟩)) bs w'/\Below B w w'):=by
 rcases h with h | h
 ·refine(vW b w h.cell0 h.shape h.frozen0).mono fun e w' ⟨he,hw⟩=>⟨he,?_⟩
  subst hw;exact⟨h.used _,(Below.refl _ _).setCell (p:=⟨b,0,aF⟩) h.1 _⟩
 ·refine(uC b w h.cell0).mono fun e w' ⟨he,hw⟩=>⟨he,?_⟩
  subst hw;exact⟨h,Below.refl _ _⟩
theorem xZ (B b:Nat) (bs:ak) (c:Int) (w:World) (h:Lib.IsBuilder 171 5 B b bs w) (hlen:bs.length+1<=140737488355328) (hBw:B<=w.heap.size) :
  Calls zZZ 104 #[.pointer (aG ⟨b,0,aF⟩),aB .u8 c] w fun e w'=>e= .returned .nilIface/\(Lib.BuilderAt 171 5 B b (.pointer (aG ⟨b,0,aF⟩)) (bs++ [aB .u8 c]) w'/\Below B w w'):=by
 go_enter func104,ntmps104;go_wp2_with fail;refine(Z8 B b bs _ h).mono ?_;rintro e_ w1 ⟨rfl,h1,hb1⟩;dsimp only;obtain⟨hB,v,hbk,hown,hne⟩:=h1;have c0:w1.cell? ⟨b,0,aF⟩=aG (.pointer (aG ⟨b,0,aF⟩)):=by rw [Lib.cell_of_heap hbk];rfl
 have c1:w1.cell? ⟨b,1,aF⟩=aG v:=by rw [Lib.cell_of_heap hbk];rfl
 have hz:=hb1.size
 refine wL ?_;intros;refine zh rfl _ _ rfl jT ac hown rfl rfl (by simp;rfl) wu wu ?_;intro v' w2 hown' hgrow _;have hlt:b<w1.heap.size:=by
  rcases Nat.lt_or_ge b w1.heap.size with h' | h'
  ·exact h'
  ·simp [Array.getElem?_eq_none h']at hbk
 have hb2:w2.heap[b]?=aG (.cells #[.pointer (aG ⟨b,0,aF⟩),v] 171 (0,0)):=by
  rw [hgrow.block b hlt (fun e=>hne e.symm)];exact hbk
 have d0:w2.cell? ⟨b,0,aF⟩=aG (.pointer (aG ⟨b,0,aF⟩)):=by rw [Lib.cell_of_heap hb2];rfl
 have d1:w2.cell? ⟨b,1,aF⟩=aG v:=by rw [Lib.cell_of_heap hb2];rfl
 have f1:w2.frozen? ⟨b,1,aF⟩=false:=Lib.frozen_of_heap hb2 1;obtain⟨g,cap,rfl⟩:∃g cap,v'= aA (aG ⟨g,0,aF⟩) (bs.length+1) cap:=by
  rcases hown'.2 with ⟨_,h0⟩ | ⟨g,cap,cur,hv,_⟩
  ·omega
  ·exact⟨g,cap,hv⟩
 go_wp2_with fail;go_ret;refine⟨rfl,?_,?_⟩
 ·exact Lib.BuilderAt.put (T:=171) (e:=5) hB hb2 (bs':=bs++ [aB .u8 c]) (by simpa using hown') aa
 ·exact(hb1.grown hgrow wu (fun k hk=>(hown.lt k hk).1)).setCell (p:=⟨b,1,aF⟩) hB _
def dig (n:Nat):UInt8:=if n<10 then UInt8.ofNat (48+n) else UInt8.ofNat (87+n)
def hx1 (c:UInt8):ai:= [dig (c.toNat / 16),dig (c.toNat % 16)]
def kY (l:ai):ai:=l.flatMap hx1
theorem yf (l:ai):(kY l).length=2*l.length:=by
 induction l with
 | nil=>rfl
 | cons x l ih=>simp only [kY,List.flatMap_cons,List.length_append,List.length_cons] at *;rw [ih];simp [hx1];omega
theorem Xh (l:ai) (k:Nat) (h:k<l.length):kY (l.take (k+1))=kY (l.take k)++hx1 l[k]:=by
 unfold kY;rw [List.take_succ_eq_append_getElem h,List.flatMap_append,List.flatMap_cons,List.flatMap_nil,List.append_nil]
theorem JX (m:Nat) (h:m<(⟨#[48,49,50,51,52,53,54,55,56,57,97,98,99,100,101,102]⟩:ByteArray).size) :
  ((⟨#[48,49,50,51,52,53,54,55,56,57,97,98,99,100,101,102]⟩:ByteArray)[m]'h).toNat=(dig m).toNat:=by
 have key:∀m:Fin 16,((⟨#[48,49,50,51,52,53,54,55,56,57,97,98,99,100,101,102]⟩:ByteArray)[m.val]'m.isLt).toNat=(dig m.val).toNat:=aa;exact key ⟨m,h⟩
theorem Yy (A:aj) (n c:Nat) (l:ai) (w:World) (hl:l.length=n) (hn:n<=70368744177664) (hc:n<=c) (hr:Rd w 1 A n (bys l)) :
  Calls zZZ 57 #[aA A n c] w fun e w'=>e= .returned (aD ⟨(kY l).toArray⟩)/\Below w.heap.size w w':=by
 go_enter func57,ntmps57;go_wp2_with fail;go_loopw [5,8] (fun u i wr=>∃k:Nat,i= aB aC k/\k<=n/\Lib.IsBuilder 171 5 w.heap.size w.heap.size (bys (kY (l.take k))) wr/\Below w.heap.size w wr) (fun _ i _=>n - (intOf i).toNat)
 case atStart=>exact⟨0,rfl,wu,Lib.fresh_isBuilder _ _ _,(Below.refl _ _).alloc ag _⟩
 case round =>
  obtain⟨k,rfl,hk,hB,hbel⟩:=hrel;have hle:=yf (l.take k);rw [List.length_take]at hle;by_cases hlt:k<n
  ·obtain⟨b,off,u,rfl,_,hu,hcell⟩:=(hr.below hbel).at_ hlt;rw [va l k wu]at hu;cases hu
   have HS:=sqH (Xh l k wu);generalize l[k]=x at *
   have hx:=x.toNat_lt
   refine wL ?_;intros;rw [dif_pos ⟨wu,wu⟩];simp only [JX,Result.andThen];go_wp2_with fail;refine(xZ _ _ _ _ _ hB (by rw [qW];omega) hbel.size).mono ?_;rintro e_ w1 ⟨rfl,hB1,hb1⟩;dsimp only;have hbel1:=hbel.trans hb1
   refine wL ?_;intros;rw [dif_pos ⟨wu,wu⟩];simp only [JX,Result.andThen];go_wp2_with fail;refine(xZ _ _ _ _ _ (.inr hB1) (by simp [qW];omega) hbel1.size).mono ?_;rintro e_ w2 ⟨rfl,hB2,hb2⟩;dsimp only;have hbel2:=hbel1.trans hb2;go_wp2_with fail;go_roundw
   case rel=>exact⟨k+1,by go_num,wu,.inr (by rw [HS.o,qV];simpa [hx1,bys] using hB2),hbel2⟩
   case measure=>simp [intOf];omega
  ·obtain rfl:k=n:=by omega
   rw [List.take_of_length_le wu]at hB;go_wp2_with fail;refine wZ (Tryz.Builder_String_any _ _ (kY l) _ hB hbel.size) fun w1 hb1=>?_;dsimp only;go_wp2_with fail;go_ret;exact⟨rfl,hbel.trans hb1⟩
def z3y:ByteArray:=⟨#[48,49,50,51,52,53,54,55,56,57,97,98,99,100,101,102]⟩
def val (c:UInt8):Int:=Lib.indexByte [48,49,50,51,52,53,54,55,56,57,97,98,99,100,101,102] c
def xd:List UInt8->Option (ai)
 | []=>aG []
 | [_]=>aF
 | a::b::r=>if val a<0\/val b<0 then aF else (xd r).map (UInt8.ofNat (16*(val a).toNat+(val b).toNat):: ·)
def xJ (l:ai):ai×Nat :=
 if 4000<l.length then ([],1) else if l.length % 2=1 then ([],3) else match xd l with | none=>([],3) | some r=>(r,0)
theorem kU (c:UInt8): -1<=val c/\val c<=15:=by
 have key:∀n:Fin 256, -1<=val (UInt8.ofNat n.val)/\val (UInt8.ofNat n.val)<=15:=by decide +kernel
 have:=key ⟨c.toNat,c.toNat_lt⟩;rw [show UInt8.ofNat (c.toNat)=c from UInt8.ofNat_toNat]at this;exact this
theorem Vz (c:UInt8) (w:World):Calls zZZ 102 #[aD z3y,aB .u8 (c.toNat:Int)] w fun e w'=>e= .returned (aB aC (val c))/\w'=w:=by
 refine(Tryz.strings_IndexByte z3y (c.toNat:Int) w).mono fun e w' ⟨he,hw⟩=>⟨?_,hw⟩
 rw [he];have:((c.toNat:Int)).toNat.toUInt8=c:=by rw [Int.toNat_natCast];exact UInt8.ofNat_toNat
 rw [this];rfl
theorem Xd (s:ByteArray) (w:World) (hs:s.size<=140737488351232) :
  Calls zZZ 51 #[aD s] w fun e w'=>∃A c,e= .returned (.tuple #[aA A (xJ s.data.toList).1.length c,aB aC (xJ s.data.toList).2])/\OwnB 5 w.heap.size w' A c (xJ s.data.toList).1/\Below w.heap.size w w':=by
 have hsz:s.data.toList.length=s.size:=by rw [Array.length_toList];rfl
 by_cases hbig:4000<s.size
 ·have hfin:xJ s.data.toList=([],1):=by rw [xJ,if_pos wu]
  have HF:=sqH hfin;clear hfin;go_enter func51,ntmps51;go_wp2_with fail;go_ret2;rw [HF.o];exact⟨aF,0,rfl,OwnB.nil_ _ _ _,Below.refl _ _⟩
 ·by_cases hodd:s.size % 2=1
  ·have hfin:xJ s.data.toList=([],3):=by rw [xJ,if_neg wu,if_pos wu]
   have HF:=sqH hfin;clear hfin;have h2:((s.size:Int) % 2 != 0)=true:=by rw [bne_iff_ne];omega
   clear hodd;go_enter func51,ntmps51;go_wp2_with fail;go_ret2;rw [HF.o];exact⟨aF,0,rfl,OwnB.nil_ _ _ _,Below.refl _ _⟩
  ·have hfin:xJ s.data.toList=match xd s.data.toList with | none=>([],3) | some r=>(r,0):=by rw [xJ,if_neg wu,if_neg wu]
   have HF:=sqH hfin;clear hfin;have h2:((s.size:Int) % 2 != 0)=false:=by rw [bne_eq_false_iff_eq];omega
   obtain⟨q,hq⟩:∃q,s.size=2*q:=⟨s.size / 2,wu⟩
   have hq1:q*2<=s.size:=wu;have hq2:s.size<=q*2:=wu;have HZ:=sqH hsz;clear hodd hq hsz;go_enter func51,ntmps51
   refine wL ?_;intros;refine kV rfl _ _ rfl jT q rfl rfl wu wu ?_;intro w1 g1 hown1 hb1;go_wp2_with fail;go_loopw [4,5,6,7] (fun v i x y wr=>∃(k:Nat) (acc:ai),i= aB aC ((2*k:Nat):Int)/\k<=q/\acc.length=k/\xd s.data.toList=(xd (s.data.toList.drop (2*k))).map (acc++ ·) /\
    wr.ownsRow w.heap.size 5 1 v acc.length (bys acc)/\Below w.heap.size w wr) (fun _ i _ _ _=>s.size - (intOf i).toNat)
   case atStart=>exact⟨0, [],rfl,wu,rfl,ab,hown1,hb1⟩
   case round =>
    obtain⟨k,acc,rfl,hk,hacc,hun,hown,hbel⟩:=hrel;have HU:=sqH hun;clear hun;have HA:=sqH hacc;clear hacc;have hsw:=hbel.size;generalize hm:2*k=m at *
    have HM:=sqH hm;by_cases hlt:k<q
    ·have hm1:m+1<s.size:=wu
     have hm0:m<s.size:=wu;have hi0:=we m
     have hi1:(m:Int)<(s.size:Int):=wu;have hi2:(m:Int)+1<(s.size:Int):=wu;have hi3:(0:Int)<=(m:Int)+1:=wu;have hw1:IntKind.i64.wrap ((m:Int)+1)=(m:Int)+1:=IntWalk.i64_in _ wu;have hn1:((m:Int)+1).toNat=m+1:=wu;have hd:s.data.toList.drop m=s[m]::s[m+1]::s.data.toList.drop (m+2):=by
      have hz:=HZ.o;rw [List.drop_eq_getElem_cons wu,List.drop_eq_getElem_cons (i:=m+1) wu];rfl
     have HD:=sqH hd;have ra:=kU s[m];have rb:=kU s[m+1];clear hm hd;by_cases hbad:val s[m]<0\/val s[m+1]<0
     ·have hfin:xJ s.data.toList=([],3):=by rw [HF.o,HU.o,HD.o,xd,if_pos hbad];rfl
      have HG:=sqH hfin;clear hfin;have ha0:val s[m]<0\/¬val s[m]<0/\val s[m+1]<0:=wu;clear hbad;rcases ha0 with ha0 | ⟨ha0,ha1⟩
      all_goals
       go_wp2_with fail;go_quiet ((go_at_call 102;exact Calls.quiet_of_same (Vz _ _)));go_wp2_with fail;go_ret2;rw [HG.o];exact⟨aF,0,rfl,OwnB.nil_ _ _ _,zY hbel _⟩
     ·have hstep:xd s.data.toList=(xd (s.data.toList.drop (m+2))).map ((acc++ [UInt8.ofNat (16*(val s[m]).toNat+(val s[m+1]).toNat)])++ ·):=by
       rw [HU.o,HD.o,xd,if_neg hbad,Option.map_map]
       congr 1;funext x;simp
      have HG:=sqH hstep;clear hstep;have hna:¬val s[m]<0:=fun h=>hbad (.inl h);have hnb:¬val s[m+1]<0:=fun h=>hbad (.inr h);clear hbad;have hacl:=HA.o;go_wp2_with fail;go_quiet ((go_at_call 102;exact Calls.quiet_of_same (Vz _ _)))
      refine wL ?_;intros;refine zh rfl (.tmp 40) (.tmp 46) rfl jT ac (Zw hown nq) rfl rfl (by simp;rfl) wu hsw ?_;intro v2 w2 hown2 hg2 _;have hb2:=zj (zY hbel nq) (Zw hown nq) ag hg2;have e1:bys (acc++ [UInt8.ofNat (16*(val s[m]).toNat+(val s[m+1]).toNat)])=bys acc++ [aB .u8 (16*val s[m]+val s[m+1])]:=by
       rw [qV];congr 1;simp only [bys,List.map_cons,List.map_nil,UInt8.toNat_ofNat']
       congr 2;omega
      go_wp2_with fail;rw [<-e1]at hown2;go_roundw
      case rel=>exact⟨k+1,acc++ [UInt8.ofNat (16*(val s[m]).toNat+(val s[m+1]).toNat)],by have:=HM.o;go_num,wu,by rw [List.length_append];simp only [List.length_cons,List.length_nil];omega,by rw [show 2*(k+1)=m+2 by have:=HM.o;omega];exact HG.o,by rw [List.length_append];exact hown2,hb2⟩
      case measure=>simp [intOf];omega
    ·have hkq:k=q:=wu
     have hfin:xJ s.data.toList=(acc,0):=by
      rw [HF.o,HU.o,List.drop_of_length_le (wc HZ),xd];simp
     have HG:=sqH hfin;clear hfin;obtain⟨A1,c1,rfl,hc1,_⟩:=Rd.of_own' hown;have hmm:s.size<=m:=wu;clear hkq hm;go_wp2_with fail;go_ret2;rw [HG.o];exact⟨A1,c1,rfl,⟨hown,hc1⟩,hbel⟩
theorem kZ (A:aj) (n c:Nat) (l:ai) (w:World) (hl:l.length=n) (hc:n<=c) (hm:n<=140737488353280) (hr:Rd w 1 A n (bys l)) :
  Calls zZZ 54 #[aA A n c] w fun e w'=>∃v,e= .returned v/\w'.ownsRow w.heap.size 5 1 v n (bys l)/\Below w.heap.size w w':=by
 have heq:=fun W=>Lib.run_eql_slice_nil (P:=zZZ) W 26 5 A n c 0 0 underlying26;cases A with
 | none =>
  obtain rfl:n=0:=by
   rcases Nat.eq_zero_or_pos n with h | h
   ·exact h
   ·obtain⟨_,_,h1,_⟩:=hr.2 h;cases h1
  obtain rfl:l= []:=List.eq_nil_of_length_eq_zero hl;go_enter func54,ntmps54;go_wp2_with fail;go_ret;exact⟨_,rfl,World.ownsRow_nil _ _ _ _,Below.refl _ _⟩
 | some ad =>
  go_enter func54,ntmps54
  refine wL ?_;intros;refine zM rfl (.tmp 5) (.tmp 6) rfl jT ac (World.ownsRow_made (size:=1) w #[] 0 ag (by simp [maxLen]) rfl) ac (hr.alloc _) (xL _) wu ab ?_;intro v1 w1 hown1 hg1 _;have hb1:=zj ((Below.refl _ _).alloc ag _) (World.ownsRow_made (size:=1) w #[] 0 ag (by simp [maxLen]) rfl) ag hg1;go_wp2_with fail;go_ret;exact⟨_,rfl,by simpa using hown1,hb1⟩
def vm:Nat->Nat->List UInt8->Nat×ai×Nat
 | _,_, []=>(0, [],8)
 | i,n,c::r =>
  if c.toNat<128 then
   if 4294967295<n+c.toNat % 128*128 ^ i\/(c.toNat=0/\0<i) then (0, [],3) else (n+c.toNat % 128*128 ^ i,r,0)
  else if i=4 then (0, [],3) else vm (i+1) (n+c.toNat % 128*128 ^ i) r
def zA (b:ai):Nat×ai×Nat:=vm 0 0 b
theorem Vb (n:Int) (h0:0<=n) (h1:n<2 ^ 63):IntKind.i64.wrap n=n:=by
 rw [IntKind.wrap_i64];simp at h1;omega
theorem J8 (N c k:Nat) (hk:k<=4) (hN:N<128 ^ k) (hc:c<128):bits .or aC (N:Int) (wrap64 ((c:Int) % 128*2 ^ (7*k)))=((N+c % 128*128 ^ k:Nat):Int):=by
 have e0:(128:Nat) ^ k=2 ^ (7*k):=by rw [show(128:Nat)=2 ^ 7 by rfl,<-Nat.pow_mul]
 have hp:2 ^ (7*k)<=2 ^ 28:=Nat.pow_le_pow_right wu wu;have hm:c % 128=c:=Nat.mod_eq_of_lt hc;have hb:c*2 ^ (7*k)<=127*2 ^ 28:=Nat.mul_le_mul wu hp;have e1:((c:Int) % 128*2 ^ (7*k))=((c*2 ^ (7*k):Nat):Int):=by
  rw [show((c:Int) % 128)=(c:Int) by omega,Int.natCast_mul,Int.natCast_pow];rfl
 rw [e1,show wrap64 ((c*2 ^ (7*k):Nat):Int)=((c*2 ^ (7*k):Nat):Int) from IntWalk.wrap64_in _ ⟨wu,wu⟩];have h2:N<2 ^ 63:=by rw [e0]at hN;omega
 rw [(bits_nat aC 63 aa Vb N (c*2 ^ (7*k)) h2 wu).2,hm,e0]
 congr 1
 rw [e0]at hN;have:=Nat.two_pow_add_eq_or_of_lt hN c;rw [Nat.or_comm,Nat.mul_comm,<-this];omega
set_option maxRecDepth 20000 in
theorem jr (A:aj) (n c:Nat) (l:ai) (w:World) (hl:l.length=n) (hc:n<=c) (hm:n<=140737488353280) (hr:Rd w 1 A n (bys l)) :
  Calls zZZ 56 #[aA A n c] w fun e w'=>∃v,e= .returned (.tuple #[aB aC (zA l).1,v,aB aC (zA l).2.2]) /\
   w'.ownsRow w.heap.size 5 1 v (zA l).2.1.length (bys (zA l).2.1)/\Below w.heap.size w w':=by
 go_enter func56,ntmps56
 refine wL ?_;intros;go_loop [5,10] (fun m i=>∃k N:Nat,i= aB aC k/\m= aB aC N/\k<=n/\k<=4/\N<128 ^ k/\zA l=vm k N (l.drop k)) (fun _ i=>n - (intOf i).toNat)
 case atStart=>exact⟨0,0,rfl,rfl,wu,wu,ab,rfl⟩
 case round =>
  obtain⟨k,N,rfl,rfl,hk,hk4,hN,hrd⟩:=hrel;have HR:=sqH hrd;clear hrd;have HN:=sqH hN;clear hN;by_cases hlt:k<n
  ·obtain⟨b,off,u,rfl,_,hu,hcell⟩:=hr.at_ hlt;rw [va l k wu]at hu;cases hu
   have hc0:=l[k].toNat_lt;generalize hcc:l[k].toNat=cc at *
   have HC:=sqH hcc;clear hcc;have hdr:l.drop k=l[k]::l.drop (k+1):=List.drop_eq_getElem_cons wu;have HD:=sqH hdr;clear hdr;by_cases h128:cc<128
   ·have hor:=J8 N cc k hk4 HN.o h128;generalize hM:N+cc % 128*128 ^ k=M at *
    have HM:=sqH hM;clear hM;by_cases hbig:4294967295<M
    ·have hfin:zA l=(0, [],3):=by rw [HR.o,HD.o,vm,HC.o,if_pos h128,HM.o,if_pos (.inl hbig)]
     have HF:=sqH hfin;clear hfin
     refine wL ?_;intros;go_ret3;rw [HF.o];exact⟨_,rfl,World.ownsRow_nil _ _ _ _,Below.refl _ _⟩
    ·by_cases h00:cc=0/\0<k
     ·have hfin:zA l=(0, [],3):=by rw [HR.o,HD.o,vm,HC.o,if_pos h128,if_pos (.inr h00)]
      have HF:=sqH hfin;clear hfin;obtain⟨h0,hk0⟩:=h00;have hcc1:((cc:Int)==0)=true:=beq_iff_eq.2 wu;clear h0
      refine wL ?_;intros;go_ret3;rw [HF.o];exact⟨_,rfl,World.ownsRow_nil _ _ _ _,Below.refl _ _⟩
     ·have hfin:zA l=(M,l.drop (k+1),0):=by rw [HR.o,HD.o,vm,HC.o,if_pos h128,HM.o,if_neg wu]
      have HF:=sqH hfin;clear hfin;have hcut:=hr.cutAt (k:=k+1) (c:=c) wu hc;rw [xi]at hcut;have hlen:(l.drop (k+1)).length=n - (k+1):=by rw [List.length_drop,hl]
      have HL:=sqH hlen;clear hlen;by_cases hc0':cc=0
      ·have hcc1:((cc:Int)==0)=true:=beq_iff_eq.2 wu;have hk0:k<=0:=wu
       clear hc0' h00
       refine wL ?_;intros;refine(kZ _ _ _ _ _ HL.o wu wu hcut).mono ?_;rintro e_ w_ ⟨v1,rfl,hown1,hb1⟩;dsimp only
       refine wL ?_;intros;go_ret3;rw [HF.o];exact⟨_,rfl,by rw [HL.o];exact hown1,hb1⟩
      ·have hcc0:((cc:Int)==0)=false:=beq_eq_false_iff_ne.2 wu
       refine wL ?_;intros;refine(kZ _ _ _ _ _ HL.o wu wu hcut).mono ?_;rintro e_ w_ ⟨v1,rfl,hown1,hb1⟩;dsimp only
       refine wL ?_;intros;go_ret3;rw [HF.o];exact⟨_,rfl,by rw [HL.o];exact hown1,hb1⟩
   ·have hor:=J8 N (cc - 128) k hk4 HN.o wu;have ecc:((cc - 128:Nat):Int) % 128=(cc:Int) % 128:=wu
    have ecd:(cc - 128) % 128=cc % 128:=wu;rw [ecc,ecd]at hor;clear ecc ecd;generalize hM:N+cc % 128*128 ^ k=M at *
    have HM:=sqH hM;clear hM;by_cases h4:k=4
    ·subst h4;have hfin:zA l=(0, [],3):=by rw [HR.o,HD.o,vm,HC.o,if_neg h128,if_pos rfl]
     have HF:=sqH hfin;clear hfin
     refine wL ?_;intros;go_ret3;rw [HF.o];exact⟨_,rfl,World.ownsRow_nil _ _ _ _,Below.refl _ _⟩
    ·have hnext:zA l=vm (k+1) M (l.drop (k+1)):=by rw [HR.o,HD.o,vm,HC.o,if_neg h128,if_neg h4,HM.o]
     have HF:=sqH hnext;clear hnext;have hMlt:M<128 ^ (k+1):=by
      have h1:=HM.o;have h2:=HN.o;have h3:cc % 128*128 ^ k<=127*128 ^ k:=Nat.mul_le_mul wu ag;rw [Nat.pow_succ];omega
     have HG:=sqH hMlt;clear hMlt;have hk4b:((k:Int)==4)=false:=beq_eq_false_iff_ne.2 wu
     refine wL ?_;intros;go_round
     case rel=>exact⟨k+1,M,by go_num,rfl,wu,wu,HG.o,HF.o⟩
     case measure=>simp [intOf];omega
  ·have hfin:zA l=(0, [],8):=by rw [HR.o,List.drop_of_length_le wu,vm]
   have HF:=sqH hfin;clear hfin
   refine wL ?_;intros;go_ret3;rw [HF.o];exact⟨_,rfl,World.ownsRow_nil _ _ _ _,Below.refl _ _⟩
theorem y9 {c:Nat} {l:ai} {er:Nat} (E:Int) (hE:er=E) (hrd:zA l=(m,rest,er)) (hl:l.length=n) (hc:n<=c) (hm:n<=140737488353280) (hr:Rd w 1 A n (bys l)) :
  Calls zZZ 56 #[aA A n c] w fun e w'=>∃A' c',e= .returned (.tuple #[aB aC m,aA A' rest.length c',aB aC E]) /\
   OwnB 5 w.heap.size w' A' c' rest/\Below w.heap.size w w':=by
 subst hE;refine(jr A n c l w hl hc hm hr).mono fun e w' ⟨v,he,ho,hb⟩=> ?_;rw [hrd]at he ho;obtain⟨A',c',rfl,h⟩:=OwnB.of rfl ho;exact⟨A',c',he,h,hb⟩
theorem Uz:∀(b:ai) (i a m:Nat) (rest:ai),i<=4->vm i a b=(m,rest,0) ->
  m<=4294967295/\∃n,m=a+n*128 ^ i/\b=num n++rest/\(i=0\/0<n):=by
 intro b
 induction b with
 | nil=>intro i a m rest _ h;simp [vm]at h
 | cons c r ih =>
  intro i a m rest hi h;rw [vm]at h;by_cases hc:c.toNat<128
  ·rw [if_pos hc]at h;split at h
   ·simp at h
   ·rename_i hx;simp only [Prod.mk.injEq,and_true]at h;obtain⟨rfl,rfl⟩:=h;rw [Nat.mod_eq_of_lt hc]at hx ⊢
    refine⟨wu,c.toNat,rfl,?_,wu⟩;rw [kf hc];simp
  ·rw [if_neg hc]at h;split at h
   ·simp at h
   ·rename_i h4;obtain⟨hm,n,e1,e2,e3⟩:=ih (i+1) _ m rest wu h;have hn:0<n:=wu
    have hc2:=c.toNat_lt;refine⟨hm,c.toNat % 128+128*n,?_,?_,.inr wu⟩
    ·rw [e1,Nat.pow_succ,Nat.add_mul];have:n*(128 ^ i*128)=128*n*128 ^ i:=by rw [Nat.mul_comm (128 ^ i) 128,<-Nat.mul_assoc,Nat.mul_comm n 128]
     omega
    ·rw [Q9 wu,e2];have h1:(c.toNat % 128+128*n) % 128+128=c.toNat:=wu
     have h2:(c.toNat % 128+128*n) / 128=n:=wu;rw [h1,h2];simp
theorem xz {b:ai} (h:zA b=(m,rest,0)):m<=4294967295/\b=num m++rest:=by
 obtain⟨h1,n,h2,h3,_⟩:=Uz b 0 0 m rest wu h;simp at h2;subst h2;exact⟨h1,h3⟩
def bl (n:Nat):Nat:=if h:n=0 then 0 else bl (n / 2)+1
termination_by n
decreasing_by omega
theorem z0k {base:Nat} {cap k:Nat} {xs:ak} (h:w.ownsRow base e size (aA A n cap) n xs) (hk:k<=n) :
  w.ownsRow base e size (aA A k cap) k (xs.take (k*size)):=by
 refine⟨by rw [List.length_take,h.1];exact Nat.min_eq_left (Nat.mul_le_mul_right _ hk),?_⟩;rcases h.2 with ⟨h1,h2⟩ | ⟨g,cap',cur,hv,hb,hg,hnc,hcm,hcs,htake⟩
 ·left;injection h1 with e1 e2 e3;subst e1 e3;obtain rfl:k=0:=by omega
  exact⟨rfl,rfl⟩
 ·right;injection hv with e1 e2 e3;subst e1 e3;refine⟨g,cap,cur,rfl,hb,hg,wu,hcm,hcs,?_⟩;rw [<-htake,List.take_take,Nat.min_eq_left (Nat.mul_le_mul_right _ hk)]
theorem Qe {ty:TypeId} (E:El P t e size bytes) (hit:P.underlying it=aG (.int aC)) (n:Nat) (h0:0<n) (hb:n*bytes<=140737488355328) :
  ∃cap cells,(Builtin.append_ #[t,it] ty #[aA aF 0 0,aB aC n]).run P w= .ok (aA (aG ⟨w.heap.size,0,aF⟩) n cap) (w.drew.alloc (.cells cells e))/\n<=cap/\cap<=maxLen/\cells.size=cap*size:=by
 have hpb:=E.posb;have hps:=E.pos;obtain⟨hu,⟨i,z,hi,hz,hs,hby,hzs⟩,_,_⟩:=E;have hn47:n<=140737488355328:=Nat.le_trans (Nat.le_mul_of_pos_right n hpb) hb;have hge:=grownCap_ge w n 0 e;have hcm:=grownCap_le_maxLen w n 0 e (by simp only [maxLen];omega);have h63':¬(9223372036854775807<(n:Int)):=wu;have h48':¬(281474976710656<Builtin.nextslicecap n 0*i.bytes):=by rw [nextslicecap_zero h0,hby];omega
 have hw:IntKind.i64.wrap (n:Int)=n:=by rw [IntKind.wrap_i64];omega
 have hl:¬((n:Int)<0):=wu;have hl2:¬(281474976710656<(n:Int)*(i.bytes:Int)):=by rw [hby,<-Int.natCast_mul];omega
 have hns:¬(n*i.size=0):=by rw [hs];exact Nat.ne_of_gt (Nat.mul_pos h0 hps)
 have hn0:n≠0:=wu;refine⟨grownCap w n 0 e,#[]++Builtin.zeroCells z.cells n++Builtin.zeroCells z.cells (grownCap w n 0 e - n),?_,hge,hcm,?_⟩
 ·simp [Builtin.append_,run_underlying hu,run_underlying hit,sizeOf,typeInfo,zeroValue,hi,hz,asInt,asIntOf,hw,hl,hl2,hn0,h63',h48',Question.forced,run_firstCells_none,newRow,grownCap];intro h;exact absurd h hns
 ·simp only [Array.size_append,size_zeroCells,hzs];rw [show(#[]:Array Value).size=0 from rfl,Nat.zero_add,<-Nat.add_mul];congr 1;omega
theorem KZ {ops:Array Oper} {rest:List Oper} {o:Oper} {a:Act} {Q:al} (hgd:o.guard=aF) (s x:Operand) 
  (ho:o.op= .call { callee:= .builtin .append,args:=#[s,x],argTypes:=#[t,it] }) (E:El P t e size bytes) (hit:P.underlying it=aG (.int aC))
  (n:Nat) (h0:0<n) (hb:n*bytes<=140737488355328) (hs:a.eval s= aA aF 0 0) (hx:a.eval x= aB aC n)
  (h:∀A c w',w'.ownsRow w.heap.size e size (aA A 0 c) 0 []->n<=c->Below w.heap.size w w'->wpList P ops Q rest (a.put o.dst (aA A n c)) w') :
  wpList P ops Q (o::rest) a w:=by
 refine wpList_plain hgd fun _ hK=> ?_;obtain⟨cap,cells,hrun,h1,h2,h3⟩:=Qe (P:=P) (w:=w) (ty:=o.type) E hit n h0 hb;unfold Oper.wp execOp;simp only [ho,resolve,invoke,builtin,Sem.run_bind,Sem.run_pure,Result.andThen_ok,List.map_toArray,List.map_cons,List.map_nil,hs,hx,hrun];refine hK _ _ (h _ _ _ ?_ h1 ((Below.refl _ _).drew.alloc ag _));exact World.ownsRow_made w.drew cells cap ag h2 h3
abbrev W32:=BitVec 32
def ZZ (n:Nat):ai:= [7,6,5,4,3,2,1,0].map fun i=>UInt8.ofNat (n / 256 ^ i)
def xK (n:Nat):Nat:=(119 - n % 64) % 64
def qt (l:ai):ai:=l++ [128]++List.replicate (xK l.length) 0++ZZ (8*l.length)
theorem ja (l:ai):(qt l).length % 64=0/\l.length+9<=(qt l).length/\(qt l).length<=l.length+72:=by
 simp only [qt,ZZ,xK,List.length_append,List.length_cons,List.length_nil,List.length_replicate,List.length_map];omega
def x9 (w:List W32):W32:=w[w.length - 16]! + yo w[w.length - 15]! 2+w[w.length - 7]! + yo w[w.length - 2]! 3
def qx (b:List W32):Nat->List W32
 | 0=>b
 | k+1=>qx b k++ [x9 (qx b k)]
theorem kT (b:List W32):∀k,(qx b k).length=b.length+k
 | 0=>rfl
 | k+1=>by rw [qx,List.length_append,kT b k];simp;omega
def rks:List W32:= [
 0x428a2f98,0x71374491,0xb5c0fbcf,0xe9b5dba5,0x3956c25b,0x59f111f1,0x923f82a4,0xab1c5ed5,
 0xd807aa98,0x12835b01,0x243185be,0x550c7dc3,0x72be5d74,0x80deb1fe,0x9bdc06a7,0xc19bf174,
 0xe49b69c1,0xefbe4786,0x0fc19dc6,0x240ca1cc,0x2de92c6f,0x4a7484aa,0x5cb0a9dc,0x76f988da,
 0x983e5152,0xa831c66d,0xb00327c8,0xbf597fc7,0xc6e00bf3,0xd5a79147,0x06ca6351,0x14292967,
 0x27b70a85,0x2e1b2138,0x4d2c6dfc,0x53380d13,0x650a7354,0x766a0abb,0x81c2c92e,0x92722c85,
 0xa2bfe8a1,0xa81a664b,0xc24b8b70,0xc76c51a3,0xd192e819,0xd6990624,0xf40e3585,0x106aa070,
 0x19a4c116,0x1e376c08,0x2748774c,0x34b0bcb5,0x391c0cb3,0x4ed8aa4a,0x5b9cca4f,0x682e6ff3,
 0x748f82ee,0x78a5636f,0x84c87814,0x8cc70208,0x90befffa,0xa4506ceb,0xbef9a3f7,0xc67178f2]
def h0s:List W32:= [0x6a09e667,0xbb67ae85,0x3c6ef372,0xa54ff53a,0x510e527f,0x9b05688c,0x1f83d9ab,0x5be0cd19]
def UW (x y z:W32):W32:=(x &&& y) ^^^ (~~~x &&& z)
def Zq (x y z:W32):W32:=(x &&& y) ^^^ (x &&& z) ^^^ (y &&& z)
def rnd (k w:W32):List W32->List W32
 | [a,b,c,d,e,f,g,h] =>
  let one:=h+yo e 1+UW e f g+k+w
  let two:=yo a 0+Zq a b c
  [one+two,a,b,c,d+one,e,f,g]
 | v=>v
def j6 (w v:List W32):Nat->List W32
 | 0=>v
 | n+1=>rnd rks[n]! w[n]! (j6 w v n)
theorem z0o (k w:W32) (v:List W32) (h:v.length=8):(rnd k w v).length=8:=by
 match v,h with
 | [a,b,c,d,e,f,g,h],_=>rfl
theorem xC (w v:List W32) (h:v.length=8):∀n,(j6 w v n).length=8
 | 0=>h
 | n+1=>z0o _ _ _ (xC w v h n)
theorem YP (v:List α) (h:v.length=8):∃a b c d e f g i,v= [a,b,c,d,e,f,g,i]:=by
 match v,h with
 | [a,b,c,d,e,f,g,i],_=>exact⟨_,_,_,_,_,_,_,_,rfl⟩
def xF (h b:List W32):List W32:=List.zipWith (· + ·) (j6 (qx b 48) h 64) h
theorem V1 (h b:List W32) (hh:h.length=8):(xF h b).length=8:=by
 simp [xF,xC _ _ hh,hh]
def vk (h w:List W32):Nat->List W32
 | 0=>h
 | k+1=>xF (vk h w k) ((w.drop (16*k)).take 16)
theorem kQ (h w:List W32) (hh:h.length=8):∀k,(vk h w k).length=8
 | 0=>hh
 | k+1=>V1 _ _ (kQ h w hh k)
def UB (l:ai):List W32:=vk h0s (km (qt l)) ((qt l).length / 64)
theorem ZD (l:ai):(UB l).length=8:=kQ _ _ rfl _
def shaS (l:ai):ai:=kY (wbs (UB l))
theorem vH (l:ai):(shaS l).length=64:=by
 rw [shaS,yf,jQ,ZD]
theorem YK (x y z:W32):UW x y z=(x &&& y) ||| (~~~x &&& z):=by
 ext i;simp only [UW,BitVec.getElem_xor,BitVec.getElem_and,BitVec.getElem_or,BitVec.getElem_not]
 cases x[i]<;>simp
theorem Ul (x y z:W32):Zq x y z=((x &&& y) ||| (x &&& z)) ||| (y &&& z):=by
 ext i;simp only [Zq,BitVec.getElem_xor,BitVec.getElem_and,BitVec.getElem_or]
 cases x[i]<;>cases y[i]<;>cases z[i]<;>rfl
theorem z3j (n:Nat) (h:n<=31):bits BinOp.and .u64 (n:Int) 31=(n:Int):=by
 have key:∀n:Fin 32,bits BinOp.and .u64 (n.val:Int) 31=(n.val:Int):=by decide +kernel
 exact key ⟨n,wu⟩
theorem JH (x:BitVec 32) (n:Nat) (w:World) (h0:0<n) (hn:n<=31):Calls zZZ 110 #[aB .u32 (wd x),aB aC n] w fun e w'=>e= .returned (aB .u32 (wd (x.rotateRight (32 - n))))/\w=w':=by
 have h1:=z3j n hn;have h2:(n:Int)<32:=wu;have h3:IntKind.u64.wrap (n:Int)=n:=by rw [IntKind.wrap_u64];omega
 have h4:IntKind.u64.wrap (32 - (n:Int))=32 - (n:Int):=by rw [IntKind.wrap_u64];omega
 have h5:(32 - (n:Int))<32:=wu;have h6:(32 - (n:Int)).toNat=32 - n:=wu;go_enter func110,ntmps110;go_wp2_with fail;go_ret;refine⟨?_,rfl⟩;have t:=z2h x (32 - n) wu;rw [show 32 - (32 - n)=n by omega,UC,ZE,kO,Jf]at t;have e:bits .or .u32 (wd x*2 ^ n % 4294967296) (wd x / 2 ^ (32 - n))=wd (x.rotateRight (32 - n)):=by
  rw [UC,ZE,kO,BitVec.or_comm,t]
 show Ending.returned (aB .u32 (bits .or .u32 (wd x*2 ^ n % 4294967296) (wd x / 2 ^ (32 - n))))=_;rw [e]
theorem qd (l:List W32):(wds l).length=l.length:=by simp [wds]
theorem ux (l:List W32) (k:Nat) (x:W32):(wds l).set k (aB .u32 (wd x))=wds (l.set k x):=by simp [wds,List.map_set]
theorem JG (x:BitVec 32) (n:Nat) (N:Int) (hN:N=n) (w:World) (h0:0<n) (hn:n<=31):Calls zZZ 110 #[aB .u32 (wd x),aB aC N] w fun e w'=>e= .returned (aB .u32 (wd (x.rotateRight (32 - n))))/\w=w':=by
 subst hN;exact JH x n w h0 hn
theorem vP (x:BitVec 32) (n:Nat) (N:Int) (hN:N=n) (w:World) (h0:0<n) (hn:n<=31):Calls zZZ 110 #[aB .u32 (wd x),aB aC N] w fun e w'=>e= .returned (aB .u32 (wd (x.rotateRight (32 - n))))/\w'=w :=
 (JG x n N hN w h0 hn).mono fun _ _ h=>⟨h.1,h.2.symm⟩
theorem Qt (x:BitVec 32) (N:Int) (w:World) (h0:0<N) (hn:N<=31):Calls zZZ 110 #[aB .u32 (wd x),aB aC N] w fun e w'=>e= .returned (aB .u32 (wd (x.rotateRight (32 - N.toNat))))/\w'=w:=by
 obtain⟨n,rfl⟩:=Int.eq_ofNat_of_zero_le (Int.le_of_lt h0);exact vP x n n rfl w wu wu
theorem z4c (y:W32) (b:UInt8):bits BinOp.or IntKind.u32 (IntKind.u32.wrap (wd y*256)) (IntKind.u32.wrap (b.toNat:Int))=wd (y <<< 8 ||| BitVec.ofNat 32 b.toNat):=by
 have h1:IntKind.u32.wrap (wd y*256)=wd y*2 ^ 8 % 4294967296:=by rw [IntKind.wrap_u32,show(2:Int) ^ 8=256 by decide]
 have h2:IntKind.u32.wrap (b.toNat:Int)=wd (BitVec.ofNat 32 b.toNat):=by
  have:=b.toNat_lt;rw [jS];simp [wd]
 rw [h1,h2,UC,kO]
def Qu (l:ai) (i j:Nat):W32:=(((l.take i).drop (4*j)).take 4).foldl (fun a b=>a <<< 8 ||| BitVec.ofNat 32 b.toNat) 0
def jt (l:ai) (i:Nat):List W32:=(List.range 64).map (Qu l i)
theorem vw (l:ai) (i:Nat):(jt l i).length=64:=by simp [jt]
theorem YC (l:ai) (i:Nat) (h:i<l.length):Qu l (i+1) (i / 4)=Qu l i (i / 4) <<< 8 ||| BitVec.ofNat 32 l[i].toNat:=by
 unfold Qu;have h1:(((l.take i).drop (4*(i / 4))).take 4)=(l.take i).drop (4*(i / 4)):=List.take_of_length_le (by rw [List.length_drop,List.length_take];omega);have h2:(((l.take (i+1)).drop (4*(i / 4))).take 4)=(l.take i).drop (4*(i / 4))++ [l[i]]:=by
  rw [List.take_succ_eq_append_getElem h,List.drop_append_of_le_length (by rw [List.length_take];omega)];exact List.take_of_length_le (by rw [List.length_append,List.length_drop,List.length_take];simp only [List.length_cons,List.length_nil];omega)
 rw [h1,h2,List.foldl_append];rfl
theorem Ks (l:ai) (i j:Nat) (h:i<l.length) (hj:j≠i / 4):Qu l (i+1) j=Qu l i j:=by
 unfold Qu;rw [List.take_succ_eq_append_getElem h];rcases Nat.lt_or_ge j (i / 4) with hlt | hge
 ·rw [List.drop_append_of_le_length (by rw [List.length_take];omega),List.take_append_of_le_length (by rw [List.length_drop,List.length_take];omega)]
 ·rw [List.drop_eq_nil_of_le af,List.drop_eq_nil_of_le af]
theorem YD (l:ai) (i:Nat) (h:i<l.length) (hi:i<256):jt l (i+1)=(jt l i).set (i / 4) (Qu l i (i / 4) <<< 8 ||| BitVec.ofNat 32 l[i].toNat):=by
 apply List.ext_getElem (by simp [jt]);intro j h1 h2;simp only [jt,List.getElem_map,List.getElem_range,List.getElem_set];split
 ·rename_i e;subst e;exact YC l i h
 ·rename_i e;exact Ks l i j h (fun x=>e x.symm)
theorem YE (l:ai):jt l 0=List.replicate 64 0:=by
 apply List.ext_getElem (by simp [jt]);intro j h1 h2;rw [List.getElem_replicate];simp only [jt,Qu,List.getElem_map,List.take_zero,List.drop_nil,List.take_nil,List.foldl_nil]
theorem z2l (x:W32) (b:UInt8):x <<< 8 ||| BitVec.ofNat 32 b.toNat=x <<< 8+BitVec.ofNat 32 b.toNat:=by
 refine(BitVec.add_eq_or_of_and_eq_zero _ _ ?_).symm;have hb:=b.toNat_lt
 ext i hi
 simp only [BitVec.getElem_and,BitVec.getElem_shiftLeft,BitVec.getElem_zero];by_cases h:i<8
 ·simp [h]
 ·have e:(BitVec.ofNat 32 b.toNat)[i]=false:=by
   rw [<-BitVec.getLsbD_eq_getElem,BitVec.getLsbD_ofNat,Nat.testBit_lt_two_pow (Nat.lt_of_lt_of_le hb (Nat.pow_le_pow_right wu wu))];simp
  rw [e];simp
theorem z4e (a b c d:UInt8): [a,b,c,d].foldl (fun (a:W32) (b:UInt8)=>a <<< 8 ||| BitVec.ofNat 32 b.toNat) (0:W32)=wOf a b c d:=by
 simp only [List.foldl_cons,List.foldl_nil,z2l];have ha:=a.toNat_lt;have hb:=b.toNat_lt;have hc:=c.toNat_lt;have hd:=d.toNat_lt;apply BitVec.eq_of_toNat_eq;simp only [wOf,BitVec.toNat_add,BitVec.toNat_shiftLeft,BitVec.toNat_ofNat,Nat.shiftLeft_eq];omega
theorem z3s (l:List α) (k:Nat) (h:k+3<l.length):(l.drop k).take 4= [l[k],l[k+1],l[k+2],l[k+3]]:=by
 rw [List.drop_eq_getElem_cons wu,List.drop_eq_getElem_cons wu,List.drop_eq_getElem_cons wu,List.drop_eq_getElem_cons wu];rfl
theorem Z2 (l:ai) (hl:64<=l.length):∀k,k<=16->(jt l 64).take k=km (l.take (4*k))
 | 0,_=>rfl
 | k+1,hk=>by
  have ih:=Z2 l hl k wu
  rw [List.take_succ_eq_append_getElem (by rw [vw];omega),ih,uA k l wu]
  congr 2
  simp only [jt,List.getElem_map,List.getElem_range,Qu]
  rw [z3s _ _ (by rw [List.length_take];omega)]
  simp only [List.getElem_take]
  exact z4e _ _ _ _
theorem VP (l:ai) (hl:64<=l.length):jt l 64=qx (km (l.take 64)) 0++List.replicate 48 0:=by
 have h:=Z2 l hl 16 wu;rw [<-List.take_append_drop 16 (jt l 64),h]
 congr 1
 apply List.ext_getElem (by simp [vw]);intro j h1 h2;rw [List.getElem_replicate];simp only [jt,List.getElem_drop,List.getElem_map,List.getElem_range,Qu];rw [List.drop_eq_nil_of_le (by rw [List.length_take];omega)];rfl
theorem j9 (L:List W32) (t:Nat) (hL:L.length=t) (h:16<=t):x9 L=L[t - 16]+yo L[t - 15] 2+L[t - 7]+yo L[t - 2] 3:=by
 subst hL;unfold x9;rw [getElem!_pos L _ wu,getElem!_pos L _ wu,getElem!_pos L _ wu,getElem!_pos L _ wu]
theorem grow (L:List W32) (t:Nat) (hL:L.length=t) (h:t<64) (v:W32):(L++List.replicate (64 - t) 0).set t v=(L++ [v])++List.replicate (64 - (t+1)) 0:=by
 subst hL;rw [List.set_append_right _ _ ag,Nat.sub_self,show 64 - L.length=(64 - (L.length+1))+1 by omega,List.replicate_succ,List.set_cons_zero,List.append_assoc];rfl
theorem Kt (a b:W32):IntKind.u32.wrap (wd a+wd b)=wd (a+b):=by
 rw [IntKind.wrap_u32];simp only [wd,BitVec.toNat_add];omega
theorem z4d (a:W32):wd a / (8:Int)=wd (a >>> 3):=by have:=ZE a 3;simpa using this
theorem JY (a:W32):wd a / (1024:Int)=wd (a >>> 10):=by have:=ZE a 10;simpa using this
theorem z2k (x1 x2 x3 x4:W32):IntKind.u32.wrap (IntKind.u32.wrap (IntKind.u32.wrap (wd x1+wd x3)+bits BinOp.xor IntKind.u32 (bits BinOp.xor IntKind.u32 (wd (BitVec.rotateRight x2 7)) (wd (BitVec.rotateRight x2 18))) (wd x2 / (8:Int)))+bits BinOp.xor IntKind.u32 (bits BinOp.xor IntKind.u32 (wd (BitVec.rotateRight x4 17)) (wd (BitVec.rotateRight x4 19))) (wd x4 / (1024:Int)))=wd (x1+yo x2 2+x3+yo x4 3):=by
 rw [z4d,JY];simp only [qH,Kt,yo];rw [Jf]
 ac_rfl
theorem z3x (a b c d e:W32):((wd a+wd b+wd c+wd d) % 4294967296+wd e) % 4294967296=wd (a+b+c+d+e):=by
 simp only [wd,BitVec.toNat_add];omega
theorem z2e (h e f g k w:W32):((wd h+bits BinOp.xor IntKind.u32 (bits BinOp.xor IntKind.u32 (wd (BitVec.rotateRight e 6)) (wd (BitVec.rotateRight e 11))) (wd (BitVec.rotateRight e 25)) +
   bits BinOp.xor IntKind.u32 (bits BinOp.and IntKind.u32 (wd e) (wd f)) (bits BinOp.and IntKind.u32 (bits BinOp.xor IntKind.u32 (if IntKind.u32.signed=true then -1 else IntKind.u32.max) (wd e)) (wd g))+wd k) % 4294967296+wd w) % 4294967296=wd (h+yo e 1+UW e f g+k+w):=by
 rw [if_neg aa];simp only [uL,qH,kN,z3x,yo,UW]
theorem z1a (a b:W32):(wd a+wd b) % 4294967296=wd (a+b):=by
 simp only [wd,BitVec.toNat_add];omega
theorem z2r (a b c:W32):(bits BinOp.xor IntKind.u32 (bits BinOp.xor IntKind.u32 (wd (BitVec.rotateRight a 2)) (wd (BitVec.rotateRight a 13))) (wd (BitVec.rotateRight a 22))+bits BinOp.xor IntKind.u32 (bits BinOp.xor IntKind.u32 (bits BinOp.and IntKind.u32 (wd a) (wd b)) (bits BinOp.and IntKind.u32 (wd a) (wd c))) (bits BinOp.and IntKind.u32 (wd b) (wd c))) % 4294967296=wd (yo a 0+Zq a b c):=by
 simp only [qH,kN,z1a,yo,Zq]
def uG (h v:List W32) (k:Nat):List W32:=(List.zipWith (· + ·) v h).take k++h.drop k
theorem Zz (h v:List W32):uG h v 0=h:=by simp [uG]
theorem QQ (h v:List W32) (k:Nat) (h1:h.length<=k) (h2:v.length=h.length):uG h v k=List.zipWith (· + ·) v h:=by
 rw [uG,List.drop_eq_nil_of_le h1,List.append_nil,List.take_of_length_le (by rw [List.length_zipWith];omega)]
theorem yJ (h v:List W32) (k:Nat) (h2:v.length=h.length):(uG h v k).length=h.length:=by
 simp only [uG,List.length_append,List.length_take,List.length_zipWith,List.length_drop];omega
theorem Zy (h v:List W32) (k:Nat) (hk:k<h.length) (h2:v.length=h.length):∃x y,(wds (uG h v k))[k]?=aG (aB .u32 (wd x))/\(wds v)[k]?=aG (aB .u32 (wd y))/\(uG h v k).set k (x+y)=uG h v (k+1):=by
 have hz:(List.zipWith (· + ·) v h).length=h.length:=by rw [List.length_zipWith];omega
 refine⟨h[k],v[k],?_,yO v k wu,?_⟩
 ·rw [yO _ k (by rw [yJ h v k h2];exact hk)];have:(uG h v k)[k]'(by rw [yJ h v k h2];exact hk)=h[k]:=by
   simp only [uG];rw [List.getElem_append_right (by simp [hz];omega)];simp only [List.getElem_drop,List.length_take,hz,Nat.min_eq_left (Nat.le_of_lt hk),Nat.sub_self,Nat.add_zero]
  rw [this]
 ·simp only [uG];rw [List.set_append_right _ _ (by simp [hz];omega),List.length_take,hz,Nat.min_eq_left (Nat.le_of_lt hk),Nat.sub_self,List.drop_eq_getElem_cons hk,List.set_cons_zero,List.take_succ_eq_append_getElem wu,List.append_assoc];simp [List.getElem_zipWith,BitVec.add_comm]
theorem XQ (W v:List W32) (t:Nat) (h:t<64) (hW:W.length=64):j6 W v (t+1)=rnd (rks[t]'h) (W[t]'(by omega)) (j6 W v t):=by
 rw [j6,getElem!_pos rks t h,getElem!_pos W t wu]
theorem z2g (t:Nat) (h:t<64):(wds rks)[t]?=aG (aB .u32 (wd (rks[t]'h))):=yO rks t h
theorem j7 (W v:List W32) (hv:v.length=8) (t:Nat) (h:t<64) (hW:W.length=64):∃v0 v1 v2 v3 v4 v5 v6 v7 kt wt,j6 W v t= [v0,v1,v2,v3,v4,v5,v6,v7]/\(wds rks)[t]?=aG (aB .u32 (wd kt))/\(wds W)[t]?=aG (aB .u32 (wd wt)) /\
  j6 W v (t+1)=rnd kt wt [v0,v1,v2,v3,v4,v5,v6,v7]:=by
 obtain⟨v0,v1,v2,v3,v4,v5,v6,v7,e⟩:=YP _ (xC W v hv t);exact⟨v0,v1,v2,v3,v4,v5,v6,v7,_,_,e,z2g t h,yO W t wu,by rw [XQ W v t h hW,e]⟩
theorem Xf (A:aj) (n c:Nat) (l:ai) (B:aj) (d:Nat) (h:List W32) (w:World) (hl:l.length=n) (hn:64<=n) (hc:n<=c) (hm:n<=140737488353280) (hr:Rd w 1 A n (bys l)) (hk:Rd w 1 B 64 (wds rks)) (hd:64<=d) (hh:h.length=8) :
  Calls zZZ 64 #[.agg (wds h).toArray,aA A n c,aA B 64 d] w fun e w'=>e= .returned (.agg (wds (xF h (km (l.take 64)))).toArray)/\Below w.heap.size w w':=by
 obtain⟨a0,a1,a2,a3,a4,a5,a6,a7,rfl⟩:=YP h hh;go_enter func64,ntmps64
 refine wL ?_;intros;have hA0:Arr (((w.alloc (aE (wds [a0,a1,a2,a3,a4,a5,a6,a7]).toArray 124)).alloc (aE (wds (List.replicate 8 0)).toArray 124)).alloc (aE (wds (List.replicate 64 0)).toArray 183)) w.heap.size 124 (wds [a0,a1,a2,a3,a4,a5,a6,a7]):=((Arr.new _ _ _).alloc _).alloc _;have hA1:Arr (((w.alloc (aE (wds [a0,a1,a2,a3,a4,a5,a6,a7]).toArray 124)).alloc (aE (wds (List.replicate 8 0)).toArray 124)).alloc (aE (wds (List.replicate 64 0)).toArray 183)) (w.heap.size+1) 124 (wds (List.replicate 8 0)):=by
  have:=(Arr.new (w.alloc (aE (wds [a0,a1,a2,a3,a4,a5,a6,a7]).toArray 124)) 124 (wds (List.replicate 8 0))).alloc (aE (wds (List.replicate 64 0)).toArray 183);simpa using this
 have hA2:Arr (((w.alloc (aE (wds [a0,a1,a2,a3,a4,a5,a6,a7]).toArray 124)).alloc (aE (wds (List.replicate 8 0)).toArray 124)).alloc (aE (wds (List.replicate 64 0)).toArray 183)) (w.heap.size+1+1) 183 (wds (jt l 0)):=by
  rw [YE];have:=(Arr.new ((w.alloc (aE (wds [a0,a1,a2,a3,a4,a5,a6,a7]).toArray 124)).alloc (aE (wds (List.replicate 8 0)).toArray 124)) 183 (wds (List.replicate 64 0)))
  simpa using this
 have hA3:Below w.heap.size w (((w.alloc (aE (wds [a0,a1,a2,a3,a4,a5,a6,a7]).toArray 124)).alloc (aE (wds (List.replicate 8 0)).toArray 124)).alloc (aE (wds (List.replicate 64 0)).toArray 183)) :=
  (((Below.refl _ w).alloc ab _).alloc ab _).alloc af _
 generalize hg0:w.heap.size=g0 at *
 generalize hg1:g0+1=g1 at *
 generalize hg2:g1+1=g2 at *
 have ne0:g0≠g2:=wu;have ne1:g1≠g2:=wu;have hgb:w.heap.size<=g2:=wu;go_loopw [19] (fun i wr=>∃k:Nat,i= aB aC k/\k<=64/\Arr wr g0 124 (wds [a0,a1,a2,a3,a4,a5,a6,a7])/\Arr wr g1 124 (wds (List.replicate 8 0))/\Arr wr g2 183 (wds (jt l k))/\Below w.heap.size w wr) (fun i _=>64 - (intOf i).toNat)
 case atStart=>exact⟨0,rfl,wu,hA0,hA1,hA2,by rw [hg0];exact hA3⟩
 case round =>
  obtain⟨k,rfl,hk,q0,q1,q2,hbel⟩:=hrel;by_cases hlt:k<64
  ·
   obtain⟨b,off,u,rfl,hbw,hu,hcell⟩:=(hr.below hbel).at_ (k:=k) wu;rw [va l k wu]at hu;cases hu
   have hx8:=l[k].toNat_lt;have hq:(wds (jt l k))[k / 4]?=aG (aB .u32 (wd (Qu l k (k / 4)))):=by
    rw [yO _ _ (by rw [vw];omega)];simp [jt]
   have hc4:=q2.cell hq;have hf4:=q2.frozen (k / 4);have hs:=q2.set (k:=k / 4) (by rw [qd,vw];omega) (aB .u32 (wd (Qu l k (k / 4) <<< 8 ||| BitVec.ofNat 32 l[k].toNat)));have HN:=sqH (YD l k wu wu);generalize Qu l k (k / 4)=y at *
   generalize hb8:l[k]=b8 at *
   have HB8:=sqH hb8;clear hb8 hq;generalize hj:k / 4=j at *
   have HJ:=sqH hj;have i0:(k:Int) / 4=(j:Int):=wu;have i1:(j:Int)<64:=wu;have i2:=we j
   have i3:(k:Int)<n:=wu;have i4:(k:Int)<64:=wu;have i5:decide ((k:Int)<64)=true:=by simpa using i4
   have i6:IntKind.i64.wrap (j:Int)=(j:Int):=by rw [IntKind.wrap_i64];omega
   have i7:((j:Int)).toNat=j:=wu;clear hj;have hyn:=z15 y;have hyl:=z14 y;have hsv:=sqH hs;clear hs hA0 hA1 hA2 hA3 hh hg0 hg1 hg2
   refine wL ?_;intros;go_still_tail 14,ww
   change wpList _ _ _ _ _ wr.drew;rw [z4c];have hc5:wr.drew.cell? ⟨g2,j,aF⟩=aG (aB .u32 (wd y)):=hc4;have hf5:wr.drew.frozen? ⟨g2,j,aF⟩=false:=hf4
   refine wL ?_;intros;go_roundw
   case rel =>
    refine⟨k+1,by go_num,wu,q0.other ne0 _,q1.other ne1 _,?_,Below.setCell hbel.drew hgb _⟩;rw [HN.o,<-ux];exact hsv.o
   case measure=>simp [intOf];omega
  ·obtain rfl:k=64:=by omega
   have e64:jt l 64=qx (km (l.take 64)) 0++List.replicate 48 0:=VP l wu;rw [e64]at q2;clear e64 hA0 hA1 hA2 hA3
   refine wL ?_;intros;have hq2:Arr wr g2 183 (wds (qx (km (l.take 64)) (16 - 16)++List.replicate (64 - 16) 0)):=q2;have hWl:(km (l.take 64)).length=16:=vJ 16 _ (by rw [List.length_take];omega);generalize hM:km (l.take 64)=M at *
   have HM:=sqH hM;clear hM;clear q2;rw [show((64:Nat):Int)=(64:Int) from rfl];go_loopw [9] (fun i wr=>∃t:Nat,i= aB aC t/\16<=t/\t<=64/\Arr wr g0 124 (wds [a0,a1,a2,a3,a4,a5,a6,a7])/\Arr wr g1 124 (wds (List.replicate 8 0))/\Arr wr g2 183 (wds (qx M (t - 16)++List.replicate (64 - t) 0))/\Below w.heap.size w wr) (fun i _=>64 - (intOf i).toNat)
   case atStart=>exact⟨16,rfl,wu,wu,q0,q1,hq2,hbel⟩
   case round =>
    clear q0 q1 hq2 hbel;obtain⟨t,rfl,ht0,ht,q0,q1,q2,hbel⟩:=hrel;by_cases hlt2:t<64
    ·
     have hLl:(qx M (t - 16)).length=t:=by rw [kT,hWl];omega
     have hnx:=j9 _ t hLl ht0;have hss:qx M (t+1 - 16)=qx M (t - 16)++ [x9 (qx M (t - 16))]:=by rw [show t+1 - 16=(t - 16)+1 by omega];rfl
     have HSS:=sqH hss;clear hss;generalize qx M (t - 16)=L at *
     have hcl:∀j (hj:j<L.length),wr.cell? ⟨g2,j,aF⟩=aG (aB .u32 (wd L[j])):=fun j hj=>q2.cell (by rw [yO _ _ (by rw [List.length_append];omega),List.getElem_append_left hj]);have c1:=hcl (t - 16) wu;have c2:=hcl (t - 15) wu;have c3:=hcl (t - 7) wu;have c4:=hcl (t - 2) wu;clear hcl;generalize L[t - 16]=x1 at *
     generalize L[t - 15]=x2 at *
     generalize L[t - 7]=x3 at *
     generalize L[t - 2]=x4 at *
     have HNX:=sqH hnx;clear hnx;have j1:((t:Int) - 16).toNat=t - 16:=wu;have j2:((t:Int) - 15).toNat=t - 15:=wu;have j3:((t:Int) - 7).toNat=t - 7:=wu;have j4:((t:Int) - 2).toNat=t - 2:=wu;have k1:(0:Int)<=(t:Int) - 16:=wu;have k2:(0:Int)<=(t:Int) - 15:=wu;have k3:(0:Int)<=(t:Int) - 7:=wu;have k4:(0:Int)<=(t:Int) - 2:=wu;have l1:(t:Int) - 16<64:=wu;have l2:(t:Int) - 15<64:=wu;have l3:(t:Int) - 7<64:=wu;have l4:(t:Int) - 2<64:=wu;have n1:(16:Int)<=(t:Int):=wu;have n2:(15:Int)<=(t:Int):=wu;have n3:(7:Int)<=(t:Int):=wu;have n4:(2:Int)<=(t:Int):=wu;have m1:IntKind.i64.wrap ((t:Int) - 16)=(t:Int) - 16:=by rw [IntKind.wrap_i64];omega
     have m2:IntKind.i64.wrap ((t:Int) - 15)=(t:Int) - 15:=by rw [IntKind.wrap_i64];omega
     have m3:IntKind.i64.wrap ((t:Int) - 7)=(t:Int) - 7:=by rw [IntKind.wrap_i64];omega
     have m4:IntKind.i64.wrap ((t:Int) - 2)=(t:Int) - 2:=by rw [IntKind.wrap_i64];omega
     have i4:(t:Int)<64:=wu;have i5:decide ((t:Int)<64)=true:=by simpa using i4
     refine wL ?_;intros;go_quiet (fail)
     refine wL ?_;intros;have hb2:=zY hbel nq;have q0':=q0.drewN nq;have q1':=q1.drewN nq;have q2':=q2.drewN nq;have d1:(wr.drewN nq).cell? ⟨g2,t - 16,aF⟩=_:=c1;have d2:(wr.drewN nq).cell? ⟨g2,t - 15,aF⟩=_:=c2;have d3:(wr.drewN nq).cell? ⟨g2,t - 7,aF⟩=_:=c3;have d4:(wr.drewN nq).cell? ⟨g2,t - 2,aF⟩=_:=c4;clear c1 c2 c3 c4 q0 q1 q2 hbel;generalize wr.drewN nq=wz at *
     go_still_tail 29,ww
     still_call (vP x2 25 25 rfl _ wu wu)
     repeat still_step
     still_call (vP x2 14 14 rfl _ wu wu)
     repeat still_step
     still_call (vP x4 15 15 rfl _ wu wu)
     repeat still_step
     still_call (vP x4 13 13 rfl _ wu wu)
     repeat still_step
     change wpList _ _ _ _ _ wz.drew;rw [z2k,<-HNX.o];have hc5:∃v,wz.drew.cell? ⟨g2,t,aF⟩=aG v:=⟨_,q2'.cell (k:=t) (by rw [yO _ _ (by rw [List.length_append,List.length_replicate];omega)])⟩
     obtain⟨v5,hc5⟩:=hc5;have hf5:wz.drew.frozen? ⟨g2,t,aF⟩=false:=q2'.frozen t;have hs5:=q2'.set (k:=t) (by rw [qd,List.length_append,List.length_replicate];omega) (aB .u32 (wd (x9 L)));rw [ux,grow L t hLl wu,<-HSS.o]at hs5;have HS5:=sqH hs5;clear hs5 q2'
     refine wL ?_;intros;go_roundw
     case rel =>
      exact⟨t+1,by go_num,wu,wu,q0'.other ne0 _,q1'.other ne1 _,HS5.o,Below.setCell hb2.drew hgb _⟩
     case measure=>simp [intOf];omega
    ·obtain rfl:t=64:=by omega
     rw [List.replicate_zero,List.append_nil]at q2;obtain⟨e0,e1,e2,e3,e4,e5,e6,e7⟩:=sqC8 q0
     refine wL ?_;intros;have hq3:Arr (wr.alloc (aE #[aB .u32 (wd a0),aB .u32 (wd a1),aB .u32 (wd a2),aB .u32 (wd a3),aB .u32 (wd a4),aB .u32 (wd a5),aB .u32 (wd a6),aB .u32 (wd a7)] 124)) wr.heap.size 124 (wds (j6 (qx M 48) [a0,a1,a2,a3,a4,a5,a6,a7] 0)):=Arr.new _ _ _;have hlt0:=q0.lt;have hlt1:=q1.lt;have hlt2:=q2.lt;have q0':=q0.alloc (aE #[aB .u32 (wd a0),aB .u32 (wd a1),aB .u32 (wd a2),aB .u32 (wd a3),aB .u32 (wd a4),aB .u32 (wd a5),aB .u32 (wd a6),aB .u32 (wd a7)] 124);have q1':=q1.alloc (aE #[aB .u32 (wd a0),aB .u32 (wd a1),aB .u32 (wd a2),aB .u32 (wd a3),aB .u32 (wd a4),aB .u32 (wd a5),aB .u32 (wd a6),aB .u32 (wd a7)] 124);have q2':=q2.alloc (aE #[aB .u32 (wd a0),aB .u32 (wd a1),aB .u32 (wd a2),aB .u32 (wd a3),aB .u32 (wd a4),aB .u32 (wd a5),aB .u32 (wd a6),aB .u32 (wd a7)] 124);have hbl':=hbel.alloc hbel.size (aE #[aB .u32 (wd a0),aB .u32 (wd a1),aB .u32 (wd a2),aB .u32 (wd a3),aB .u32 (wd a4),aB .u32 (wd a5),aB .u32 (wd a6),aB .u32 (wd a7)] 124);have hgb3:=hbel.size;generalize (wr.alloc (aE #[aB .u32 (wd a0),aB .u32 (wd a1),aB .u32 (wd a2),aB .u32 (wd a3),aB .u32 (wd a4),aB .u32 (wd a5),aB .u32 (wd a6),aB .u32 (wd a7)] 124))=wy at *
     generalize hg3:wr.heap.size=g3 at *
     have ne03:g0≠g3:=wu;have ne13:g1≠g3:=wu;have ne23:g2≠g3:=wu;clear q0 q1 q2 hbel e0 e1 e2 e3 e4 e5 e6 e7 hlt2 ht0 ht hlt hk hg3;rw [show((64:Nat):Int)=(64:Int) from rfl];have hWl2:(qx M 48).length=64:=by rw [kT,hWl]
     generalize hW:qx M 48=W at *
     have HW:=sqH hW;clear hW;go_loopw [79] (fun i wr=>∃t:Nat,i= aB aC t/\t<=64/\Arr wr g0 124 (wds [a0,a1,a2,a3,a4,a5,a6,a7])/\Arr wr g1 124 (wds (List.replicate 8 0))/\Arr wr g2 183 (wds W)/\Arr wr g3 124 (wds (j6 W [a0,a1,a2,a3,a4,a5,a6,a7] t))/\Below w.heap.size w wr) (fun i _=>64 - (intOf i).toNat)
     case atStart=>exact⟨0,rfl,wu,q0',q1',q2',hq3,hbl'⟩
     case round =>
      clear q0' q1' q2' hq3 hbl';obtain⟨t,rfl,ht,q0,q1,q2,q3,hbel⟩:=hrel;by_cases hlt3:t<64
      ·
       obtain⟨v0,v1,v2,v3,v4,v5,v6,v7,kt,wt,hv,hkt,hwt,hnx⟩:=j7 W [a0,a1,a2,a3,a4,a5,a6,a7] rfl t hlt3 hWl2;rw [hv]at q3;have HNX:=sqH hnx;obtain⟨bk,ok,uk,rfl,hbk,huk,hck⟩:=(hk.below hbel).at_ (k:=t) hlt3;rw [hkt]at huk;cases huk
       have hcw:=q2.cell hwt;clear hnx hv hkt hwt;obtain⟨f0,f1,f2,f3,f4,f5,f6,f7⟩:=sqC8 q3;have i1:(t:Int)<64:=wu;have i2:=we t
       have i5:decide ((t:Int)<64)=true:=by simpa using i1
       have hl64:(64:Int)<=(d:Int):=wu;clear hh hg0 hg1 hg2 hr hl
       refine wL ?_;intros;go_quiet (fail)
       refine wL ?_;intros;have p0:=q0.drewN nq;have p1:=q1.drewN nq;have p2:=q2.drewN nq;have p3:=q3.drewN nq;have pb:=zY hbel nq;have dk:(wr.drewN nq).cell? ⟨bk,ok+t,aF⟩=_:=hck;have dw:(wr.drewN nq).cell? ⟨g2,t,aF⟩=_:=hcw;clear q0 q1 q2 q3 hbel hck hcw f0 f1 f2 f3 f4 f5 f6 f7;generalize wr.drewN nq=wz at *
       have f5:=p3.c5;have f6:=p3.c6;have f7:=p3.c7;go_quiet ((go_at_call 110;exact Calls.quiet_of_same (Qt _ _ _ aa aa)));rw [z2e];have r0:=p0.drewN nq;have r1:=p1.drewN nq;have r2:=p2.drewN nq;have r3:=p3.drewN nq;have rb:=zY pb nq;clear p0 p1 p2 p3 pb dk dw f5 f6 f7;generalize wz.drewN nq=wx at *
       have f1:=r3.c1;have f2:=r3.c2;generalize hone:v7+yo v4 1+UW v4 v5 v6+kt+wt=one at *
       have HONE:=sqH hone;clear hone
       refine wL ?_;intros;go_quiet ((go_at_call 110;exact Calls.quiet_of_same (Qt _ _ _ aa aa)));rw [z2r];generalize htwo:yo v0 0+Zq v0 v1 v2=two at *
       have HTWO:=sqH htwo;clear htwo;have s0:=r0.drewN nq;have s1:=r1.drewN nq;have s2:=r2.drewN nq;have s3:=r3.drewN nq;have sb:=zY rb nq;clear r0 r1 r2 r3 rb f1 f2;generalize wx.drewN nq=wv at *
       obtain⟨f0,f1,f2,f3,f4,f5,f6,f7⟩:=sqC8 s3;have z:=s3.frozen
       refine wL ?_;intros;rw [z1a,z1a];have hrn:j6 W [a0,a1,a2,a3,a4,a5,a6,a7] (t+1)= [one+two,v0,v1,v2,v3+one,v4,v5,v6]:=by rw [HNX.o,<-HONE.o,<-HTWO.o];rfl
       have t3:=s3.set8 (aB .u32 (wd (one+two))) (aB .u32 (wd v0)) (aB .u32 (wd v1)) (aB .u32 (wd v2)) (aB .u32 (wd (v3+one))) (aB .u32 (wd v4)) (aB .u32 (wd v5)) (aB .u32 (wd v6));have T3:=sqH t3;have HRN:=sqH hrn;clear t3 hrn s3 f0 f1 f2 f3 f4 f5 f6 f7 z;go_roundw
       case rel =>
        refine⟨t+1,by go_num,wu,s0.other8 ne03 _ _ _ _ _ _ _ _,s1.other8 ne13 _ _ _ _ _ _ _ _,s2.other8 ne23 _ _ _ _ _ _ _ _,?_,Below.set8 sb hgb3 _ _ _ _ _ _ _ _⟩;rw [HRN.o];exact T3.o
       case measure=>simp [intOf];omega
      ·obtain rfl:t=64:=by omega
       have hVl:(j6 W [a0,a1,a2,a3,a4,a5,a6,a7] 64).length=8:=xC W _ rfl 64;have hst:xF [a0,a1,a2,a3,a4,a5,a6,a7] M=List.zipWith (· + ·) (j6 W [a0,a1,a2,a3,a4,a5,a6,a7] 64) [a0,a1,a2,a3,a4,a5,a6,a7]:=by rw [xF,HW.o]
       generalize j6 W [a0,a1,a2,a3,a4,a5,a6,a7] 64=V at *
       have hhl: [a0,a1,a2,a3,a4,a5,a6,a7].length=8:=rfl;generalize hH: [a0,a1,a2,a3,a4,a5,a6,a7]=H at *
       have HST:=sqH hst;have HH:=sqH hH;clear hst hH hh q2
       refine wL ?_;intros;have q0':Arr wr g0 124 (wds (uG H V 0)):=by rw [Zz];exact q0
       clear q0;rw [show((64:Nat):Int)=(64:Int) from rfl];go_loopw [160] (fun i wr=>∃t:Nat,i= aB aC t/\t<=8/\Arr wr g0 124 (wds (uG H V t))/\Arr wr g1 124 (wds (List.replicate 8 0))/\Arr wr g3 124 (wds V)/\Below w.heap.size w wr) (fun i _=>8 - (intOf i).toNat)
       case atStart=>exact⟨0,rfl,wu,q0',q1,q3,hbel⟩
       case round =>
        clear q0' q1 q3 hbel;obtain⟨t,rfl,ht,q0,q1,q3,hbel⟩:=hrel;by_cases hlt4:t<8
        ·obtain⟨x,y,hx,hy,hnx⟩:=Zy H V t wu wu;have HNX:=sqH hnx;have cx:=q0.cell hx;have cy:=q3.cell hy;have fx:=q0.frozen t;have hs:=q0.set (k:=t) (by rw [qd,yJ H V t wu];omega) (aB .u32 (wd (x+y)));rw [ux,hnx]at hs;have HS:=sqH hs;clear hnx hx hy hs;have i1:(t:Int)<8:=wu
         have i2:=we t
         have i5:decide ((t:Int)<8)=true:=by simpa using i1
         refine wL ?_;intros;go_still_tail 8,ww
         change wpList _ _ _ _ _ wr.drew;rw [Kt];have dx:wr.drew.cell? ⟨g0,t,aF⟩=aG (aB .u32 (wd x)):=cx;have gx:wr.drew.frozen? ⟨g0,t,aF⟩=false:=fx
         refine wL ?_;intros;go_roundw
         case rel =>
          exact⟨t+1,by go_num,wu,HS.o,q1.other wu _,q3.other wu _,Below.setCell hbel.drew (show w.heap.size<=g0 by omega) _⟩
         case measure=>simp [intOf];omega
        ·obtain rfl:t=8:=by omega
         have hpl:(uG H V 8).length=8:=by rw [yJ H V 8 wu];exact hhl
         have hpe:uG H V 8=xF H M:=by rw [QQ H V 8 wu wu,HST.o]
         rw [hpe]at q0 hpl;clear hpe;obtain⟨c0,c1,c2,c3,c4,c5,c6,c7,hc8⟩:=YP _ hpl;rw [hc8]at q0;have HC8:=sqH hc8;clear hc8 hpl;obtain⟨e0,e1,e2,e3,e4,e5,e6,e7⟩:=sqC8 q0;obtain⟨o0,o1,o2,o3,o4,o5,o6,o7⟩:=sqC8 q1;have z:=q1.frozen
         refine wL ?_;intros;have r1:=q1.set8 (aB .u32 (wd c0)) (aB .u32 (wd c1)) (aB .u32 (wd c2)) (aB .u32 (wd c3)) (aB .u32 (wd c4)) (aB .u32 (wd c5)) (aB .u32 (wd c6)) (aB .u32 (wd c7));have rb:=Below.set8 hbel (show w.heap.size<=g1 by omega) (aB .u32 (wd c0)) (aB .u32 (wd c1)) (aB .u32 (wd c2)) (aB .u32 (wd c3)) (aB .u32 (wd c4)) (aB .u32 (wd c5)) (aB .u32 (wd c6)) (aB .u32 (wd c7));refine bodyPost_ret (results_cell_row rfl _ _ g1 _ _ _ _ ac r1 underlying124 rfl ww) rfl ⟨?_,rb⟩;rw [HH.o,HM.o,HC8.o];rfl
theorem Y0 (l:ai) (h:l.length<4):km l= []:=by
 match l,h with
 | [],_=>rfl
 | [_],_=>rfl
 | [_,_],_=>rfl
 | [_,_,_],_=>rfl
theorem jm:∀(k:Nat) (l:ai),km (l.drop (4*k))=(km l).drop k
 | 0,l=>by simp
 | k+1,l=>by
  by_cases h:l.length<4
  ·rw [Y0 l h,List.drop_nil,List.drop_eq_nil_of_le wu];rfl
  ·match l,h with
   | a::b::c::d::r,_ =>
    rw [show 4*(k+1)=4*k+4 by omega]
    show km (r.drop (4*k))=_
    rw [jm k r,km,List.drop_succ_cons]
   | [],h=>simp at h
   | [_],h=>simp at h
   | [_,_],h=>simp at h
   | [_,_,_],h=>simp at h
theorem jn:∀(k:Nat) (l:ai),4*k<=l.length->km (l.take (4*k))=(km l).take k
 | 0,l,_=>by simp [km]
 | k+1,a::b::c::d::r,h=>by
  rw [show 4*(k+1)=4*k+1+1+1+1 by omega]
  simp only [List.take_succ_cons,km]
  rw [jn k r (by simp at h;omega)]
 | k+1, [],h=>by simp at h
 | k+1, [_],h=>by simp at h;omega
 | k+1, [_,_],h=>by simp at h;omega
 | k+1, [_,_,_],h=>by simp at h;omega
theorem Kx (h:List W32) (P:ai) (k:Nat) (hk:64*(k+1)<=P.length):xF (vk h (km P) k) (km ((P.drop (64*k)).take 64))=vk h (km P) (k+1):=by
 have e:km ((P.drop (64*k)).take 64)=((km P).drop (16*k)).take 16:=by
  rw [show(64:Nat)=4*16 from rfl,jn 16 _ (by rw [List.length_drop];omega),show 4*16*k=4*(16*k) by omega,jm]
 rw [e];rfl
def nib (x:W32) (i:Nat):UInt8:=dig (x.toNat / 16 ^ (7 - i) % 16)
def z0h (x:W32) (k:Nat):ai:=(List.range k).map (nib x)
theorem Xv (x:W32) (k:Nat):z0h x (k+1)=z0h x k++ [nib x k]:=by simp [z0h,List.range_succ]
theorem Ur (x:W32):z0h x 8=kY (wb x):=by
 have hx:=x.isLt;show [nib x 0,nib x 1,nib x 2,nib x 3,nib x 4,nib x 5,nib x 6,nib x 7]=kY [_,_,_,_];simp only [kY,List.flatMap_cons,List.flatMap_nil,hx1,List.append_nil,List.cons_append,List.nil_append,nib,UInt8.toNat_ofNat'];generalize x.toNat=n at *
 have e (i:Nat):(2:Nat) ^ 8=256:=rfl;rw [show n / 16777216 % 2 ^ 8 / 16=n / 16 ^ (7 - 0) % 16 by simp only [Nat.reduceSub,Nat.reducePow];omega,show n / 16777216 % 2 ^ 8 % 16=n / 16 ^ (7 - 1) % 16 by simp only [Nat.reduceSub,Nat.reducePow];omega,
  show n / 65536 % 2 ^ 8 / 16=n / 16 ^ (7 - 2) % 16 by simp only [Nat.reduceSub,Nat.reducePow];omega,show n / 65536 % 2 ^ 8 % 16=n / 16 ^ (7 - 3) % 16 by simp only [Nat.reduceSub,Nat.reducePow];omega,
  show n / 256 % 2 ^ 8 / 16=n / 16 ^ (7 - 4) % 16 by simp only [Nat.reduceSub,Nat.reducePow];omega,show n / 256 % 2 ^ 8 % 16=n / 16 ^ (7 - 5) % 16 by simp only [Nat.reduceSub,Nat.reducePow];omega,
  show n % 2 ^ 8 / 16=n / 16 ^ (7 - 6) % 16 by simp only [Nat.reduceSub,Nat.reducePow];omega,show n % 2 ^ 8 % 16=n / 16 ^ (7 - 7) % 16 by simp only [Nat.reduceSub,Nat.reducePow];omega]
theorem Z4 (N:Nat):(ZZ N).length=8:=by simp [ZZ]
theorem YF (N k:Nat) (hk:k<8):(ZZ N).take (k+1)=(ZZ N).take k++ [UInt8.ofNat (N / 256 ^ (7 - k))]:=by
 have h:k<(ZZ N).length:=by rw [Z4];exact hk
 rw [List.take_succ_eq_append_getElem h]
 congr 2
 match k,hk with
 | 0,_=>rfl
 | 1,_=>rfl
 | 2,_=>rfl
 | 3,_=>rfl
 | 4,_=>rfl
 | 5,_=>rfl
 | 6,_=>rfl
 | 7,_=>rfl
theorem UT (n k:Nat) (hk:k<8):(n:Int)*8 / 2 ^ (56 - 8*k) % 256=((UInt8.ofNat (8*n / 256 ^ (7 - k))).toNat:Int):=by
 have e:(256:Nat) ^ (7 - k)=2 ^ (56 - 8*k):=by
  rw [show(256:Nat)=2 ^ 8 by rfl,<-Nat.pow_mul];congr 1;omega
 rw [UInt8.toNat_ofNat',e,show(n:Int)*8=((8*n:Nat):Int) by omega,show(2:Int) ^ (56 - 8*k)=((2 ^ (56 - 8*k):Nat):Int) by simp];generalize 2 ^ (56 - 8*k)=q;rw [<-Int.natCast_ediv,show(2:Nat) ^ 8=256 by rfl];omega
theorem Uq (x:W32) (k:Nat) (hk:k<8):bits BinOp.and IntKind.u32 (wd x / 2 ^ (28 - 4*k)) 15=((x.toNat / 16 ^ (7 - k) % 16:Nat):Int):=by
 have e:(16:Nat) ^ (7 - k)=2 ^ (28 - 4*k):=by
  rw [show(16:Nat)=2 ^ 4 by rfl,<-Nat.pow_mul];congr 1;omega
 have h15:(15:Int)=wd (15:W32):=rfl;rw [ZE,h15,kN,e];show(((x >>> (28 - 4*k)) &&& 15#32).toNat:Int)=_;rw [BitVec.toNat_and,BitVec.toNat_ushiftRight,Nat.shiftRight_eq_div_pow];show(((x.toNat / 2 ^ (28 - 4*k)) &&& (2 ^ 4 - 1):Nat):Int)=_;rw [Nat.and_two_pow_sub_one_eq_mod]
theorem z4f (a0 a1 a2 a3 a4 a5 a6 a7:W32) (j:Nat) (hj:j<8):∃x, [a0,a1,a2,a3,a4,a5,a6,a7][j]?=aG x/\∀w:World,(Instr.index 124 (.agg #[aB .u32 (wd a0),aB .u32 (wd a1),aB .u32 (wd a2),aB .u32 (wd a3),aB .u32 (wd a4),aB .u32 (wd a5),aB .u32 (wd a6),aB .u32 (wd a7)]) (aB aC j)).run zZZ w= .ok (aB .u32 (wd x)) w :=
 match j,hj with
 | 0,_=>⟨a0,rfl,fun _=>ww⟩
 | 1,_=>⟨a1,rfl,fun _=>ww⟩
 | 2,_=>⟨a2,rfl,fun _=>ww⟩
 | 3,_=>⟨a3,rfl,fun _=>ww⟩
 | 4,_=>⟨a4,rfl,fun _=>ww⟩
 | 5,_=>⟨a5,rfl,fun _=>ww⟩
 | 6,_=>⟨a6,rfl,fun _=>ww⟩
 | 7,_=>⟨a7,rfl,fun _=>ww⟩
theorem U7 (a b:ai):kY (a++b)=kY a++kY b:=by simp [kY]
theorem Vd (n k:Nat) (h:(n+1+k) % 64≠56) (hk:k<=xK n):k<xK n:=by unfold xK at *;omega
theorem K7 (n k:Nat) (h:(n+1+k) % 64=56) (hk:k<=xK n):k=xK n:=by unfold xK at *;omega
theorem Ys (A:aj) (n c:Nat) (l:ai) (w:World) (hl:l.length=n) (hc:n<=c) (hm:n<=140737488353280) (hr:Rd w 1 A n (bys l)) :
  Calls zZZ 62 #[aA A n c] w fun e w'=>∃v,e= .returned v/\w'.ownsRow w.heap.size 5 1 v n (bys l)/\Below w.heap.size w w':=by
 have heq:=fun W=>Lib.run_eql_slice_nil (P:=zZZ) W 26 5 A n c 0 0 underlying26;cases A with
 | none =>
  obtain rfl:n=0:=by
   rcases Nat.eq_zero_or_pos n with h | h
   ·exact h
   ·obtain⟨_,_,h1,_⟩:=hr.2 h;cases h1
  obtain rfl:l= []:=List.eq_nil_of_length_eq_zero hl;go_enter func62,ntmps62;go_wp2_with fail;go_ret;exact⟨_,rfl,World.ownsRow_nil _ _ _ _,Below.refl _ _⟩
 | some ad =>
  go_enter func62,ntmps62
  refine wL ?_;intros;refine zM rfl (.tmp 5) (.tmp 6) rfl jT ac (World.ownsRow_made (size:=1) w #[] 0 ag (by simp [maxLen]) rfl) ac (hr.alloc _) (xL _) wu ab ?_;intro v1 w1 hown1 hg1 _;have hb1:=zj ((Below.refl _ _).alloc ag _) (World.ownsRow_made (size:=1) w #[] 0 ag (by simp [maxLen]) rfl) ag hg1;go_wp2_with fail;go_ret;exact⟨_,rfl,by simpa using hown1,hb1⟩
theorem Z7 (w:World):Calls zZZ 63 #[] w fun e w'=>e= .returned (aA (aG ⟨w.heap.size,0,aF⟩) 64 64)/\Rd w' 1 (aG ⟨w.heap.size,0,aF⟩) 64 (wds rks)/\Below w.heap.size w w':=by
 go_enter func63,ntmps63;go_wp2_with fail;go_ret;refine⟨rfl,?_,(Below.refl _ _).alloc ag _⟩;exact Rd.newN (w:=w) (e:=123) (size:=1) (m:=64) (wds rks) ac
theorem Xe (A:aj) (n c:Nat) (l:ai) (B:aj) (d:Nat) (a0 a1 a2 a3 a4 a5 a6 a7 d0 d1 d2 d3 d4 d5 d6 d7:W32) (w:World) (hst:xF [a0,a1,a2,a3,a4,a5,a6,a7] (km (l.take 64))= [d0,d1,d2,d3,d4,d5,d6,d7]) (hl:l.length=n) (hn:64<=n) (hc:n<=c) (hm:n<=140737488353280) (hr:Rd w 1 A n (bys l)) (hk:Rd w 1 B 64 (wds rks)) (hd:64<=d) :
  Calls zZZ 64 #[.agg #[aB .u32 (wd a0),aB .u32 (wd a1),aB .u32 (wd a2),aB .u32 (wd a3),aB .u32 (wd a4),aB .u32 (wd a5),aB .u32 (wd a6),aB .u32 (wd a7)],aA A n c,aA B 64 d] w fun e w' =>
   e= .returned (.agg #[aB .u32 (wd d0),aB .u32 (wd d1),aB .u32 (wd d2),aB .u32 (wd d3),aB .u32 (wd d4),aB .u32 (wd d5),aB .u32 (wd d6),aB .u32 (wd d7)])/\Below w.heap.size w w':=by
 refine(Xf A n c l B d [a0,a1,a2,a3,a4,a5,a6,a7] w hl hn hc hm hr hk hd rfl).mono fun e w' h=> ?_;rw [hst]at h;exact h
theorem Kb (A:aj) (n c:Nat) (l:ai) (w:World) (hl:l.length=n) (hc:n<=c) (hm:n<=140737488351300) (hr:Rd w 1 A n (bys l)) :
  Calls zZZ 27 #[aA A n c] w fun e w'=>e= .returned (aD ⟨(shaS l).toArray⟩)/\Below w.heap.size w w':=by
 have HL:=sqH hl;clear hl;go_enter func27,ntmps27
 refine wL ?_;intros;refine(Ys _ _ _ l _ HL.o hc wu hr).mono ?_;rintro e_ w1 ⟨v1,rfl,ho1,hb1⟩;dsimp only
 refine wL ?_;intros;have hl:=HL.o;refine zh rfl (.tmp 13) (.tmp 14) rfl jT ac ho1 rfl rfl (by simp;rfl) wu hb1.size ?_;intro v2 w2 ho2 hg2 _;have hb2:=zj hb1 ho1 ag hg2;have ho3:w2.ownsRow w.heap.size 5 1 v2 (n+1+0) (bys (l++ [128]++List.replicate 0 0)):=by
  rw [List.replicate_zero,List.append_nil,qV];exact ho2
 clear hl ho1 ho2 hg2 hb1
 refine wL ?_;intros;go_loopg [3] (xK n) (fun gn v wr=>∃k,gn=xK n - k/\k<=xK n/\wr.ownsRow w.heap.size 5 1 v (n+1+k) (bys (l++ [128]++List.replicate k 0))/\Below w.heap.size w wr)
 case atStart=>exact⟨0,rfl,wu,ho3,hb2⟩
 case round =>
  clear ho3 hb2;obtain⟨k,hgk,hk,hown,hbel⟩:=hrel;obtain⟨A3,c3,rfl,hc3,hrd3⟩:=Rd.of_own' hown;have hz:xK n<=63:=by unfold xK;omega
  by_cases h56:(n+1+k) % 64=56
  ·have hkz:=K7 n k h56 hk;have hb56:(((n+1+k:Nat):Int) % 64 != 56)=false:=by rw [bne_eq_false_iff_eq];omega
   generalize hm1:n+1+k=m at *
   have HM:=sqH hm1;have hm2:m<=n+64:=wu;clear hm1 h56 hgk;subst hkz
   refine wL ?_;intros;have ho4:wr.ownsRow w.heap.size 5 1 (aA A3 m c3) (m+0) (bys (l++ [128]++List.replicate (xK n) 0++(ZZ (8*n)).take 0)):=by
    rw [List.take_zero,List.append_nil];exact hown
   clear hown hrd3 hc3 hb56;go_loopg [3,27] 8 (fun gn v i wr=>∃k:Nat,gn=8 - k/\i= aB aC k/\k<=8/\wr.ownsRow w.heap.size 5 1 v (m+k) (bys (l++ [128]++List.replicate (xK n) 0++(ZZ (8*n)).take k))/\Below w.heap.size w wr)
   case atStart=>exact⟨0,rfl,rfl,wu,ho4,hbel⟩
   case round =>
    clear ho4 hbel;obtain⟨k,hgk,rfl,hk,hown,hbel⟩:=hrel;have HGK:=sqH hgk;clear hgk;by_cases hk8:k<8
    ·have hbn:=YF (8*n) k hk8;have HBN:=sqH hbn;clear hbn
     refine wL ?_;intros;refine zh rfl (.tmp 30) (.tmp 37) rfl jT ac hown rfl rfl (by simp;rfl) wu hbel.size ?_;intro v2 w2 ho2 hg2 _;have hb2:=zj hbel hown ag hg2
     refine wL ?_;intros;go_roundg (8 - (k+1))
     case measure=>exact wc HGK
     case rel =>
      refine⟨k+1,rfl,by go_num,wu,?_,hb2⟩;rw [UT n k hk8]at ho2;rw [HBN.o,<-List.append_assoc,qV _ [_]];exact ho2
    ·obtain rfl:k=8:=by omega
     have hsp:l++ [128]++List.replicate (xK n) 0++(ZZ (8*n)).take 8=qt l:=by
      rw [List.take_of_length_le (by rw [Z4];omega)];unfold qt;rw [HL.o]
     have hpl:=ja l;have hpl2:(qt l).length=m+8:=by rw [<-hsp];have:=HM.o;have:=HL.o;simp [Z4];omega
     rw [hsp]at hown;clear hsp;obtain⟨q,hq⟩:∃q,(qt l).length=64*q:=⟨(qt l).length / 64,wu⟩
     have hfin:shaS l=kY (wbs (vk h0s (km (qt l)) q)):=by
      unfold shaS UB;rw [hq,Nat.mul_div_cancel_left _ wu]
     have HFIN:=sqH hfin;clear hfin;generalize qt l=P at *
     obtain⟨A5,c5,rfl,hc5,hrd5⟩:=Rd.of_own' hown;have hm8:m+8<=n+72:=wu;have HPL:=sqH hpl2;have HQ:=sqH hq;clear hq hpl2 hown hpl hm2;generalize m+8=L at *
     have hLq:L=64*q:=by rw [<-HPL.o];exact HQ.o
     have HLQ:=sqH hLq;clear hLq;rw [show((8:Nat):Int)=(8:Int) from rfl]
     refine wL ?_;intros;have qa:=Arr.new wr 124 (wds h0s);have qb:=hbel.alloc hbel.size (aE (wds h0s).toArray 124);have qr:=hrd5.alloc (aE (wds h0s).toArray 124);have qw:0<L - 64*0->∃b off,A5=aG ⟨b,off,aF⟩/\b<wr.heap.size:=fun h=>by
      obtain⟨b,off,e,hb,_⟩:=hrd5.2 h;exact⟨b,off,e,hb⟩
     change Calls _ _ _ (wr.alloc (aE (wds h0s).toArray 124)) _;have hgb:=hbel.size;clear hbel hrd5 hk;generalize wr.alloc (aE (wds h0s).toArray 124)=wa at *
     generalize wr.heap.size=gh at *
     refine(Z7 _).mono ?_;rintro e_ w5 ⟨rfl,qk,hb5⟩;dsimp only;have qa2:=qa.below hb5;have qr2:=qr.below hb5;have qb2:=wm qb hb5;have hga:=qa.lt;generalize wa.heap.size=gc at *
     have qr3:Rd w5 1 A5 (L - 64*0) (bys (P.drop (64*0))):=qr2;clear qa qb qr hb5 qr2
     refine wL ?_;intros;go_loopg [3] q (fun gn v wr=>∃k A' c',gn=q - k/\k<=q/\v= aA A' (L - 64*k) c'/\L - 64*k<=c'/\(0<L - 64*k->∃b off,A'=aG ⟨b,off,aF⟩/\b<gh)/\Rd wr 1 A' (L - 64*k) (bys (P.drop (64*k)))/\Arr wr gh 124 (wds (vk h0s (km P) k))/\Rd wr 1 (aG ⟨gc,0,aF⟩) 64 (wds rks)/\Below w.heap.size w wr)
     case atStart=>exact⟨0,A5,c5,rfl,wu,rfl,hc5,qw,qr3,qa2,qk,qb2⟩
     case round =>
      clear qa2 qk qb2 qr3 qw;obtain⟨k,A',c',hgk,hk,rfl,hc',qw,qr,qa,qk,qb⟩:=hrel;have hclen:=kQ h0s (km P) rfl k;obtain⟨a0,a1,a2,a3,a4,a5,a6,a7,hch⟩:=YP _ hclen;have HCH:=sqH hch;rw [hch]at qa;have HGK:=sqH hgk;by_cases hkq:k<q
      ·have hnx:=Kx h0s P k (wc HQ);have hclen2:=kQ h0s (km P) rfl (k+1);obtain⟨d0,d1,d2,d3,d4,d5,d6,d7,hch2⟩:=YP _ hclen2;rw [hch,hch2]at hnx;have HCH2:=sqH hch2;have hr64:64<=L - 64*k:=by have:=HLQ.o;omega
       have hpd:(P.drop (64*k)).length=L - 64*k:=by rw [List.length_drop,HPL.o]
       have hdd:(P.drop (64*k)).drop 64=P.drop (64*(k+1)):=by rw [List.drop_drop];congr 1
       have hll:L - 64*k - 64=L - 64*(k+1):=wu;obtain⟨b,off,rfl,hbg⟩:=qw wu;clear qw;generalize hr1:L - 64*k=r at *
       obtain⟨HNX,HPD,HDD,HLL⟩:=sqJ4 hnx hpd hdd hll;have hr2:r<=n+72:=wu;generalize P.drop (64*k)=Q at *
       clear hch hch2 hclen hclen2 hgk hnx hpd hdd hll hr1;obtain⟨f0,f1,f2,f3,f4,f5,f6,f7⟩:=sqC8 qa
       refine wL ?_;intros;refine wZ (Xe _ _ _ Q _ _ _ _ _ _ _ _ _ _ d0 d1 d2 d3 d4 d5 d6 d7 _ HNX.o HPD.o hr64 hc' wu qr qk wu) fun w6 hb6=>?_;dsimp only;have qa6:=qa.below hb6;have qr6:=qr.below hb6;have qk6:=qk.below hb6;have qb6:=wm qb hb6;clear qa qr qk qb hb6 f0 f1 f2 f3 f4 f5 f6 f7;obtain⟨f0,f1,f2,f3,f4,f5,f6,f7⟩:=sqC8 qa6;have z:=qa6.frozen;have i64:(64:Int)<=(r:Int):=wu;have i65:(r:Int)<=(c':Int):=wu;refine wL ?_;intros;go_roundg (q - (k+1))
       case measure=>exact wc HGK
       case rel =>
        have hcut:=(qr6.other8 (show b≠gh by omega) (aB .u32 (wd d0)) (aB .u32 (wd d1)) (aB .u32 (wd d2)) (aB .u32 (wd d3)) (aB .u32 (wd d4)) (aB .u32 (wd d5)) (aB .u32 (wd d6)) (aB .u32 (wd d7))).cutAt (k:=64) (c:=c') hr64 hc';rw [xi,HDD.o]at hcut;refine⟨k+1,_,c' - 64,rfl,wu,by rw [HLL.o],by rw [<-HLL.o];omega,fun _=> ?_,by rw [<-HLL.o];exact hcut,?_,qk6.other8 (show gc≠gh by omega) _ _ _ _ _ _ _ _,Below.set8 qb6 hgb _ _ _ _ _ _ _ _⟩
        ·split
         ·exact⟨_,_,rfl,hbg⟩
         ·exact⟨_,_,rfl,hbg⟩
        ·rw [HCH2.o];exact qa6.set8 _ _ _ _ _ _ _ _
      ·obtain rfl:k=q:=by omega
       have hL0:L - 64*k=0:=by have:=HLQ.o;omega
       rw [hL0];have hfin:=HFIN.o;rw [hch]at hfin;have hHl: [a0,a1,a2,a3,a4,a5,a6,a7].length=8:=rfl;have hidx:=fun j hj=>z4f a0 a1 a2 a3 a4 a5 a6 a7 j hj;have HIDX:=sqH hidx;have HFIN2:=sqH hfin;clear hidx hfin hch hgk HCH HFIN HGK qw qr qk hclen hL0 hkq hk hc' HQ HLQ;obtain⟨f0,f1,f2,f3,f4,f5,f6,f7⟩:=sqC8 qa;clear qa
       refine wL ?_;intros;clear f0 f1 f2 f3 f4 f5 f6 f7;go_loopg [8,52] 8 (fun gn v i wr=>∃j:Nat,gn=8 - j/\i= aB aC j/\j<=8/\wr.ownsRow w.heap.size 5 1 v (8*j) (bys (kY (wbs ([a0,a1,a2,a3,a4,a5,a6,a7].take j))))/\Below w.heap.size w wr)
       case atStart=>exact⟨0,rfl,rfl,wu,World.ownsRow_nil _ _ _ _,qb⟩
       case round =>
        clear qb;obtain⟨j,hgj,rfl,hj,hown,hbel⟩:=hrel;have HGJ:=sqH hgj;clear hgj;by_cases hj8:j<8
        ·obtain⟨x,hx,hxi⟩:=HIDX.o j hj8;have hwx:=K6 [a0,a1,a2,a3,a4,a5,a6,a7] j hj8;have hxe: [a0,a1,a2,a3,a4,a5,a6,a7][j]'hj8=x:=by
          rw [List.getElem?_eq_getElem hj8]at hx;exact Option.some.inj hx
         rw [hxe]at hwx;have HWX:=sqH hwx;clear hwx hxe hx;have hjl:(j:Int)<8:=wu;have hjb:decide ((j:Int)<8)=true:=by simpa using hjl
         refine wL ?_;intros;have ho5:wr.ownsRow w.heap.size 5 1 u8 (8*j+0) (bys (kY (wbs ([a0,a1,a2,a3,a4,a5,a6,a7].take j))++z0h x 0)):=by
          rw [show z0h x 0= [] from rfl,List.append_nil];exact hown
         clear hown hxi;generalize hF:kY (wbs ([a0,a1,a2,a3,a4,a5,a6,a7].take j))=F at *
         have HF:=sqH hF;clear hF;go_loopg [8,55] 8 (fun gn v i wr=>∃k:Nat,gn=8 - k/\i= aB aC k/\k<=8/\wr.ownsRow w.heap.size 5 1 v (8*j+k) (bys (F++z0h x k))/\Below w.heap.size w wr)
         case atStart=>exact⟨0,rfl,rfl,wu,ho5,hbel⟩
         case round =>
          clear ho5 hbel;obtain⟨k,hgk,rfl,hk,hown,hbel⟩:=hrel;have HGK:=sqH hgk;clear hgk;by_cases hk8:k<8
          ·have hnb:=Uq x k hk8;have hq16:x.toNat / 16 ^ (7 - k) % 16<16:=wu
           have hnib:nib x k=dig (x.toNat / 16 ^ (7 - k) % 16):=rfl;generalize x.toNat / 16 ^ (7 - k) % 16=qn at *
           have HNIB:=sqH hnib;clear hnib;have hwx0:=z15 x;have hwx1:=z14 x;have hkl:(k:Int)<8:=wu;refine wL ?_;intros;rw [dif_pos wu];simp only [JX,Result.andThen]
           refine wL ?_;intros;refine zh rfl (.tmp 58) (.tmp 66) rfl jT ac hown rfl rfl (by simp;rfl) wu hbel.size ?_;intro v7 w7 ho7 hg7 _;have hb7:=zj hbel hown ag hg7
           refine wL ?_;intros;go_roundg (8 - (k+1))
           case measure=>exact wc HGK
           case rel =>
            refine⟨k+1,rfl,by go_num,wu,?_,hb7⟩;rw [Xv,<-List.append_assoc,qV _ [_],HNIB.o];exact ho7
          ·obtain rfl:k=8:=by omega
           have ho6:wr.ownsRow w.heap.size 5 1 u8 (8*(j+1)) (bys (F++kY (wb x))):=by
            rw [<-Ur];exact hown
           clear hown
           refine wL ?_;intros;go_roundg (8 - (j+1))
           case measure=>exact wc HGJ
           case rel =>
            refine⟨j+1,rfl,by go_num,wu,?_,hbel⟩;rw [HWX.o,U7,HF.o];exact ho6
        ·obtain rfl:j=8:=by omega
         obtain⟨A8,c8,rfl,hc8,hrd8⟩:=Rd.of_own' hown;rw [List.take_of_length_le (show [a0,a1,a2,a3,a4,a5,a6,a7].length<=8 by rw [hHl];omega),<-HFIN2.o]at hrd8;have hstr:=Qf (P:=zZZ) (w:=wr) (c:=c8) (src:=26) (dst:=9) underlying26 underlying5 underlying9 (vH l) hrd8;generalize hS:shaS l=S at *
         have HS:=sqH hS;clear hS
         refine wL ?_;intros;go_ret;rw [HS.o];exact⟨rfl,hbel⟩
  ·have hkz:=Vd n k h56 hk;have hb56:(((n+1+k:Nat):Int) % 64 != 56)=true:=by rw [bne_iff_ne];omega
   generalize hm1:n+1+k=m at *
   have HM:=sqH hm1;have hm2:m<=n+64:=wu;have HGK:=sqH hgk;clear hm1 h56 hgk
   refine wL ?_;intros;refine zh rfl (.tmp 20) (.tmp 21) rfl jT ac hown rfl rfl (by simp;rfl) wu hbel.size ?_;intro v2 w2 ho2 hg2 _;have hb2:=zj hbel hown ag hg2
   refine wL ?_;intros;go_roundg (xK n - (k+1))
   case measure=>exact wc HGK
   case rel =>
    refine⟨k+1,rfl,wu,?_,hb2⟩;rw [<-Nat.add_assoc,HM.o,List.replicate_succ',<-List.append_assoc,qV];exact ho2
theorem yr (A:aj) (n c:Nat) (l:ai) (w:World) (hl:l.length=n) (hc:n<=c) (hm:n<=140737488351232) (hr:Rd w 1 A n (bys l)) :
  Calls zZZ 27 #[aA A n c] w fun e w'=>e= .returned (aD ⟨(shaS l).toArray⟩)/\Below w.heap.size w w':=Kb A n c l w hl hc wu hr
theorem YO (a:UInt8) (h:¬val a<0):dig (val a).toNat=a:=by
 have key:∀n:Fin 256,¬val (UInt8.ofNat n.val)<0->dig (val (UInt8.ofNat n.val)).toNat=UInt8.ofNat n.val:=by decide +kernel
 have:=key ⟨a.toNat,a.toNat_lt⟩;rw [show UInt8.ofNat (a.toNat)=a from UInt8.ofNat_toNat]at this;exact this h
theorem Zm:∀(l r:ai),xd l=aG r->kY r=l
 | [],r,h=>by simp [xd]at h;subst h;rfl
 | [_],r,h=>by simp [xd]at h
 | a::b::l,r,h=>by
  rw [xd]at h
  split at h
  ·cases h
  ·rename_i hv
   simp only [Option.map_eq_some_iff]at h
   obtain⟨r',hr,rfl⟩:=h
   have ih:=Zm l r' hr
   have ra:=kU a
   have rb:=kU b
   have ea:=YO a (fun h=>hv (.inl h))
   have eb:=YO b (fun h=>hv (.inr h))
   show dig ((UInt8.ofNat (16*(val a).toNat+(val b).toNat)).toNat / 16)::dig ((UInt8.ofNat (16*(val a).toNat+(val b).toNat)).toNat % 16)::kY r'=_
   have e:(UInt8.ofNat (16*(val a).toNat+(val b).toNat)).toNat=16*(val a).toNat+(val b).toNat:=by rw [UInt8.toNat_ofNat'];omega
   rw [e,show(16*(val a).toNat+(val b).toNat) / 16=(val a).toNat by omega,show(16*(val a).toNat+(val b).toNat) % 16=(val b).toNat by omega,ea,eb,ih]
theorem JM (n k j:Nat) (hj:j+k=7):8*(n:Int) / 2 ^ (8*j) % 256=((UInt8.ofNat (8*n / 256 ^ (7 - k))).toNat:Int):=by
 have h:=UT n k wu;rw [show 56 - 8*k=8*j by omega]at h;rw [Int.mul_comm];exact h
theorem z1u (A:aj) (n c:Nat) (l:ai) (w:World) (hl:l.length=n) (hn:n<=2000) (hc:n<=c) (hr:Rd w 1 A n (bys l)) :
  Calls zZZ 176 #[aA A n c] w fun e w'=>∃A' c',e= .returned (.tuple #[aA A' (qt l).length c',aB aC 0])/\OwnB 5 w.heap.size w' A' c' (qt l)/\Below w.heap.size w w':=by
 have HL:=sqH hl;clear hl;go_enter func176,ntmps176
 refine wL ?_;intros;have hl:=HL.o;refine zM rfl (.const (aA aF 0 0)) (.tmp 10) rfl jT ac (World.ownsRow_nil w w.heap.size _ _) ac hr (xL _) wu ag ?_;intro v1 w1 ho1 hg1 _;have hb1:=zj (Below.refl _ _) (World.ownsRow_nil w w.heap.size 5 1) ag hg1;rw [List.nil_append,Nat.zero_add]at ho1
 refine wL ?_;intros;refine zh rfl (.tmp 11) (.tmp 12) rfl jT ac ho1 rfl rfl (by simp;rfl) wu hb1.size ?_;intro v2 w2 ho2 hg2 _;have hb2:=zj hb1 ho1 ag hg2;have ho3:w2.ownsRow w.heap.size 5 1 v2 (n+1+0) (bys (l++ [128]++List.replicate 0 0)):=by
  rw [List.replicate_zero,List.append_nil,qV];exact ho2
 clear hl ho1 ho2 hg2 hg1 hb1;go_wp2_with fail;go_loopg [4] (xK n) (fun gn v wr=>∃k,gn=xK n - k/\k<=xK n/\wr.ownsRow w.heap.size 5 1 v (n+1+k) (bys (l++ [128]++List.replicate k 0))/\Below w.heap.size w wr)
 case atStart=>exact⟨0,rfl,wu,ho3,hb2⟩
 case round =>
  clear ho3 hb2;obtain⟨k,hgk,hk,hown,hbel⟩:=hrel;obtain⟨A3,c3,rfl,hc3,hrd3⟩:=Rd.of_own' hown;have hz:xK n<=63:=by unfold xK;omega
  by_cases h56:(n+1+k) % 64=56
  ·have hkz:=K7 n k h56 hk;have hb56:(((n+1+k:Nat):Int) % 64 != 56)=false:=by rw [bne_eq_false_iff_eq];omega
   generalize hm1:n+1+k=m at *
   have HM:=sqH hm1;have hm2:m<=n+64:=wu;clear hm1 h56 hgk;subst hkz;go_wp2_with fail;have ho4:wr.ownsRow w.heap.size 5 1 (aA A3 m c3) (m+0) (bys (l++ [128]++List.replicate (xK n) 0++(ZZ (8*n)).take 0)):=by
    rw [List.take_zero,List.append_nil];exact hown
   clear hown hrd3 hc3 hb56;go_loopg [4,6] 8 (fun gn v i wr=>Below w.heap.size w wr/\((∃k j:Nat,gn=8 - k/\i= aB aC j/\j+k=7/\wr.ownsRow w.heap.size 5 1 v (m+k) (bys (l++ [128]++List.replicate (xK n) 0++(ZZ (8*n)).take k))) \/
    (i= aB aC (-1)/\wr.ownsRow w.heap.size 5 1 v (m+8) (bys (l++ [128]++List.replicate (xK n) 0++(ZZ (8*n)).take 8)))))
   case atStart=>exact⟨hbel,.inl ⟨0,7,rfl,rfl,rfl,ho4⟩⟩
   case round =>
    clear ho4 hbel;obtain⟨hbel,⟨k,j,hgk,rfl,hjk,hown⟩ | ⟨rfl,hown⟩⟩:=hrel
    ·have HGK:=sqH hgk;clear hgk;have HJK:=sqH hjk;have hk7:k<=7:=wu
     have hj7:j<=7:=wu;clear hjk;have hbn:=YF (8*n) k wu;have HBN:=sqH hbn;clear hbn
     refine wL ?_;intros;refine zh rfl (.tmp 28) (.tmp 34) rfl jT ac hown rfl rfl (by simp;rfl) wu hbel.size ?_;intro v2 w2 ho2 hg2 _;have hb2:=zj hbel hown ag hg2;rw [JM n k j HJK.o]at ho2;have ho9:w2.ownsRow w.heap.size 5 1 v2 (m+(k+1)) (bys (l++ [128]++List.replicate (xK n) 0++(ZZ (8*n)).take (k+1))):=by
      rw [HBN.o,<-List.append_assoc,qV _ [_]];exact ho2
     by_cases hj0:j=0
     ·subst hj0;go_wp2_with fail;go_roundg 0
      case measure=>exact wc HGK
      case rel =>
       have hk:k=7:=by have:=HJK.o;omega
       subst hk;exact⟨hb2,.inr ⟨by go_num,ho9⟩⟩
     ·have hj1:1<=j:=wu
      clear hj0;go_wp2_with fail;go_roundg (8 - (k+1))
      case measure=>exact wc HGK
      case rel=>exact⟨hb2,.inl ⟨k+1,j - 1,rfl,by go_num,by have:=HJK.o;omega,ho9⟩⟩
    ·have hsp:l++ [128]++List.replicate (xK n) 0++(ZZ (8*n)).take 8=qt l:=by
      rw [List.take_of_length_le (by rw [Z4];omega)];unfold qt;rw [HL.o]
     have hpl2:(qt l).length=m+8:=by rw [<-hsp];have:=HM.o;have:=HL.o;simp [Z4];omega
     rw [hsp]at hown;clear hsp;obtain⟨A5,c5,rfl,hc5,hrd5⟩:=Rd.of_own' hown;have HPL:=sqH hpl2;clear hpl2 hown
     refine wL ?_;intros;refine zM rfl (.const (aA aF 0 0)) (.tmp 36) rfl jT ac (World.ownsRow_nil wr w.heap.size _ _) ac hrd5 (xL _) wu hbel.size ?_;intro v8 w8 ho8 hg8 _;have hb8:=zj hbel (World.ownsRow_nil wr w.heap.size 5 1) ag hg8;rw [List.nil_append,Nat.zero_add]at ho8;obtain⟨A9,c9,rfl,ho9⟩:=OwnB.of HPL.o ho8;go_wp2_with fail;go_ret2;exact⟨A9,c9,rfl,ho9,hb8⟩
  ·have hkz:=Vd n k h56 hk;have hb56:(((n+1+k:Nat):Int) % 64 != 56)=true:=by rw [bne_iff_ne];omega
   generalize hm1:n+1+k=m at *
   have HM:=sqH hm1;have hm2:m<=n+64:=wu;have HGK:=sqH hgk;clear hm1 h56 hgk
   refine wL ?_;intros;refine zh rfl (.tmp 18) (.tmp 19) rfl jT ac hown rfl rfl (by simp;rfl) wu hbel.size ?_;intro v2 w2 ho2 hg2 _;have hb2:=zj hbel hown ag hg2;go_wp2_with fail;go_roundg (xK n - (k+1))
   case measure=>exact wc HGK
   case rel =>
    refine⟨k+1,rfl,wu,?_,hb2⟩;rw [<-Nat.add_assoc,HM.o,List.replicate_succ',<-List.append_assoc,qV];exact ho2
def hexC (l:ai):Nat:=if l.length≠64 then 1 else (xJ l).2
theorem kA (s:ByteArray) (w:World) (hs:s.size<=140737488351232) :
  Calls zZZ 89 #[aD s] w fun e w'=>e= .returned (aB aC (hexC s.data.toList))/\Below w.heap.size w w':=by
 have hsz:s.data.toList.length=s.size:=by rw [Array.length_toList];rfl
 by_cases h64:s.size=64
 ·have hb:((s.size:Int) != 64)=false:=by rw [bne_eq_false_iff_eq];omega
  have hfin:hexC s.data.toList=(xJ s.data.toList).2:=by rw [hexC,if_neg wu]
  have HF:=sqH hfin;clear hfin hsz h64;go_enter func89,ntmps89;go_wp2_with fail;refine(Xd s _ hs).mono ?_;rintro e_ w1 ⟨A1,c1,rfl,ho1,hb1⟩;dsimp only;go_wp2_with fail;go_ret;rw [HF.o];exact⟨rfl,hb1⟩
 ·have hb:((s.size:Int) != 64)=true:=by rw [bne_iff_ne];omega
  have hfin:hexC s.data.toList=1:=by rw [hexC,if_pos wu]
  have HF:=sqH hfin;clear hfin hsz h64;go_enter func89,ntmps89;go_wp2_with fail;go_ret;rw [HF.o];exact⟨rfl,Below.refl _ _⟩
end Go.Proofs.YtaboknhfiijipaaGreat
