/- Lemmas of the proof. Conditions: as stated. -/
import Derived.Test.YtfmnggcfhalfnaaGreatQW00
import Derived.Test.YtfmnggcfhalfnaaGreatQW03
import Derived.Deep.RegionHeld3
import Derived.Laws.Pointers
import Derived.StillTactics
import Derived.Lib.Builder
import Derived.Lib.UnsafeStr
import Derived.Laws.Externs
set_option linter.unusedVariables false
set_option linter.unusedSimpArgs false
set_option maxRecDepth 20000
namespace Go.Proofs.YtfmnggcfhalfnaaGreat
def num (n:Nat):List UInt8:=if n<128 then [UInt8.ofNat n] else UInt8.ofNat (n % 128+128)::num (n / 128)
theorem zN {n:Nat} (h:n<128):num n= [UInt8.ofNat n]:=by rw [num,if_pos h]
theorem uF {n:Nat} (h:¬n<128):num n=UInt8.ofNat (n % 128+128)::num (n / 128):=by rw [num,if_neg h]
theorem uG (n:Nat):∀k,n<128 ^ (k+1)→1≤(num n).length∧(num n).length≤k+1:=by
 intro k
 induction k generalizing n with
 | zero=>intro h;rw [zN (by simpa using h)];simp
 | succ k ih =>
  intro h;by_cases hn:n<128
  ·rw [zN hn];simp
  ·rw [uF hn];have:=ih (n / 128) (by rw [Nat.div_lt_iff_lt_mul (by omega)];simpa [Nat.pow_succ] using h);simp only [List.length_cons];omega
end Go.Proofs.YtfmnggcfhalfnaaGreat
namespace Go.Proofs.YtfmnggcfhalfnaaGreat
open Go.RowKit
theorem yE:El Tryz.prog 30 5 1 1:=El.mk' (z:= .int .u8 0) Tryz.underlying30 (by kernel_rfl) rfl (by omega) (by omega)
theorem Zk:El Tryz.prog 90 88 1 4:=El.mk' (z:= .int .u32 0) Tryz.underlying90 (by kernel_rfl) rfl (by omega) (by omega)
def wds (l:List (BitVec 32)):List Value:=l.map fun b=> .int .u32 (wd b)
theorem qo (l:List (BitVec 32)) (k:Nat) (h:k<l.length):(wds l)[k]?=some (.int .u32 (wd l[k])):=by simp [wds,h]
theorem yC (l:List (BitVec 32)):∀u∈wds l,u.oneCell'=true:=by
 intro u hu;simp only [wds,List.mem_map]at hu;obtain⟨_,_,rfl⟩:=hu;rfl
def wb (x:BitVec 32):List UInt8:= [UInt8.ofNat (x.toNat / 16777216),UInt8.ofNat (x.toNat / 65536),UInt8.ofNat (x.toNat / 256),UInt8.ofNat x.toNat]
def wbs (l:List (BitVec 32)):List UInt8:=l.flatMap wb
theorem yB (l:List (BitVec 32)):(wbs l).length=4*l.length:=by
 induction l with
 | nil=>rfl
 | cons x l ih=>simp only [wbs,List.flatMap_cons,List.length_append,List.length_cons] at *;rw [ih];simp [wb];omega
theorem vh (l:List (BitVec 32)) (k:Nat) (h:k<l.length):wbs (l.take (k+1))=wbs (l.take k)++wb l[k]:=by
 unfold wbs;rw [List.take_succ_eq_append_getElem h,List.flatMap_append,List.flatMap_cons,List.flatMap_nil,List.append_nil]
theorem j5 (A:Option Addr) (n c:Nat) (l:List (BitVec 32)) (w:World) (hl:l.length=n) (hn:n≤2000) (hc:n≤c) (hr:Rd w 1 A n (wds l)) :
  Calls Tryz.prog 98 #[.slice A n c] w fun e w'=>∃A' c',e= .returned (.tuple #[.slice A' (wbs l).length c',.int .i64 0])∧OwnB 5 w.heap.size w' A' c' (wbs l)∧Below w.heap.size w w':=by
 go_enter Tryz.func98,Tryz.ntmps98
 repeat' (fail_if_success (first|at_builtin|at_make));first|go_values|go_skip|go_guarded|go_step|go_upon|go_back
 refine qf rfl _ _ rfl yE (4*n) rfl rfl (by omega) (by omega) ?_;intro w1 g1 hown1 hb1;go_wp2_with fail;go_loopw [4,16] (fun v i wr=>∃k:Nat,i= .int .i64 k∧k≤n∧wr.ownsRow w.heap.size 5 1 v (wbs (l.take k)).length (bys (wbs (l.take k)))∧Below w.heap.size w wr) (fun _ i _=>n - (intOf i).toNat)
 case atStart=>exact⟨0,rfl,by omega,hown1,hb1⟩
 case round =>
  obtain⟨k,rfl,hk,hown,hbel⟩:=hrel;have hle:=yB (l.take k);rw [List.length_take]at hle;by_cases hlt:k<n
  ·obtain⟨b,off,u,rfl,_,hu,hcell⟩:=(hr.below hbel).at_ hlt;rw [qo l k (by omega)]at hu;cases hu
   have HS:=sqH (vh l k (by omega));have hwn:=ZD l[k];have hwl:=ZC l[k];generalize hx:l[k]=x at *
   have HX:=sqH hx;clear hx
   repeat' (fail_if_success (first|at_builtin|at_make));first|go_values|go_skip|go_guarded|go_step|go_upon|go_back
   refine zh rfl (.tmp 20) (.tmp 32) rfl yE (by rfl) hown rfl rfl (by simp;exact⟨rfl,rfl,rfl,rfl⟩) (by omega) hbel.size ?_;intro v2 w2 hown2 hg2 _;have hb2:=zc hbel hown (Nat.le_refl _) hg2;have hx:=x.isLt;have e1:bys (wb x)= [.int .u8 (wd x / (16777216:Int)),.int .u8 (wd x / (65536:Int) % (256:Int)),.int .u8 (wd x / (256:Int) % (256:Int)),.int .u8 (wd x % (256:Int))]:=by
    simp only [bys,wb,wd,List.map_cons,List.map_nil,UInt8.toNat_ofNat'];rw [show x.toNat / 16777216 % 2 ^ 8=x.toNat / 16777216 by omega];rfl
   go_wp2_with fail;rw [←e1]at hown2;go_roundw
   case rel=>exact⟨k+1,by go_num,by omega,by rw [HS.out,zD,List.length_append];exact hown2,hb2⟩
   case measure=>simp [intOf];omega
  ·obtain rfl:k=n:=by omega
   rw [List.take_of_length_le (by omega)]at hown;obtain⟨A1,c1,rfl,hc1,_⟩:=Rd.of_own' hown;go_wp2_with fail;go_ret2;exact⟨A1,c1,rfl,⟨hown,hc1⟩,hbel⟩
def wOf (a b c d:UInt8):BitVec 32:=BitVec.ofNat 32 (a.toNat*16777216+b.toNat*65536+c.toNat*256+d.toNat)
def zL:List UInt8→List (BitVec 32)
 | a::b::c::d::r=>wOf a b c d::zL r
 | _=> []
theorem ki:∀(k:Nat) (l:List UInt8),l.length=4*k→(zL l).length=k
 | 0,l,h=>by obtain rfl:l= []:=List.eq_nil_of_length_eq_zero (by omega);rfl
 | k+1,a::b::c::d::r,h=>by simp only [zL,List.length_cons] at *;rw [ki k r (by omega)]
 | k+1, [],h=>by simp at h
 | k+1, [_],h=>by simp at h;omega
 | k+1, [_,_],h=>by simp at h;omega
 | k+1, [_,_,_],h=>by simp at h;omega
theorem kH:∀(k:Nat) (l:List UInt8) (h:4*k+3<l.length),zL (l.take (4*(k+1)))=zL (l.take (4*k))++ [wOf l[4*k] l[4*k+1] l[4*k+2] l[4*k+3]]
 | 0,a::b::c::d::r,h=>by simp [zL]
 | k+1,a::b::c::d::r,h=>by
  have h':4*k+3<r.length:=by simp at h;omega
  have e1:(a::b::c::d::r).take (4*(k+1+1))=a::b::c::d::r.take (4*(k+1)):=rfl
  have e2:(a::b::c::d::r).take (4*(k+1))=a::b::c::d::r.take (4*k):=rfl
  rw [e1,e2,zL,zL,kH k r h']
  rfl
 | 0, [],h=>by simp at h
 | 0, [_],h=>by simp at h
 | 0, [_,_],h=>by simp at h
 | 0, [_,_,_],h=>by simp at h
 | k+1, [],h=>by simp at h
 | k+1, [_],h=>by simp at h
 | k+1, [_,_],h=>by simp at h;omega
 | k+1, [_,_,_],h=>by simp at h;omega
theorem kG (n:Int) (h0:0≤n) (h1:n<2 ^ 32):IntKind.u32.wrap n=n:=by
 rw [IntKind.wrap_u32];simp at h1;omega
theorem vf (a b c d:UInt8):bits BinOp.or IntKind.u32 (bits BinOp.or IntKind.u32 (bits BinOp.or IntKind.u32 (IntKind.u32.wrap (IntKind.u32.wrap (a.toNat:Int)*16777216)) (IntKind.u32.wrap (IntKind.u32.wrap (b.toNat:Int)*65536)))
  (IntKind.u32.wrap (IntKind.u32.wrap (c.toNat:Int)*256))) (IntKind.u32.wrap (d.toNat:Int))=wd (wOf a b c d):=by
 have ha:=a.toNat_lt;have hb:=b.toNat_lt;have hc:=c.toNat_lt;have hd:=d.toNat_lt;have hw:wd (wOf a b c d)=((a.toNat*16777216+b.toNat*65536+c.toNat*256+d.toNat:Nat):Int):=by
  simp only [wd,wOf,BitVec.toNat_ofNat];omega
 rw [hw];clear hw;generalize a.toNat=a at *
 generalize b.toNat=b at *
 generalize c.toNat=c at *
 generalize d.toNat=d at *
 have e1:∀x:Nat,x<256→IntKind.u32.wrap (x:Int)=x:=fun x h=>by rw [IntKind.wrap_u32];omega
 rw [e1 a ha,e1 b hb,e1 c hc,e1 d hd];have e2:∀x y:Int,0≤x→x<256→0≤y→y≤16777216→IntKind.u32.wrap (x*y)=x*y:=fun x y h1 h2 h3 h4=>by
  rw [IntKind.wrap_u32];have:=Int.mul_nonneg h1 h3;have h5:x*y≤255*16777216:=Int.mul_le_mul (by omega) h4 h3 (by omega);omega
 rw [e2 a 16777216 (by omega) (by omega) (by omega) (by omega),e2 b 65536 (by omega) (by omega) (by omega) (by omega),e2 c 256 (by omega) (by omega) (by omega) (by omega)];rw [bits_join .u32 32 (by decide) kG 24 ((a:Int)*16777216) ((b:Int)*65536) (by omega) (by omega) (by omega) (by omega) (by omega) (by omega)];rw [bits_join .u32 32 (by decide) kG 16 ((a:Int)*16777216+(b:Int)*65536) ((c:Int)*256) (by omega) (by omega) (by omega) (by omega) (by omega) (by omega)];rw [bits_join .u32 32 (by decide) kG 8 ((a:Int)*16777216+(b:Int)*65536+(c:Int)*256) (d:Int) (by omega) (by omega) (by omega) (by omega) (by omega) (by omega)];omega
theorem jm (A:Option Addr) (n c:Nat) (l:List UInt8) (w:World) (hl:l.length=n) (hn:n≤2072) (h4:n % 4=0) (hc:n≤c) (hr:Rd w 1 A n (bys l)) :
  Calls Tryz.prog 95 #[.slice A n c] w fun e w'=>∃v,e= .returned (.tuple #[v,.int .i64 0])∧w'.ownsRow w.heap.size 88 1 v (n / 4) (wds (zL l))∧Below w.heap.size w w':=by
 have h4b:((n:Int) % 4 != 0)=false:=by rw [bne_eq_false_iff_eq];omega
 obtain⟨q,hq⟩:∃q,n=4*q:=⟨n / 4,by omega⟩
 have HQ:=sqH hq;have hq1:q*4≤n:=by omega
 have hq2:n≤q*4:=by omega
 clear hq h4;go_enter Tryz.func95,Tryz.ntmps95
 repeat' (fail_if_success (first|at_builtin|at_make));first|go_values|go_skip|go_guarded|go_step|go_upon|go_back
 refine qf rfl _ _ rfl Zk q rfl rfl (by omega) (by omega) ?_;intro w1 g1 hown1 hb1;go_wp2_with fail;go_loopw [4,5] (fun v i wr=>∃k:Nat,i= .int .i64 ((4*k:Nat):Int)∧k≤q∧wr.ownsRow w.heap.size 88 1 v k (wds (zL (l.take (4*k))))∧Below w.heap.size w wr) (fun _ i _=>n - (intOf i).toNat)
 case atStart=>exact⟨0,rfl,by omega,hown1,hb1⟩
 case round =>
  obtain⟨k,rfl,hk,hown,hbel⟩:=hrel;by_cases hlt:k<q
  ·have hsz:=hbel.size;obtain⟨b,off,rfl,hbw,hcell0⟩:=hr.2 (by omega);have hcell:=fun j u h=>(hbel.cell (p:=⟨b,off+j,none⟩) hbw).trans (hcell0 j u h);clear hcell0;have c0:=hcell (4*k) _ (kr l (4*k) (by omega));have c1:=hcell (4*k+1) _ (kr l (4*k+1) (by omega));have c2:=hcell (4*k+2) _ (kr l (4*k+2) (by omega));have c3:=hcell (4*k+3) _ (kr l (4*k+3) (by omega));have HS:=sqH (kH k l (by omega));clear hcell;generalize l[4*k]=b0 at *
   generalize l[4*k+1]=b1 at *
   generalize l[4*k+2]=b2 at *
   generalize l[4*k+3]=b3 at *
   have t0:=b0.toNat_lt;have t1:=b1.toNat_lt;have t2:=b2.toNat_lt;have t3:=b3.toNat_lt;generalize hm:4*k=m at *
   have HM:=sqH hm;have hm1:m+4≤n:=by omega
   clear hm;go_wp2_with fail;have hm0:(0:Int)≤(m:Int):=by omega
   have hi0:(m:Int)<n:=by omega
   have q1:IntKind.i64.wrap ((m:Int)+1)=(m:Int)+1:=IntWalk.i64_in _ (by omega);have q2:IntKind.i64.wrap ((m:Int)+2)=(m:Int)+2:=IntWalk.i64_in _ (by omega);have q3:IntKind.i64.wrap ((m:Int)+3)=(m:Int)+3:=IntWalk.i64_in _ (by omega);have p1:(0:Int)≤(m:Int)+1:=by omega
   have p2:(0:Int)≤(m:Int)+2:=by omega
   have p3:(0:Int)≤(m:Int)+3:=by omega
   have s1:(m:Int)+1<n:=by omega
   have s2:(m:Int)+2<n:=by omega
   have s3:(m:Int)+3<n:=by omega
   have u1:((m:Int)+1).toNat=m+1:=by omega
   have u2:((m:Int)+2).toNat=m+2:=by omega
   have u3:((m:Int)+3).toNat=m+3:=by omega
   go_region_held3 (fun w'=>w'.cell? ⟨b,off+m,none⟩=some (.int .u8 b0.toNat)∧w'.cell? ⟨b,off+(m+1),none⟩=some (.int .u8 b1.toNat)∧w'.cell? ⟨b,off+(m+2),none⟩=some (.int .u8 b2.toNat)∧w'.cell? ⟨b,off+(m+3),none⟩=some (.int .u8 b3.toNat))
    (first | go_keep | (go_split_ands;refine⟨qK (qi (hown.alloc _)) hg2 hbw (by assumption),qK (qi (hown.alloc _)) hg2 hbw (by assumption),qK (qi (hown.alloc _)) hg2 hbw (by assumption),qK (qi (hown.alloc _)) hg2 hbw (by assumption)⟩))
    (first | (refine yz rfl (.tmp 23) (.tmp 53) rfl Zk (by rfl) (qi (hown.alloc _)) (by rfl) (Rd.newN (us:= [_]) (m:=1) rfl) (by simp;rfl) (by omega) (by simp;omega) ?_;intro v2 w2 hown2 hg2 _))
   rw [vf]at hown2;have hb2:=zc (hbel.alloc hsz (.cells #[.int .u32 (wd (wOf b0 b1 b2 b3))] 88)).drew (qi (hown.alloc _)) (Nat.le_refl _) (by rw [←vf];exact hg2);clear hg2 q1 q2 q3 p1 p2 p3 s1 s2 s3 u1 u2 u3;go_wp2_with fail;go_roundw
   case rel=>exact⟨k+1,by have:=HM.out;go_num,by omega,by rw [HS.out];simpa [wds] using hown2,hb2⟩
   case measure=>simp [intOf];omega
  ·obtain rfl:k=q:=by omega
   rw [List.take_of_length_le (by omega)]at hown;have hqq:n / 4=k:=by omega
   have HQQ:=sqH hqq;clear hqq;generalize hm:4*k=m at *
   have HM:=sqH hm;have hm1:n≤m:=by omega
   clear hm;go_wp2_with fail;go_ret2;exact⟨_,rfl,by rw [HQQ.out];exact hown,hbel⟩
theorem vF (x:BitVec 32) (n:Nat) (w:World) (hn:n≤31):Calls Tryz.prog 127 #[.int .u32 (wd x),.int .i64 n] w fun e w'=>e= .returned (.int .u32 (wd (x.rotateRight n)))∧∃k,w'=w.drewN k:=by
 go_enter Tryz.func127,Tryz.ntmps127;go_wp2_with fail;go_quiet (fail);go_wp2_with fail;go_ret;refine⟨?_,_,rfl⟩;show Ending.returned (.int .u32 (bits BinOp.or IntKind.u32 (wd x / 2 ^ n) (wd x*2 ^ (32 - n) % 4294967296)))=_;rw [ZU x n hn]
theorem zo (x:BitVec 32) (n:Nat) (N:Int) (hN:N=n) (w:World) (hn:n≤31):Calls Tryz.prog 127 #[.int .u32 (wd x),.int .i64 N] w fun e w'=>e= .returned (.int .u32 (wd (x.rotateRight n)))∧∃k,w'=w.drewN k:=by
 subst hN;exact vF x n w hn
def q9 (x:BitVec 32):Nat→BitVec 32
 | 0=>x.rotateRight 2 ^^^ x.rotateRight 13 ^^^ x.rotateRight 22
 | 1=>x.rotateRight 6 ^^^ x.rotateRight 11 ^^^ x.rotateRight 25
 | 2=>x.rotateRight 7 ^^^ x.rotateRight 18 ^^^ x >>> 3
 | _=>x.rotateRight 17 ^^^ x.rotateRight 19 ^^^ x >>> 10
theorem xF (x:BitVec 32) (n:Nat) (N:Int) (hN:N=n) (w:World) (hn:n≤3):Calls Tryz.prog 117 #[.int .u32 (wd x),.int .i64 N] w fun e w'=>e= .returned (.tuple #[.int .u32 (wd (q9 x n)),.int .i64 0])∧∃k,w'=w.drewN k:=by
 match n,hn with
 | 0,_ =>
  obtain rfl:N=0:=hN;go_enter Tryz.func117,Tryz.ntmps117;go_wp2_with fail;refine(zo x 2 _ rfl _ (by omega)).mono ?_;rintro e_ w_ ⟨rfl,k1,rfl⟩;dsimp only;go_wp2_with fail;refine(zo x 13 _ rfl _ (by omega)).mono ?_;rintro e_ w_ ⟨rfl,k2,rfl⟩;dsimp only;go_wp2_with fail;refine(zo x 22 _ rfl _ (by omega)).mono ?_;rintro e_ w_ ⟨rfl,k3,rfl⟩;dsimp only;go_wp2_with fail;go_ret2;refine⟨?_,_,rfl⟩;simp only [zx];rfl
 | 1,_ =>
  obtain rfl:N=1:=hN;go_enter Tryz.func117,Tryz.ntmps117;go_wp2_with fail;refine(zo x 6 _ rfl _ (by omega)).mono ?_;rintro e_ w_ ⟨rfl,k1,rfl⟩;dsimp only;go_wp2_with fail;refine(zo x 11 _ rfl _ (by omega)).mono ?_;rintro e_ w_ ⟨rfl,k2,rfl⟩;dsimp only;go_wp2_with fail;refine(zo x 25 _ rfl _ (by omega)).mono ?_;rintro e_ w_ ⟨rfl,k3,rfl⟩;dsimp only;go_wp2_with fail;go_ret2;refine⟨?_,_,rfl⟩;simp only [zx];rfl
 | 2,_ =>
  obtain rfl:N=2:=hN;go_enter Tryz.func117,Tryz.ntmps117;go_wp2_with fail;refine(zo x 7 _ rfl _ (by omega)).mono ?_;rintro e_ w_ ⟨rfl,k1,rfl⟩;dsimp only;go_wp2_with fail;refine(zo x 18 _ rfl _ (by omega)).mono ?_;rintro e_ w_ ⟨rfl,k2,rfl⟩;dsimp only;go_wp2_with fail;go_ret2;refine⟨?_,_,rfl⟩;rw [show(wd x:Int) / (8:Int)=wd (x >>> 3) from xb x 3];simp only [zx];rfl
 | 3,_ =>
  obtain rfl:N=3:=hN;go_enter Tryz.func117,Tryz.ntmps117;go_wp2_with fail;refine(zo x 17 _ rfl _ (by omega)).mono ?_;rintro e_ w_ ⟨rfl,k1,rfl⟩;dsimp only;go_wp2_with fail;refine(zo x 19 _ rfl _ (by omega)).mono ?_;rintro e_ w_ ⟨rfl,k2,rfl⟩;dsimp only;go_wp2_with fail;go_ret2;refine⟨?_,_,rfl⟩;rw [show(wd x:Int) / (1024:Int)=wd (x >>> 10) from xb x 10];simp only [zx];rfl
theorem uW:(Tryz.prog.info? 160).map (·.size)=some 2:=by kernel_rfl
theorem Zn:liesAt Tryz.prog Tryz.prog.depth 160 (2 / Tryz.prog.cellsOf 160) 0 160 1=true:=by kernel_rfl
theorem kK (b:Nat) (w:World) (h0:w.cell? ⟨b,0,none⟩=some (.pointer (some ⟨b,0,none⟩))) :
  Calls Tryz.prog 128 #[.pointer (some ⟨b,0,none⟩)] w fun e w'=>e= .returned (.tuple #[])∧w=w':=by
 obtain⟨j,hj,_⟩:=Option.map_eq_some_iff.1 uW;have hne:=fun W=>Lib.run_neq_ptr_same (P:=Tryz.prog) W (tp:=158) ⟨b,0,none⟩ Tryz.underlying158 hj;clear hj;go_enter Tryz.func128,Tryz.ntmps128;go_wp2;go_end0;exact⟨rfl,rfl⟩
theorem ku (b:Nat) (w:World) (h0:w.cell? ⟨b,0,none⟩=some (.pointer none)) (hsh:w.shape? b=some (160,2)) (hfz:w.frozen? ⟨b,0,none⟩=false) :
  Calls Tryz.prog 128 #[.pointer (some ⟨b,0,none⟩)] w fun e w'=>e= .returned (.tuple #[])∧w.setCell ⟨b,0,none⟩ (.pointer (some ⟨b,0,none⟩))=w':=by
 obtain⟨j,hj,hjs⟩:=Option.map_eq_some_iff.1 uW;have h1:=Lib.run_to_unsafe (P:=Tryz.prog) w (src:=158) (dst:=172) ⟨b,0,none⟩ Tryz.underlying158 Tryz.underlying172 hj (by rw [hjs];decide) hsh (Nat.zero_lt_succ 1);have h2:=Lib.run_from_unsafe (P:=Tryz.prog) w (src:=172) (dst:=158) ⟨b,0,none⟩ Tryz.underlying172 Tryz.underlying158 hj hsh Zn;have h3:∀W,(callFunc 131 #[.pointer (some ⟨b,0,none⟩)]).run Tryz.prog W= .ok (.value (.pointer (some ⟨b,0,none⟩))) W:=fun W=>by
  rw [run_callFunc_extern Tryz.func131 (by kernel_rfl) (by kernel_rfl) (by kernel_rfl) (e:=Extern.AbiNoEscape.same) (by kernel_rfl),Lib.run_noEscape];rfl
 clear hj;go_enter Tryz.func128,Tryz.ntmps128;go_wp2;go_end0;exact⟨rfl,rfl⟩
theorem yP (B b:Nat) (bs:List Value) (w:World) (h:Lib.IsBuilder 160 5 B b bs w) :
  Calls Tryz.prog 128 #[.pointer (some ⟨b,0,none⟩)] w fun e w'=>e= .returned (.tuple #[])∧(Lib.BuilderAt 160 5 B b (.pointer (some ⟨b,0,none⟩)) bs w'∧Below B w w'):=by
 rcases h with h | h
 ·refine(ku b w h.cell0 h.shape h.frozen0).mono fun e w' ⟨he,hw⟩=>⟨he,?_⟩
  subst hw;exact⟨h.used _,(Below.refl _ _).setCell (p:=⟨b,0,none⟩) h.1 _⟩
 ·refine(kK b w h.cell0).mono fun e w' ⟨he,hw⟩=>⟨he,?_⟩
  subst hw;exact⟨h,Below.refl _ _⟩
theorem k9 (B b:Nat) (bs:List Value) (c:Int) (w:World) (h:Lib.IsBuilder 160 5 B b bs w) (hlen:bs.length+1≤140737488355328) (hBw:B≤w.heap.size) :
  Calls Tryz.prog 120 #[.pointer (some ⟨b,0,none⟩),.int .u8 c] w fun e w'=>e= .returned .nilIface∧(Lib.BuilderAt 160 5 B b (.pointer (some ⟨b,0,none⟩)) (bs++ [.int .u8 c]) w'∧Below B w w'):=by
 go_enter Tryz.func120,Tryz.ntmps120;go_wp2_with fail;refine(yP B b bs _ h).mono ?_;rintro e_ w1 ⟨rfl,h1,hb1⟩;dsimp only;obtain⟨hB,v,hbk,hown,hne⟩:=h1;have c0:w1.cell? ⟨b,0,none⟩=some (.pointer (some ⟨b,0,none⟩)):=by rw [Lib.cell_of_heap hbk];rfl
 have c1:w1.cell? ⟨b,1,none⟩=some v:=by rw [Lib.cell_of_heap hbk];rfl
 have hz:=hb1.size
 repeat' (fail_if_success (first|at_builtin|at_make));first|go_values|go_skip|go_guarded|go_step|go_upon|go_back
 refine zh rfl _ _ rfl yE (by rfl) hown rfl rfl (by simp;rfl) (by omega) (by omega) ?_;intro v' w2 hown' hgrow _;have hlt:b<w1.heap.size:=by
  rcases Nat.lt_or_ge b w1.heap.size with h' | h'
  ·exact h'
  ·simp [Array.getElem?_eq_none h']at hbk
 have hb2:w2.heap[b]?=some (.cells #[.pointer (some ⟨b,0,none⟩),v] 160 (0,0)):=by
  rw [hgrow.block b hlt (fun e=>hne e.symm)];exact hbk
 have d0:w2.cell? ⟨b,0,none⟩=some (.pointer (some ⟨b,0,none⟩)):=by rw [Lib.cell_of_heap hb2];rfl
 have d1:w2.cell? ⟨b,1,none⟩=some v:=by rw [Lib.cell_of_heap hb2];rfl
 have f1:w2.frozen? ⟨b,1,none⟩=false:=Lib.frozen_of_heap hb2 1;obtain⟨g,cap,rfl⟩:∃g cap,v'= .slice (some ⟨g,0,none⟩) (bs.length+1) cap:=by
  rcases hown'.2 with ⟨_,h0⟩ | ⟨g,cap,cur,hv,_⟩
  ·omega
  ·exact⟨g,cap,hv⟩
 go_wp2_with fail;go_ret;refine⟨rfl,?_,?_⟩
 ·exact Lib.BuilderAt.put (T:=160) (e:=5) hB hb2 (bs':=bs++ [.int .u8 c]) (by simpa using hown') (by decide)
 ·exact(hb1.grown hgrow (by omega) (fun k hk=>(hown.lt k hk).1)).setCell (p:=⟨b,1,none⟩) hB _
def dig (n:Nat):UInt8:=if n<10 then UInt8.ofNat (48+n) else UInt8.ofNat (87+n)
def hx1 (c:UInt8):List UInt8:= [dig (c.toNat / 16),dig (c.toNat % 16)]
def qU (l:List UInt8):List UInt8:=l.flatMap hx1
theorem qJ (l:List UInt8):(qU l).length=2*l.length:=by
 induction l with
 | nil=>rfl
 | cons x l ih=>simp only [qU,List.flatMap_cons,List.length_append,List.length_cons] at *;rw [ih];simp [hx1];omega
theorem uB (l:List UInt8) (k:Nat) (h:k<l.length):qU (l.take (k+1))=qU (l.take k)++hx1 l[k]:=by
 unfold qU;rw [List.take_succ_eq_append_getElem h,List.flatMap_append,List.flatMap_cons,List.flatMap_nil,List.append_nil]
theorem Zi (m:Nat) (h:m<(⟨#[48,49,50,51,52,53,54,55,56,57,97,98,99,100,101,102]⟩:ByteArray).size) :
  ((⟨#[48,49,50,51,52,53,54,55,56,57,97,98,99,100,101,102]⟩:ByteArray)[m]'h).toNat=(dig m).toNat:=by
 have key:∀m:Fin 16,((⟨#[48,49,50,51,52,53,54,55,56,57,97,98,99,100,101,102]⟩:ByteArray)[m.val]'m.isLt).toNat=(dig m.val).toNat:=by decide
 exact key ⟨m,h⟩
theorem Ze (A:Option Addr) (n c:Nat) (l:List UInt8) (w:World) (hl:l.length=n) (hn:n≤70368744177664) (hc:n≤c) (hr:Rd w 1 A n (bys l)) :
  Calls Tryz.prog 99 #[.slice A n c] w fun e w'=>e= .returned (.string ⟨(qU l).toArray⟩)∧Below w.heap.size w w':=by
 go_enter Tryz.func99,Tryz.ntmps99;go_wp2_with fail;go_loopw [5,8] (fun u i wr=>∃k:Nat,i= .int .i64 k∧k≤n∧Lib.IsBuilder 160 5 w.heap.size w.heap.size (bys (qU (l.take k))) wr∧Below w.heap.size w wr) (fun _ i _=>n - (intOf i).toNat)
 case atStart=>exact⟨0,rfl,by omega,Lib.fresh_isBuilder _ _ _,(Below.refl _ _).alloc (Nat.le_refl _) _⟩
 case round =>
  obtain⟨k,rfl,hk,hB,hbel⟩:=hrel;have hle:=qJ (l.take k);rw [List.length_take]at hle;by_cases hlt:k<n
  ·obtain⟨b,off,u,rfl,_,hu,hcell⟩:=(hr.below hbel).at_ hlt;rw [kr l k (by omega)]at hu;cases hu
   have HS:=sqH (uB l k (by omega));generalize l[k]=x at *
   have hx:=x.toNat_lt
   repeat' (fail_if_success (first|at_builtin|at_make));first|go_values|go_skip|go_guarded|go_step|go_upon|go_back
   rw [dif_pos ⟨by omega,by omega⟩];simp only [Zi,Result.andThen];go_wp2_with fail;refine(k9 _ _ _ _ _ hB (by rw [zE];omega) hbel.size).mono ?_;rintro e_ w1 ⟨rfl,hB1,hb1⟩;dsimp only;have hbel1:=hbel.trans hb1
   repeat' (fail_if_success (first|at_builtin|at_make));first|go_values|go_skip|go_guarded|go_step|go_upon|go_back
   rw [dif_pos ⟨by omega,by omega⟩];simp only [Zi,Result.andThen];go_wp2_with fail;refine(k9 _ _ _ _ _ (.inr hB1) (by simp [zE];omega) hbel1.size).mono ?_;rintro e_ w2 ⟨rfl,hB2,hb2⟩;dsimp only;have hbel2:=hbel1.trans hb2;go_wp2_with fail;go_roundw
   case rel=>exact⟨k+1,by go_num,by omega,.inr (by rw [HS.out,zD];simpa [hx1,bys] using hB2),hbel2⟩
   case measure=>simp [intOf];omega
  ·obtain rfl:k=n:=by omega
   rw [List.take_of_length_le (by omega)]at hB;go_wp2_with fail;refine(Tryz.Builder_String_any _ _ (qU l) _ hB hbel.size).mono ?_;rintro e_ w1 ⟨rfl,hb1⟩;dsimp only;go_wp2_with fail;go_ret;exact⟨rfl,hbel.trans hb1⟩
def Qd:ByteArray:=⟨#[48,49,50,51,52,53,54,55,56,57,97,98,99,100,101,102]⟩
def val (c:UInt8):Int:=Lib.indexByte [48,49,50,51,52,53,54,55,56,57,97,98,99,100,101,102] c
def qB:List UInt8→Option (List UInt8)
 | []=>some []
 | [_]=>none
 | a::b::r=>if val a<0∨val b<0 then none else (qB r).map (UInt8.ofNat (16*(val a).toNat+(val b).toNat):: ·)
def kf (l:List UInt8):List UInt8×Nat :=
 if 4000<l.length then ([],1) else if l.length % 2=1 then ([],3) else match qB l with | none=>([],3) | some r=>(r,0)
theorem zU (c:UInt8): -1≤val c∧val c≤15:=by
 have key:∀n:Fin 256, -1≤val (UInt8.ofNat n.val)∧val (UInt8.ofNat n.val)≤15:=by decide +kernel
 have:=key ⟨c.toNat,c.toNat_lt⟩;rw [show UInt8.ofNat (c.toNat)=c from UInt8.ofNat_toNat]at this;exact this
theorem jd (c:UInt8) (w:World):Calls Tryz.prog 71 #[.string Qd,.int .u8 (c.toNat:Int)] w fun e w'=>e= .returned (.int .i64 (val c))∧w'=w:=by
 refine(Tryz.strings_IndexByte Qd (c.toNat:Int) w).mono fun e w' ⟨he,hw⟩=>⟨?_,hw⟩
 rw [he];have:((c.toNat:Int)).toNat.toUInt8=c:=by rw [Int.toNat_natCast];exact UInt8.ofNat_toNat
 rw [this];rfl
theorem uw (s:ByteArray) (w:World) (hs:s.size≤140737488351232) :
  Calls Tryz.prog 61 #[.string s] w fun e w'=>∃A c,e= .returned (.tuple #[.slice A (kf s.data.toList).1.length c,.int .i64 (kf s.data.toList).2])∧OwnB 5 w.heap.size w' A c (kf s.data.toList).1∧Below w.heap.size w w':=by
 have hsz:s.data.toList.length=s.size:=by rw [Array.length_toList];rfl
 by_cases hbig:4000<s.size
 ·have hfin:kf s.data.toList=([],1):=by rw [kf,if_pos (by omega)]
  have HF:=sqH hfin;clear hfin;go_enter Tryz.func61,Tryz.ntmps61;go_wp2_with fail;go_ret2;rw [HF.out];exact⟨none,0,rfl,OwnB.nil_ _ _ _,Below.refl _ _⟩
 ·by_cases hodd:s.size % 2=1
  ·have hfin:kf s.data.toList=([],3):=by rw [kf,if_neg (by omega),if_pos (by omega)]
   have HF:=sqH hfin;clear hfin;have h2:((s.size:Int) % 2 != 0)=true:=by rw [bne_iff_ne];omega
   clear hodd;go_enter Tryz.func61,Tryz.ntmps61;go_wp2_with fail;go_ret2;rw [HF.out];exact⟨none,0,rfl,OwnB.nil_ _ _ _,Below.refl _ _⟩
  ·have hfin:kf s.data.toList=match qB s.data.toList with | none=>([],3) | some r=>(r,0):=by rw [kf,if_neg (by omega),if_neg (by omega)]
   have HF:=sqH hfin;clear hfin;have h2:((s.size:Int) % 2 != 0)=false:=by rw [bne_eq_false_iff_eq];omega
   obtain⟨q,hq⟩:∃q,s.size=2*q:=⟨s.size / 2,by omega⟩
   have hq1:q*2≤s.size:=by omega
   have hq2:s.size≤q*2:=by omega
   have HZ:=sqH hsz;clear hodd hq hsz;go_enter Tryz.func61,Tryz.ntmps61
   repeat' (fail_if_success (first|at_builtin|at_make));first|go_values|go_skip|go_guarded|go_step|go_upon|go_back
   refine qf rfl _ _ rfl yE q rfl rfl (by omega) (by omega) ?_;intro w1 g1 hown1 hb1;go_wp2_with fail;go_loopw [4,5,6,7] (fun v i x y wr=>∃(k:Nat) (acc:List UInt8),i= .int .i64 ((2*k:Nat):Int)∧k≤q∧acc.length=k∧qB s.data.toList=(qB (s.data.toList.drop (2*k))).map (acc++ ·) ∧
    wr.ownsRow w.heap.size 5 1 v acc.length (bys acc)∧Below w.heap.size w wr) (fun _ i _ _ _=>s.size - (intOf i).toNat)
   case atStart=>exact⟨0, [],rfl,by omega,rfl,by simp,hown1,hb1⟩
   case round =>
    obtain⟨k,acc,rfl,hk,hacc,hun,hown,hbel⟩:=hrel;have HU:=sqH hun;clear hun;have HA:=sqH hacc;clear hacc;have hsw:=hbel.size;generalize hm:2*k=m at *
    have HM:=sqH hm;by_cases hlt:k<q
    ·have hm1:m+1<s.size:=by omega
     have hm0:m<s.size:=by omega
     have hi0:(0:Int)≤(m:Int):=by omega
     have hi1:(m:Int)<(s.size:Int):=by omega
     have hi2:(m:Int)+1<(s.size:Int):=by omega
     have hi3:(0:Int)≤(m:Int)+1:=by omega
     have hw1:IntKind.i64.wrap ((m:Int)+1)=(m:Int)+1:=IntWalk.i64_in _ (by omega);have hn1:((m:Int)+1).toNat=m+1:=by omega
     have hd:s.data.toList.drop m=s[m]::s[m+1]::s.data.toList.drop (m+2):=by
      have hz:=HZ.out;rw [List.drop_eq_getElem_cons (by omega),List.drop_eq_getElem_cons (i:=m+1) (by omega)];rfl
     have HD:=sqH hd;have ra:=zU s[m];have rb:=zU s[m+1];clear hm hd;by_cases hbad:val s[m]<0∨val s[m+1]<0
     ·have hfin:kf s.data.toList=([],3):=by rw [HF.out,HU.out,HD.out,qB,if_pos hbad];rfl
      have HG:=sqH hfin;clear hfin;have ha0:val s[m]<0∨¬val s[m]<0∧val s[m+1]<0:=by omega
      clear hbad;rcases ha0 with ha0 | ⟨ha0,ha1⟩
      all_goals
       go_wp2_with fail;go_quiet ((go_at_call 71;exact Calls.quiet_of_same (jd _ _)));go_wp2_with fail;go_ret2;rw [HG.out];exact⟨none,0,rfl,OwnB.nil_ _ _ _,zk hbel _⟩
     ·have hstep:qB s.data.toList=(qB (s.data.toList.drop (m+2))).map ((acc++ [UInt8.ofNat (16*(val s[m]).toNat+(val s[m+1]).toNat)])++ ·):=by
       rw [HU.out,HD.out,qB,if_neg hbad,Option.map_map]
       congr 1;funext x;simp
      have HG:=sqH hstep;clear hstep;have hna:¬val s[m]<0:=fun h=>hbad (.inl h);have hnb:¬val s[m+1]<0:=fun h=>hbad (.inr h);clear hbad;have hacl:=HA.out;go_wp2_with fail;go_quiet ((go_at_call 71;exact Calls.quiet_of_same (jd _ _)))
      repeat' (fail_if_success (first|at_builtin|at_make));first|go_values|go_skip|go_guarded|go_step|go_upon|go_back
      refine zh rfl (.tmp 40) (.tmp 46) rfl yE (by rfl) (yX hown nq) rfl rfl (by simp;rfl) (by omega) hsw ?_;intro v2 w2 hown2 hg2 _;have hb2:=zc (zk hbel nq) (yX hown nq) (Nat.le_refl _) hg2;have e1:bys (acc++ [UInt8.ofNat (16*(val s[m]).toNat+(val s[m+1]).toNat)])=bys acc++ [.int .u8 (16*val s[m]+val s[m+1])]:=by
       rw [zD];congr 1;simp only [bys,List.map_cons,List.map_nil,UInt8.toNat_ofNat']
       congr 2;omega
      go_wp2_with fail;rw [←e1]at hown2;go_roundw
      case rel=>exact⟨k+1,acc++ [UInt8.ofNat (16*(val s[m]).toNat+(val s[m+1]).toNat)],by have:=HM.out;go_num,by omega,by rw [List.length_append];simp only [List.length_cons,List.length_nil];omega,by rw [show 2*(k+1)=m+2 by have:=HM.out;omega];exact HG.out,by rw [List.length_append];exact hown2,hb2⟩
      case measure=>simp [intOf];omega
    ·have hkq:k=q:=by omega
     have hfin:kf s.data.toList=(acc,0):=by
      rw [HF.out,HU.out,List.drop_of_length_le (by have:=HZ.out;omega),qB];simp
     have HG:=sqH hfin;clear hfin;obtain⟨A1,c1,rfl,hc1,_⟩:=Rd.of_own' hown;have hmm:s.size≤m:=by omega
     clear hkq hm;go_wp2_with fail;go_ret2;rw [HG.out];exact⟨A1,c1,rfl,⟨hown,hc1⟩,hbel⟩
theorem xB (A:Option Addr) (n c:Nat) (l:List UInt8) (w:World) (hl:l.length=n) (hc:n≤c) (hm:n≤140737488353280) (hr:Rd w 1 A n (bys l)) :
  Calls Tryz.prog 59 #[.slice A n c] w fun e w'=>∃v,e= .returned v∧w'.ownsRow w.heap.size 5 1 v n (bys l)∧Below w.heap.size w w':=by
 have heq:=fun W=>Lib.run_eql_slice_nil (P:=Tryz.prog) W 30 5 A n c 0 0 Tryz.underlying30;cases A with
 | none =>
  obtain rfl:n=0:=by
   rcases Nat.eq_zero_or_pos n with h | h
   ·exact h
   ·obtain⟨_,_,h1,_⟩:=hr.2 h;cases h1
  obtain rfl:l= []:=List.eq_nil_of_length_eq_zero hl;go_enter Tryz.func59,Tryz.ntmps59;go_wp2_with fail;go_ret;exact⟨_,rfl,World.ownsRow_nil _ _ _ _,Below.refl _ _⟩
 | some ad =>
  go_enter Tryz.func59,Tryz.ntmps59
  repeat' (fail_if_success (first|at_builtin|at_make));first|go_values|go_skip|go_guarded|go_step|go_upon|go_back
  refine zq rfl (.tmp 5) (.tmp 6) rfl yE (by rfl) (World.ownsRow_made (size:=1) w #[] 0 (Nat.le_refl _) (by simp [maxLen]) rfl) (by rfl) (hr.alloc _) (qX _) (by omega) (by simp) ?_;intro v1 w1 hown1 hg1 _;have hb1:=zc ((Below.refl _ _).alloc (Nat.le_refl _) _) (World.ownsRow_made (size:=1) w #[] 0 (Nat.le_refl _) (by simp [maxLen]) rfl) (Nat.le_refl _) hg1;go_wp2_with fail;go_ret;exact⟨_,rfl,by simpa using hown1,hb1⟩
end Go.Proofs.YtfmnggcfhalfnaaGreat
namespace Go.Proofs.YtfmnggcfhalfnaaGreat
def bl (n:Nat):Nat:=if h:n=0 then 0 else bl (n / 2)+1
termination_by n
decreasing_by omega
end Go.Proofs.YtfmnggcfhalfnaaGreat
namespace Go.Proofs.YtfmnggcfhalfnaaGreat
open Go.RowKit
end Go.Proofs.YtfmnggcfhalfnaaGreat
