/- Lemmas, as stated. -/
import Derived.StillTailTactics
import Derived.Deep.LoopGhost
import Derived.Test.YtcjmjaefcjcomaaGreatRows
import Derived.ProofKit
import Derived.OpenShut
import Derived.HandedShaped
import Derived.SizedLaws
import Derived.Deep.Slices
import Derived.Deep.CondSized
import Derived.Laws.IdiomStrings
import Derived.Deep.DrawnRows
import Derived.Test.YtcjmjaefcjcomaaGreatQB01
set_option linter.unusedVariables false
set_option linter.unusedSimpArgs false
set_option maxRecDepth 200000
set_option maxHeartbeats 4000000
open Go.Proofs.Tryz
open Go.Proofs.Tryz renaming prog->zZZ
open Go.Value renaming slice->aA,int->aB,string->aD
open Go.IntKind renaming i64->aC
open Go.Obj renaming cells->aE
open Option renaming none->aF,some->aG
namespace Go.Proofs.YtcjmjaefcjcomaaGreat
open Go.RowKit
variable {α:Type} {K:Act->World->Prop} {a:Addr} {listed:Array Bool} {ops:Array Oper} {l:List α} {fuel n:Nat} {P:Program} {v:Value} {W w:World} {S:World->Prop} {x y:ai} {Q:al} {f:α->List UInt8}
abbrev W32:=BitVec 32
def Qp (n:Nat):ai:= [7,6,5,4,3,2,1,0].map fun i=>UInt8.ofNat (n / 256 ^ i)
def xS (n:Nat):Nat:=(119 - n % 64) % 64
def qo (l:ai):ai:=l++ [128]++List.replicate (xS l.length) 0++Qp (8*l.length)
theorem jk (l:ai):(qo l).length % 64=0/\l.length+9<=(qo l).length/\(qo l).length<=l.length+72:=by
 simp only [qo,Qp,xS,List.length_append,List.length_cons,List.length_nil,List.length_replicate,List.length_map];omega
def xm (w:List W32):W32:=w[w.length - 16]! + yx w[w.length - 15]! 2+w[w.length - 7]! + yx w[w.length - 2]! 3
def qy (b:List W32):Nat->List W32
 | 0=>b
 | k+1=>qy b k++ [xm (qy b k)]
theorem y8 (b:List W32):∀k,(qy b k).length=b.length+k
 | 0=>rfl
 | k+1=>by rw [qy,List.length_append,y8 b k];simp;omega
def rks:List W32:= [
 0x428a2f98,0x71374491,0xb5c0fbcf,0xe9b5dba5,0x3956c25b,0x59f111f1,0x923f82a4,0xab1c5ed5,
 0xd807aa98,0x12835b01,0x243185be,0x550c7dc3,0x72be5d74,0x80deb1fe,0x9bdc06a7,0xc19bf174,
 0xe49b69c1,0xefbe4786,0x0fc19dc6,0x240ca1cc,0x2de92c6f,0x4a7484aa,0x5cb0a9dc,0x76f988da,
 0x983e5152,0xa831c66d,0xb00327c8,0xbf597fc7,0xc6e00bf3,0xd5a79147,0x06ca6351,0x14292967,
 0x27b70a85,0x2e1b2138,0x4d2c6dfc,0x53380d13,0x650a7354,0x766a0abb,0x81c2c92e,0x92722c85,
 0xa2bfe8a1,0xa81a664b,0xc24b8b70,0xc76c51a3,0xd192e819,0xd6990624,0xf40e3585,0x106aa070,
 0x19a4c116,0x1e376c08,0x2748774c,0x34b0bcb5,0x391c0cb3,0x4ed8aa4a,0x5b9cca4f,0x682e6ff3,
 0x748f82ee,0x78a5636f,0x84c87814,0x8cc70208,0x90befffa,0xa4506ceb,0xbef9a3f7,0xc67178f2]
def h0s:List W32:= [0x6a09e667,0xbb67ae85,0x3c6ef372,0xa54ff53a,0x510e527f,0x9b05688c,0x1f83d9ab,0x5be0cd19]
def JG (x y z:W32):W32:=(x &&& y) ^^^ (~~~x &&& z)
def ZM (x y z:W32):W32:=(x &&& y) ^^^ (x &&& z) ^^^ (y &&& z)
def rnd (k w:W32):List W32->List W32
 | [a,b,c,d,e,f,g,h] =>
  let one:=h+yx e 1+JG e f g+k+w
  let two:=yx a 0+ZM a b c
  [one+two,a,b,c,d+one,e,f,g]
 | v=>v
def jb (w v:List W32):Nat->List W32
 | 0=>v
 | n+1=>rnd rks[n]! w[n]! (jb w v n)
theorem z1w (k w:W32) (v:List W32) (h:v.length=8):(rnd k w v).length=8:=by
 match v,h with
 | [a,b,c,d,e,f,g,h],_=>rfl
theorem xJ (w v:List W32) (h:v.length=8):∀n,(jb w v n).length=8
 | 0=>h
 | n+1=>z1w _ _ _ (xJ w v h n)
theorem Xx (v:List α) (h:v.length=8):∃a b c d e f g i,v= [a,b,c,d,e,f,g,i]:=by
 match v,h with
 | [a,b,c,d,e,f,g,i],_=>exact⟨_,_,_,_,_,_,_,_,rfl⟩
def xN (h b:List W32):List W32:=List.zipWith (· + ·) (jb (qy b 48) h 64) h
theorem VG (h b:List W32) (hh:h.length=8):(xN h b).length=8:=by
 simp [xN,xJ _ _ hh,hh]
def vy (h w:List W32):Nat->List W32
 | 0=>h
 | k+1=>xN (vy h w k) ((w.drop (16*k)).take 16)
theorem kX (h w:List W32) (hh:h.length=8):∀k,(vy h w k).length=8
 | 0=>hh
 | k+1=>VG _ _ (kX h w hh k)
def Jm (l:ai):List W32:=vy h0s (ku (qo l)) ((qo l).length / 64)
theorem ZY (l:ai):(Jm l).length=8:=kX _ _ rfl _
def shaS (l:ai):ai:=kH (wbs (Jm l))
theorem Z2 (l:ai):(shaS l).length=64:=by
 rw [shaS,yj,Z7,ZY]
theorem Xq (x y z:W32):JG x y z=(x &&& y) ||| (~~~x &&& z):=by
 ext i;simp only [JG,BitVec.getElem_xor,BitVec.getElem_and,BitVec.getElem_or,BitVec.getElem_not]
 cases x[i]<;>simp
theorem J9 (x y z:W32):ZM x y z=((x &&& y) ||| (x &&& z)) ||| (y &&& z):=by
 ext i;simp only [ZM,BitVec.getElem_xor,BitVec.getElem_and,BitVec.getElem_or]
 cases x[i]<;>cases y[i]<;>cases z[i]<;>rfl
theorem z4s (n:Nat) (h:n<=31):bits BinOp.and .u64 (n:Int) 31=(n:Int):=by
 have key:∀n:Fin 32,bits BinOp.and .u64 (n.val:Int) 31=(n.val:Int):=by decide +kernel
 exact key ⟨n,wu⟩
theorem z0r (x:BitVec 32) (n:Nat) (w:World) (h0:0<n) (hn:n<=31):Calls zZZ 57 #[aB .u32 (wd x),aB aC n] w fun e w'=>e= .returned (aB .u32 (wd (x.rotateRight (32 - n))))/\w=w':=by
 have h1:=z4s n hn;have h2:(n:Int)<32:=wu;have h3:IntKind.u64.wrap (n:Int)=n:=by rw [IntKind.wrap_u64];omega
 have h4:IntKind.u64.wrap (32 - (n:Int))=32 - (n:Int):=by rw [IntKind.wrap_u64];omega
 have h5:(32 - (n:Int))<32:=wu;have h6:(32 - (n:Int)).toNat=32 - n:=wu;go_enter func57,ntmps57;go_wp2_with fail;go_ret;refine⟨?_,rfl⟩;have t:=z3t x (32 - n) wu;rw [show 32 - (32 - n)=n by omega,Jn,ZZ,kV,JY]at t;have e:bits .or .u32 (wd x*2 ^ n % 4294967296) (wd x / 2 ^ (32 - n))=wd (x.rotateRight (32 - n)):=by
  rw [Jn,ZZ,kV,BitVec.or_comm,t]
 show Ending.returned (aB .u32 (bits .or .u32 (wd x*2 ^ n % 4294967296) (wd x / 2 ^ (32 - n))))=_;rw [e]
theorem q8 (l:List W32):(wds l).length=l.length:=by simp [wds]
theorem uC (l:List W32) (k:Nat) (x:W32):(wds l).set k (aB .u32 (wd x))=wds (l.set k x):=by simp [wds,List.map_set]
theorem z0q (x:BitVec 32) (n:Nat) (N:Int) (hN:N=n) (w:World) (h0:0<n) (hn:n<=31):Calls zZZ 57 #[aB .u32 (wd x),aB aC N] w fun e w'=>e= .returned (aB .u32 (wd (x.rotateRight (32 - n))))/\w=w':=by
 subst hN;exact z0r x n w h0 hn
theorem vU (x:BitVec 32) (n:Nat) (N:Int) (hN:N=n) (w:World) (h0:0<n) (hn:n<=31):Calls zZZ 57 #[aB .u32 (wd x),aB aC N] w fun e w'=>e= .returned (aB .u32 (wd (x.rotateRight (32 - n))))/\w'=w :=
 (z0q x n N hN w h0 hn).mono fun _ _ h=>⟨h.1,h.2.symm⟩
theorem QY (x:BitVec 32) (N:Int) (w:World) (h0:0<N) (hn:N<=31):Calls zZZ 57 #[aB .u32 (wd x),aB aC N] w fun e w'=>e= .returned (aB .u32 (wd (x.rotateRight (32 - N.toNat))))/\w'=w:=by
 obtain⟨n,rfl⟩:=Int.eq_ofNat_of_zero_le (Int.le_of_lt h0);exact vU x n n rfl w wu wu
theorem z5q (y:W32) (b:UInt8):bits BinOp.or IntKind.u32 (IntKind.u32.wrap (wd y*256)) (IntKind.u32.wrap (b.toNat:Int))=wd (y <<< 8 ||| BitVec.ofNat 32 b.toNat):=by
 have h1:IntKind.u32.wrap (wd y*256)=wd y*2 ^ 8 % 4294967296:=by rw [IntKind.wrap_u32,show(2:Int) ^ 8=256 by decide]
 have h2:IntKind.u32.wrap (b.toNat:Int)=wd (BitVec.ofNat 32 b.toNat):=by
  have:=b.toNat_lt;rw [Z9];simp [wd]
 rw [h1,h2,Jn,kV]
def QZ (l:ai) (i j:Nat):W32:=(((l.take i).drop (4*j)).take 4).foldl (fun a b=>a <<< 8 ||| BitVec.ofNat 32 b.toNat) 0
def jE (l:ai) (i:Nat):List W32:=(List.range 64).map (QZ l i)
theorem vE (l:ai) (i:Nat):(jE l i).length=64:=by simp [jE]
theorem Xi (l:ai) (i:Nat) (h:i<l.length):QZ l (i+1) (i / 4)=QZ l i (i / 4) <<< 8 ||| BitVec.ofNat 32 l[i].toNat:=by
 unfold QZ;have h1:(((l.take i).drop (4*(i / 4))).take 4)=(l.take i).drop (4*(i / 4)):=List.take_of_length_le (by rw [List.length_drop,List.length_take];omega);have h2:(((l.take (i+1)).drop (4*(i / 4))).take 4)=(l.take i).drop (4*(i / 4))++ [l[i]]:=by
  rw [List.take_succ_eq_append_getElem h,List.drop_append_of_le_length (by rw [List.length_take];omega)];exact List.take_of_length_le (by rw [List.length_append,List.length_drop,List.length_take];simp only [List.length_cons,List.length_nil];omega)
 rw [h1,h2,List.foldl_append];rfl
theorem Y8 (l:ai) (i j:Nat) (h:i<l.length) (hj:j≠i / 4):QZ l (i+1) j=QZ l i j:=by
 unfold QZ;rw [List.take_succ_eq_append_getElem h];rcases Nat.lt_or_ge j (i / 4) with hlt | hge
 ·rw [List.drop_append_of_le_length (by rw [List.length_take];omega),List.take_append_of_le_length (by rw [List.length_drop,List.length_take];omega)]
 ·rw [List.drop_eq_nil_of_le af,List.drop_eq_nil_of_le af]
theorem Xj (l:ai) (i:Nat) (h:i<l.length) (hi:i<256):jE l (i+1)=(jE l i).set (i / 4) (QZ l i (i / 4) <<< 8 ||| BitVec.ofNat 32 l[i].toNat):=by
 apply List.ext_getElem (by simp [jE]);intro j h1 h2;simp only [jE,List.getElem_map,List.getElem_range,List.getElem_set];split
 ·rename_i e;subst e;exact Xi l i h
 ·rename_i e;exact Y8 l i j h (fun x=>e x.symm)
theorem Xk (l:ai):jE l 0=List.replicate 64 0:=by
 apply List.ext_getElem (by simp [jE]);intro j h1 h2;rw [List.getElem_replicate];simp only [jE,QZ,List.getElem_map,List.take_zero,List.drop_nil,List.take_nil,List.foldl_nil]
theorem z3x (x:W32) (b:UInt8):x <<< 8 ||| BitVec.ofNat 32 b.toNat=x <<< 8+BitVec.ofNat 32 b.toNat:=by
 refine(BitVec.add_eq_or_of_and_eq_zero _ _ ?_).symm;have hb:=b.toNat_lt
 ext i hi
 simp only [BitVec.getElem_and,BitVec.getElem_shiftLeft,BitVec.getElem_zero];by_cases h:i<8
 ·simp [h]
 ·have e:(BitVec.ofNat 32 b.toNat)[i]=false:=by
   rw [<-BitVec.getLsbD_eq_getElem,BitVec.getLsbD_ofNat,Nat.testBit_lt_two_pow (Nat.lt_of_lt_of_le hb (Nat.pow_le_pow_right wu wu))];simp
  rw [e];simp
theorem z5s (a b c d:UInt8): [a,b,c,d].foldl (fun (a:W32) (b:UInt8)=>a <<< 8 ||| BitVec.ofNat 32 b.toNat) (0:W32)=wOf a b c d:=by
 simp only [List.foldl_cons,List.foldl_nil,z3x];have ha:=a.toNat_lt;have hb:=b.toNat_lt;have hc:=c.toNat_lt;have hd:=d.toNat_lt;apply BitVec.eq_of_toNat_eq;simp only [wOf,BitVec.toNat_add,BitVec.toNat_shiftLeft,BitVec.toNat_ofNat,Nat.shiftLeft_eq];omega
theorem z5b (l:List α) (k:Nat) (h:k+3<l.length):(l.drop k).take 4= [l[k],l[k+1],l[k+2],l[k+3]]:=by
 rw [List.drop_eq_getElem_cons wu,List.drop_eq_getElem_cons wu,List.drop_eq_getElem_cons wu,List.drop_eq_getElem_cons wu];rfl
theorem Zl (l:ai) (hl:64<=l.length):∀k,k<=16->(jE l 64).take k=ku (l.take (4*k))
 | 0,_=>rfl
 | k+1,hk=>by
  have ih:=Zl l hl k wu
  rw [List.take_succ_eq_append_getElem (by rw [vE];omega),ih,uE k l wu]
  congr 2
  simp only [jE,List.getElem_map,List.getElem_range,QZ]
  rw [z5b _ _ (by rw [List.length_take];omega)]
  simp only [List.getElem_take]
  exact z5s _ _ _ _
theorem Uz (l:ai) (hl:64<=l.length):jE l 64=qy (ku (l.take 64)) 0++List.replicate 48 0:=by
 have h:=Zl l hl 16 wu;rw [<-List.take_append_drop 16 (jE l 64),h]
 congr 1
 apply List.ext_getElem (by simp [vE]);intro j h1 h2;rw [List.getElem_replicate];simp only [jE,List.getElem_drop,List.getElem_map,List.getElem_range,QZ];rw [List.drop_eq_nil_of_le (by rw [List.length_take];omega)];rfl
theorem jj (L:List W32) (t:Nat) (hL:L.length=t) (h:16<=t):xm L=L[t - 16]+yx L[t - 15] 2+L[t - 7]+yx L[t - 2] 3:=by
 subst hL;unfold xm;rw [getElem!_pos L _ wu,getElem!_pos L _ wu,getElem!_pos L _ wu,getElem!_pos L _ wu]
theorem grow (L:List W32) (t:Nat) (hL:L.length=t) (h:t<64) (v:W32):(L++List.replicate (64 - t) 0).set t v=(L++ [v])++List.replicate (64 - (t+1)) 0:=by
 subst hL;rw [List.set_append_right _ _ ag,Nat.sub_self,show 64 - L.length=(64 - (L.length+1))+1 by omega,List.replicate_succ,List.set_cons_zero,List.append_assoc];rfl
theorem Y9 (a b:W32):IntKind.u32.wrap (wd a+wd b)=wd (a+b):=by
 rw [IntKind.wrap_u32];simp only [wd,BitVec.toNat_add];omega
theorem z5r (a:W32):wd a / (8:Int)=wd (a >>> 3):=by have:=ZZ a 3;simpa using this
theorem z18 (a:W32):wd a / (1024:Int)=wd (a >>> 10):=by have:=ZZ a 10;simpa using this
theorem z3w (x1 x2 x3 x4:W32):IntKind.u32.wrap (IntKind.u32.wrap (IntKind.u32.wrap (wd x1+wd x3)+bits BinOp.xor IntKind.u32 (bits BinOp.xor IntKind.u32 (wd (BitVec.rotateRight x2 7)) (wd (BitVec.rotateRight x2 18))) (wd x2 / (8:Int)))+bits BinOp.xor IntKind.u32 (bits BinOp.xor IntKind.u32 (wd (BitVec.rotateRight x4 17)) (wd (BitVec.rotateRight x4 19))) (wd x4 / (1024:Int)))=wd (x1+yx x2 2+x3+yx x4 3):=by
 rw [z5r,z18];simp only [qG,Y9,yx];rw [JY]
 ac_rfl
theorem z5f (a b c d e:W32):((wd a+wd b+wd c+wd d) % 4294967296+wd e) % 4294967296=wd (a+b+c+d+e):=by
 simp only [wd,BitVec.toNat_add];omega
theorem z3n (h e f g k w:W32):((wd h+bits BinOp.xor IntKind.u32 (bits BinOp.xor IntKind.u32 (wd (BitVec.rotateRight e 6)) (wd (BitVec.rotateRight e 11))) (wd (BitVec.rotateRight e 25)) +
   bits BinOp.xor IntKind.u32 (bits BinOp.and IntKind.u32 (wd e) (wd f)) (bits BinOp.and IntKind.u32 (bits BinOp.xor IntKind.u32 (if IntKind.u32.signed=true then -1 else IntKind.u32.max) (wd e)) (wd g))+wd k) % 4294967296+wd w) % 4294967296=wd (h+yx e 1+JG e f g+k+w):=by
 rw [if_neg aa];simp only [uR,qG,kU,z5f,yx,JG]
theorem z2m (a b:W32):(wd a+wd b) % 4294967296=wd (a+b):=by
 simp only [wd,BitVec.toNat_add];omega
theorem z43 (a b c:W32):(bits BinOp.xor IntKind.u32 (bits BinOp.xor IntKind.u32 (wd (BitVec.rotateRight a 2)) (wd (BitVec.rotateRight a 13))) (wd (BitVec.rotateRight a 22))+bits BinOp.xor IntKind.u32 (bits BinOp.xor IntKind.u32 (bits BinOp.and IntKind.u32 (wd a) (wd b)) (bits BinOp.and IntKind.u32 (wd a) (wd c))) (bits BinOp.and IntKind.u32 (wd b) (wd c))) % 4294967296=wd (yx a 0+ZM a b c):=by
 simp only [qG,kU,z2m,yx,ZM]
def uO (h v:List W32) (k:Nat):List W32:=(List.zipWith (· + ·) v h).take k++h.drop k
theorem ZU (h v:List W32):uO h v 0=h:=by simp [uO]
theorem Kn (h v:List W32) (k:Nat) (h1:h.length<=k) (h2:v.length=h.length):uO h v k=List.zipWith (· + ·) v h:=by
 rw [uO,List.drop_eq_nil_of_le h1,List.append_nil,List.take_of_length_le (by rw [List.length_zipWith];omega)]
theorem yS (h v:List W32) (k:Nat) (h2:v.length=h.length):(uO h v k).length=h.length:=by
 simp only [uO,List.length_append,List.length_take,List.length_zipWith,List.length_drop];omega
theorem ZT (h v:List W32) (k:Nat) (hk:k<h.length) (h2:v.length=h.length):∃x y,(wds (uO h v k))[k]?=aG (aB .u32 (wd x))/\(wds v)[k]?=aG (aB .u32 (wd y))/\(uO h v k).set k (x+y)=uO h v (k+1):=by
 have hz:(List.zipWith (· + ·) v h).length=h.length:=by rw [List.length_zipWith];omega
 refine⟨h[k],v[k],?_,x8 v k wu,?_⟩
 ·rw [x8 _ k (by rw [yS h v k h2];exact hk)];have:(uO h v k)[k]'(by rw [yS h v k h2];exact hk)=h[k]:=by
   simp only [uO];rw [List.getElem_append_right (by simp [hz];omega)];simp only [List.getElem_drop,List.length_take,hz,Nat.min_eq_left (Nat.le_of_lt hk),Nat.sub_self,Nat.add_zero]
  rw [this]
 ·simp only [uO];rw [List.set_append_right _ _ (by simp [hz];omega),List.length_take,hz,Nat.min_eq_left (Nat.le_of_lt hk),Nat.sub_self,List.drop_eq_getElem_cons hk,List.set_cons_zero,List.take_succ_eq_append_getElem wu,List.append_assoc];simp [List.getElem_zipWith,BitVec.add_comm]
theorem Vr (W v:List W32) (t:Nat) (h:t<64) (hW:W.length=64):jb W v (t+1)=rnd (rks[t]'h) (W[t]'(by omega)) (jb W v t):=by
 rw [jb,getElem!_pos rks t h,getElem!_pos W t wu]
theorem z3s (t:Nat) (h:t<64):(wds rks)[t]?=aG (aB .u32 (wd (rks[t]'h))):=x8 rks t h
theorem jc (W v:List W32) (hv:v.length=8) (t:Nat) (h:t<64) (hW:W.length=64):∃v0 v1 v2 v3 v4 v5 v6 v7 kt wt,jb W v t= [v0,v1,v2,v3,v4,v5,v6,v7]/\(wds rks)[t]?=aG (aB .u32 (wd kt))/\(wds W)[t]?=aG (aB .u32 (wd wt)) /\
  jb W v (t+1)=rnd kt wt [v0,v1,v2,v3,v4,v5,v6,v7]:=by
 obtain⟨v0,v1,v2,v3,v4,v5,v6,v7,e⟩:=Xx _ (xJ W v hv t);exact⟨v0,v1,v2,v3,v4,v5,v6,v7,_,_,e,z3s t h,x8 W t wu,by rw [Vr W v t h hW,e]⟩
theorem XS (A:aj) (n c:Nat) (l:ai) (B:aj) (d:Nat) (h:List W32) (w:World) (hl:l.length=n) (hn:64<=n) (hc:n<=c) (hm:n<=140737488353280) (hr:Rd w 1 A n (bys l)) (hk:Rd w 1 B 64 (wds rks)) (hd:64<=d) (hh:h.length=8) :
  Calls zZZ 37 #[.agg (wds h).toArray,aA A n c,aA B 64 d] w fun e w'=>e= .returned (.agg (wds (xN h (ku (l.take 64)))).toArray)/\Below w.heap.size w w':=by
 obtain⟨a0,a1,a2,a3,a4,a5,a6,a7,rfl⟩:=Xx h hh;go_enter func37,ntmps37
 refine wL ?_;intros;have hA0:Arr (((w.alloc (aE (wds [a0,a1,a2,a3,a4,a5,a6,a7]).toArray 95)).alloc (aE (wds (List.replicate 8 0)).toArray 95)).alloc (aE (wds (List.replicate 64 0)).toArray 123)) w.heap.size 95 (wds [a0,a1,a2,a3,a4,a5,a6,a7]):=((Arr.new _ _ _).alloc _).alloc _;have hA1:Arr (((w.alloc (aE (wds [a0,a1,a2,a3,a4,a5,a6,a7]).toArray 95)).alloc (aE (wds (List.replicate 8 0)).toArray 95)).alloc (aE (wds (List.replicate 64 0)).toArray 123)) (w.heap.size+1) 95 (wds (List.replicate 8 0)):=by
  have:=(Arr.new (w.alloc (aE (wds [a0,a1,a2,a3,a4,a5,a6,a7]).toArray 95)) 95 (wds (List.replicate 8 0))).alloc (aE (wds (List.replicate 64 0)).toArray 123);simpa using this
 have hA2:Arr (((w.alloc (aE (wds [a0,a1,a2,a3,a4,a5,a6,a7]).toArray 95)).alloc (aE (wds (List.replicate 8 0)).toArray 95)).alloc (aE (wds (List.replicate 64 0)).toArray 123)) (w.heap.size+1+1) 123 (wds (jE l 0)):=by
  rw [Xk];have:=(Arr.new ((w.alloc (aE (wds [a0,a1,a2,a3,a4,a5,a6,a7]).toArray 95)).alloc (aE (wds (List.replicate 8 0)).toArray 95)) 123 (wds (List.replicate 64 0)))
  simpa using this
 have hA3:Below w.heap.size w (((w.alloc (aE (wds [a0,a1,a2,a3,a4,a5,a6,a7]).toArray 95)).alloc (aE (wds (List.replicate 8 0)).toArray 95)).alloc (aE (wds (List.replicate 64 0)).toArray 123)) :=
  (((Below.refl _ w).alloc ab _).alloc ab _).alloc af _
 generalize hg0:w.heap.size=g0 at *
 generalize hg1:g0+1=g1 at *
 generalize hg2:g1+1=g2 at *
 have ne0:g0≠g2:=wu;have ne1:g1≠g2:=wu;have hgb:w.heap.size<=g2:=wu;go_loopw [19] (fun i wr=>∃k:Nat,i= aB aC k/\k<=64/\Arr wr g0 95 (wds [a0,a1,a2,a3,a4,a5,a6,a7])/\Arr wr g1 95 (wds (List.replicate 8 0))/\Arr wr g2 123 (wds (jE l k))/\Below w.heap.size w wr) (fun i _=>64 - (intOf i).toNat)
 case atStart=>exact⟨0,rfl,wu,hA0,hA1,hA2,by rw [hg0];exact hA3⟩
 case round =>
  obtain⟨k,rfl,hk,q0,q1,q2,hbel⟩:=hrel;by_cases hlt:k<64
  ·
   obtain⟨b,off,u,rfl,hbw,hu,hcell⟩:=(hr.below hbel).at_ (k:=k) wu;rw [vq l k wu]at hu;cases hu
   have hx8:=l[k].toNat_lt;have hq:(wds (jE l k))[k / 4]?=aG (aB .u32 (wd (QZ l k (k / 4)))):=by
    rw [x8 _ _ (by rw [vE];omega)];simp [jE]
   have hc4:=q2.cell hq;have hf4:=q2.frozen (k / 4);have hs:=q2.set (k:=k / 4) (by rw [q8,vE];omega) (aB .u32 (wd (QZ l k (k / 4) <<< 8 ||| BitVec.ofNat 32 l[k].toNat)));have HN:=sqH (Xj l k wu wu);generalize QZ l k (k / 4)=y at *
   generalize hb8:l[k]=b8 at *
   have HB8:=sqH hb8;clear hb8 hq;generalize hj:k / 4=j at *
   have HJ:=sqH hj;have i0:(k:Int) / 4=(j:Int):=wu;have i1:(j:Int)<64:=wu;have i2:=we j
   have i3:(k:Int)<n:=wu;have i4:(k:Int)<64:=wu;have i5:decide ((k:Int)<64)=true:=by simpa using i4
   have i6:IntKind.i64.wrap (j:Int)=(j:Int):=by rw [IntKind.wrap_i64];omega
   have i7:((j:Int)).toNat=j:=wu;clear hj;have hyn:=z2h y;have hyl:=z2g y;have hsv:=sqH hs;clear hs hA0 hA1 hA2 hA3 hh hg0 hg1 hg2
   refine wL ?_;intros;go_still_tail 14,ww
   change wpList _ _ _ _ _ wr.drew;rw [z5q];have hc5:wr.drew.cell? ⟨g2,j,aF⟩=aG (aB .u32 (wd y)):=hc4;have hf5:wr.drew.frozen? ⟨g2,j,aF⟩=false:=hf4
   refine wL ?_;intros;go_roundw
   case rel =>
    refine⟨k+1,by go_num,wu,q0.other ne0 _,q1.other ne1 _,?_,Below.setCell hbel.drew hgb _⟩;rw [HN.o,<-uC];exact hsv.o
   case measure=>simp [intOf];omega
  ·obtain rfl:k=64:=by omega
   have e64:jE l 64=qy (ku (l.take 64)) 0++List.replicate 48 0:=Uz l wu;rw [e64]at q2;clear e64 hA0 hA1 hA2 hA3
   refine wL ?_;intros;have hq2:Arr wr g2 123 (wds (qy (ku (l.take 64)) (16 - 16)++List.replicate (64 - 16) 0)):=q2;have hWl:(ku (l.take 64)).length=16:=vO 16 _ (by rw [List.length_take];omega);generalize hM:ku (l.take 64)=M at *
   have HM:=sqH hM;clear hM;clear q2;rw [show((64:Nat):Int)=(64:Int) from rfl];go_loopw [9] (fun i wr=>∃t:Nat,i= aB aC t/\16<=t/\t<=64/\Arr wr g0 95 (wds [a0,a1,a2,a3,a4,a5,a6,a7])/\Arr wr g1 95 (wds (List.replicate 8 0))/\Arr wr g2 123 (wds (qy M (t - 16)++List.replicate (64 - t) 0))/\Below w.heap.size w wr) (fun i _=>64 - (intOf i).toNat)
   case atStart=>exact⟨16,rfl,wu,wu,q0,q1,hq2,hbel⟩
   case round =>
    clear q0 q1 hq2 hbel;obtain⟨t,rfl,ht0,ht,q0,q1,q2,hbel⟩:=hrel;by_cases hlt2:t<64
    ·
     have hLl:(qy M (t - 16)).length=t:=by rw [y8,hWl];omega
     have hnx:=jj _ t hLl ht0;have hss:qy M (t+1 - 16)=qy M (t - 16)++ [xm (qy M (t - 16))]:=by rw [show t+1 - 16=(t - 16)+1 by omega];rfl
     have HSS:=sqH hss;clear hss;generalize qy M (t - 16)=L at *
     have hcl:∀j (hj:j<L.length),wr.cell? ⟨g2,j,aF⟩=aG (aB .u32 (wd L[j])):=fun j hj=>q2.cell (by rw [x8 _ _ (by rw [List.length_append];omega),List.getElem_append_left hj]);have c1:=hcl (t - 16) wu;have c2:=hcl (t - 15) wu;have c3:=hcl (t - 7) wu;have c4:=hcl (t - 2) wu;clear hcl;generalize L[t - 16]=x1 at *
     generalize L[t - 15]=x2 at *
     generalize L[t - 7]=x3 at *
     generalize L[t - 2]=x4 at *
     have HNX:=sqH hnx;clear hnx;have j1:((t:Int) - 16).toNat=t - 16:=wu;have j2:((t:Int) - 15).toNat=t - 15:=wu;have j3:((t:Int) - 7).toNat=t - 7:=wu;have j4:((t:Int) - 2).toNat=t - 2:=wu;have k1:(0:Int)<=(t:Int) - 16:=wu;have k2:(0:Int)<=(t:Int) - 15:=wu;have k3:(0:Int)<=(t:Int) - 7:=wu;have k4:(0:Int)<=(t:Int) - 2:=wu;have l1:(t:Int) - 16<64:=wu;have l2:(t:Int) - 15<64:=wu;have l3:(t:Int) - 7<64:=wu;have l4:(t:Int) - 2<64:=wu;have n1:(16:Int)<=(t:Int):=wu;have n2:(15:Int)<=(t:Int):=wu;have n3:(7:Int)<=(t:Int):=wu;have n4:(2:Int)<=(t:Int):=wu;have m1:IntKind.i64.wrap ((t:Int) - 16)=(t:Int) - 16:=by rw [IntKind.wrap_i64];omega
     have m2:IntKind.i64.wrap ((t:Int) - 15)=(t:Int) - 15:=by rw [IntKind.wrap_i64];omega
     have m3:IntKind.i64.wrap ((t:Int) - 7)=(t:Int) - 7:=by rw [IntKind.wrap_i64];omega
     have m4:IntKind.i64.wrap ((t:Int) - 2)=(t:Int) - 2:=by rw [IntKind.wrap_i64];omega
     have i4:(t:Int)<64:=wu;have i5:decide ((t:Int)<64)=true:=by simpa using i4
     refine wL ?_;intros;go_quiet (fail)
     refine wL ?_;intros;have hb2:=zO hbel nq;have q0':=q0.drewN nq;have q1':=q1.drewN nq;have q2':=q2.drewN nq;have d1:(wr.drewN nq).cell? ⟨g2,t - 16,aF⟩=_:=c1;have d2:(wr.drewN nq).cell? ⟨g2,t - 15,aF⟩=_:=c2;have d3:(wr.drewN nq).cell? ⟨g2,t - 7,aF⟩=_:=c3;have d4:(wr.drewN nq).cell? ⟨g2,t - 2,aF⟩=_:=c4;clear c1 c2 c3 c4 q0 q1 q2 hbel;generalize wr.drewN nq=wz at *
     go_still_tail 29,ww
     still_call (vU x2 25 25 rfl _ wu wu)
     repeat still_step
     still_call (vU x2 14 14 rfl _ wu wu)
     repeat still_step
     still_call (vU x4 15 15 rfl _ wu wu)
     repeat still_step
     still_call (vU x4 13 13 rfl _ wu wu)
     repeat still_step
     change wpList _ _ _ _ _ wz.drew;rw [z3w,<-HNX.o];have hc5:∃v,wz.drew.cell? ⟨g2,t,aF⟩=aG v:=⟨_,q2'.cell (k:=t) (by rw [x8 _ _ (by rw [List.length_append,List.length_replicate];omega)])⟩
     obtain⟨v5,hc5⟩:=hc5;have hf5:wz.drew.frozen? ⟨g2,t,aF⟩=false:=q2'.frozen t;have hs5:=q2'.set (k:=t) (by rw [q8,List.length_append,List.length_replicate];omega) (aB .u32 (wd (xm L)));rw [uC,grow L t hLl wu,<-HSS.o]at hs5;have HS5:=sqH hs5;clear hs5 q2'
     refine wL ?_;intros;go_roundw
     case rel =>
      exact⟨t+1,by go_num,wu,wu,q0'.other ne0 _,q1'.other ne1 _,HS5.o,Below.setCell hb2.drew hgb _⟩
     case measure=>simp [intOf];omega
    ·obtain rfl:t=64:=by omega
     rw [List.replicate_zero,List.append_nil]at q2;obtain⟨e0,e1,e2,e3,e4,e5,e6,e7⟩:=sqC8 q0
     refine wL ?_;intros;have hq3:Arr (wr.alloc (aE #[aB .u32 (wd a0),aB .u32 (wd a1),aB .u32 (wd a2),aB .u32 (wd a3),aB .u32 (wd a4),aB .u32 (wd a5),aB .u32 (wd a6),aB .u32 (wd a7)] 95)) wr.heap.size 95 (wds (jb (qy M 48) [a0,a1,a2,a3,a4,a5,a6,a7] 0)):=Arr.new _ _ _;have hlt0:=q0.lt;have hlt1:=q1.lt;have hlt2:=q2.lt;have q0':=q0.alloc (aE #[aB .u32 (wd a0),aB .u32 (wd a1),aB .u32 (wd a2),aB .u32 (wd a3),aB .u32 (wd a4),aB .u32 (wd a5),aB .u32 (wd a6),aB .u32 (wd a7)] 95);have q1':=q1.alloc (aE #[aB .u32 (wd a0),aB .u32 (wd a1),aB .u32 (wd a2),aB .u32 (wd a3),aB .u32 (wd a4),aB .u32 (wd a5),aB .u32 (wd a6),aB .u32 (wd a7)] 95);have q2':=q2.alloc (aE #[aB .u32 (wd a0),aB .u32 (wd a1),aB .u32 (wd a2),aB .u32 (wd a3),aB .u32 (wd a4),aB .u32 (wd a5),aB .u32 (wd a6),aB .u32 (wd a7)] 95);have hbl':=hbel.alloc hbel.size (aE #[aB .u32 (wd a0),aB .u32 (wd a1),aB .u32 (wd a2),aB .u32 (wd a3),aB .u32 (wd a4),aB .u32 (wd a5),aB .u32 (wd a6),aB .u32 (wd a7)] 95);have hgb3:=hbel.size;generalize (wr.alloc (aE #[aB .u32 (wd a0),aB .u32 (wd a1),aB .u32 (wd a2),aB .u32 (wd a3),aB .u32 (wd a4),aB .u32 (wd a5),aB .u32 (wd a6),aB .u32 (wd a7)] 95))=wy at *
     generalize hg3:wr.heap.size=g3 at *
     have ne03:g0≠g3:=wu;have ne13:g1≠g3:=wu;have ne23:g2≠g3:=wu;clear q0 q1 q2 hbel e0 e1 e2 e3 e4 e5 e6 e7 hlt2 ht0 ht hlt hk hg3;rw [show((64:Nat):Int)=(64:Int) from rfl];have hWl2:(qy M 48).length=64:=by rw [y8,hWl]
     generalize hW:qy M 48=W at *
     have HW:=sqH hW;clear hW;go_loopw [79] (fun i wr=>∃t:Nat,i= aB aC t/\t<=64/\Arr wr g0 95 (wds [a0,a1,a2,a3,a4,a5,a6,a7])/\Arr wr g1 95 (wds (List.replicate 8 0))/\Arr wr g2 123 (wds W)/\Arr wr g3 95 (wds (jb W [a0,a1,a2,a3,a4,a5,a6,a7] t))/\Below w.heap.size w wr) (fun i _=>64 - (intOf i).toNat)
     case atStart=>exact⟨0,rfl,wu,q0',q1',q2',hq3,hbl'⟩
     case round =>
      clear q0' q1' q2' hq3 hbl';obtain⟨t,rfl,ht,q0,q1,q2,q3,hbel⟩:=hrel;by_cases hlt3:t<64
      ·
       obtain⟨v0,v1,v2,v3,v4,v5,v6,v7,kt,wt,hv,hkt,hwt,hnx⟩:=jc W [a0,a1,a2,a3,a4,a5,a6,a7] rfl t hlt3 hWl2;rw [hv]at q3;have HNX:=sqH hnx;obtain⟨bk,ok,uk,rfl,hbk,huk,hck⟩:=(hk.below hbel).at_ (k:=t) hlt3;rw [hkt]at huk;cases huk
       have hcw:=q2.cell hwt;clear hnx hv hkt hwt;obtain⟨f0,f1,f2,f3,f4,f5,f6,f7⟩:=sqC8 q3;have i1:(t:Int)<64:=wu;have i2:=we t
       have i5:decide ((t:Int)<64)=true:=by simpa using i1
       have hl64:(64:Int)<=(d:Int):=wu;clear hh hg0 hg1 hg2 hr hl
       refine wL ?_;intros;go_quiet (fail)
       refine wL ?_;intros;have p0:=q0.drewN nq;have p1:=q1.drewN nq;have p2:=q2.drewN nq;have p3:=q3.drewN nq;have pb:=zO hbel nq;have dk:(wr.drewN nq).cell? ⟨bk,ok+t,aF⟩=_:=hck;have dw:(wr.drewN nq).cell? ⟨g2,t,aF⟩=_:=hcw;clear q0 q1 q2 q3 hbel hck hcw f0 f1 f2 f3 f4 f5 f6 f7;generalize wr.drewN nq=wz at *
       have f5:=p3.c5;have f6:=p3.c6;have f7:=p3.c7;go_quiet ((go_at_call 57;exact Calls.quiet_of_same (QY _ _ _ aa aa)));rw [z3n];have r0:=p0.drewN nq;have r1:=p1.drewN nq;have r2:=p2.drewN nq;have r3:=p3.drewN nq;have rb:=zO pb nq;clear p0 p1 p2 p3 pb dk dw f5 f6 f7;generalize wz.drewN nq=wx at *
       have f1:=r3.c1;have f2:=r3.c2;generalize hone:v7+yx v4 1+JG v4 v5 v6+kt+wt=one at *
       have HONE:=sqH hone;clear hone
       refine wL ?_;intros;go_quiet ((go_at_call 57;exact Calls.quiet_of_same (QY _ _ _ aa aa)));rw [z43];generalize htwo:yx v0 0+ZM v0 v1 v2=two at *
       have HTWO:=sqH htwo;clear htwo;have s0:=r0.drewN nq;have s1:=r1.drewN nq;have s2:=r2.drewN nq;have s3:=r3.drewN nq;have sb:=zO rb nq;clear r0 r1 r2 r3 rb f1 f2;generalize wx.drewN nq=wv at *
       obtain⟨f0,f1,f2,f3,f4,f5,f6,f7⟩:=sqC8 s3;have z:=s3.frozen
       refine wL ?_;intros;rw [z2m,z2m];have hrn:jb W [a0,a1,a2,a3,a4,a5,a6,a7] (t+1)= [one+two,v0,v1,v2,v3+one,v4,v5,v6]:=by rw [HNX.o,<-HONE.o,<-HTWO.o];rfl
       have t3:=s3.set8 (aB .u32 (wd (one+two))) (aB .u32 (wd v0)) (aB .u32 (wd v1)) (aB .u32 (wd v2)) (aB .u32 (wd (v3+one))) (aB .u32 (wd v4)) (aB .u32 (wd v5)) (aB .u32 (wd v6));have T3:=sqH t3;have HRN:=sqH hrn;clear t3 hrn s3 f0 f1 f2 f3 f4 f5 f6 f7 z;go_roundw
       case rel =>
        refine⟨t+1,by go_num,wu,s0.other8 ne03 _ _ _ _ _ _ _ _,s1.other8 ne13 _ _ _ _ _ _ _ _,s2.other8 ne23 _ _ _ _ _ _ _ _,?_,Below.set8 sb hgb3 _ _ _ _ _ _ _ _⟩;rw [HRN.o];exact T3.o
       case measure=>simp [intOf];omega
      ·obtain rfl:t=64:=by omega
       have hVl:(jb W [a0,a1,a2,a3,a4,a5,a6,a7] 64).length=8:=xJ W _ rfl 64;have hst:xN [a0,a1,a2,a3,a4,a5,a6,a7] M=List.zipWith (· + ·) (jb W [a0,a1,a2,a3,a4,a5,a6,a7] 64) [a0,a1,a2,a3,a4,a5,a6,a7]:=by rw [xN,HW.o]
       generalize jb W [a0,a1,a2,a3,a4,a5,a6,a7] 64=V at *
       have hhl: [a0,a1,a2,a3,a4,a5,a6,a7].length=8:=rfl;generalize hH: [a0,a1,a2,a3,a4,a5,a6,a7]=H at *
       have HST:=sqH hst;have HH:=sqH hH;clear hst hH hh q2
       refine wL ?_;intros;have q0':Arr wr g0 95 (wds (uO H V 0)):=by rw [ZU];exact q0
       clear q0;rw [show((64:Nat):Int)=(64:Int) from rfl];go_loopw [160] (fun i wr=>∃t:Nat,i= aB aC t/\t<=8/\Arr wr g0 95 (wds (uO H V t))/\Arr wr g1 95 (wds (List.replicate 8 0))/\Arr wr g3 95 (wds V)/\Below w.heap.size w wr) (fun i _=>8 - (intOf i).toNat)
       case atStart=>exact⟨0,rfl,wu,q0',q1,q3,hbel⟩
       case round =>
        clear q0' q1 q3 hbel;obtain⟨t,rfl,ht,q0,q1,q3,hbel⟩:=hrel;by_cases hlt4:t<8
        ·obtain⟨x,y,hx,hy,hnx⟩:=ZT H V t wu wu;have HNX:=sqH hnx;have cx:=q0.cell hx;have cy:=q3.cell hy;have fx:=q0.frozen t;have hs:=q0.set (k:=t) (by rw [q8,yS H V t wu];omega) (aB .u32 (wd (x+y)));rw [uC,hnx]at hs;have HS:=sqH hs;clear hnx hx hy hs;have i1:(t:Int)<8:=wu
         have i2:=we t
         have i5:decide ((t:Int)<8)=true:=by simpa using i1
         refine wL ?_;intros;go_still_tail 8,ww
         change wpList _ _ _ _ _ wr.drew;rw [Y9];have dx:wr.drew.cell? ⟨g0,t,aF⟩=aG (aB .u32 (wd x)):=cx;have gx:wr.drew.frozen? ⟨g0,t,aF⟩=false:=fx
         refine wL ?_;intros;go_roundw
         case rel =>
          exact⟨t+1,by go_num,wu,HS.o,q1.other wu _,q3.other wu _,Below.setCell hbel.drew (show w.heap.size<=g0 by omega) _⟩
         case measure=>simp [intOf];omega
        ·obtain rfl:t=8:=by omega
         have hpl:(uO H V 8).length=8:=by rw [yS H V 8 wu];exact hhl
         have hpe:uO H V 8=xN H M:=by rw [Kn H V 8 wu wu,HST.o]
         rw [hpe]at q0 hpl;clear hpe;obtain⟨c0,c1,c2,c3,c4,c5,c6,c7,hc8⟩:=Xx _ hpl;rw [hc8]at q0;have HC8:=sqH hc8;clear hc8 hpl;obtain⟨e0,e1,e2,e3,e4,e5,e6,e7⟩:=sqC8 q0;obtain⟨o0,o1,o2,o3,o4,o5,o6,o7⟩:=sqC8 q1;have z:=q1.frozen
         refine wL ?_;intros;have r1:=q1.set8 (aB .u32 (wd c0)) (aB .u32 (wd c1)) (aB .u32 (wd c2)) (aB .u32 (wd c3)) (aB .u32 (wd c4)) (aB .u32 (wd c5)) (aB .u32 (wd c6)) (aB .u32 (wd c7));have rb:=Below.set8 hbel (show w.heap.size<=g1 by omega) (aB .u32 (wd c0)) (aB .u32 (wd c1)) (aB .u32 (wd c2)) (aB .u32 (wd c3)) (aB .u32 (wd c4)) (aB .u32 (wd c5)) (aB .u32 (wd c6)) (aB .u32 (wd c7));refine bodyPost_ret (results_cell_row rfl _ _ g1 _ _ _ _ ac r1 underlying95 rfl ww) rfl ⟨?_,rb⟩;rw [HH.o,HM.o,HC8.o];rfl
theorem YE (l:ai) (h:l.length<4):ku l= []:=by
 match l,h with
 | [],_=>rfl
 | [_],_=>rfl
 | [_,_],_=>rfl
 | [_,_,_],_=>rfl
theorem jv:∀(k:Nat) (l:ai),ku (l.drop (4*k))=(ku l).drop k
 | 0,l=>by simp
 | k+1,l=>by
  by_cases h:l.length<4
  ·rw [YE l h,List.drop_nil,List.drop_eq_nil_of_le wu];rfl
  ·match l,h with
   | a::b::c::d::r,_ =>
    rw [show 4*(k+1)=4*k+4 by omega]
    show ku (r.drop (4*k))=_
    rw [jv k r,ku,List.drop_succ_cons]
   | [],h=>simp at h
   | [_],h=>simp at h
   | [_,_],h=>simp at h
   | [_,_,_],h=>simp at h
theorem jw:∀(k:Nat) (l:ai),4*k<=l.length->ku (l.take (4*k))=(ku l).take k
 | 0,l,_=>by simp [ku]
 | k+1,a::b::c::d::r,h=>by
  rw [show 4*(k+1)=4*k+1+1+1+1 by omega]
  simp only [List.take_succ_cons,ku]
  rw [jw k r (by simp at h;omega)]
 | k+1, [],h=>by simp at h
 | k+1, [_],h=>by simp at h;omega
 | k+1, [_,_],h=>by simp at h;omega
 | k+1, [_,_,_],h=>by simp at h;omega
theorem Yd (h:List W32) (P:ai) (k:Nat) (hk:64*(k+1)<=P.length):xN (vy h (ku P) k) (ku ((P.drop (64*k)).take 64))=vy h (ku P) (k+1):=by
 have e:ku ((P.drop (64*k)).take 64)=((ku P).drop (16*k)).take 16:=by
  rw [show(64:Nat)=4*16 from rfl,jw 16 _ (by rw [List.length_drop];omega),show 4*16*k=4*(16*k) by omega,jv]
 rw [e];rfl
def nib (x:W32) (i:Nat):UInt8:=dig (x.toNat / 16 ^ (7 - i) % 16)
def z1p (x:W32) (k:Nat):ai:=(List.range k).map (nib x)
theorem V7 (x:W32) (k:Nat):z1p x (k+1)=z1p x k++ [nib x k]:=by simp [z1p,List.range_succ]
theorem Jf (x:W32):z1p x 8=kH (wb x):=by
 have hx:=x.isLt;show [nib x 0,nib x 1,nib x 2,nib x 3,nib x 4,nib x 5,nib x 6,nib x 7]=kH [_,_,_,_];simp only [kH,List.flatMap_cons,List.flatMap_nil,hx1,List.append_nil,List.cons_append,List.nil_append,nib,UInt8.toNat_ofNat'];generalize x.toNat=n at *
 have e (i:Nat):(2:Nat) ^ 8=256:=rfl;rw [show n / 16777216 % 2 ^ 8 / 16=n / 16 ^ (7 - 0) % 16 by simp only [Nat.reduceSub,Nat.reducePow];omega,show n / 16777216 % 2 ^ 8 % 16=n / 16 ^ (7 - 1) % 16 by simp only [Nat.reduceSub,Nat.reducePow];omega,
  show n / 65536 % 2 ^ 8 / 16=n / 16 ^ (7 - 2) % 16 by simp only [Nat.reduceSub,Nat.reducePow];omega,show n / 65536 % 2 ^ 8 % 16=n / 16 ^ (7 - 3) % 16 by simp only [Nat.reduceSub,Nat.reducePow];omega,
  show n / 256 % 2 ^ 8 / 16=n / 16 ^ (7 - 4) % 16 by simp only [Nat.reduceSub,Nat.reducePow];omega,show n / 256 % 2 ^ 8 % 16=n / 16 ^ (7 - 5) % 16 by simp only [Nat.reduceSub,Nat.reducePow];omega,
  show n % 2 ^ 8 / 16=n / 16 ^ (7 - 6) % 16 by simp only [Nat.reduceSub,Nat.reducePow];omega,show n % 2 ^ 8 % 16=n / 16 ^ (7 - 7) % 16 by simp only [Nat.reduceSub,Nat.reducePow];omega]
theorem Zn (N:Nat):(Qp N).length=8:=by simp [Qp]
theorem Xl (N k:Nat) (hk:k<8):(Qp N).take (k+1)=(Qp N).take k++ [UInt8.ofNat (N / 256 ^ (7 - k))]:=by
 have h:k<(Qp N).length:=by rw [Zn];exact hk
 rw [List.take_succ_eq_append_getElem h]
 congr 2
 match k,hk with
 | 0,_=>rfl
 | 1,_=>rfl
 | 2,_=>rfl
 | 3,_=>rfl
 | 4,_=>rfl
 | 5,_=>rfl
 | 6,_=>rfl
 | 7,_=>rfl
theorem JD (n k:Nat) (hk:k<8):(n:Int)*8 / 2 ^ (56 - 8*k) % 256=((UInt8.ofNat (8*n / 256 ^ (7 - k))).toNat:Int):=by
 have e:(256:Nat) ^ (7 - k)=2 ^ (56 - 8*k):=by
  rw [show(256:Nat)=2 ^ 8 by rfl,<-Nat.pow_mul];congr 1;omega
 rw [UInt8.toNat_ofNat',e,show(n:Int)*8=((8*n:Nat):Int) by omega,show(2:Int) ^ (56 - 8*k)=((2 ^ (56 - 8*k):Nat):Int) by simp];generalize 2 ^ (56 - 8*k)=q;rw [<-Int.natCast_ediv,show(2:Nat) ^ 8=256 by rfl];omega
theorem Je (x:W32) (k:Nat) (hk:k<8):bits BinOp.and IntKind.u32 (wd x / 2 ^ (28 - 4*k)) 15=((x.toNat / 16 ^ (7 - k) % 16:Nat):Int):=by
 have e:(16:Nat) ^ (7 - k)=2 ^ (28 - 4*k):=by
  rw [show(16:Nat)=2 ^ 4 by rfl,<-Nat.pow_mul];congr 1;omega
 have h15:(15:Int)=wd (15:W32):=rfl;rw [ZZ,h15,kU,e];show(((x >>> (28 - 4*k)) &&& 15#32).toNat:Int)=_;rw [BitVec.toNat_and,BitVec.toNat_ushiftRight,Nat.shiftRight_eq_div_pow];show(((x.toNat / 2 ^ (28 - 4*k)) &&& (2 ^ 4 - 1):Nat):Int)=_;rw [Nat.and_two_pow_sub_one_eq_mod]
theorem z5t (a0 a1 a2 a3 a4 a5 a6 a7:W32) (j:Nat) (hj:j<8):∃x, [a0,a1,a2,a3,a4,a5,a6,a7][j]?=aG x/\∀w:World,(Instr.index 95 (.agg #[aB .u32 (wd a0),aB .u32 (wd a1),aB .u32 (wd a2),aB .u32 (wd a3),aB .u32 (wd a4),aB .u32 (wd a5),aB .u32 (wd a6),aB .u32 (wd a7)]) (aB aC j)).run zZZ w= .ok (aB .u32 (wd x)) w :=
 match j,hj with
 | 0,_=>⟨a0,rfl,fun _=>ww⟩
 | 1,_=>⟨a1,rfl,fun _=>ww⟩
 | 2,_=>⟨a2,rfl,fun _=>ww⟩
 | 3,_=>⟨a3,rfl,fun _=>ww⟩
 | 4,_=>⟨a4,rfl,fun _=>ww⟩
 | 5,_=>⟨a5,rfl,fun _=>ww⟩
 | 6,_=>⟨a6,rfl,fun _=>ww⟩
 | 7,_=>⟨a7,rfl,fun _=>ww⟩
theorem UU (a b:ai):kH (a++b)=kH a++kH b:=by simp [kH]
theorem VQ (n k:Nat) (h:(n+1+k) % 64≠56) (hk:k<=xS n):k<xS n:=by unfold xS at *;omega
theorem KH (n k:Nat) (h:(n+1+k) % 64=56) (hk:k<=xS n):k=xS n:=by unfold xS at *;omega
theorem X8 (A:aj) (n c:Nat) (l:ai) (w:World) (hl:l.length=n) (hc:n<=c) (hm:n<=140737488353280) (hr:Rd w 1 A n (bys l)) :
  Calls zZZ 35 #[aA A n c] w fun e w'=>∃v,e= .returned v/\w'.ownsRow w.heap.size 5 1 v n (bys l)/\Below w.heap.size w w':=by
 have heq:=fun W=>Lib.run_eql_slice_nil (P:=zZZ) W 25 5 A n c 0 0 underlying25;cases A with
 | none =>
  obtain rfl:n=0:=by
   rcases Nat.eq_zero_or_pos n with h | h
   ·exact h
   ·obtain⟨_,_,h1,_⟩:=hr.2 h;cases h1
  obtain rfl:l= []:=List.eq_nil_of_length_eq_zero hl;go_enter func35,ntmps35;go_wp2_with fail;go_ret;exact⟨_,rfl,World.ownsRow_nil _ _ _ _,Below.refl _ _⟩
 | some ad =>
  go_enter func35,ntmps35
  refine wL ?_;intros;refine zG rfl (.tmp 5) (.tmp 6) rfl vu ac (World.ownsRow_made (size:=1) w #[] 0 ag (by simp [maxLen]) rfl) ac (hr.alloc _) (kC _) wu ab ?_;intro v1 w1 hown1 hg1 _;have hb1:=zh ((Below.refl _ _).alloc ag _) (World.ownsRow_made (size:=1) w #[] 0 ag (by simp [maxLen]) rfl) ag hg1;go_wp2_with fail;go_ret;exact⟨_,rfl,by simpa using hown1,hb1⟩
theorem Zq (w:World):Calls zZZ 36 #[] w fun e w'=>e= .returned (aA (aG ⟨w.heap.size,0,aF⟩) 64 64)/\Rd w' 1 (aG ⟨w.heap.size,0,aF⟩) 64 (wds rks)/\Below w.heap.size w w':=by
 go_enter func36,ntmps36;go_wp2_with fail;go_ret;refine⟨rfl,?_,(Below.refl _ _).alloc ag _⟩;exact Rd.newN (w:=w) (e:=94) (size:=1) (m:=64) (wds rks) ac
theorem XR (A:aj) (n c:Nat) (l:ai) (B:aj) (d:Nat) (a0 a1 a2 a3 a4 a5 a6 a7 d0 d1 d2 d3 d4 d5 d6 d7:W32) (w:World) (hst:xN [a0,a1,a2,a3,a4,a5,a6,a7] (ku (l.take 64))= [d0,d1,d2,d3,d4,d5,d6,d7]) (hl:l.length=n) (hn:64<=n) (hc:n<=c) (hm:n<=140737488353280) (hr:Rd w 1 A n (bys l)) (hk:Rd w 1 B 64 (wds rks)) (hd:64<=d) :
  Calls zZZ 37 #[.agg #[aB .u32 (wd a0),aB .u32 (wd a1),aB .u32 (wd a2),aB .u32 (wd a3),aB .u32 (wd a4),aB .u32 (wd a5),aB .u32 (wd a6),aB .u32 (wd a7)],aA A n c,aA B 64 d] w fun e w' =>
   e= .returned (.agg #[aB .u32 (wd d0),aB .u32 (wd d1),aB .u32 (wd d2),aB .u32 (wd d3),aB .u32 (wd d4),aB .u32 (wd d5),aB .u32 (wd d6),aB .u32 (wd d7)])/\Below w.heap.size w w':=by
 refine(XS A n c l B d [a0,a1,a2,a3,a4,a5,a6,a7] w hl hn hc hm hr hk hd rfl).mono fun e w' h=> ?_;rw [hst]at h;exact h
theorem KL (A:aj) (n c:Nat) (l:ai) (w:World) (hl:l.length=n) (hc:n<=c) (hm:n<=140737488351300) (hr:Rd w 1 A n (bys l)) :
  Calls zZZ 11 #[aA A n c] w fun e w'=>e= .returned (aD ⟨(shaS l).toArray⟩)/\Below w.heap.size w w':=by
 have HL:=sqH hl;clear hl;go_enter func11,ntmps11
 refine wL ?_;intros;refine(X8 _ _ _ l _ HL.o hc wu hr).mono ?_;rintro e_ w1 ⟨v1,rfl,ho1,hb1⟩;dsimp only
 refine wL ?_;intros;have hl:=HL.o;refine zj rfl (.tmp 13) (.tmp 14) rfl vu ac ho1 rfl rfl (by simp;rfl) wu hb1.size ?_;intro v2 w2 ho2 hg2 _;have hb2:=zh hb1 ho1 ag hg2;have ho3:w2.ownsRow w.heap.size 5 1 v2 (n+1+0) (bys (l++ [128]++List.replicate 0 0)):=by
  rw [List.replicate_zero,List.append_nil,q6];exact ho2
 clear hl ho1 ho2 hg2 hb1
 refine wL ?_;intros;go_loopg [3] (xS n) (fun gn v wr=>∃k,gn=xS n - k/\k<=xS n/\wr.ownsRow w.heap.size 5 1 v (n+1+k) (bys (l++ [128]++List.replicate k 0))/\Below w.heap.size w wr)
 case atStart=>exact⟨0,rfl,wu,ho3,hb2⟩
 case round =>
  clear ho3 hb2;obtain⟨k,hgk,hk,hown,hbel⟩:=hrel;obtain⟨A3,c3,rfl,hc3,hrd3⟩:=Rd.of_own' hown;have hz:xS n<=63:=by unfold xS;omega
  by_cases h56:(n+1+k) % 64=56
  ·have hkz:=KH n k h56 hk;have hb56:(((n+1+k:Nat):Int) % 64 != 56)=false:=by rw [bne_eq_false_iff_eq];omega
   generalize hm1:n+1+k=m at *
   have HM:=sqH hm1;have hm2:m<=n+64:=wu;clear hm1 h56 hgk;subst hkz
   refine wL ?_;intros;have ho4:wr.ownsRow w.heap.size 5 1 (aA A3 m c3) (m+0) (bys (l++ [128]++List.replicate (xS n) 0++(Qp (8*n)).take 0)):=by
    rw [List.take_zero,List.append_nil];exact hown
   clear hown hrd3 hc3 hb56;go_loopg [3,27] 8 (fun gn v i wr=>∃k:Nat,gn=8 - k/\i= aB aC k/\k<=8/\wr.ownsRow w.heap.size 5 1 v (m+k) (bys (l++ [128]++List.replicate (xS n) 0++(Qp (8*n)).take k))/\Below w.heap.size w wr)
   case atStart=>exact⟨0,rfl,rfl,wu,ho4,hbel⟩
   case round =>
    clear ho4 hbel;obtain⟨k,hgk,rfl,hk,hown,hbel⟩:=hrel;have HGK:=sqH hgk;clear hgk;by_cases hk8:k<8
    ·have hbn:=Xl (8*n) k hk8;have HBN:=sqH hbn;clear hbn
     refine wL ?_;intros;refine zj rfl (.tmp 30) (.tmp 37) rfl vu ac hown rfl rfl (by simp;rfl) wu hbel.size ?_;intro v2 w2 ho2 hg2 _;have hb2:=zh hbel hown ag hg2
     refine wL ?_;intros;go_roundg (8 - (k+1))
     case measure=>exact wc HGK
     case rel =>
      refine⟨k+1,rfl,by go_num,wu,?_,hb2⟩;rw [JD n k hk8]at ho2;rw [HBN.o,<-List.append_assoc,q6 _ [_]];exact ho2
    ·obtain rfl:k=8:=by omega
     have hsp:l++ [128]++List.replicate (xS n) 0++(Qp (8*n)).take 8=qo l:=by
      rw [List.take_of_length_le (by rw [Zn];omega)];unfold qo;rw [HL.o]
     have hpl:=jk l;have hpl2:(qo l).length=m+8:=by rw [<-hsp];have:=HM.o;have:=HL.o;simp [Zn];omega
     rw [hsp]at hown;clear hsp;obtain⟨q,hq⟩:∃q,(qo l).length=64*q:=⟨(qo l).length / 64,wu⟩
     have hfin:shaS l=kH (wbs (vy h0s (ku (qo l)) q)):=by
      unfold shaS Jm;rw [hq,Nat.mul_div_cancel_left _ wu]
     have HFIN:=sqH hfin;clear hfin;generalize qo l=P at *
     obtain⟨A5,c5,rfl,hc5,hrd5⟩:=Rd.of_own' hown;have hm8:m+8<=n+72:=wu;have HPL:=sqH hpl2;have HQ:=sqH hq;clear hq hpl2 hown hpl hm2;generalize m+8=L at *
     have hLq:L=64*q:=by rw [<-HPL.o];exact HQ.o
     have HLQ:=sqH hLq;clear hLq;rw [show((8:Nat):Int)=(8:Int) from rfl]
     refine wL ?_;intros;have qa:=Arr.new wr 95 (wds h0s);have qb:=hbel.alloc hbel.size (aE (wds h0s).toArray 95);have qr:=hrd5.alloc (aE (wds h0s).toArray 95);have qw:0<L - 64*0->∃b off,A5=aG ⟨b,off,aF⟩/\b<wr.heap.size:=fun h=>by
      obtain⟨b,off,e,hb,_⟩:=hrd5.2 h;exact⟨b,off,e,hb⟩
     change Calls _ _ _ (wr.alloc (aE (wds h0s).toArray 95)) _;have hgb:=hbel.size;clear hbel hrd5 hk;generalize wr.alloc (aE (wds h0s).toArray 95)=wa at *
     generalize wr.heap.size=gh at *
     refine(Zq _).mono ?_;rintro e_ w5 ⟨rfl,qk,hb5⟩;dsimp only;have qa2:=qa.below hb5;have qr2:=qr.below hb5;have qb2:=wm qb hb5;have hga:=qa.lt;generalize wa.heap.size=gc at *
     have qr3:Rd w5 1 A5 (L - 64*0) (bys (P.drop (64*0))):=qr2;clear qa qb qr hb5 qr2
     refine wL ?_;intros;go_loopg [3] q (fun gn v wr=>∃k A' c',gn=q - k/\k<=q/\v= aA A' (L - 64*k) c'/\L - 64*k<=c'/\(0<L - 64*k->∃b off,A'=aG ⟨b,off,aF⟩/\b<gh)/\Rd wr 1 A' (L - 64*k) (bys (P.drop (64*k)))/\Arr wr gh 95 (wds (vy h0s (ku P) k))/\Rd wr 1 (aG ⟨gc,0,aF⟩) 64 (wds rks)/\Below w.heap.size w wr)
     case atStart=>exact⟨0,A5,c5,rfl,wu,rfl,hc5,qw,qr3,qa2,qk,qb2⟩
     case round =>
      clear qa2 qk qb2 qr3 qw;obtain⟨k,A',c',hgk,hk,rfl,hc',qw,qr,qa,qk,qb⟩:=hrel;have hclen:=kX h0s (ku P) rfl k;obtain⟨a0,a1,a2,a3,a4,a5,a6,a7,hch⟩:=Xx _ hclen;have HCH:=sqH hch;rw [hch]at qa;have HGK:=sqH hgk;by_cases hkq:k<q
      ·have hnx:=Yd h0s P k (wc HQ);have hclen2:=kX h0s (ku P) rfl (k+1);obtain⟨d0,d1,d2,d3,d4,d5,d6,d7,hch2⟩:=Xx _ hclen2;rw [hch,hch2]at hnx;have HCH2:=sqH hch2;have hr64:64<=L - 64*k:=by have:=HLQ.o;omega
       have hpd:(P.drop (64*k)).length=L - 64*k:=by rw [List.length_drop,HPL.o]
       have hdd:(P.drop (64*k)).drop 64=P.drop (64*(k+1)):=by rw [List.drop_drop];congr 1
       have hll:L - 64*k - 64=L - 64*(k+1):=wu;obtain⟨b,off,rfl,hbg⟩:=qw wu;clear qw;generalize hr1:L - 64*k=r at *
       obtain⟨HNX,HPD,HDD,HLL⟩:=sqJ4 hnx hpd hdd hll;have hr2:r<=n+72:=wu;generalize P.drop (64*k)=Q at *
       clear hch hch2 hclen hclen2 hgk hnx hpd hdd hll hr1;obtain⟨f0,f1,f2,f3,f4,f5,f6,f7⟩:=sqC8 qa
       refine wL ?_;intros;refine wZ (XR _ _ _ Q _ _ _ _ _ _ _ _ _ _ d0 d1 d2 d3 d4 d5 d6 d7 _ HNX.o HPD.o hr64 hc' wu qr qk wu) fun w6 hb6=>?_;dsimp only;have qa6:=qa.below hb6;have qr6:=qr.below hb6;have qk6:=qk.below hb6;have qb6:=wm qb hb6;clear qa qr qk qb hb6 f0 f1 f2 f3 f4 f5 f6 f7;obtain⟨f0,f1,f2,f3,f4,f5,f6,f7⟩:=sqC8 qa6;have z:=qa6.frozen;have i64:(64:Int)<=(r:Int):=wu;have i65:(r:Int)<=(c':Int):=wu;refine wL ?_;intros;go_roundg (q - (k+1))
       case measure=>exact wc HGK
       case rel =>
        have hcut:=(qr6.other8 (show b≠gh by omega) (aB .u32 (wd d0)) (aB .u32 (wd d1)) (aB .u32 (wd d2)) (aB .u32 (wd d3)) (aB .u32 (wd d4)) (aB .u32 (wd d5)) (aB .u32 (wd d6)) (aB .u32 (wd d7))).cutAt (k:=64) (c:=c') hr64 hc';rw [yM,HDD.o]at hcut;refine⟨k+1,_,c' - 64,rfl,wu,by rw [HLL.o],by rw [<-HLL.o];omega,fun _=> ?_,by rw [<-HLL.o];exact hcut,?_,qk6.other8 (show gc≠gh by omega) _ _ _ _ _ _ _ _,Below.set8 qb6 hgb _ _ _ _ _ _ _ _⟩
        ·split
         ·exact⟨_,_,rfl,hbg⟩
         ·exact⟨_,_,rfl,hbg⟩
        ·rw [HCH2.o];exact qa6.set8 _ _ _ _ _ _ _ _
      ·obtain rfl:k=q:=by omega
       have hL0:L - 64*k=0:=by have:=HLQ.o;omega
       rw [hL0];have hfin:=HFIN.o;rw [hch]at hfin;have hHl: [a0,a1,a2,a3,a4,a5,a6,a7].length=8:=rfl;have hidx:=fun j hj=>z5t a0 a1 a2 a3 a4 a5 a6 a7 j hj;have HIDX:=sqH hidx;have HFIN2:=sqH hfin;clear hidx hfin hch hgk HCH HFIN HGK qw qr qk hclen hL0 hkq hk hc' HQ HLQ;obtain⟨f0,f1,f2,f3,f4,f5,f6,f7⟩:=sqC8 qa;clear qa
       refine wL ?_;intros;clear f0 f1 f2 f3 f4 f5 f6 f7;go_loopg [8,52] 8 (fun gn v i wr=>∃j:Nat,gn=8 - j/\i= aB aC j/\j<=8/\wr.ownsRow w.heap.size 5 1 v (8*j) (bys (kH (wbs ([a0,a1,a2,a3,a4,a5,a6,a7].take j))))/\Below w.heap.size w wr)
       case atStart=>exact⟨0,rfl,rfl,wu,World.ownsRow_nil _ _ _ _,qb⟩
       case round =>
        clear qb;obtain⟨j,hgj,rfl,hj,hown,hbel⟩:=hrel;have HGJ:=sqH hgj;clear hgj;by_cases hj8:j<8
        ·obtain⟨x,hx,hxi⟩:=HIDX.o j hj8;have hwx:=KG [a0,a1,a2,a3,a4,a5,a6,a7] j hj8;have hxe: [a0,a1,a2,a3,a4,a5,a6,a7][j]'hj8=x:=by
          rw [List.getElem?_eq_getElem hj8]at hx;exact Option.some.inj hx
         rw [hxe]at hwx;have HWX:=sqH hwx;clear hwx hxe hx;have hjl:(j:Int)<8:=wu;have hjb:decide ((j:Int)<8)=true:=by simpa using hjl
         refine wL ?_;intros;have ho5:wr.ownsRow w.heap.size 5 1 u8 (8*j+0) (bys (kH (wbs ([a0,a1,a2,a3,a4,a5,a6,a7].take j))++z1p x 0)):=by
          rw [show z1p x 0= [] from rfl,List.append_nil];exact hown
         clear hown hxi;generalize hF:kH (wbs ([a0,a1,a2,a3,a4,a5,a6,a7].take j))=F at *
         have HF:=sqH hF;clear hF;go_loopg [8,55] 8 (fun gn v i wr=>∃k:Nat,gn=8 - k/\i= aB aC k/\k<=8/\wr.ownsRow w.heap.size 5 1 v (8*j+k) (bys (F++z1p x k))/\Below w.heap.size w wr)
         case atStart=>exact⟨0,rfl,rfl,wu,ho5,hbel⟩
         case round =>
          clear ho5 hbel;obtain⟨k,hgk,rfl,hk,hown,hbel⟩:=hrel;have HGK:=sqH hgk;clear hgk;by_cases hk8:k<8
          ·have hnb:=Je x k hk8;have hq16:x.toNat / 16 ^ (7 - k) % 16<16:=wu
           have hnib:nib x k=dig (x.toNat / 16 ^ (7 - k) % 16):=rfl;generalize x.toNat / 16 ^ (7 - k) % 16=qn at *
           have HNIB:=sqH hnib;clear hnib;have hwx0:=z2h x;have hwx1:=z2g x;have hkl:(k:Int)<8:=wu;refine wL ?_;intros;rw [dif_pos wu];simp only [z17,Result.andThen]
           refine wL ?_;intros;refine zj rfl (.tmp 58) (.tmp 66) rfl vu ac hown rfl rfl (by simp;rfl) wu hbel.size ?_;intro v7 w7 ho7 hg7 _;have hb7:=zh hbel hown ag hg7
           refine wL ?_;intros;go_roundg (8 - (k+1))
           case measure=>exact wc HGK
           case rel =>
            refine⟨k+1,rfl,by go_num,wu,?_,hb7⟩;rw [V7,<-List.append_assoc,q6 _ [_],HNIB.o];exact ho7
          ·obtain rfl:k=8:=by omega
           have ho6:wr.ownsRow w.heap.size 5 1 u8 (8*(j+1)) (bys (F++kH (wb x))):=by
            rw [<-Jf];exact hown
           clear hown
           refine wL ?_;intros;go_roundg (8 - (j+1))
           case measure=>exact wc HGJ
           case rel =>
            refine⟨j+1,rfl,by go_num,wu,?_,hbel⟩;rw [HWX.o,UU,HF.o];exact ho6
        ·obtain rfl:j=8:=by omega
         obtain⟨A8,c8,rfl,hc8,hrd8⟩:=Rd.of_own' hown;rw [List.take_of_length_le (show [a0,a1,a2,a3,a4,a5,a6,a7].length<=8 by rw [hHl];omega),<-HFIN2.o]at hrd8;have hstr:=kK (P:=zZZ) (w:=wr) (c:=c8) (src:=25) (dst:=9) underlying25 underlying5 underlying9 (Z2 l) hrd8;generalize hS:shaS l=S at *
         have HS:=sqH hS;clear hS
         refine wL ?_;intros;go_ret;rw [HS.o];exact⟨rfl,hbel⟩
  ·have hkz:=VQ n k h56 hk;have hb56:(((n+1+k:Nat):Int) % 64 != 56)=true:=by rw [bne_iff_ne];omega
   generalize hm1:n+1+k=m at *
   have HM:=sqH hm1;have hm2:m<=n+64:=wu;have HGK:=sqH hgk;clear hm1 h56 hgk
   refine wL ?_;intros;refine zj rfl (.tmp 20) (.tmp 21) rfl vu ac hown rfl rfl (by simp;rfl) wu hbel.size ?_;intro v2 w2 ho2 hg2 _;have hb2:=zh hbel hown ag hg2
   refine wL ?_;intros;go_roundg (xS n - (k+1))
   case measure=>exact wc HGK
   case rel =>
    refine⟨k+1,rfl,wu,?_,hb2⟩;rw [<-Nat.add_assoc,HM.o,List.replicate_succ',<-List.append_assoc,q6];exact ho2
theorem yA (A:aj) (n c:Nat) (l:ai) (w:World) (hl:l.length=n) (hc:n<=c) (hm:n<=140737488351232) (hr:Rd w 1 A n (bys l)) :
  Calls zZZ 11 #[aA A n c] w fun e w'=>e= .returned (aD ⟨(shaS l).toArray⟩)/\Below w.heap.size w w':=KL A n c l w hl hc wu hr
theorem Xw (a:UInt8) (h:¬val a<0):dig (val a).toNat=a:=by
 have key:∀n:Fin 256,¬val (UInt8.ofNat n.val)<0->dig (val (UInt8.ofNat n.val)).toNat=UInt8.ofNat n.val:=by decide +kernel
 have:=key ⟨a.toNat,a.toNat_lt⟩;rw [show UInt8.ofNat (a.toNat)=a from UInt8.ofNat_toNat]at this;exact this h
theorem um:∀(l r:ai),xn l=aG r->kH r=l
 | [],r,h=>by simp [xn]at h;subst h;rfl
 | [_],r,h=>by simp [xn]at h
 | a::b::l,r,h=>by
  rw [xn]at h
  split at h
  ·cases h
  ·rename_i hv
   simp only [Option.map_eq_some_iff]at h
   obtain⟨r',hr,rfl⟩:=h
   have ih:=um l r' hr
   have ra:=y9 a
   have rb:=y9 b
   have ea:=Xw a (fun h=>hv (.inl h))
   have eb:=Xw b (fun h=>hv (.inr h))
   show dig ((UInt8.ofNat (16*(val a).toNat+(val b).toNat)).toNat / 16)::dig ((UInt8.ofNat (16*(val a).toNat+(val b).toNat)).toNat % 16)::kH r'=_
   have e:(UInt8.ofNat (16*(val a).toNat+(val b).toNat)).toNat=16*(val a).toNat+(val b).toNat:=by rw [UInt8.toNat_ofNat'];omega
   rw [e,show(16*(val a).toNat+(val b).toNat) / 16=(val a).toNat by omega,show(16*(val a).toNat+(val b).toNat) % 16=(val b).toNat by omega,ea,eb,ih]
theorem XQ {s:ByteArray} {r:ai} {er:Nat} (E:Int) (hE:er=E) (h:kr s.data.toList=(r,er)) (w:World) (hs:s.size<=140737488351232) :
  Calls zZZ 20 #[aD s] w fun e w'=>∃A c,e= .returned (.tuple #[aA A r.length c,aB aC E])/\OwnB 5 w.heap.size w' A c r/\Below w.heap.size w w':=by
 subst hE;have:=ZG s w hs;rw [h]at this;exact this
theorem z0x (n k j:Nat) (hj:j+k=7):8*(n:Int) / 2 ^ (8*j) % 256=((UInt8.ofNat (8*n / 256 ^ (7 - k))).toNat:Int):=by
 have h:=JD n k wu;rw [show 56 - 8*k=8*j by omega]at h;rw [Int.mul_comm];exact h
theorem z3b (A:aj) (n c:Nat) (l:ai) (w:World) (hl:l.length=n) (hn:n<=2000) (hc:n<=c) (hr:Rd w 1 A n (bys l)) :
  Calls zZZ 172 #[aA A n c] w fun e w'=>∃A' c',e= .returned (.tuple #[aA A' (qo l).length c',aB aC 0])/\OwnB 5 w.heap.size w' A' c' (qo l)/\Below w.heap.size w w':=by
 have HL:=sqH hl;clear hl;go_enter func172,ntmps172
 refine wL ?_;intros;have hl:=HL.o;refine zG rfl (.const (aA aF 0 0)) (.tmp 10) rfl vu ac (World.ownsRow_nil w w.heap.size _ _) ac hr (kC _) wu ag ?_;intro v1 w1 ho1 hg1 _;have hb1:=zh (Below.refl _ _) (World.ownsRow_nil w w.heap.size 5 1) ag hg1;rw [List.nil_append,Nat.zero_add]at ho1
 refine wL ?_;intros;refine zj rfl (.tmp 11) (.tmp 12) rfl vu ac ho1 rfl rfl (by simp;rfl) wu hb1.size ?_;intro v2 w2 ho2 hg2 _;have hb2:=zh hb1 ho1 ag hg2;have ho3:w2.ownsRow w.heap.size 5 1 v2 (n+1+0) (bys (l++ [128]++List.replicate 0 0)):=by
  rw [List.replicate_zero,List.append_nil,q6];exact ho2
 clear hl ho1 ho2 hg2 hg1 hb1;go_wp2_with fail;go_loopg [4] (xS n) (fun gn v wr=>∃k,gn=xS n - k/\k<=xS n/\wr.ownsRow w.heap.size 5 1 v (n+1+k) (bys (l++ [128]++List.replicate k 0))/\Below w.heap.size w wr)
 case atStart=>exact⟨0,rfl,wu,ho3,hb2⟩
 case round =>
  clear ho3 hb2;obtain⟨k,hgk,hk,hown,hbel⟩:=hrel;obtain⟨A3,c3,rfl,hc3,hrd3⟩:=Rd.of_own' hown;have hz:xS n<=63:=by unfold xS;omega
  by_cases h56:(n+1+k) % 64=56
  ·have hkz:=KH n k h56 hk;have hb56:(((n+1+k:Nat):Int) % 64 != 56)=false:=by rw [bne_eq_false_iff_eq];omega
   generalize hm1:n+1+k=m at *
   have HM:=sqH hm1;have hm2:m<=n+64:=wu;clear hm1 h56 hgk;subst hkz;go_wp2_with fail;have ho4:wr.ownsRow w.heap.size 5 1 (aA A3 m c3) (m+0) (bys (l++ [128]++List.replicate (xS n) 0++(Qp (8*n)).take 0)):=by
    rw [List.take_zero,List.append_nil];exact hown
   clear hown hrd3 hc3 hb56;go_loopg [4,6] 8 (fun gn v i wr=>Below w.heap.size w wr/\((∃k j:Nat,gn=8 - k/\i= aB aC j/\j+k=7/\wr.ownsRow w.heap.size 5 1 v (m+k) (bys (l++ [128]++List.replicate (xS n) 0++(Qp (8*n)).take k))) \/
    (i= aB aC (-1)/\wr.ownsRow w.heap.size 5 1 v (m+8) (bys (l++ [128]++List.replicate (xS n) 0++(Qp (8*n)).take 8)))))
   case atStart=>exact⟨hbel,.inl ⟨0,7,rfl,rfl,rfl,ho4⟩⟩
   case round =>
    clear ho4 hbel;obtain⟨hbel,⟨k,j,hgk,rfl,hjk,hown⟩ | ⟨rfl,hown⟩⟩:=hrel
    ·have HGK:=sqH hgk;clear hgk;have HJK:=sqH hjk;have hk7:k<=7:=wu
     have hj7:j<=7:=wu;clear hjk;have hbn:=Xl (8*n) k wu;have HBN:=sqH hbn;clear hbn
     refine wL ?_;intros;refine zj rfl (.tmp 28) (.tmp 34) rfl vu ac hown rfl rfl (by simp;rfl) wu hbel.size ?_;intro v2 w2 ho2 hg2 _;have hb2:=zh hbel hown ag hg2;rw [z0x n k j HJK.o]at ho2;have ho9:w2.ownsRow w.heap.size 5 1 v2 (m+(k+1)) (bys (l++ [128]++List.replicate (xS n) 0++(Qp (8*n)).take (k+1))):=by
      rw [HBN.o,<-List.append_assoc,q6 _ [_]];exact ho2
     by_cases hj0:j=0
     ·subst hj0;go_wp2_with fail;go_roundg 0
      case measure=>exact wc HGK
      case rel =>
       have hk:k=7:=by have:=HJK.o;omega
       subst hk;exact⟨hb2,.inr ⟨by go_num,ho9⟩⟩
     ·have hj1:1<=j:=wu
      clear hj0;go_wp2_with fail;go_roundg (8 - (k+1))
      case measure=>exact wc HGK
      case rel=>exact⟨hb2,.inl ⟨k+1,j - 1,rfl,by go_num,by have:=HJK.o;omega,ho9⟩⟩
    ·have hsp:l++ [128]++List.replicate (xS n) 0++(Qp (8*n)).take 8=qo l:=by
      rw [List.take_of_length_le (by rw [Zn];omega)];unfold qo;rw [HL.o]
     have hpl2:(qo l).length=m+8:=by rw [<-hsp];have:=HM.o;have:=HL.o;simp [Zn];omega
     rw [hsp]at hown;clear hsp;obtain⟨A5,c5,rfl,hc5,hrd5⟩:=Rd.of_own' hown;have HPL:=sqH hpl2;clear hpl2 hown
     refine wL ?_;intros;refine zG rfl (.const (aA aF 0 0)) (.tmp 36) rfl vu ac (World.ownsRow_nil wr w.heap.size _ _) ac hrd5 (kC _) wu hbel.size ?_;intro v8 w8 ho8 hg8 _;have hb8:=zh hbel (World.ownsRow_nil wr w.heap.size 5 1) ag hg8;rw [List.nil_append,Nat.zero_add]at ho8;obtain⟨A9,c9,rfl,ho9⟩:=OwnB.of HPL.o ho8;go_wp2_with fail;go_ret2;exact⟨A9,c9,rfl,ho9,hb8⟩
  ·have hkz:=VQ n k h56 hk;have hb56:(((n+1+k:Nat):Int) % 64 != 56)=true:=by rw [bne_iff_ne];omega
   generalize hm1:n+1+k=m at *
   have HM:=sqH hm1;have hm2:m<=n+64:=wu;have HGK:=sqH hgk;clear hm1 h56 hgk
   refine wL ?_;intros;refine zj rfl (.tmp 18) (.tmp 19) rfl vu ac hown rfl rfl (by simp;rfl) wu hbel.size ?_;intro v2 w2 ho2 hg2 _;have hb2:=zh hbel hown ag hg2;go_wp2_with fail;go_roundg (xS n - (k+1))
   case measure=>exact wc HGK
   case rel =>
    refine⟨k+1,rfl,wu,?_,hb2⟩;rw [<-Nat.add_assoc,HM.o,List.replicate_succ',<-List.append_assoc,q6];exact ho2
def hexC (l:ai):Nat:=if l.length≠64 then 1 else (kr l).2
theorem kG (s:ByteArray) (w:World) (hs:s.size<=140737488351232) :
  Calls zZZ 39 #[aD s] w fun e w'=>e= .returned (aB aC (hexC s.data.toList))/\Below w.heap.size w w':=by
 have hsz:s.data.toList.length=s.size:=by rw [Array.length_toList];rfl
 by_cases h64:s.size=64
 ·have hb:((s.size:Int) != 64)=false:=by rw [bne_eq_false_iff_eq];omega
  have hfin:hexC s.data.toList=(kr s.data.toList).2:=by rw [hexC,if_neg wu]
  have HF:=sqH hfin;clear hfin hsz h64;go_enter func39,ntmps39;go_wp2_with fail;refine(ZG s _ hs).mono ?_;rintro e_ w1 ⟨A1,c1,rfl,ho1,hb1⟩;dsimp only;go_wp2_with fail;go_ret;rw [HF.o];exact⟨rfl,hb1⟩
 ·have hb:((s.size:Int) != 64)=true:=by rw [bne_iff_ne];omega
  have hfin:hexC s.data.toList=1:=by rw [hexC,if_pos wu]
  have HF:=sqH hfin;clear hfin hsz h64;go_enter func39,ntmps39;go_wp2_with fail;go_ret;rw [HF.o];exact⟨rfl,Below.refl _ _⟩
open Go.ChangeShapes Go.WideShapes Go.ChangeAt
open Go.WideMaps Go.WideElems
open Go.ChangeMaps (open_string shut_string)
theorem own:ownKnob zZZ.godebug=none:=by kernel_rfl
theorem z1m:laidOutB zZZ=true:=by kernel_rfl
section
variable {H:Type} {enc:TypeId×Value->H} {P:Program}
theorem xO (hl:laidOutB P=true) {W W':World} (hb:Below W.heap.size W W'):∀(ts:List TypeId) (vs:ak) (ds:List (DataW H)) (ps:List MemPlace),
  ts.all (fun t=>P.readableRec t&&decide (t<P.types.size))=true->DataW.TrodAll enc P W 0 (fun _=>true) true ts vs ds ps->(∀x∈ps,x.block<W.heap.size) ->
  DataW.TrodAll enc P W' 0 (fun b=>decide (b<W.heap.size)) true ts vs ds ps
 | [],vs,ds,ps,_,h,_=>by
  obtain⟨rfl,rfl,rfl⟩:=trodAll_nil h
  rfl
 | t::ts,vs,ds,ps,hr,h,hlt=>by
  obtain⟨v,vs',d,ds',p,q,rfl,rfl,rfl,h1,h2⟩:=trodAll_cons h
  simp only [List.all_cons,Bool.and_eq_true,decide_eq_true_eq]at hr
  exact⟨p,q,Below.trod hl hr.1.1 hr.1.2 h1 hb (fun x hx=>hlt x (List.mem_append_left _ hx)),
   xO hl hb ts vs' ds' q hr.2 h2 (fun x hx=>hlt x (List.mem_append_right _ hx)),rfl⟩
theorem uB {w:World} {base:Nat} {sp:Nat->Bool} {held:Bool}:∀(ts:List TypeId) (vs:ak) (ds:List (DataW H)) (ps:List MemPlace),
  DataW.TrodAll enc P w base sp held ts vs ds ps->ds.length=ts.length
 | [],vs,ds,ps,h=>by obtain⟨_,rfl,_⟩:=trodAll_nil h;rfl
 | t::ts,vs,ds,ps,h=>by
  obtain⟨v,vs',d,ds',p,q,rfl,rfl,rfl,h1,h2⟩:=trodAll_cons h
  simp [uB ts vs' ds' q h2]
theorem J0 {k:FuncId} {fn:Func} {s:ChangeSpec} {args:Array Value} {ds gs:List (DataW H)} {before:List MemPlace} {tb:TypeId}
  (hl:laidOutB P=true) (hr:fn.params.toList.all (fun t=>P.readableRec t&&decide (t<P.types.size))=true) (hv:s.vars= [])
  (hs:∀ds:List (DataW H),ds.length=fn.params.toList.length->s.fn H (ds++ [])= { results:= [.lit (.bool true)],args:=ds })
  (ht:fn.resultTypes=#[tb]) (hb:P.underlying tb=some .bool)
  (hW:DataW.Whole enc P fn.params.toList s.vars false W args.toList ds gs before)
  (walk:Calls P k args W fun e W'=>e= .returned (.bool true)/\Below W.heap.size W W') :
  Calls P k args W fun e W'=>∃v,e= .returned v/\s.post enc P fn false true false false W args v W':=by
 refine walk.mono fun e W' ⟨he,hbel⟩=>⟨_,he,?_⟩
 have hW0:=hW;obtain⟨p,q,hA,hV,rfl,_,_⟩:=hW;rw [hv]at hV;have hg:gs= []/\q= []:=by
  cases gs with
  | nil=>exact⟨rfl,hV⟩
  | cons g gs=>exact hV.elim
 obtain⟨rfl,rfl⟩:=hg;have hlt:∀x∈p,x.block<W.heap.size:=fun x hx=>by simpa using hW0.lt x (List.mem_append_left _ hx)
 have e1:=hs ds (uB _ _ _ _ hA);refine⟨ds, [],p++ [], [],p, [],hW0,?_,?_,?_,hbel.frame _,fun h=>by cases h⟩
 ·rw [e1,ht];exact⟨[], [],shut_bool hb true,rfl,rfl⟩
 ·rw [e1];exact xO hl hbel _ _ _ _ hr hA hlt
 ·rw [e1,hv];rfl
theorem UE {H:Type} (d:DataW H):1<=Rows.uptoBulk d:=by
 cases d with
 | lit l=>cases l<;>simp [Rows.uptoBulk]
 | nil=>simp [Rows.uptoBulk]
 | ptr d=>simp [Rows.uptoBulk]
 | slice elems spare=>simp [Rows.uptoBulk]
 | agg aP=>simp [Rows.uptoBulk]
 | iface t d=>simp [Rows.uptoBulk]
 | map entries=>simp [Rows.uptoBulk]
 | held h=>simp [Rows.uptoBulk]
theorem UD {H:Type} (l:List (DataW H)):l.length<=Rows.uptoBulkAll l:=by
 induction l with
 | nil=>simp [Rows.uptoBulkAll]
 | cons x r ih=>have:=UE x;simp only [Rows.uptoBulkAll,List.length_cons];omega
theorem VO {n:Int} (h:(Lit.int aC n).wf=true): -9223372036854775808<=n/\n<=9223372036854775807:=by
 have e1:IntKind.i64.min= -9223372036854775808:=aa;have e2:IntKind.i64.max=9223372036854775807:=aa;simp [Lit.wf,e1,e2]at h;omega
theorem VC (h:w.cell? a=some v):a.spot=none:=by
 unfold World.cell? at h;cases hs:a.spot with
 | none=>rfl
 | some _ =>
  simp only [hs,Option.isSome_some,if_true]at h;split at h<;>cases h
section
variable {w:World} {ts:List TypeId} {ds:List (DataW H)} {ps:List MemPlace} {r:Reach} {b0:Nat}
end
end
open Go.Deep
structure RawP where
 kind:Int
 a:Int
 b:Int
 text:ByteArray
structure RawOk (r:RawP):Prop where
 k0: -9223372036854775808<=r.kind
 k1:r.kind<=9223372036854775807
 a0: -9223372036854775808<=r.a
 a1:r.a<=9223372036854775807
 b0: -9223372036854775808<=r.b
 b1:r.b<=9223372036854775807
 t:r.text.size<=140737488351232
def vf (r:RawP):ak:= [aB aC r.kind,aB aC r.a,aB aC r.b,.string r.text]
def rcs (l:List RawP):ak:=l.flatMap vf
theorem Vn (l:List RawP):(rcs l).length=l.length*4:=by
 induction l with
 | nil=>rfl
 | cons x l ih=>simp only [rcs,List.flatMap_cons,List.length_append,List.length_cons] at *;rw [ih];simp [vf];omega
theorem Vm:∀(l:List RawP) (k j:Nat) (h:k<l.length) (hj:j<4),(rcs l)[k*4+j]?=(vf l[k])[j]?
 | x::l,0,j,h,hj=>by
  show(vf x++rcs l)[0*4+j]?=(vf x)[j]?
  rw [Nat.zero_mul,Nat.zero_add,List.getElem?_append_left (by simpa [vf] using hj)]
 | x::l,k+1,j,h,hj=>by
  show(vf x++rcs l)[(k+1)*4+j]?=_
  rw [List.getElem?_append_right (by simp [vf];omega),show(k+1)*4+j - (vf x).length=k*4+j by simp [vf];omega,Vm l k j (by simpa using h) hj]
  rfl
theorem uh {α:Type} (P:Nat->α->Prop):∀n,(∀i,i<n->∃r,P i r)->∃l:List α,l.length=n/\∀i (h:i<l.length),P i l[i]
 | 0,_=>⟨[],rfl,fun i h=>absurd h ab⟩
 | n+1,h=>by
  obtain⟨l,hl,hp⟩:=uh P n (fun i hi=>h i wu)
  obtain⟨r,hr⟩:=h n wu
  refine⟨l++ [r],by simp [hl],fun i hi=> ?_⟩
  by_cases hin:i<l.length
  ·rw [List.getElem_append_left hin];exact hp i hin
  ·have:i=n:=by simp at hi;omega
   subst this
   rw [List.getElem_append_right wu]
   simpa [hl] using hr
section
variable {H:Type} {enc:TypeId×Value->H}
theorem x9 {P:Program} {e:TypeId} {d:DataW H} {x:Nat}:∀ {l:List (DataW H)},d∈l->x∈d.weights P e->x∈DataW.weightsAll P e l
 | y::l,h,hx=>by
  simp only [DataW.weightsAll,List.mem_append]
  cases List.mem_cons.1 h with
  | inl h=>exact .inl (h▸hx)
  | inr h=>exact .inr (x9 h hx)
theorem z1v {cs:ak} {x:DataW H×List MemPlace} (hc:w.cells? 0 a 4=some cs) (h:DataW.trod enc zZZ w 0 (fun _=>true) true n 51 cs=some x) :
  ∃r:RawP,(∀j,j<4->w.cell? (a.add j)=(vf r)[j]?)/\r.text.size∈x.1.weights zZZ 51 /\
   ((Lit.int aC r.kind).wf=true/\(Lit.int aC r.a).wf=true/\(Lit.int aC r.b).wf=true):=by
 obtain⟨_,hlen,hcell⟩:=World.cells?_some hc;obtain⟨xs,m,_,hx,_,hxl,hf⟩:=DataW.trod_struct underlying51 h
 match cs,hlen with
 | [c0,c1,c2,c3],_ =>
  match xs,hxl with
  | [y0,y1,y2,y3],_ =>
   have hci:zZZ.cellsOf 3=1:=ww;have hcs:zZZ.cellsOf 9=1:=ww;have h0:DataW.trod enc zZZ w 0 (fun _=>true) true m 3 (([c0,c1,c2,c3].drop 0).take (zZZ.cellsOf 3))=some y0:=hf 0 _ rfl;have h1:DataW.trod enc zZZ w 0 (fun _=>true) true m 3 (([c0,c1,c2,c3].drop 1).take (zZZ.cellsOf 3))=some y1:=hf 1 _ rfl;have h2:DataW.trod enc zZZ w 0 (fun _=>true) true m 3 (([c0,c1,c2,c3].drop 2).take (zZZ.cellsOf 3))=some y2:=hf 2 _ rfl;have h3:DataW.trod enc zZZ w 0 (fun _=>true) true m 9 (([c0,c1,c2,c3].drop 3).take (zZZ.cellsOf 9))=some y3:=hf 3 _ rfl;rw [hci]at h0 h1 h2;rw [hcs]at h3;obtain⟨n0,e0,f0,g0⟩:=DataW.trod_int (k:= aC) underlying3 h0;obtain⟨n1,e1,f1,g1⟩:=DataW.trod_int (k:= aC) underlying3 h1;obtain⟨n2,e2,f2,g2⟩:=DataW.trod_int (k:= aC) underlying3 h2;obtain⟨s3,e3,f3,g3⟩:=DataW.trod_string underlying9 h3;have e0':c0= aB aC n0:=by simpa using e0
   have e1':c1= aB aC n1:=by simpa using e1
   have e2':c2= aB aC n2:=by simpa using e2
   have e3':c3= .string s3:=by simpa using e3
   subst e0' e1' e2' e3';refine⟨⟨n0,n1,n2,s3⟩,fun j hj=>hcell j hj,?_,g0,g1,g2⟩;rw [hx,f0,f1,f2,f3];show s3.size∈DataW.weights zZZ 51 (.agg [_,_,_,_]);rw [DataW.weights,underlying51];simp [DataW.weightsEach,DataW.weights]
variable {w:World} {ts:List TypeId} {ds:List (DataW H)} {ps:List MemPlace} {r:Reach} {b0:Nat}
theorem Vc {d:DataW H} {j:Nat} (hval:Value.okWide zZZ w r b0 22 v) (hd:DataW.Trod enc zZZ w 0 (fun _=>true) true 22 v d ps)
  (hsz:(DataW.weightsEach zZZ ts ds).all (· <= reachBytes)=true) (hj:ts[j]?=some 22) (hdj:ds[j]?=some d) :
  ∃A n c,∃l:List RawP,v= aA A n c/\l.length=n/\n<=c/\c*zZZ.bytesOf 51<=140737488351232/\c<=maxLen/\(∀z∈l,RawOk z)/\n<=Rows.uptoBulk d/\Rd w 4 A n (rcs l):=by
 have ht:=underlying22;have hC:zZZ.cellsOf 51=4:=ww;obtain⟨a0,len,cap,rfl⟩:=okWide_slice ht hval;obtain⟨fuel,hf⟩:=hd;rcases open_slice ht hf with ⟨hcs,hx⟩ | ⟨a,len',cap',m,n,D,Pl,hcs,_,hl,hm,hmm,hx,hi⟩
 ·have:aA a0 len cap= aA none 0 0:=by simpa [Value.cells] using hcs
  injection this with e1 e2 e3;subst e1 e2 e3;exact⟨none,0,0, [],rfl,rfl,Nat.le_refl _,wu,by simp [maxLen],ab,Nat.zero_le _,Rd.nil_⟩
 ·have:aA a0 len cap= aA (some a) len' cap':=by simpa [Value.cells] using hcs
  injection this with e1 e2 e3;subst e1 e2 e3;simp only [if_true]at hmm;subst hmm;have hd:d= .slice ((List.range len).map D) ((List.range (m - len)).map fun j=>D (len+j)):=by
   have:=congrArg Prod.fst hx;simpa using this
  subst hd;have hs:=sized_slice hsz hj hdj ht;simp only [List.length_map,List.length_range]at hs;rw [show len+(m - len)=m by omega]at hs;have hone:∀i,i<len->∃z:RawP,RawOk z/\∀j,j<4->w.cell? (a.add (i*4+j))=(vf z)[j]?:=fun i hin=>by
   obtain⟨cs',hc,ht'⟩:=hi i wu;rw [hC]at hc;obtain⟨z,hz,hw,hk,ha,hb⟩:=z1v hc ht';have hmem:z.text.size∈DataW.weightsEach zZZ ts ds:=by
    refine DataW.weights_mem_each hj hdj _ ?_;rw [DataW.weights,ht];simp only [List.mem_cons,List.mem_append];exact .inr (.inl (x9 (List.mem_map.2 ⟨i,List.mem_range.2 hin,rfl⟩) hw))
   have hle:=List.all_eq_true.1 hsz _ hmem;have hk':=VO hk;have ha':=VO ha;have hb':=VO hb;refine⟨z,⟨hk'.1,hk'.2,ha'.1,ha'.2,hb'.1,hb'.2,by simpa [reachBytes] using of_decide_eq_true hle⟩,fun j hj=> ?_⟩;rw [<-hz j hj,z3c]
  obtain⟨l,hll,hlp⟩:=uh _ len hone;refine⟨some a,len,m,l,rfl,hll,hl,by simpa [reachBytes] using hs,hm,fun z hz=> ?_,?_,⟨by rw [Vn,hll],fun hn=> ?_⟩⟩
  ·obtain⟨i,hi,rfl⟩:=List.mem_iff_getElem.1 hz;exact(hlp i hi).1
  ·have h1:=UD (H:=H) ((List.range len).map D);simp only [List.length_map,List.length_range]at h1;simp only [Rows.uptoBulk];omega
  ·have h0:=(hlp 0 wu).2 0 wu;have hsp:a.spot=none:=VC (w:=w) (v:= aB aC (l[0]'(by omega)).kind) (by have:=h0;simpa [Addr.add,vf] using this);obtain⟨b,off,spot⟩:=a;simp only at hsp;subst hsp;have hadd:∀i,(⟨b,off,none⟩:Addr).add i=⟨b,off+i,none⟩:=fun i=>by unfold Addr.add;split<;>simp_all
   refine⟨b,off,rfl,World.block_lt_of_cell? w ((⟨b,off,none⟩:Addr).add (0*4+0)) (u:= aB aC (l[0]'(by omega)).kind) (by rw [h0];rfl),fun i u hu=> ?_⟩;have hil:=(List.getElem?_eq_some_iff.1 hu).1;rw [Vn]at hil;have hk:i / 4<l.length:=wu;have h2:=(hlp (i / 4) hk).2 (i % 4) wu;rw [<-Vm l (i / 4) (i % 4) hk wu,show i / 4*4+i % 4=i by omega,hu,hadd]at h2;exact h2
end
def pk (n:Int) (m:Nat):Nat:=((if n<0 then -(n+1) else n) % m).toNat
theorem yo (n:Int) {m:Nat} (h:0<m):pk n m<m:=by
 unfold pk;have:=Int.emod_lt_of_pos (if n<0 then -(n+1) else n) (show(0:Int)<m by omega);omega
theorem qf (n:Int) (m:Nat) (M:Int) (hM:M=m) (w:World) (h0: -9223372036854775808<=n) (h1:n<=9223372036854775807) (hm:0<m) (hm2:m<=9223372036854775807) :
  Calls zZZ 10 #[aB aC n,aB aC M] w fun e w'=>e= .returned (aB aC (pk n m:Nat))/\w=w':=by
 by_cases hn:n<0
 ·go_enter func10,ntmps10;go_wp2_with fail;go_ret;refine⟨?_,rfl⟩;show Ending.returned (aB aC (-((n+1).tmod m)))=_;unfold pk;rw [if_pos hn,<-Int.neg_tmod,Int.tmod_eq_emod_of_nonneg wu];have:=Int.emod_nonneg (-(n+1)) (show(m:Int)≠0 by omega)
  congr 2;omega
 ·go_enter func10,ntmps10
  refine wL ?_;intros;go_ret;refine⟨?_,rfl⟩;show Ending.returned (aB aC (n % m))=_;unfold pk;rw [if_neg hn];have:=Int.emod_nonneg n (show(m:Int)≠0 by omega)
  congr 2;omega
structure PartP where
 name:ai
 dig:ai
 size:Nat
def yn (p:PartP):ak:= [aD ⟨p.name.toArray⟩,aD ⟨p.dig.toArray⟩,aB aC p.size]
def pcs (l:List PartP):ak:=l.flatMap yn
theorem Vh (l m:List PartP):pcs (l++m)=pcs l++pcs m:=by simp [pcs]
theorem yu:∀(l:List PartP) (k j:Nat) (h:k<l.length) (hj:j<3),(pcs l)[k*3+j]?=(yn l[k])[j]?
 | x::l,0,j,h,hj=>by
  show(yn x++pcs l)[0*3+j]?=(yn x)[j]?
  rw [Nat.zero_mul,Nat.zero_add,List.getElem?_append_left (by simpa [yn] using hj)]
 | x::l,k+1,j,h,hj=>by
  show(yn x++pcs l)[(k+1)*3+j]?=_
  rw [List.getElem?_append_right (by simp [yn];omega),show(k+1)*3+j - (yn x).length=k*3+j by simp [yn];omega,yu l k j (by simpa using h) hj]
  rfl
theorem jX (l:List PartP):∀u∈pcs l,u.oneCell'=true:=by
 intro u hu;simp only [pcs,List.mem_flatMap]at hu;obtain⟨r,_,hu⟩:=hu;simp only [yn,List.mem_cons,List.not_mem_nil,or_false]at hu;rcases hu with rfl | rfl | rfl<;>rfl
theorem Xz:El zZZ 26 85 3 40:=El.mk' (z:= .agg #[aD ByteArray.empty,aD ByteArray.empty,aB aC 0]) underlying26 ww rfl wu wu
structure BlobP where
 dig:ai
 data:ai
 aQ:Nat
 mark:Bool
structure EntP where
 key:ai
 aP:List PartP
 aQ:Nat
 aO:Nat
structure StoP where
 aI:List BlobP
 aJ:List EntP
 aL:Nat
 aK:Nat
def zX (b:BlobP) (A:aj) (c:Nat):ak:= [aD ⟨b.dig.toArray⟩,aA A b.data.length c,aB aC b.aQ,.bool b.mark]
def ko (x:EntP) (A:aj) (c:Nat):ak:= [aD ⟨x.key.toArray⟩,aA A x.aP.length c,aB aC x.aQ,aB aC x.aO]
def BlobS:Shp BlobP where
 size:=4
 R w b cs:=∃A c,cs=zX b A c/\Sl w 1 A b.data.length c (bys b.data)
 len:=by rintro w b cs ⟨A,c,rfl,_⟩;rfl
 one:=by
  rintro w b cs ⟨A,c,rfl,_⟩ u hu
  simp only [zX,List.mem_cons,List.not_mem_nil,or_false]at hu
  rcases hu with rfl | rfl | rfl | rfl<;>rfl
 live:=by
  rintro w b cs ⟨A,c,rfl,h⟩ g ⟨a,n,c',hm,rfl⟩
  simp only [zX,List.mem_cons,List.not_mem_nil,or_false,Value.slice.injEq,reduceCtorEq,false_or]at hm
  obtain⟨e1,_⟩:=hm
  exact h.live a e1.symm
 keep:=by
  rintro w w' b cs ⟨A,c,rfl,h⟩ hs hk
  exact⟨A,c,rfl,h.keep hs fun g hg ⟨a,ha,hb⟩=>hk g hg ⟨a,b.data.length,c,by subst ha;simp [zX],hb⟩⟩
def EntS:Shp EntP where
 size:=4
 R w x cs:=∃A c,cs=ko x A c/\Sl w 3 A x.aP.length c (pcs x.aP)
 len:=by rintro w b cs ⟨A,c,rfl,_⟩;rfl
 one:=by
  rintro w b cs ⟨A,c,rfl,_⟩ u hu
  simp only [ko,List.mem_cons,List.not_mem_nil,or_false]at hu
  rcases hu with rfl | rfl | rfl | rfl<;>rfl
 live:=by
  rintro w b cs ⟨A,c,rfl,h⟩ g ⟨a,n,c',hm,rfl⟩
  simp only [ko,List.mem_cons,List.not_mem_nil,or_false,Value.slice.injEq,reduceCtorEq,false_or]at hm
  obtain⟨e1,_⟩:=hm
  exact h.live a e1.symm
 keep:=by
  rintro w w' b cs ⟨A,c,rfl,h⟩ hs hk
  exact⟨A,c,rfl,h.keep hs fun g hg ⟨a,ha,hb⟩=>hk g hg ⟨a,b.aP.length,c,by subst ha;simp [ko],hb⟩⟩
def z5p:Shp (ai) where
 size:=1
 R w s cs:=cs= [aD ⟨s.toArray⟩]
 len:=by rintro w b cs rfl;rfl
 one:=by
  rintro w b cs rfl u hu
  simp only [List.mem_cons,List.not_mem_nil,or_false]at hu
  subst hu;rfl
 live:=by
  rintro w b cs rfl g ⟨a,n,c',hm,rfl⟩
  simp at hm
 keep:=by
  rintro w w' b cs rfl hs hk
  rfl
section
variable {w:World} {A:aj}
theorem Rw.blob_at {l:List BlobP} (h:Rw BlobS w A l) (k:Nat) (hk:k<l.length) :
  ∃b off B c,A=some ⟨b,off,none⟩/\b<w.heap.size/\w.cell? ⟨b,off+k*4,none⟩=some (aD ⟨l[k].dig.toArray⟩)/\w.cell? ⟨b,off+k*4+1,none⟩=some (aA B l[k].data.length c) /\
   w.cell? ⟨b,off+k*4+2,none⟩=some (aB aC (l[k].aQ:Int))/\w.cell? ⟨b,off+k*4+3,none⟩=some (.bool l[k].mark)/\Sl w 1 B l[k].data.length c (bys l[k].data):=by
 obtain⟨b,off,cs,rfl,hb,⟨B,c,rfl,hs⟩,hc⟩:=h.at_ k hk;exact⟨b,off,B,c,rfl,hb,hc 0 _ rfl,hc 1 _ rfl,hc 2 _ rfl,hc 3 _ rfl,hs⟩
theorem Rw.ent_at {l:List EntP} (h:Rw EntS w A l) (k:Nat) (hk:k<l.length) :
  ∃b off B c,A=some ⟨b,off,none⟩/\b<w.heap.size/\w.cell? ⟨b,off+k*4,none⟩=some (aD ⟨l[k].key.toArray⟩)/\w.cell? ⟨b,off+k*4+1,none⟩=some (aA B l[k].aP.length c) /\
   w.cell? ⟨b,off+k*4+2,none⟩=some (aB aC (l[k].aQ:Int))/\w.cell? ⟨b,off+k*4+3,none⟩=some (aB aC (l[k].aO:Int))/\Sl w 3 B l[k].aP.length c (pcs l[k].aP):=by
 obtain⟨b,off,cs,rfl,hb,⟨B,c,rfl,hs⟩,hc⟩:=h.at_ k hk;exact⟨b,off,B,c,rfl,hb,hc 0 _ rfl,hc 1 _ rfl,hc 2 _ rfl,hc 3 _ rfl,hs⟩
theorem Yv (ss:List ai):cls (ss.map fun s=>(s, [aD ⟨s.toArray⟩]))=ss.map fun s=> aD ⟨s.toArray⟩:=by
 induction ss with
 | nil=>rfl
 | cons s ss ih=>rw [List.map_cons,qj,ih];rfl
theorem Rw.strs {ss:List ai} (h:Rw z5p w A ss):Rd w 1 A ss.length (ss.map fun s=> aD ⟨s.toArray⟩):=by
 obtain⟨ps,rfl,h2,h3⟩:=h;have e1:ps=(ps.map (·.1)).map fun s=>(s, [aD ⟨s.toArray⟩]):=by
  rw [List.map_map]
  conv=>lhs;rw [<-List.map_id ps]
  refine List.map_congr_left fun p hp=> ?_;have h4:p.2=_:=h2 p hp;exact Prod.ext rfl h4
 have e2:cls ps=(ps.map (·.1)).map fun s=> aD ⟨s.toArray⟩:=by
  conv=>lhs;rw [e1]
  exact Yv _
 rw [e2]at h3;exact h3
end
def Xb (w:World) (l:List BlobP) (f:FuncId) (x:Value) (p:BlobP->Bool):Prop :=
 (∀args W,(callFunc f args).run zZZ W= .ok (.enter f args) W)/\∀(b:BlobP) (B:aj) (cb:Nat) (W:World),b∈l->Below w.heap.size w W->Sl W 1 B b.data.length cb (bys b.data) ->
  Calls zZZ f #[.agg #[aD ⟨b.dig.toArray⟩,aA B b.data.length cb,aB aC b.aQ,.bool b.mark],x] W fun e w'=>e= .returned (.bool (p b))/\Below W.heap.size W w'
def JB (w:World) (l:List EntP) (f:FuncId) (x:Value) (p:EntP->Bool):Prop :=
 (∀args W,(callFunc f args).run zZZ W= .ok (.enter f args) W)/\∀(b:EntP) (B:aj) (cb:Nat) (W:World),b∈l->Below w.heap.size w W->Sl W 3 B b.aP.length cb (pcs b.aP) ->
  Calls zZZ f #[.agg #[aD ⟨b.key.toArray⟩,aA B b.aP.length cb,aB aC b.aQ,aB aC b.aO],x] W fun e w'=>e= .returned (.bool (p b))/\Below W.heap.size W w'
def plc (r:Option Nat):Int:=match r with | some i=>(i:Int) | none=> -1
theorem Qg (A:aj) (c:Nat) (l:List BlobP) (f:FuncId) (x:Value) (p:BlobP->Bool) (w:World) (hl:l.length<=1000000) (hA:Rw BlobS w A l) (HC:Xb w l f x p) :
  Calls zZZ 121 #[aA A l.length c,.func (.func f) #[] #[x]] w fun e w'=>e= .returned (aB aC (plc (l.findIdx? p)))/\Below w.heap.size w w':=by
 obtain⟨hcf,hcc0⟩:=HC;have HCC:=sqH hcc0;clear hcc0;generalize hR:l.findIdx? p=R;have HR:=sqH hR;clear hR;go_enter func121,ntmps121;go_wp2_with fail;go_loopg [5,8] l.length (fun gn u i wr=>∃j:Nat,gn=l.length - j/\i= aB aC j/\j<=l.length/\(∀k (h:k<l.length),k<j->p l[k]=false)/\Below w.heap.size w wr)
 case atStart=>exact⟨0,rfl,rfl,wu,fun k _ h=>absurd h wu,Below.refl _ _⟩
 case round =>
  obtain⟨j,hgk,rfl,hj,hno,hbl⟩:=hrel;have HGK:=sqH hgk;have HNO:=sqH hno;clear hgk hno;by_cases hlt:j<l.length
  ·have hcc:decide (j<l.length)=true:=decide_eq_true hlt;obtain⟨b,off,B,cb,rfl,hbb,c0,c1,c2,c3,hs⟩:=(hA.below hbl).blob_at j hlt;have hcl:=HCC.o l[j] B cb wr (List.getElem_mem hlt) hbl hs;have hj0:=we j
   have hj1:(j:Int)<(l.length:Int):=wu;cases hp:p l[j] with
   | true =>
    have HF:=sqH (show R=some j by
     rw [<-HR.o,List.findIdx?_eq_some_iff_getElem];exact⟨hlt,hp,fun k hk=>by rw [HNO.o k wu hk];simp⟩)
    rw [hp]at hcl;have HCL:=sqH hcl;clear hp hs hcl;generalize l[j]=bl at *
    go_wp2_with fail;refine wZ HCL.o fun w5 hb5=>?_;dsimp only;have hb05:=wm hbl hb5;go_wp2_with fail;go_ret;rw [HF.o];exact⟨rfl,hb05⟩
   | false =>
    have HN:=sqH (show ∀k (h:k<l.length),k<j+1->p l[k]=false from fun k h hk=>by
     rcases Nat.lt_or_ge k j with h1 | h1
     ·exact HNO.o k h h1
     ·have:k=j:=by omega
      subst this;exact hp)
    rw [hp]at hcl;have HCL:=sqH hcl;clear hp hs hcl;generalize l[j]=bl at *
    go_wp2_with fail;refine wZ HCL.o fun w5 hb5=>?_;dsimp only;have hb05:=wm hbl hb5;go_wp2_with fail;go_roundg (l.length - (j+1))
    case measure=>exact wc HGK
    case rel=>exact⟨j+1,rfl,by go_num,wu,HN.o,hb05⟩
  ·obtain rfl:j=l.length:=by omega
   have hcc:decide (l.length<l.length)=false:=ab;have HF:=sqH (show R=none by
    rw [<-HR.o,List.findIdx?_eq_none_iff];intro x hx;obtain⟨k,hk,rfl⟩:=List.mem_iff_getElem.1 hx;exact HNO.o k hk hk)
   go_wp2_with fail;go_ret;rw [HF.o];exact⟨rfl,hbl⟩
theorem z0e (A:aj) (c:Nat) (l:List EntP) (f:FuncId) (x:Value) (p:EntP->Bool) (w:World) (hl:l.length<=1000000) (hA:Rw EntS w A l) (HC:JB w l f x p) :
  Calls zZZ 129 #[aA A l.length c,.func (.func f) #[] #[x]] w fun e w'=>e= .returned (aB aC (plc (l.findIdx? p)))/\Below w.heap.size w w':=by
 obtain⟨hcf,hcc0⟩:=HC;have HCC:=sqH hcc0;clear hcc0;generalize hR:l.findIdx? p=R;have HR:=sqH hR;clear hR;go_enter func129,ntmps129;go_wp2_with fail;go_loopg [5,8] l.length (fun gn u i wr=>∃j:Nat,gn=l.length - j/\i= aB aC j/\j<=l.length/\(∀k (h:k<l.length),k<j->p l[k]=false)/\Below w.heap.size w wr)
 case atStart=>exact⟨0,rfl,rfl,wu,fun k _ h=>absurd h wu,Below.refl _ _⟩
 case round =>
  obtain⟨j,hgk,rfl,hj,hno,hbl⟩:=hrel;have HGK:=sqH hgk;have HNO:=sqH hno;clear hgk hno;by_cases hlt:j<l.length
  ·have hcc:decide (j<l.length)=true:=decide_eq_true hlt;obtain⟨b,off,B,cb,rfl,hbb,c0,c1,c2,c3,hs⟩:=(hA.below hbl).ent_at j hlt;have hcl:=HCC.o l[j] B cb wr (List.getElem_mem hlt) hbl hs;have hj0:=we j
   have hj1:(j:Int)<(l.length:Int):=wu;cases hp:p l[j] with
   | true =>
    have HF:=sqH (show R=some j by
     rw [<-HR.o,List.findIdx?_eq_some_iff_getElem];exact⟨hlt,hp,fun k hk=>by rw [HNO.o k wu hk];simp⟩)
    rw [hp]at hcl;have HCL:=sqH hcl;clear hp hs hcl;generalize l[j]=bl at *
    go_wp2_with fail;refine wZ HCL.o fun w5 hb5=>?_;dsimp only;have hb05:=wm hbl hb5;go_wp2_with fail;go_ret;rw [HF.o];exact⟨rfl,hb05⟩
   | false =>
    have HN:=sqH (show ∀k (h:k<l.length),k<j+1->p l[k]=false from fun k h hk=>by
     rcases Nat.lt_or_ge k j with h1 | h1
     ·exact HNO.o k h h1
     ·have:k=j:=by omega
      subst this;exact hp)
    rw [hp]at hcl;have HCL:=sqH hcl;clear hp hs hcl;generalize l[j]=bl at *
    go_wp2_with fail;refine wZ HCL.o fun w5 hb5=>?_;dsimp only;have hb05:=wm hbl hb5;go_wp2_with fail;go_roundg (l.length - (j+1))
    case measure=>exact wc HGK
    case rel=>exact⟨j+1,rfl,by go_num,wu,HN.o,hb05⟩
  ·obtain rfl:j=l.length:=by omega
   have hcc:decide (l.length<l.length)=false:=ab;have HF:=sqH (show R=none by
    rw [<-HR.o,List.findIdx?_eq_none_iff];intro x hx;obtain⟨k,hk,rfl⟩:=List.mem_iff_getElem.1 hx;exact HNO.o k hk hk)
   go_wp2_with fail;go_ret;rw [HF.o];exact⟨rfl,hbl⟩
theorem JX (a b:UInt8):a<b\/a=b\/b<a:=by
 rcases Nat.lt_trichotomy a.toNat b.toNat with h | h | h
 ·exact .inl (UInt8.lt_iff_toNat_lt.2 h)
 ·exact .inr (.inl (UInt8.toNat_inj.1 h))
 ·exact .inr (.inr (UInt8.lt_iff_toNat_lt.2 h))
theorem Yc:∀(x y:ai),Op.bytesLess x y=decide (x<y)
 | [], []=>by simp [Op.bytesLess]
 | _::_, []=>by simp [Op.bytesLess]
 | [],_::_=>by simp [Op.bytesLess]
 | a::x,b::y=>by
  rw [Op.bytesLess,Yc x y]
  simp only [List.cons_lt_cons_iff]
  by_cases h1:a<b<;>by_cases h2:a=b<;>by_cases h3:x<y<;>simp [h1,h2,h3]
theorem yD (x:ai):Op.bytesLess x x=false:=by
 rw [Yc,decide_eq_false_iff_not];exact List.lt_irrefl x
theorem qi {z:ai} (h:Op.bytesLess x y=true) (h':Op.bytesLess y z=true):Op.bytesLess x z=true:=by
 rw [Yc,decide_eq_true_eq] at *
 exact List.lt_trans h h'
theorem uS (x y:ai):Op.bytesLess x y=true\/x=y\/Op.bytesLess y x=true:=by
 by_cases h1:x<y
 ·exact .inl (by rw [Yc,decide_eq_true_eq];exact h1)
 ·by_cases h2:y<x
  ·exact .inr (.inr (by rw [Yc,decide_eq_true_eq];exact h2))
  ·exact .inr (.inl (List.le_antisymm (List.not_lt.1 h2) (List.not_lt.1 h1)))
theorem yC (h:Op.bytesLess x y=true):Op.bytesLess y x=false:=by
 cases h':Op.bytesLess y x with
 | false=>rfl
 | true=>have:=qi h h';rw [yD]at this;cases this
theorem xf (h:Op.bytesLess x y=true):x≠y:=by rintro rfl;rw [yD]at h;cases h
def Rises (l:List ai):Prop:=l.Pairwise fun a b=>Op.bytesLess a b=true
theorem Rises.nodup {l:List ai} (h:Rises l):l.Nodup:=h.imp fun h=>xf h
theorem Rises.uniq:∀ {l m:List ai},Rises l->Rises m->(∀x,x∈l↔x∈m)->l=m
 | [], [],_,_,_=>rfl
 | [],y::m,_,_,h=>absurd ((h y).2 ab) ab
 | x::l, [],_,_,h=>absurd ((h x).1 ab) ab
 | x::l,y::m,h1,h2,h=>by
  have e1:=List.pairwise_cons.1 h1
  have e2:=List.pairwise_cons.1 h2
  have hxy:x=y:=by
   rcases List.mem_cons.1 ((h x).1 ab) with h3 | h3
   ·exact h3
   ·rcases List.mem_cons.1 ((h y).2 ab) with h4 | h4
    ·exact h4.symm
    ·have:=qi (e2.1 x h3) (e1.1 y h4);rw [yD]at this;cases this
  subst hxy;rw [Rises.uniq e1.2 e2.2 fun z=> ?_];constructor
  ·intro hz;rcases List.mem_cons.1 ((h z).1 (by simp [hz])) with h3 | h3
   ·subst h3;have:=e1.1 z hz;rw [yD]at this;cases this
   ·exact h3
  ·intro hz;rcases List.mem_cons.1 ((h z).2 (by simp [hz])) with h3 | h3
   ·subst h3;have:=e2.1 z hz;rw [yD]at this;cases this
   ·exact h3
theorem Rises.perm {l m:List ai} (h1:Rises l) (h2:Rises m) (h:l.Perm m):l=m:=h1.uniq h2 fun _=>h.mem_iff
def RisesBy {α:Type} (f:α->List UInt8) (l:List α):Prop:=l.Pairwise fun a b=>Op.bytesLess (f a) (f b)=true
theorem RisesBy.map (h:RisesBy f l):Rises (l.map f):=List.pairwise_map.2 h
theorem RisesBy.perm:∀ {l m:List α},RisesBy f l->RisesBy f m->l.Perm m->l=m:=fun {l m} h1 h2 h=>by
 refine List.Perm.eq_of_pairwise (le:=fun a b=>Op.bytesLess (f a) (f b)=true) (fun a b _ _ h3 h4=> ?_) h1 h2 h
 have:=qi h3 h4;rw [yD]at this;cases this
theorem RisesBy.inj (h:RisesBy f l) {a b:α} (ha:a∈l) (hb:b∈l) (e:f a=f b):a=b:=by
 induction l with
 | nil=>cases ha
 | cons x l ih =>
  have e1:=List.pairwise_cons.1 h;rcases List.mem_cons.1 ha with h1 | h1<;>rcases List.mem_cons.1 hb with h2 | h2
  ·rw [h1,h2]
  ·subst h1;have:=xf (e1.1 b h2);exact absurd e this
  ·subst h2;have:=xf (e1.1 a h1);exact absurd e.symm this
  ·exact ih e1.2 h1 h2
def srt {α:Type} (f:α->List UInt8) (l:List α):List α:=l.mergeSort fun a b=> !Op.bytesLess (f b) (f a)
theorem q7 (f:α->List UInt8) (l:List α):(srt f l).Perm l:=List.mergeSort_perm l _
theorem uz (h:(l.map f).Nodup):RisesBy f (srt f l):=by
 have h1:(srt f l).Pairwise fun a b=>(!Op.bytesLess (f b) (f a))=true:=List.pairwise_mergeSort (fun a b c h1 h2=>by
  simp only [Bool.not_eq_eq_eq_not,Bool.not_true] at *
  rcases uS (f c) (f a) with h3 | h3 | h3
  ·rcases uS (f b) (f a) with h4 | h4 | h4
   ·rw [h4]at h1;cases h1
   ·rw [<-h4]at h3;rw [h3]at h2;cases h2
   ·have:=qi h3 h4;rw [this]at h2;cases h2
  ·rw [h3,yD]
  ·exact yC h3) (fun a b=>by
  rcases uS (f a) (f b) with h3 | h3 | h3
  ·simp [yC h3]
  ·simp [h3,yD]
  ·simp [yC h3]) l
 have h2:((srt f l).map f).Nodup:=((q7 f l).map f).nodup_iff.2 h;have h3:(srt f l).Pairwise fun a b=>f a≠f b:=List.pairwise_map.1 h2;refine(h1.and h3).imp fun {a b} h=> ?_;rcases uS (f a) (f b) with h4 | h4 | h4
 ·exact h4
 ·exact absurd h4 h.2
 ·have:=h.1;rw [h4]at this;cases this
attribute [local go_sem ↓] Go.wp_at_zero Go.wp_at_succ
theorem UB {w1:World} (hb:Below W.heap.size W w1):(∀b o,b<W.heap.size->w1.cell? ⟨b,o,none⟩=W.cell? ⟨b,o,none⟩)/\(∀b o,b<W.heap.size->w1.frozen? ⟨b,o,none⟩=W.frozen? ⟨b,o,none⟩) :=
 ⟨fun b o h=>hb.cell (p:=⟨b,o,none⟩) h,fun b o h=>hb.frozen (p:=⟨b,o,none⟩) h⟩
theorem UI (x:Int) (w:World) (g:Nat) (h:w.cell? ⟨g,0,none⟩=some (.int .u8 x)) (h0:0<=x) (h1:x<256) :
  (convert 25 9 (.slice (some ⟨g,0,none⟩) 1 1)).run Tryz.prog w= .ok (.string ⟨#[UInt8.ofNat x.toNat]⟩) w :=
 run_convert_bytes_back w 25 9 5 ⟨g,0,none⟩ 1 [UInt8.ofNat x.toNat] Tryz.underlying25 Tryz.underlying5 Tryz.underlying9 (fun j hj=>by
  have:j=0:=by simpa using hj
  subst this
  simp only [List.getElem_cons_zero]
  have e:((UInt8.ofNat x.toNat).toNat:Int)=x:=by rw [UInt8.toNat_ofNat'];omega
  rw [e]
  exact h)
theorem kn {md:Region.Mode} 
  (hK:Shut (∀a w,S w->(S w->wpAnyH P md ops Q S fuel listed a w)->K a w)) {a:Act} {w:World} (hS:S w) (A B:World->Prop) (ha:A w) (hb:B w) (h:∀W,S W->A W->B W->wpAnyH P md ops Q S fuel listed a W):K a w :=
 hK.o _ _ hS (fun h'=>h w h' ha hb)
theorem wF {md:Region.Mode} 
  (hK:Shut (∀a w,S w->(S w->wpAnyH P md ops Q S fuel listed a w)->K a w)) {a:Act} {w:World} (hS:S w) (A:World->Prop) (ha:A w) (h:∀W,S W->A W->wpAnyH P md ops Q S fuel listed a W):K a w:=kn hK hS A (fun _=>True) ha trivial fun W s a _=>h W s a
theorem Rd.drewR {size:Nat} {A:aj} {xs:ak} (h:Rd w size A n xs):Rd w.drew size A n xs:=h
end Go.Proofs.YtcjmjaefcjcomaaGreat
