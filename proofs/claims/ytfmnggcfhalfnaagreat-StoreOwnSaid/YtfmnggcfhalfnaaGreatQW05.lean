/- Lemmas of the proof. Conditions: as stated. -/
import Derived.Test.YtfmnggcfhalfnaaGreatQW04
import Derived.StillTailTactics
import Derived.Deep.LoopGhost
set_option linter.unusedVariables false
set_option linter.unusedSimpArgs false
set_option maxRecDepth 200000
set_option maxHeartbeats 4000000
namespace Go.Proofs.YtfmnggcfhalfnaaGreat
open Go.RowKit
abbrev W32:=BitVec 32
def xk (n:Nat):List UInt8:= [7,6,5,4,3,2,1,0].map fun i=>UInt8.ofNat (n / 256 ^ i)
def qV (n:Nat):Nat:=(119 - n % 64) % 64
def zt (l:List UInt8):List UInt8:=l++ [128]++List.replicate (qV l.length) 0++xk (8*l.length)
theorem y8 (l:List UInt8):(zt l).length % 64=0∧l.length+9≤(zt l).length∧(zt l).length≤l.length+72:=by
 simp only [zt,xk,qV,List.length_append,List.length_cons,List.length_nil,List.length_replicate,List.length_map];omega
def qA (w:List W32):W32:=w[w.length - 16]! + q9 w[w.length - 15]! 2+w[w.length - 7]! + q9 w[w.length - 2]! 3
def zv (b:List W32):Nat→List W32
 | 0=>b
 | k+1=>zv b k++ [qA (zv b k)]
theorem zT (b:List W32):∀k,(zv b k).length=b.length+k
 | 0=>rfl
 | k+1=>by rw [zv,List.length_append,zT b k];simp;omega
def rks:List W32:= [
 0x428a2f98,0x71374491,0xb5c0fbcf,0xe9b5dba5,0x3956c25b,0x59f111f1,0x923f82a4,0xab1c5ed5,
 0xd807aa98,0x12835b01,0x243185be,0x550c7dc3,0x72be5d74,0x80deb1fe,0x9bdc06a7,0xc19bf174,
 0xe49b69c1,0xefbe4786,0x0fc19dc6,0x240ca1cc,0x2de92c6f,0x4a7484aa,0x5cb0a9dc,0x76f988da,
 0x983e5152,0xa831c66d,0xb00327c8,0xbf597fc7,0xc6e00bf3,0xd5a79147,0x06ca6351,0x14292967,
 0x27b70a85,0x2e1b2138,0x4d2c6dfc,0x53380d13,0x650a7354,0x766a0abb,0x81c2c92e,0x92722c85,
 0xa2bfe8a1,0xa81a664b,0xc24b8b70,0xc76c51a3,0xd192e819,0xd6990624,0xf40e3585,0x106aa070,
 0x19a4c116,0x1e376c08,0x2748774c,0x34b0bcb5,0x391c0cb3,0x4ed8aa4a,0x5b9cca4f,0x682e6ff3,
 0x748f82ee,0x78a5636f,0x84c87814,0x8cc70208,0x90befffa,0xa4506ceb,0xbef9a3f7,0xc67178f2]
def h0s:List W32:= [0x6a09e667,0xbb67ae85,0x3c6ef372,0xa54ff53a,0x510e527f,0x9b05688c,0x1f83d9ab,0x5be0cd19]
def jT (x y z:W32):W32:=(x &&& y) ^^^ (~~~x &&& z)
def yV (x y z:W32):W32:=(x &&& y) ^^^ (x &&& z) ^^^ (y &&& z)
def rnd (k w:W32):List W32→List W32
 | [a,b,c,d,e,f,g,h] =>
  let one:=h+q9 e 1+jT e f g+k+w
  let two:=q9 a 0+yV a b c
  [one+two,a,b,c,d+one,e,f,g]
 | v=>v
def kT (w v:List W32):Nat→List W32
 | 0=>v
 | n+1=>rnd rks[n]! w[n]! (kT w v n)
theorem Zu (k w:W32) (v:List W32) (h:v.length=8):(rnd k w v).length=8:=by
 match v,h with
 | [a,b,c,d,e,f,g,h],_=>rfl
theorem qO (w v:List W32) (h:v.length=8):∀n,(kT w v n).length=8
 | 0=>h
 | n+1=>Zu _ _ _ (qO w v h n)
theorem up {α:Type} (v:List α) (h:v.length=8):∃a b c d e f g i,v= [a,b,c,d,e,f,g,i]:=by
 match v,h with
 | [a,b,c,d,e,f,g,i],_=>exact⟨_,_,_,_,_,_,_,_,rfl⟩
def qS (h b:List W32):List W32:=List.zipWith (· + ·) (kT (zv b 48) h 64) h
theorem uZ (h b:List W32) (hh:h.length=8):(qS h b).length=8:=by
 simp [qS,qO _ _ hh,hh]
def ke (h w:List W32):Nat→List W32
 | 0=>h
 | k+1=>qS (ke h w k) ((w.drop (16*k)).take 16)
theorem zS (h w:List W32) (hh:h.length=8):∀k,(ke h w k).length=8
 | 0=>hh
 | k+1=>uZ _ _ (zS h w hh k)
def jE (l:List UInt8):List W32:=ke h0s (zL (zt l)) ((zt l).length / 64)
theorem x9 (l:List UInt8):(jE l).length=8:=zS _ _ rfl _
def shaS (l:List UInt8):List UInt8:=qU (wbs (jE l))
theorem xX (l:List UInt8):(shaS l).length=64:=by
 rw [shaS,qJ,yB,x9]
theorem uj (x y z:W32):jT x y z=(x &&& y) ||| (~~~x &&& z):=by
 ext i;simp only [jT,BitVec.getElem_xor,BitVec.getElem_and,BitVec.getElem_or,BitVec.getElem_not]
 cases x[i]<;>simp
theorem jx (x y z:W32):yV x y z=((x &&& y) ||| (x &&& z)) ||| (y &&& z):=by
 ext i;simp only [yV,BitVec.getElem_xor,BitVec.getElem_and,BitVec.getElem_or]
 cases x[i]<;>cases y[i]<;>cases z[i]<;>rfl
end Go.Proofs.YtfmnggcfhalfnaaGreat
namespace Go.Proofs.YtfmnggcfhalfnaaGreat
open Go.RowKit
theorem Q4 (n:Nat) (h:n≤31):bits BinOp.and .u64 (n:Int) 31=(n:Int):=by
 have key:∀n:Fin 32,bits BinOp.and .u64 (n.val:Int) 31=(n.val:Int):=by decide +kernel
 exact key ⟨n,by omega⟩
theorem Zc (x:BitVec 32) (n:Nat) (w:World) (h0:0<n) (hn:n≤31):Calls Tryz.prog 72 #[.int .u32 (wd x),.int .i64 n] w fun e w'=>e= .returned (.int .u32 (wd (x.rotateRight (32 - n))))∧w=w':=by
 have h1:=Q4 n hn;have h2:(n:Int)<32:=by omega
 have h3:IntKind.u64.wrap (n:Int)=n:=by rw [IntKind.wrap_u64];omega
 have h4:IntKind.u64.wrap (32 - (n:Int))=32 - (n:Int):=by rw [IntKind.wrap_u64];omega
 have h5:(32 - (n:Int))<32:=by omega
 have h6:(32 - (n:Int)).toNat=32 - n:=by omega
 go_enter Tryz.func72,Tryz.ntmps72;go_wp2_with fail;go_ret;refine⟨?_,rfl⟩;have t:=ZU x (32 - n) (by omega);rw [show 32 - (32 - n)=n by omega,jF,xb,zQ,jY]at t;have e:bits .or .u32 (wd x*2 ^ n % 4294967296) (wd x / 2 ^ (32 - n))=wd (x.rotateRight (32 - n)):=by
  rw [jF,xb,zQ,BitVec.or_comm,t]
 show Ending.returned (.int .u32 (bits .or .u32 (wd x*2 ^ n % 4294967296) (wd x / 2 ^ (32 - n))))=_;rw [e]
theorem zn (l:List W32):(wds l).length=l.length:=by simp [wds]
theorem kF (l:List W32) (k:Nat) (x:W32):(wds l).set k (.int .u32 (wd x))=wds (l.set k x):=by simp [wds,List.map_set]
theorem Zb (x:BitVec 32) (n:Nat) (N:Int) (hN:N=n) (w:World) (h0:0<n) (hn:n≤31):Calls Tryz.prog 72 #[.int .u32 (wd x),.int .i64 N] w fun e w'=>e= .returned (.int .u32 (wd (x.rotateRight (32 - n))))∧w=w':=by
 subst hN;exact Zc x n w h0 hn
theorem kk (x:BitVec 32) (n:Nat) (N:Int) (hN:N=n) (w:World) (h0:0<n) (hn:n≤31):Calls Tryz.prog 72 #[.int .u32 (wd x),.int .i64 N] w fun e w'=>e= .returned (.int .u32 (wd (x.rotateRight (32 - n))))∧w'=w :=
 (Zb x n N hN w h0 hn).mono fun _ _ h=>⟨h.1,h.2.symm⟩
theorem xH (x:BitVec 32) (N:Int) (w:World) (h0:0<N) (hn:N≤31):Calls Tryz.prog 72 #[.int .u32 (wd x),.int .i64 N] w fun e w'=>e= .returned (.int .u32 (wd (x.rotateRight (32 - N.toNat))))∧w'=w:=by
 obtain⟨n,rfl⟩:=Int.eq_ofNat_of_zero_le (Int.le_of_lt h0);exact kk x n n rfl w (by omega) (by omega)
theorem Qf (y:W32) (b:UInt8):bits BinOp.or IntKind.u32 (IntKind.u32.wrap (wd y*256)) (IntKind.u32.wrap (b.toNat:Int))=wd (y <<< 8 ||| BitVec.ofNat 32 b.toNat):=by
 have h1:IntKind.u32.wrap (wd y*256)=wd y*2 ^ 8 % 4294967296:=by rw [IntKind.wrap_u32,show(2:Int) ^ 8=256 by decide]
 have h2:IntKind.u32.wrap (b.toNat:Int)=wd (BitVec.ofNat 32 b.toNat):=by
  have:=b.toNat_lt;rw [yD];simp [wd]
 rw [h1,h2,jF,zQ]
def xK (l:List UInt8) (i j:Nat):W32:=(((l.take i).drop (4*j)).take 4).foldl (fun a b=>a <<< 8 ||| BitVec.ofNat 32 b.toNat) 0
def yl (l:List UInt8) (i:Nat):List W32:=(List.range 64).map (xK l i)
theorem kh (l:List UInt8) (i:Nat):(yl l i).length=64:=by simp [yl]
theorem ud (l:List UInt8) (i:Nat) (h:i<l.length):xK l (i+1) (i / 4)=xK l i (i / 4) <<< 8 ||| BitVec.ofNat 32 l[i].toNat:=by
 unfold xK;have h1:(((l.take i).drop (4*(i / 4))).take 4)=(l.take i).drop (4*(i / 4)):=List.take_of_length_le (by rw [List.length_drop,List.length_take];omega);have h2:(((l.take (i+1)).drop (4*(i / 4))).take 4)=(l.take i).drop (4*(i / 4))++ [l[i]]:=by
  rw [List.take_succ_eq_append_getElem h,List.drop_append_of_le_length (by rw [List.length_take];omega)];exact List.take_of_length_le (by rw [List.length_append,List.length_drop,List.length_take];simp only [List.length_cons,List.length_nil];omega)
 rw [h1,h2,List.foldl_append];rfl
theorem vy (l:List UInt8) (i j:Nat) (h:i<l.length) (hj:j≠i / 4):xK l (i+1) j=xK l i j:=by
 unfold xK;rw [List.take_succ_eq_append_getElem h];rcases Nat.lt_or_ge j (i / 4) with hlt | hge
 ·rw [List.drop_append_of_le_length (by rw [List.length_take];omega),List.take_append_of_le_length (by rw [List.length_drop,List.length_take];omega)]
 ·rw [List.drop_eq_nil_of_le (by simp;omega),List.drop_eq_nil_of_le (by simp;omega)]
theorem ue (l:List UInt8) (i:Nat) (h:i<l.length) (hi:i<256):yl l (i+1)=(yl l i).set (i / 4) (xK l i (i / 4) <<< 8 ||| BitVec.ofNat 32 l[i].toNat):=by
 apply List.ext_getElem (by simp [yl]);intro j h1 h2;simp only [yl,List.getElem_map,List.getElem_range,List.getElem_set];split
 ·rename_i e;subst e;exact ud l i h
 ·rename_i e;exact vy l i j h (fun x=>e x.symm)
theorem uf (l:List UInt8):yl l 0=List.replicate 64 0:=by
 apply List.ext_getElem (by simp [yl]);intro j h1 h2;rw [List.getElem_replicate];simp only [yl,xK,List.getElem_map,List.take_zero,List.drop_nil,List.take_nil,List.foldl_nil]
theorem ZX (x:W32) (b:UInt8):x <<< 8 ||| BitVec.ofNat 32 b.toNat=x <<< 8+BitVec.ofNat 32 b.toNat:=by
 refine(BitVec.add_eq_or_of_and_eq_zero _ _ ?_).symm;have hb:=b.toNat_lt
 ext i hi
 simp only [BitVec.getElem_and,BitVec.getElem_shiftLeft,BitVec.getElem_zero];by_cases h:i<8
 ·simp [h]
 ·have e:(BitVec.ofNat 32 b.toNat)[i]=false:=by
   rw [←BitVec.getLsbD_eq_getElem,BitVec.getLsbD_ofNat,Nat.testBit_lt_two_pow (Nat.lt_of_lt_of_le hb (Nat.pow_le_pow_right (by omega) (by omega)))];simp
  rw [e];simp
theorem Qh (a b c d:UInt8): [a,b,c,d].foldl (fun (a:W32) (b:UInt8)=>a <<< 8 ||| BitVec.ofNat 32 b.toNat) (0:W32)=wOf a b c d:=by
 simp only [List.foldl_cons,List.foldl_nil,ZX];have ha:=a.toNat_lt;have hb:=b.toNat_lt;have hc:=c.toNat_lt;have hd:=d.toNat_lt;apply BitVec.eq_of_toNat_eq;simp only [wOf,BitVec.toNat_add,BitVec.toNat_shiftLeft,BitVec.toNat_ofNat,Nat.shiftLeft_eq];omega
theorem Q9 {α:Type} (l:List α) (k:Nat) (h:k+3<l.length):(l.drop k).take 4= [l[k],l[k+1],l[k+2],l[k+3]]:=by
 rw [List.drop_eq_getElem_cons (by omega),List.drop_eq_getElem_cons (by omega),List.drop_eq_getElem_cons (by omega),List.drop_eq_getElem_cons (by omega)];rfl
theorem yL (l:List UInt8) (hl:64≤l.length):∀k,k≤16→(yl l 64).take k=zL (l.take (4*k))
 | 0,_=>rfl
 | k+1,hk=>by
  have ih:=yL l hl k (by omega)
  rw [List.take_succ_eq_append_getElem (by rw [kh];omega),ih,kH k l (by omega)]
  congr 2
  simp only [yl,List.getElem_map,List.getElem_range,xK]
  rw [Q9 _ _ (by rw [List.length_take];omega)]
  simp only [List.getElem_take]
  exact Qh _ _ _ _
theorem jn (l:List UInt8) (hl:64≤l.length):yl l 64=zv (zL (l.take 64)) 0++List.replicate 48 0:=by
 have h:=yL l hl 16 (by omega);rw [←List.take_append_drop 16 (yl l 64),h]
 congr 1
 apply List.ext_getElem (by simp [kh]);intro j h1 h2;rw [List.getElem_replicate];simp only [yl,List.getElem_drop,List.getElem_map,List.getElem_range,xK];rw [List.drop_eq_nil_of_le (by rw [List.length_take];omega)];rfl
theorem kZ (L:List W32) (t:Nat) (hL:L.length=t) (h:16≤t):qA L=L[t - 16]+q9 L[t - 15] 2+L[t - 7]+q9 L[t - 2] 3:=by
 subst hL;unfold qA;rw [getElem!_pos L _ (by omega),getElem!_pos L _ (by omega),getElem!_pos L _ (by omega),getElem!_pos L _ (by omega)]
theorem Qe (L:List W32) (t:Nat) (hL:L.length=t) (h:t<64) (v:W32):(L++List.replicate (64 - t) 0).set t v=(L++ [v])++List.replicate (64 - (t+1)) 0:=by
 subst hL;rw [List.set_append_right _ _ (Nat.le_refl _),Nat.sub_self,show 64 - L.length=(64 - (L.length+1))+1 by omega,List.replicate_succ,List.set_cons_zero,List.append_assoc];rfl
theorem vz (a b:W32):IntKind.u32.wrap (wd a+wd b)=wd (a+b):=by
 rw [IntKind.wrap_u32];simp only [wd,BitVec.toNat_add];omega
theorem Qg (a:W32):wd a / (8:Int)=wd (a >>> 3):=by have:=xb a 3;simpa using this
theorem Zj (a:W32):wd a / (1024:Int)=wd (a >>> 10):=by have:=xb a 10;simpa using this
theorem ZW (x1 x2 x3 x4:W32):IntKind.u32.wrap (IntKind.u32.wrap (IntKind.u32.wrap (wd x1+wd x3)+bits BinOp.xor IntKind.u32 (bits BinOp.xor IntKind.u32 (wd (BitVec.rotateRight x2 7)) (wd (BitVec.rotateRight x2 18))) (wd x2 / (8:Int)))+bits BinOp.xor IntKind.u32 (bits BinOp.xor IntKind.u32 (wd (BitVec.rotateRight x4 17)) (wd (BitVec.rotateRight x4 19))) (wd x4 / (1024:Int)))=wd (x1+q9 x2 2+x3+q9 x4 3):=by
 rw [Qg,Zj];simp only [zx,vz,q9];rw [jY]
 ac_rfl
theorem Qc (a b c d e:W32):((wd a+wd b+wd c+wd d) % 4294967296+wd e) % 4294967296=wd (a+b+c+d+e):=by
 simp only [wd,BitVec.toNat_add];omega
theorem ZQ (h e f g k w:W32):((wd h+bits BinOp.xor IntKind.u32 (bits BinOp.xor IntKind.u32 (wd (BitVec.rotateRight e 6)) (wd (BitVec.rotateRight e 11))) (wd (BitVec.rotateRight e 25)) +
   bits BinOp.xor IntKind.u32 (bits BinOp.and IntKind.u32 (wd e) (wd f)) (bits BinOp.and IntKind.u32 (bits BinOp.xor IntKind.u32 (if IntKind.u32.signed=true then -1 else IntKind.u32.max) (wd e)) (wd g))+wd k) % 4294967296+wd w) % 4294967296=wd (h+q9 e 1+jT e f g+k+w):=by
 rw [if_neg (by decide)];simp only [kO,zx,zP,Qc,q9,jT]
theorem ZE (a b:W32):(wd a+wd b) % 4294967296=wd (a+b):=by
 simp only [wd,BitVec.toNat_add];omega
theorem ZZ (a b c:W32):(bits BinOp.xor IntKind.u32 (bits BinOp.xor IntKind.u32 (wd (BitVec.rotateRight a 2)) (wd (BitVec.rotateRight a 13))) (wd (BitVec.rotateRight a 22))+bits BinOp.xor IntKind.u32 (bits BinOp.xor IntKind.u32 (bits BinOp.and IntKind.u32 (wd a) (wd b)) (bits BinOp.and IntKind.u32 (wd a) (wd c))) (bits BinOp.and IntKind.u32 (wd b) (wd c))) % 4294967296=wd (q9 a 0+yV a b c):=by
 simp only [zx,zP,ZE,q9,yV]
def kL (h v:List W32) (k:Nat):List W32:=(List.zipWith (· + ·) v h).take k++h.drop k
theorem yZ (h v:List W32):kL h v 0=h:=by simp [kL]
theorem xU (h v:List W32) (k:Nat) (h1:h.length≤k) (h2:v.length=h.length):kL h v k=List.zipWith (· + ·) v h:=by
 rw [kL,List.drop_eq_nil_of_le h1,List.append_nil,List.take_of_length_le (by rw [List.length_zipWith];omega)]
theorem qj (h v:List W32) (k:Nat) (h2:v.length=h.length):(kL h v k).length=h.length:=by
 simp only [kL,List.length_append,List.length_take,List.length_zipWith,List.length_drop];omega
theorem yY (h v:List W32) (k:Nat) (hk:k<h.length) (h2:v.length=h.length):∃x y,(wds (kL h v k))[k]?=some (.int .u32 (wd x))∧(wds v)[k]?=some (.int .u32 (wd y))∧(kL h v k).set k (x+y)=kL h v (k+1):=by
 have hz:(List.zipWith (· + ·) v h).length=h.length:=by rw [List.length_zipWith];omega
 refine⟨h[k],v[k],?_,qo v k (by omega),?_⟩
 ·rw [qo _ k (by rw [qj h v k h2];exact hk)];have:(kL h v k)[k]'(by rw [qj h v k h2];exact hk)=h[k]:=by
   simp only [kL];rw [List.getElem_append_right (by simp [hz];omega)];simp only [List.getElem_drop,List.length_take,hz,Nat.min_eq_left (Nat.le_of_lt hk),Nat.sub_self,Nat.add_zero]
  rw [this]
 ·simp only [kL];rw [List.set_append_right _ _ (by simp [hz];omega),List.length_take,hz,Nat.min_eq_left (Nat.le_of_lt hk),Nat.sub_self,List.drop_eq_getElem_cons hk,List.set_cons_zero,List.take_succ_eq_append_getElem (by omega),List.append_assoc];simp [List.getElem_zipWith,BitVec.add_comm]
theorem uR (W v:List W32) (t:Nat) (h:t<64) (hW:W.length=64):kT W v (t+1)=rnd (rks[t]'h) (W[t]'(by omega)) (kT W v t):=by
 rw [kT,getElem!_pos rks t h,getElem!_pos W t (by omega)]
theorem ZT (t:Nat) (h:t<64):(wds rks)[t]?=some (.int .u32 (wd (rks[t]'h))):=qo rks t h
theorem kU (W v:List W32) (hv:v.length=8) (t:Nat) (h:t<64) (hW:W.length=64):∃v0 v1 v2 v3 v4 v5 v6 v7 kt wt,kT W v t= [v0,v1,v2,v3,v4,v5,v6,v7]∧(wds rks)[t]?=some (.int .u32 (wd kt))∧(wds W)[t]?=some (.int .u32 (wd wt)) ∧
  kT W v (t+1)=rnd kt wt [v0,v1,v2,v3,v4,v5,v6,v7]:=by
 obtain⟨v0,v1,v2,v3,v4,v5,v6,v7,e⟩:=up _ (qO W v hv t);exact⟨v0,v1,v2,v3,v4,v5,v6,v7,_,_,e,ZT t h,qo W t (by omega),by rw [uR W v t h hW,e]⟩
theorem uy (A:Option Addr) (n c:Nat) (l:List UInt8) (B:Option Addr) (d:Nat) (h:List W32) (w:World) (hl:l.length=n) (hn:64≤n) (hc:n≤c) (hm:n≤140737488353280) (hr:Rd w 1 A n (bys l)) (hk:Rd w 1 B 64 (wds rks)) (hd:64≤d) (hh:h.length=8) :
  Calls Tryz.prog 45 #[.agg (wds h).toArray,.slice A n c,.slice B 64 d] w fun e w'=>e= .returned (.agg (wds (qS h (zL (l.take 64)))).toArray)∧Below w.heap.size w w':=by
 obtain⟨a0,a1,a2,a3,a4,a5,a6,a7,rfl⟩:=up h hh;go_enter Tryz.func45,Tryz.ntmps45
 repeat' (fail_if_success (first|at_builtin|at_make));first|go_values|go_skip|go_guarded|go_step|go_upon|go_back
 have hA0:Arr (((w.alloc (.cells (wds [a0,a1,a2,a3,a4,a5,a6,a7]).toArray 89)).alloc (.cells (wds (List.replicate 8 0)).toArray 89)).alloc (.cells (wds (List.replicate 64 0)).toArray 118)) w.heap.size 89 (wds [a0,a1,a2,a3,a4,a5,a6,a7]):=((Arr.new _ _ _).alloc _).alloc _;have hA1:Arr (((w.alloc (.cells (wds [a0,a1,a2,a3,a4,a5,a6,a7]).toArray 89)).alloc (.cells (wds (List.replicate 8 0)).toArray 89)).alloc (.cells (wds (List.replicate 64 0)).toArray 118)) (w.heap.size+1) 89 (wds (List.replicate 8 0)):=by
  have:=(Arr.new (w.alloc (.cells (wds [a0,a1,a2,a3,a4,a5,a6,a7]).toArray 89)) 89 (wds (List.replicate 8 0))).alloc (.cells (wds (List.replicate 64 0)).toArray 118);simpa using this
 have hA2:Arr (((w.alloc (.cells (wds [a0,a1,a2,a3,a4,a5,a6,a7]).toArray 89)).alloc (.cells (wds (List.replicate 8 0)).toArray 89)).alloc (.cells (wds (List.replicate 64 0)).toArray 118)) (w.heap.size+1+1) 118 (wds (yl l 0)):=by
  rw [uf];have:=(Arr.new ((w.alloc (.cells (wds [a0,a1,a2,a3,a4,a5,a6,a7]).toArray 89)).alloc (.cells (wds (List.replicate 8 0)).toArray 89)) 118 (wds (List.replicate 64 0)))
  simpa using this
 have hA3:Below w.heap.size w (((w.alloc (.cells (wds [a0,a1,a2,a3,a4,a5,a6,a7]).toArray 89)).alloc (.cells (wds (List.replicate 8 0)).toArray 89)).alloc (.cells (wds (List.replicate 64 0)).toArray 118)) :=
  (((Below.refl _ w).alloc (by simp) _).alloc (by simp) _).alloc (by simp;omega) _
 generalize hg0:w.heap.size=g0 at *
 generalize hg1:g0+1=g1 at *
 generalize hg2:g1+1=g2 at *
 have ne0:g0≠g2:=by omega
 have ne1:g1≠g2:=by omega
 have hgb:w.heap.size≤g2:=by omega
 go_loopw [19] (fun i wr=>∃k:Nat,i= .int .i64 k∧k≤64∧Arr wr g0 89 (wds [a0,a1,a2,a3,a4,a5,a6,a7])∧Arr wr g1 89 (wds (List.replicate 8 0))∧Arr wr g2 118 (wds (yl l k))∧Below w.heap.size w wr) (fun i _=>64 - (intOf i).toNat)
 case atStart=>exact⟨0,rfl,by omega,hA0,hA1,hA2,by rw [hg0];exact hA3⟩
 case round =>
  obtain⟨k,rfl,hk,q0,q1,q2,hbel⟩:=hrel;by_cases hlt:k<64
  ·
   obtain⟨b,off,u,rfl,hbw,hu,hcell⟩:=(hr.below hbel).at_ (k:=k) (by omega);rw [kr l k (by omega)]at hu;cases hu
   have hx8:=l[k].toNat_lt;have hq:(wds (yl l k))[k / 4]?=some (.int .u32 (wd (xK l k (k / 4)))):=by
    rw [qo _ _ (by rw [kh];omega)];simp [yl]
   have hc4:=q2.cell hq;have hf4:=q2.frozen (k / 4);have hs:=q2.set (k:=k / 4) (by rw [zn,kh];omega) (.int .u32 (wd (xK l k (k / 4) <<< 8 ||| BitVec.ofNat 32 l[k].toNat)));have HN:=sqH (ue l k (by omega) (by omega));generalize xK l k (k / 4)=y at *
   generalize hb8:l[k]=b8 at *
   have HB8:=sqH hb8;clear hb8 hq;generalize hj:k / 4=j at *
   have HJ:=sqH hj;have i0:(k:Int) / 4=(j:Int):=by omega
   have i1:(j:Int)<64:=by omega
   have i2:(0:Int)≤(j:Int):=by omega
   have i3:(k:Int)<n:=by omega
   have i4:(k:Int)<64:=by omega
   have i5:decide ((k:Int)<64)=true:=by simpa using i4
   have i6:IntKind.i64.wrap (j:Int)=(j:Int):=by rw [IntKind.wrap_i64];omega
   have i7:((j:Int)).toNat=j:=by omega
   clear hj;have hyn:=ZD y;have hyl:=ZC y;have hsv:=sqH hs;clear hs hA0 hA1 hA2 hA3 hh hg0 hg1 hg2
   repeat' (fail_if_success (first|at_builtin|at_make));first|go_values|go_skip|go_guarded|go_step|go_upon|go_back
   go_still_tail 14,(by kernel_rfl)
   change wpList _ _ _ _ _ wr.drew;rw [Qf];have hc5:wr.drew.cell? ⟨g2,j,none⟩=some (.int .u32 (wd y)):=hc4;have hf5:wr.drew.frozen? ⟨g2,j,none⟩=false:=hf4
   repeat' (fail_if_success (first|at_builtin|at_make));first|go_values|go_skip|go_guarded|go_step|go_upon|go_back
   go_roundw
   case rel =>
    refine⟨k+1,by go_num,by omega,q0.other ne0 _,q1.other ne1 _,?_,Below.setCell hbel.drew hgb _⟩;rw [HN.out,←kF];exact hsv.out
   case measure=>simp [intOf];omega
  ·obtain rfl:k=64:=by omega
   have e64:yl l 64=zv (zL (l.take 64)) 0++List.replicate 48 0:=jn l (by omega);rw [e64]at q2;clear e64 hA0 hA1 hA2 hA3
   repeat' (fail_if_success (first|at_builtin|at_make));first|go_values|go_skip|go_guarded|go_step|go_upon|go_back
   have hq2:Arr wr g2 118 (wds (zv (zL (l.take 64)) (16 - 16)++List.replicate (64 - 16) 0)):=q2;have hWl:(zL (l.take 64)).length=16:=ki 16 _ (by rw [List.length_take];omega);generalize hM:zL (l.take 64)=M at *
   have HM:=sqH hM;clear hM;clear q2;rw [show((64:Nat):Int)=(64:Int) from rfl];go_loopw [9] (fun i wr=>∃t:Nat,i= .int .i64 t∧16≤t∧t≤64∧Arr wr g0 89 (wds [a0,a1,a2,a3,a4,a5,a6,a7])∧Arr wr g1 89 (wds (List.replicate 8 0))∧Arr wr g2 118 (wds (zv M (t - 16)++List.replicate (64 - t) 0))∧Below w.heap.size w wr) (fun i _=>64 - (intOf i).toNat)
   case atStart=>exact⟨16,rfl,by omega,by omega,q0,q1,hq2,hbel⟩
   case round =>
    clear q0 q1 hq2 hbel;obtain⟨t,rfl,ht0,ht,q0,q1,q2,hbel⟩:=hrel;by_cases hlt2:t<64
    ·
     have hLl:(zv M (t - 16)).length=t:=by rw [zT,hWl];omega
     have hnx:=kZ _ t hLl ht0;have hss:zv M (t+1 - 16)=zv M (t - 16)++ [qA (zv M (t - 16))]:=by rw [show t+1 - 16=(t - 16)+1 by omega];rfl
     have HSS:=sqH hss;clear hss;generalize zv M (t - 16)=L at *
     have hcl:∀j (hj:j<L.length),wr.cell? ⟨g2,j,none⟩=some (.int .u32 (wd L[j])):=fun j hj=>q2.cell (by rw [qo _ _ (by rw [List.length_append];omega),List.getElem_append_left hj]);have c1:=hcl (t - 16) (by omega);have c2:=hcl (t - 15) (by omega);have c3:=hcl (t - 7) (by omega);have c4:=hcl (t - 2) (by omega);clear hcl;generalize L[t - 16]=x1 at *
     generalize L[t - 15]=x2 at *
     generalize L[t - 7]=x3 at *
     generalize L[t - 2]=x4 at *
     have HNX:=sqH hnx;clear hnx;have j1:((t:Int) - 16).toNat=t - 16:=by omega
     have j2:((t:Int) - 15).toNat=t - 15:=by omega
     have j3:((t:Int) - 7).toNat=t - 7:=by omega
     have j4:((t:Int) - 2).toNat=t - 2:=by omega
     have k1:(0:Int)≤(t:Int) - 16:=by omega
     have k2:(0:Int)≤(t:Int) - 15:=by omega
     have k3:(0:Int)≤(t:Int) - 7:=by omega
     have k4:(0:Int)≤(t:Int) - 2:=by omega
     have l1:(t:Int) - 16<64:=by omega
     have l2:(t:Int) - 15<64:=by omega
     have l3:(t:Int) - 7<64:=by omega
     have l4:(t:Int) - 2<64:=by omega
     have n1:(16:Int)≤(t:Int):=by omega
     have n2:(15:Int)≤(t:Int):=by omega
     have n3:(7:Int)≤(t:Int):=by omega
     have n4:(2:Int)≤(t:Int):=by omega
     have m1:IntKind.i64.wrap ((t:Int) - 16)=(t:Int) - 16:=by rw [IntKind.wrap_i64];omega
     have m2:IntKind.i64.wrap ((t:Int) - 15)=(t:Int) - 15:=by rw [IntKind.wrap_i64];omega
     have m3:IntKind.i64.wrap ((t:Int) - 7)=(t:Int) - 7:=by rw [IntKind.wrap_i64];omega
     have m4:IntKind.i64.wrap ((t:Int) - 2)=(t:Int) - 2:=by rw [IntKind.wrap_i64];omega
     have i4:(t:Int)<64:=by omega
     have i5:decide ((t:Int)<64)=true:=by simpa using i4
     repeat' (fail_if_success (first|at_builtin|at_make));first|go_values|go_skip|go_guarded|go_step|go_upon|go_back
     go_quiet (fail)
     repeat' (fail_if_success (first|at_builtin|at_make));first|go_values|go_skip|go_guarded|go_step|go_upon|go_back
     have hb2:=zk hbel nq;have q0':=q0.drewN nq;have q1':=q1.drewN nq;have q2':=q2.drewN nq;have d1:(wr.drewN nq).cell? ⟨g2,t - 16,none⟩=_:=c1;have d2:(wr.drewN nq).cell? ⟨g2,t - 15,none⟩=_:=c2;have d3:(wr.drewN nq).cell? ⟨g2,t - 7,none⟩=_:=c3;have d4:(wr.drewN nq).cell? ⟨g2,t - 2,none⟩=_:=c4;clear c1 c2 c3 c4 q0 q1 q2 hbel;generalize wr.drewN nq=wz at *
     go_still_tail 29,(by kernel_rfl)
     still_call (kk x2 25 25 rfl _ (by omega) (by omega))
     repeat still_step
     still_call (kk x2 14 14 rfl _ (by omega) (by omega))
     repeat still_step
     still_call (kk x4 15 15 rfl _ (by omega) (by omega))
     repeat still_step
     still_call (kk x4 13 13 rfl _ (by omega) (by omega))
     repeat still_step
     change wpList _ _ _ _ _ wz.drew;rw [ZW,←HNX.out];have hc5:∃v,wz.drew.cell? ⟨g2,t,none⟩=some v:=⟨_,q2'.cell (k:=t) (by rw [qo _ _ (by rw [List.length_append,List.length_replicate];omega)])⟩
     obtain⟨v5,hc5⟩:=hc5;have hf5:wz.drew.frozen? ⟨g2,t,none⟩=false:=q2'.frozen t;have hs5:=q2'.set (k:=t) (by rw [zn,List.length_append,List.length_replicate];omega) (.int .u32 (wd (qA L)));rw [kF,Qe L t hLl (by omega),←HSS.out]at hs5;have HS5:=sqH hs5;clear hs5 q2'
     repeat' (fail_if_success (first|at_builtin|at_make));first|go_values|go_skip|go_guarded|go_step|go_upon|go_back
     go_roundw
     case rel =>
      exact⟨t+1,by go_num,by omega,by omega,q0'.other ne0 _,q1'.other ne1 _,HS5.out,Below.setCell hb2.drew hgb _⟩
     case measure=>simp [intOf];omega
    ·obtain rfl:t=64:=by omega
     rw [List.replicate_zero,List.append_nil]at q2;obtain⟨e0,e1,e2,e3,e4,e5,e6,e7⟩:=sqC8 q0
     repeat' (fail_if_success (first|at_builtin|at_make));first|go_values|go_skip|go_guarded|go_step|go_upon|go_back
     have hq3:Arr (wr.alloc (.cells #[.int .u32 (wd a0),.int .u32 (wd a1),.int .u32 (wd a2),.int .u32 (wd a3),.int .u32 (wd a4),.int .u32 (wd a5),.int .u32 (wd a6),.int .u32 (wd a7)] 89)) wr.heap.size 89 (wds (kT (zv M 48) [a0,a1,a2,a3,a4,a5,a6,a7] 0)):=Arr.new _ _ _;have hlt0:=q0.lt;have hlt1:=q1.lt;have hlt2:=q2.lt;have q0':=q0.alloc (.cells #[.int .u32 (wd a0),.int .u32 (wd a1),.int .u32 (wd a2),.int .u32 (wd a3),.int .u32 (wd a4),.int .u32 (wd a5),.int .u32 (wd a6),.int .u32 (wd a7)] 89);have q1':=q1.alloc (.cells #[.int .u32 (wd a0),.int .u32 (wd a1),.int .u32 (wd a2),.int .u32 (wd a3),.int .u32 (wd a4),.int .u32 (wd a5),.int .u32 (wd a6),.int .u32 (wd a7)] 89);have q2':=q2.alloc (.cells #[.int .u32 (wd a0),.int .u32 (wd a1),.int .u32 (wd a2),.int .u32 (wd a3),.int .u32 (wd a4),.int .u32 (wd a5),.int .u32 (wd a6),.int .u32 (wd a7)] 89);have hbl':=hbel.alloc hbel.size (.cells #[.int .u32 (wd a0),.int .u32 (wd a1),.int .u32 (wd a2),.int .u32 (wd a3),.int .u32 (wd a4),.int .u32 (wd a5),.int .u32 (wd a6),.int .u32 (wd a7)] 89);have hgb3:=hbel.size;generalize (wr.alloc (.cells #[.int .u32 (wd a0),.int .u32 (wd a1),.int .u32 (wd a2),.int .u32 (wd a3),.int .u32 (wd a4),.int .u32 (wd a5),.int .u32 (wd a6),.int .u32 (wd a7)] 89))=wy at *
     generalize hg3:wr.heap.size=g3 at *
     have ne03:g0≠g3:=by omega
     have ne13:g1≠g3:=by omega
     have ne23:g2≠g3:=by omega
     clear q0 q1 q2 hbel e0 e1 e2 e3 e4 e5 e6 e7 hlt2 ht0 ht hlt hk hg3;rw [show((64:Nat):Int)=(64:Int) from rfl];have hWl2:(zv M 48).length=64:=by rw [zT,hWl]
     generalize hW:zv M 48=W at *
     have HW:=sqH hW;clear hW;go_loopw [79] (fun i wr=>∃t:Nat,i= .int .i64 t∧t≤64∧Arr wr g0 89 (wds [a0,a1,a2,a3,a4,a5,a6,a7])∧Arr wr g1 89 (wds (List.replicate 8 0))∧Arr wr g2 118 (wds W)∧Arr wr g3 89 (wds (kT W [a0,a1,a2,a3,a4,a5,a6,a7] t))∧Below w.heap.size w wr) (fun i _=>64 - (intOf i).toNat)
     case atStart=>exact⟨0,rfl,by omega,q0',q1',q2',hq3,hbl'⟩
     case round =>
      clear q0' q1' q2' hq3 hbl';obtain⟨t,rfl,ht,q0,q1,q2,q3,hbel⟩:=hrel;by_cases hlt3:t<64
      ·
       obtain⟨v0,v1,v2,v3,v4,v5,v6,v7,kt,wt,hv,hkt,hwt,hnx⟩:=kU W [a0,a1,a2,a3,a4,a5,a6,a7] rfl t hlt3 hWl2;rw [hv]at q3;have HNX:=sqH hnx;obtain⟨bk,ok,uk,rfl,hbk,huk,hck⟩:=(hk.below hbel).at_ (k:=t) hlt3;rw [hkt]at huk;cases huk
       have hcw:=q2.cell hwt;clear hnx hv hkt hwt;obtain⟨f0,f1,f2,f3,f4,f5,f6,f7⟩:=sqC8 q3;have i1:(t:Int)<64:=by omega
       have i2:(0:Int)≤(t:Int):=by omega
       have i5:decide ((t:Int)<64)=true:=by simpa using i1
       have hl64:(64:Int)≤(d:Int):=by omega
       clear hh hg0 hg1 hg2 hr hl
       repeat' (fail_if_success (first|at_builtin|at_make));first|go_values|go_skip|go_guarded|go_step|go_upon|go_back
       go_quiet (fail)
       repeat' (fail_if_success (first|at_builtin|at_make));first|go_values|go_skip|go_guarded|go_step|go_upon|go_back
       have p0:=q0.drewN nq;have p1:=q1.drewN nq;have p2:=q2.drewN nq;have p3:=q3.drewN nq;have pb:=zk hbel nq;have dk:(wr.drewN nq).cell? ⟨bk,ok+t,none⟩=_:=hck;have dw:(wr.drewN nq).cell? ⟨g2,t,none⟩=_:=hcw;clear q0 q1 q2 q3 hbel hck hcw f0 f1 f2 f3 f4 f5 f6 f7;generalize wr.drewN nq=wz at *
       have f5:=p3.cell (k:=5) rfl;have f6:=p3.cell (k:=6) rfl;have f7:=p3.cell (k:=7) rfl;go_quiet ((go_at_call 72;exact Calls.quiet_of_same (xH _ _ _ (by decide) (by decide))));rw [ZQ];have r0:=p0.drewN nq;have r1:=p1.drewN nq;have r2:=p2.drewN nq;have r3:=p3.drewN nq;have rb:=zk pb nq;clear p0 p1 p2 p3 pb dk dw f5 f6 f7;generalize wz.drewN nq=wx at *
       have f1:=r3.cell (k:=1) rfl;have f2:=r3.cell (k:=2) rfl;generalize hone:v7+q9 v4 1+jT v4 v5 v6+kt+wt=one at *
       have HONE:=sqH hone;clear hone
       repeat' (fail_if_success (first|at_builtin|at_make));first|go_values|go_skip|go_guarded|go_step|go_upon|go_back
       go_quiet ((go_at_call 72;exact Calls.quiet_of_same (xH _ _ _ (by decide) (by decide))));rw [ZZ];generalize htwo:q9 v0 0+yV v0 v1 v2=two at *
       have HTWO:=sqH htwo;clear htwo;have s0:=r0.drewN nq;have s1:=r1.drewN nq;have s2:=r2.drewN nq;have s3:=r3.drewN nq;have sb:=zk rb nq;clear r0 r1 r2 r3 rb f1 f2;generalize wx.drewN nq=wv at *
       obtain⟨f0,f1,f2,f3,f4,f5,f6,f7⟩:=sqC8 s3;have z:=s3.frozen
       repeat' (fail_if_success (first|at_builtin|at_make));first|go_values|go_skip|go_guarded|go_step|go_upon|go_back
       rw [ZE,ZE];have hrn:kT W [a0,a1,a2,a3,a4,a5,a6,a7] (t+1)= [one+two,v0,v1,v2,v3+one,v4,v5,v6]:=by rw [HNX.out,←HONE.out,←HTWO.out];rfl
       have t3:=s3.set8 (.int .u32 (wd (one+two))) (.int .u32 (wd v0)) (.int .u32 (wd v1)) (.int .u32 (wd v2)) (.int .u32 (wd (v3+one))) (.int .u32 (wd v4)) (.int .u32 (wd v5)) (.int .u32 (wd v6));have T3:=sqH t3;have HRN:=sqH hrn;clear t3 hrn s3 f0 f1 f2 f3 f4 f5 f6 f7 z;go_roundw
       case rel =>
        refine⟨t+1,by go_num,by omega,s0.other8 ne03 _ _ _ _ _ _ _ _,s1.other8 ne13 _ _ _ _ _ _ _ _,s2.other8 ne23 _ _ _ _ _ _ _ _,?_,Below.set8 sb hgb3 _ _ _ _ _ _ _ _⟩;rw [HRN.out];exact T3.out
       case measure=>simp [intOf];omega
      ·obtain rfl:t=64:=by omega
       have hVl:(kT W [a0,a1,a2,a3,a4,a5,a6,a7] 64).length=8:=qO W _ rfl 64;have hst:qS [a0,a1,a2,a3,a4,a5,a6,a7] M=List.zipWith (· + ·) (kT W [a0,a1,a2,a3,a4,a5,a6,a7] 64) [a0,a1,a2,a3,a4,a5,a6,a7]:=by rw [qS,HW.out]
       generalize kT W [a0,a1,a2,a3,a4,a5,a6,a7] 64=V at *
       have hhl: [a0,a1,a2,a3,a4,a5,a6,a7].length=8:=rfl;generalize hH: [a0,a1,a2,a3,a4,a5,a6,a7]=H at *
       have HST:=sqH hst;have HH:=sqH hH;clear hst hH hh q2
       repeat' (fail_if_success (first|at_builtin|at_make));first|go_values|go_skip|go_guarded|go_step|go_upon|go_back
       have q0':Arr wr g0 89 (wds (kL H V 0)):=by rw [yZ];exact q0
       clear q0;rw [show((64:Nat):Int)=(64:Int) from rfl];go_loopw [160] (fun i wr=>∃t:Nat,i= .int .i64 t∧t≤8∧Arr wr g0 89 (wds (kL H V t))∧Arr wr g1 89 (wds (List.replicate 8 0))∧Arr wr g3 89 (wds V)∧Below w.heap.size w wr) (fun i _=>8 - (intOf i).toNat)
       case atStart=>exact⟨0,rfl,by omega,q0',q1,q3,hbel⟩
       case round =>
        clear q0' q1 q3 hbel;obtain⟨t,rfl,ht,q0,q1,q3,hbel⟩:=hrel;by_cases hlt4:t<8
        ·obtain⟨x,y,hx,hy,hnx⟩:=yY H V t (by omega) (by omega);have HNX:=sqH hnx;have cx:=q0.cell hx;have cy:=q3.cell hy;have fx:=q0.frozen t;have hs:=q0.set (k:=t) (by rw [zn,qj H V t (by omega)];omega) (.int .u32 (wd (x+y)));rw [kF,hnx]at hs;have HS:=sqH hs;clear hnx hx hy hs;have i1:(t:Int)<8:=by omega
         have i2:(0:Int)≤(t:Int):=by omega
         have i5:decide ((t:Int)<8)=true:=by simpa using i1
         repeat' (fail_if_success (first|at_builtin|at_make));first|go_values|go_skip|go_guarded|go_step|go_upon|go_back
         go_still_tail 8,(by kernel_rfl)
         change wpList _ _ _ _ _ wr.drew;rw [vz];have dx:wr.drew.cell? ⟨g0,t,none⟩=some (.int .u32 (wd x)):=cx;have gx:wr.drew.frozen? ⟨g0,t,none⟩=false:=fx
         repeat' (fail_if_success (first|at_builtin|at_make));first|go_values|go_skip|go_guarded|go_step|go_upon|go_back
         go_roundw
         case rel =>
          exact⟨t+1,by go_num,by omega,HS.out,q1.other (by omega) _,q3.other (by omega) _,Below.setCell hbel.drew (show w.heap.size≤g0 by omega) _⟩
         case measure=>simp [intOf];omega
        ·obtain rfl:t=8:=by omega
         have hpl:(kL H V 8).length=8:=by rw [qj H V 8 (by omega)];exact hhl
         have hpe:kL H V 8=qS H M:=by rw [xU H V 8 (by omega) (by omega),HST.out]
         rw [hpe]at q0 hpl;clear hpe;obtain⟨c0,c1,c2,c3,c4,c5,c6,c7,hc8⟩:=up _ hpl;rw [hc8]at q0;have HC8:=sqH hc8;clear hc8 hpl;obtain⟨e0,e1,e2,e3,e4,e5,e6,e7⟩:=sqC8 q0;obtain⟨o0,o1,o2,o3,o4,o5,o6,o7⟩:=sqC8 q1;have z:=q1.frozen
         repeat' (fail_if_success (first|at_builtin|at_make));first|go_values|go_skip|go_guarded|go_step|go_upon|go_back
         have r1:=q1.set8 (.int .u32 (wd c0)) (.int .u32 (wd c1)) (.int .u32 (wd c2)) (.int .u32 (wd c3)) (.int .u32 (wd c4)) (.int .u32 (wd c5)) (.int .u32 (wd c6)) (.int .u32 (wd c7));have rb:=Below.set8 hbel (show w.heap.size≤g1 by omega) (.int .u32 (wd c0)) (.int .u32 (wd c1)) (.int .u32 (wd c2)) (.int .u32 (wd c3)) (.int .u32 (wd c4)) (.int .u32 (wd c5)) (.int .u32 (wd c6)) (.int .u32 (wd c7));refine bodyPost_ret (results_cell_row rfl _ _ g1 _ _ _ _ (by rfl) r1 Tryz.underlying89 rfl (by kernel_rfl)) rfl ⟨?_,rb⟩;rw [HH.out,HM.out,HC8.out];rfl
end Go.Proofs.YtfmnggcfhalfnaaGreat
namespace Go.Proofs.YtfmnggcfhalfnaaGreat
open Go.RowKit
theorem vG (l:List UInt8) (h:l.length<4):zL l= []:=by
 match l,h with
 | [],_=>rfl
 | [_],_=>rfl
 | [_,_],_=>rfl
 | [_,_,_],_=>rfl
theorem yg:∀(k:Nat) (l:List UInt8),zL (l.drop (4*k))=(zL l).drop k
 | 0,l=>by simp
 | k+1,l=>by
  by_cases h:l.length<4
  ·rw [vG l h,List.drop_nil,List.drop_eq_nil_of_le (by omega)];rfl
  ·match l,h with
   | a::b::c::d::r,_ =>
    rw [show 4*(k+1)=4*k+4 by omega]
    show zL (r.drop (4*k))=_
    rw [yg k r,zL,List.drop_succ_cons]
   | [],h=>simp at h
   | [_],h=>simp at h
   | [_,_],h=>simp at h
   | [_,_,_],h=>simp at h
theorem yh:∀(k:Nat) (l:List UInt8),4*k≤l.length→zL (l.take (4*k))=(zL l).take k
 | 0,l,_=>by simp [zL]
 | k+1,a::b::c::d::r,h=>by
  rw [show 4*(k+1)=4*k+1+1+1+1 by omega]
  simp only [List.take_succ_cons,zL]
  rw [yh k r (by simp at h;omega)]
 | k+1, [],h=>by simp at h
 | k+1, [_],h=>by simp at h;omega
 | k+1, [_,_],h=>by simp at h;omega
 | k+1, [_,_,_],h=>by simp at h;omega
theorem vA (h:List W32) (P:List UInt8) (k:Nat) (hk:64*(k+1)≤P.length):qS (ke h (zL P) k) (zL ((P.drop (64*k)).take 64))=ke h (zL P) (k+1):=by
 have e:zL ((P.drop (64*k)).take 64)=((zL P).drop (16*k)).take 16:=by
  rw [show(64:Nat)=4*16 from rfl,yh 16 _ (by rw [List.length_drop];omega),show 4*16*k=4*(16*k) by omega,yg]
 rw [e];rfl
def nib (x:W32) (i:Nat):UInt8:=dig (x.toNat / 16 ^ (7 - i) % 16)
def Zp (x:W32) (k:Nat):List UInt8:=(List.range k).map (nib x)
theorem uD (x:W32) (k:Nat):Zp x (k+1)=Zp x k++ [nib x k]:=by simp [Zp,List.range_succ]
theorem jz (x:W32):Zp x 8=qU (wb x):=by
 have hx:=x.isLt;show [nib x 0,nib x 1,nib x 2,nib x 3,nib x 4,nib x 5,nib x 6,nib x 7]=qU [_,_,_,_];simp only [qU,List.flatMap_cons,List.flatMap_nil,hx1,List.append_nil,List.cons_append,List.nil_append,nib,UInt8.toNat_ofNat'];generalize x.toNat=n at *
 have e (i:Nat):(2:Nat) ^ 8=256:=rfl;rw [show n / 16777216 % 2 ^ 8 / 16=n / 16 ^ (7 - 0) % 16 by simp only [Nat.reduceSub,Nat.reducePow];omega,show n / 16777216 % 2 ^ 8 % 16=n / 16 ^ (7 - 1) % 16 by simp only [Nat.reduceSub,Nat.reducePow];omega,
  show n / 65536 % 2 ^ 8 / 16=n / 16 ^ (7 - 2) % 16 by simp only [Nat.reduceSub,Nat.reducePow];omega,show n / 65536 % 2 ^ 8 % 16=n / 16 ^ (7 - 3) % 16 by simp only [Nat.reduceSub,Nat.reducePow];omega,
  show n / 256 % 2 ^ 8 / 16=n / 16 ^ (7 - 4) % 16 by simp only [Nat.reduceSub,Nat.reducePow];omega,show n / 256 % 2 ^ 8 % 16=n / 16 ^ (7 - 5) % 16 by simp only [Nat.reduceSub,Nat.reducePow];omega,
  show n % 2 ^ 8 / 16=n / 16 ^ (7 - 6) % 16 by simp only [Nat.reduceSub,Nat.reducePow];omega,show n % 2 ^ 8 % 16=n / 16 ^ (7 - 7) % 16 by simp only [Nat.reduceSub,Nat.reducePow];omega]
theorem yM (N:Nat):(xk N).length=8:=by simp [xk]
theorem ug (N k:Nat) (hk:k<8):(xk N).take (k+1)=(xk N).take k++ [UInt8.ofNat (N / 256 ^ (7 - k))]:=by
 have h:k<(xk N).length:=by rw [yM];exact hk
 rw [List.take_succ_eq_append_getElem h]
 congr 2
 match k,hk with
 | 0,_=>rfl
 | 1,_=>rfl
 | 2,_=>rfl
 | 3,_=>rfl
 | 4,_=>rfl
 | 5,_=>rfl
 | 6,_=>rfl
 | 7,_=>rfl
theorem jQ (n k:Nat) (hk:k<8):(n:Int)*8 / 2 ^ (56 - 8*k) % 256=((UInt8.ofNat (8*n / 256 ^ (7 - k))).toNat:Int):=by
 have e:(256:Nat) ^ (7 - k)=2 ^ (56 - 8*k):=by
  rw [show(256:Nat)=2 ^ 8 by rfl,←Nat.pow_mul];congr 1;omega
 rw [UInt8.toNat_ofNat',e,show(n:Int)*8=((8*n:Nat):Int) by omega,show(2:Int) ^ (56 - 8*k)=((2 ^ (56 - 8*k):Nat):Int) by simp];generalize 2 ^ (56 - 8*k)=q;rw [←Int.natCast_ediv,show(2:Nat) ^ 8=256 by rfl];omega
theorem jy (x:W32) (k:Nat) (hk:k<8):bits BinOp.and IntKind.u32 (wd x / 2 ^ (28 - 4*k)) 15=((x.toNat / 16 ^ (7 - k) % 16:Nat):Int):=by
 have e:(16:Nat) ^ (7 - k)=2 ^ (28 - 4*k):=by
  rw [show(16:Nat)=2 ^ 4 by rfl,←Nat.pow_mul];congr 1;omega
 have h15:(15:Int)=wd (15:W32):=rfl;rw [xb,h15,zP,e];show(((x >>> (28 - 4*k)) &&& 15#32).toNat:Int)=_;rw [BitVec.toNat_and,BitVec.toNat_ushiftRight,Nat.shiftRight_eq_div_pow];show(((x.toNat / 2 ^ (28 - 4*k)) &&& (2 ^ 4 - 1):Nat):Int)=_;rw [Nat.and_two_pow_sub_one_eq_mod]
theorem Qi (a0 a1 a2 a3 a4 a5 a6 a7:W32) (j:Nat) (hj:j<8):∃x, [a0,a1,a2,a3,a4,a5,a6,a7][j]?=some x∧∀w:World,(Instr.index 89 (.agg #[.int .u32 (wd a0),.int .u32 (wd a1),.int .u32 (wd a2),.int .u32 (wd a3),.int .u32 (wd a4),.int .u32 (wd a5),.int .u32 (wd a6),.int .u32 (wd a7)]) (.int .i64 j)).run Tryz.prog w= .ok (.int .u32 (wd x)) w :=
 match j,hj with
 | 0,_=>⟨a0,rfl,fun _=>by kernel_rfl⟩
 | 1,_=>⟨a1,rfl,fun _=>by kernel_rfl⟩
 | 2,_=>⟨a2,rfl,fun _=>by kernel_rfl⟩
 | 3,_=>⟨a3,rfl,fun _=>by kernel_rfl⟩
 | 4,_=>⟨a4,rfl,fun _=>by kernel_rfl⟩
 | 5,_=>⟨a5,rfl,fun _=>by kernel_rfl⟩
 | 6,_=>⟨a6,rfl,fun _=>by kernel_rfl⟩
 | 7,_=>⟨a7,rfl,fun _=>by kernel_rfl⟩
theorem jv (a b:List UInt8):qU (a++b)=qU a++qU b:=by simp [qU]
theorem j6 (n k:Nat) (h:(n+1+k) % 64≠56) (hk:k≤qV n):k<qV n:=by unfold qV at *;omega
theorem vi (n k:Nat) (h:(n+1+k) % 64=56) (hk:k≤qV n):k=qV n:=by unfold qV at *;omega
theorem vX (A:Option Addr) (n c:Nat) (l:List UInt8) (w:World) (hl:l.length=n) (hc:n≤c) (hm:n≤140737488353280) (hr:Rd w 1 A n (bys l)) :
  Calls Tryz.prog 43 #[.slice A n c] w fun e w'=>∃v,e= .returned v∧w'.ownsRow w.heap.size 5 1 v n (bys l)∧Below w.heap.size w w':=by
 have heq:=fun W=>Lib.run_eql_slice_nil (P:=Tryz.prog) W 30 5 A n c 0 0 Tryz.underlying30;cases A with
 | none =>
  obtain rfl:n=0:=by
   rcases Nat.eq_zero_or_pos n with h | h
   ·exact h
   ·obtain⟨_,_,h1,_⟩:=hr.2 h;cases h1
  obtain rfl:l= []:=List.eq_nil_of_length_eq_zero hl;go_enter Tryz.func43,Tryz.ntmps43;go_wp2_with fail;go_ret;exact⟨_,rfl,World.ownsRow_nil _ _ _ _,Below.refl _ _⟩
 | some ad =>
  go_enter Tryz.func43,Tryz.ntmps43
  repeat' (fail_if_success (first|at_builtin|at_make));first|go_values|go_skip|go_guarded|go_step|go_upon|go_back
  refine zq rfl (.tmp 5) (.tmp 6) rfl yE (by rfl) (World.ownsRow_made (size:=1) w #[] 0 (Nat.le_refl _) (by simp [maxLen]) rfl) (by rfl) (hr.alloc _) (qX _) (by omega) (by simp) ?_;intro v1 w1 hown1 hg1 _;have hb1:=zc ((Below.refl _ _).alloc (Nat.le_refl _) _) (World.ownsRow_made (size:=1) w #[] 0 (Nat.le_refl _) (by simp [maxLen]) rfl) (Nat.le_refl _) hg1;go_wp2_with fail;go_ret;exact⟨_,rfl,by simpa using hown1,hb1⟩
theorem yO (w:World):Calls Tryz.prog 44 #[] w fun e w'=>e= .returned (.slice (some ⟨w.heap.size,0,none⟩) 64 64)∧Rd w' 1 (some ⟨w.heap.size,0,none⟩) 64 (wds rks)∧Below w.heap.size w w':=by
 go_enter Tryz.func44,Tryz.ntmps44;go_wp2_with fail;go_ret;refine⟨rfl,?_,(Below.refl _ _).alloc (Nat.le_refl _) _⟩;exact Rd.newN (w:=w) (e:=88) (size:=1) (m:=64) (wds rks) (by rfl)
theorem ux (A:Option Addr) (n c:Nat) (l:List UInt8) (B:Option Addr) (d:Nat) (a0 a1 a2 a3 a4 a5 a6 a7 d0 d1 d2 d3 d4 d5 d6 d7:W32) (w:World) (hst:qS [a0,a1,a2,a3,a4,a5,a6,a7] (zL (l.take 64))= [d0,d1,d2,d3,d4,d5,d6,d7]) (hl:l.length=n) (hn:64≤n) (hc:n≤c) (hm:n≤140737488353280) (hr:Rd w 1 A n (bys l)) (hk:Rd w 1 B 64 (wds rks)) (hd:64≤d) :
  Calls Tryz.prog 45 #[.agg #[.int .u32 (wd a0),.int .u32 (wd a1),.int .u32 (wd a2),.int .u32 (wd a3),.int .u32 (wd a4),.int .u32 (wd a5),.int .u32 (wd a6),.int .u32 (wd a7)],.slice A n c,.slice B 64 d] w fun e w' =>
   e= .returned (.agg #[.int .u32 (wd d0),.int .u32 (wd d1),.int .u32 (wd d2),.int .u32 (wd d3),.int .u32 (wd d4),.int .u32 (wd d5),.int .u32 (wd d6),.int .u32 (wd d7)])∧Below w.heap.size w w':=by
 refine(uy A n c l B d [a0,a1,a2,a3,a4,a5,a6,a7] w hl hn hc hm hr hk hd rfl).mono fun e w' h=> ?_;rw [hst]at h;exact h
theorem vj (A:Option Addr) (n c:Nat) (l:List UInt8) (w:World) (hl:l.length=n) (hc:n≤c) (hm:n≤140737488351300) (hr:Rd w 1 A n (bys l)) :
  Calls Tryz.prog 16 #[.slice A n c] w fun e w'=>e= .returned (.string ⟨(shaS l).toArray⟩)∧Below w.heap.size w w':=by
 have HL:=sqH hl;clear hl;go_enter Tryz.func16,Tryz.ntmps16
 repeat' (fail_if_success (first|at_builtin|at_make));first|go_values|go_skip|go_guarded|go_step|go_upon|go_back
 refine(vX _ _ _ l _ HL.out hc (by omega) hr).mono ?_;rintro e_ w1 ⟨v1,rfl,ho1,hb1⟩;dsimp only
 repeat' (fail_if_success (first|at_builtin|at_make));first|go_values|go_skip|go_guarded|go_step|go_upon|go_back
 have hl:=HL.out;refine zh rfl (.tmp 13) (.tmp 14) rfl yE (by rfl) ho1 rfl rfl (by simp;rfl) (by omega) hb1.size ?_;intro v2 w2 ho2 hg2 _;have hb2:=zc hb1 ho1 (Nat.le_refl _) hg2;have ho3:w2.ownsRow w.heap.size 5 1 v2 (n+1+0) (bys (l++ [128]++List.replicate 0 0)):=by
  rw [List.replicate_zero,List.append_nil,zD];exact ho2
 clear hl ho1 ho2 hg2 hb1
 repeat' (fail_if_success (first|at_builtin|at_make));first|go_values|go_skip|go_guarded|go_step|go_upon|go_back
 go_loopg [3] (qV n) (fun gn v wr=>∃k,gn=qV n - k∧k≤qV n∧wr.ownsRow w.heap.size 5 1 v (n+1+k) (bys (l++ [128]++List.replicate k 0))∧Below w.heap.size w wr)
 case atStart=>exact⟨0,rfl,by omega,ho3,hb2⟩
 case round =>
  clear ho3 hb2;obtain⟨k,hgk,hk,hown,hbel⟩:=hrel;obtain⟨A3,c3,rfl,hc3,hrd3⟩:=Rd.of_own' hown;have hz:qV n≤63:=by unfold qV;omega
  by_cases h56:(n+1+k) % 64=56
  ·have hkz:=vi n k h56 hk;have hb56:(((n+1+k:Nat):Int) % 64 != 56)=false:=by rw [bne_eq_false_iff_eq];omega
   generalize hm1:n+1+k=m at *
   have HM:=sqH hm1;have hm2:m≤n+64:=by omega
   clear hm1 h56 hgk;subst hkz
   repeat' (fail_if_success (first|at_builtin|at_make));first|go_values|go_skip|go_guarded|go_step|go_upon|go_back
   have ho4:wr.ownsRow w.heap.size 5 1 (.slice A3 m c3) (m+0) (bys (l++ [128]++List.replicate (qV n) 0++(xk (8*n)).take 0)):=by
    rw [List.take_zero,List.append_nil];exact hown
   clear hown hrd3 hc3 hb56;go_loopg [3,27] 8 (fun gn v i wr=>∃k:Nat,gn=8 - k∧i= .int .i64 k∧k≤8∧wr.ownsRow w.heap.size 5 1 v (m+k) (bys (l++ [128]++List.replicate (qV n) 0++(xk (8*n)).take k))∧Below w.heap.size w wr)
   case atStart=>exact⟨0,rfl,rfl,by omega,ho4,hbel⟩
   case round =>
    clear ho4 hbel;obtain⟨k,hgk,rfl,hk,hown,hbel⟩:=hrel;have HGK:=sqH hgk;clear hgk;by_cases hk8:k<8
    ·have hbn:=ug (8*n) k hk8;have HBN:=sqH hbn;clear hbn
     repeat' (fail_if_success (first|at_builtin|at_make));first|go_values|go_skip|go_guarded|go_step|go_upon|go_back
     refine zh rfl (.tmp 30) (.tmp 37) rfl yE (by rfl) hown rfl rfl (by simp;rfl) (by omega) hbel.size ?_;intro v2 w2 ho2 hg2 _;have hb2:=zc hbel hown (Nat.le_refl _) hg2
     repeat' (fail_if_success (first|at_builtin|at_make));first|go_values|go_skip|go_guarded|go_step|go_upon|go_back
     go_roundg (8 - (k+1))
     case measure=>have:=HGK.out;omega
     case rel =>
      refine⟨k+1,rfl,by go_num,by omega,?_,hb2⟩;rw [jQ n k hk8]at ho2;rw [HBN.out,←List.append_assoc,zD _ [_]];exact ho2
    ·obtain rfl:k=8:=by omega
     have hsp:l++ [128]++List.replicate (qV n) 0++(xk (8*n)).take 8=zt l:=by
      rw [List.take_of_length_le (by rw [yM];omega)];unfold zt;rw [HL.out]
     have hpl:=y8 l;have hpl2:(zt l).length=m+8:=by rw [←hsp];have:=HM.out;have:=HL.out;simp [yM];omega
     rw [hsp]at hown;clear hsp;obtain⟨q,hq⟩:∃q,(zt l).length=64*q:=⟨(zt l).length / 64,by omega⟩
     have hfin:shaS l=qU (wbs (ke h0s (zL (zt l)) q)):=by
      unfold shaS jE;rw [hq,Nat.mul_div_cancel_left _ (by omega)]
     have HFIN:=sqH hfin;clear hfin;generalize zt l=P at *
     obtain⟨A5,c5,rfl,hc5,hrd5⟩:=Rd.of_own' hown;have hm8:m+8≤n+72:=by omega
     have HPL:=sqH hpl2;have HQ:=sqH hq;clear hq hpl2 hown hpl hm2;generalize m+8=L at *
     have hLq:L=64*q:=by rw [←HPL.out];exact HQ.out
     have HLQ:=sqH hLq;clear hLq;rw [show((8:Nat):Int)=(8:Int) from rfl]
     repeat' (fail_if_success (first|at_builtin|at_make));first|go_values|go_skip|go_guarded|go_step|go_upon|go_back
     have qa:=Arr.new wr 89 (wds h0s);have qb:=hbel.alloc hbel.size (.cells (wds h0s).toArray 89);have qr:=hrd5.alloc (.cells (wds h0s).toArray 89);have qw:0<L - 64*0→∃b off,A5=some ⟨b,off,none⟩∧b<wr.heap.size:=fun h=>by
      obtain⟨b,off,e,hb,_⟩:=hrd5.2 h;exact⟨b,off,e,hb⟩
     change Calls _ _ _ (wr.alloc (.cells (wds h0s).toArray 89)) _;have hgb:=hbel.size;clear hbel hrd5 hk;generalize wr.alloc (.cells (wds h0s).toArray 89)=wa at *
     generalize wr.heap.size=gh at *
     refine(yO _).mono ?_;rintro e_ w5 ⟨rfl,qk,hb5⟩;dsimp only;have qa2:=qa.below hb5;have qr2:=qr.below hb5;have qb2:=qb.trans (hb5.mono qb.size);have hga:=qa.lt;generalize wa.heap.size=gc at *
     have qr3:Rd w5 1 A5 (L - 64*0) (bys (P.drop (64*0))):=qr2;clear qa qb qr hb5 qr2
     repeat' (fail_if_success (first|at_builtin|at_make));first|go_values|go_skip|go_guarded|go_step|go_upon|go_back
     go_loopg [3] q (fun gn v wr=>∃k A' c',gn=q - k∧k≤q∧v= .slice A' (L - 64*k) c'∧L - 64*k≤c'∧(0<L - 64*k→∃b off,A'=some ⟨b,off,none⟩∧b<gh)∧Rd wr 1 A' (L - 64*k) (bys (P.drop (64*k)))∧Arr wr gh 89 (wds (ke h0s (zL P) k))∧Rd wr 1 (some ⟨gc,0,none⟩) 64 (wds rks)∧Below w.heap.size w wr)
     case atStart=>exact⟨0,A5,c5,rfl,by omega,rfl,hc5,qw,qr3,qa2,qk,qb2⟩
     case round =>
      clear qa2 qk qb2 qr3 qw;obtain⟨k,A',c',hgk,hk,rfl,hc',qw,qr,qa,qk,qb⟩:=hrel;have hclen:=zS h0s (zL P) rfl k;obtain⟨a0,a1,a2,a3,a4,a5,a6,a7,hch⟩:=up _ hclen;have HCH:=sqH hch;rw [hch]at qa;have HGK:=sqH hgk;by_cases hkq:k<q
      ·have hnx:=vA h0s P k (by have:=HQ.out;omega);have hclen2:=zS h0s (zL P) rfl (k+1);obtain⟨d0,d1,d2,d3,d4,d5,d6,d7,hch2⟩:=up _ hclen2;rw [hch,hch2]at hnx;have HCH2:=sqH hch2;have hr64:64≤L - 64*k:=by have:=HLQ.out;omega
       have hpd:(P.drop (64*k)).length=L - 64*k:=by rw [List.length_drop,HPL.out]
       have hdd:(P.drop (64*k)).drop 64=P.drop (64*(k+1)):=by rw [List.drop_drop];congr 1
       have hll:L - 64*k - 64=L - 64*(k+1):=by omega
       obtain⟨b,off,rfl,hbg⟩:=qw (by omega);clear qw;generalize hr1:L - 64*k=r at *
       have HNX:=sqH hnx;have HPD:=sqH hpd;have HDD:=sqH hdd;have HLL:=sqH hll;have hr2:r≤n+72:=by omega
       generalize P.drop (64*k)=Q at *
       clear hch hch2 hclen hclen2 hgk hnx hpd hdd hll hr1;obtain⟨f0,f1,f2,f3,f4,f5,f6,f7⟩:=sqC8 qa
       repeat' (fail_if_success (first|at_builtin|at_make));first|go_values|go_skip|go_guarded|go_step|go_upon|go_back
       refine(ux _ _ _ Q _ _ _ _ _ _ _ _ _ _ d0 d1 d2 d3 d4 d5 d6 d7 _ HNX.out HPD.out hr64 hc' (by omega) qr qk (by omega)).mono ?_;rintro e_ w6 ⟨rfl,hb6⟩;dsimp only;have qa6:=qa.below hb6;have qr6:=qr.below hb6;have qk6:=qk.below hb6;have qb6:=qb.trans (hb6.mono qb.size);clear qa qr qk qb hb6 f0 f1 f2 f3 f4 f5 f6 f7;obtain⟨f0,f1,f2,f3,f4,f5,f6,f7⟩:=sqC8 qa6;have z:=qa6.frozen;have i64:(64:Int)≤(r:Int):=by omega
       have i65:(r:Int)≤(c':Int):=by omega
       repeat' (fail_if_success (first|at_builtin|at_make));first|go_values|go_skip|go_guarded|go_step|go_upon|go_back
       go_roundg (q - (k+1))
       case measure=>have:=HGK.out;omega
       case rel =>
        have hcut:=(qr6.other8 (show b≠gh by omega) (.int .u32 (wd d0)) (.int .u32 (wd d1)) (.int .u32 (wd d2)) (.int .u32 (wd d3)) (.int .u32 (wd d4)) (.int .u32 (wd d5)) (.int .u32 (wd d6)) (.int .u32 (wd d7))).cutAt (k:=64) (c:=c') hr64 hc';rw [jq,HDD.out]at hcut;refine⟨k+1,_,c' - 64,rfl,by omega,by rw [HLL.out],by rw [←HLL.out];omega,fun _=> ?_,by rw [←HLL.out];exact hcut,?_,qk6.other8 (show gc≠gh by omega) _ _ _ _ _ _ _ _,Below.set8 qb6 hgb _ _ _ _ _ _ _ _⟩
        ·split
         ·exact⟨_,_,rfl,hbg⟩
         ·exact⟨_,_,rfl,hbg⟩
        ·rw [HCH2.out];exact qa6.set8 _ _ _ _ _ _ _ _
      ·obtain rfl:k=q:=by omega
       have hL0:L - 64*k=0:=by have:=HLQ.out;omega
       rw [hL0];have hfin:=HFIN.out;rw [hch]at hfin;have hHl: [a0,a1,a2,a3,a4,a5,a6,a7].length=8:=rfl;have hidx:=fun j hj=>Qi a0 a1 a2 a3 a4 a5 a6 a7 j hj;have HIDX:=sqH hidx;have HFIN2:=sqH hfin;clear hidx hfin hch hgk HCH HFIN HGK qw qr qk hclen hL0 hkq hk hc' HQ HLQ;obtain⟨f0,f1,f2,f3,f4,f5,f6,f7⟩:=sqC8 qa;clear qa
       repeat' (fail_if_success (first|at_builtin|at_make));first|go_values|go_skip|go_guarded|go_step|go_upon|go_back
       clear f0 f1 f2 f3 f4 f5 f6 f7;go_loopg [8,52] 8 (fun gn v i wr=>∃j:Nat,gn=8 - j∧i= .int .i64 j∧j≤8∧wr.ownsRow w.heap.size 5 1 v (8*j) (bys (qU (wbs ([a0,a1,a2,a3,a4,a5,a6,a7].take j))))∧Below w.heap.size w wr)
       case atStart=>exact⟨0,rfl,rfl,by omega,World.ownsRow_nil _ _ _ _,qb⟩
       case round =>
        clear qb;obtain⟨j,hgj,rfl,hj,hown,hbel⟩:=hrel;have HGJ:=sqH hgj;clear hgj;by_cases hj8:j<8
        ·obtain⟨x,hx,hxi⟩:=HIDX.out j hj8;have hwx:=vh [a0,a1,a2,a3,a4,a5,a6,a7] j hj8;have hxe: [a0,a1,a2,a3,a4,a5,a6,a7][j]'hj8=x:=by
          rw [List.getElem?_eq_getElem hj8]at hx;exact Option.some.inj hx
         rw [hxe]at hwx;have HWX:=sqH hwx;clear hwx hxe hx;have hjl:(j:Int)<8:=by omega
         have hjb:decide ((j:Int)<8)=true:=by simpa using hjl
         repeat' (fail_if_success (first|at_builtin|at_make));first|go_values|go_skip|go_guarded|go_step|go_upon|go_back
         have ho5:wr.ownsRow w.heap.size 5 1 u8 (8*j+0) (bys (qU (wbs ([a0,a1,a2,a3,a4,a5,a6,a7].take j))++Zp x 0)):=by
          rw [show Zp x 0= [] from rfl,List.append_nil];exact hown
         clear hown hxi;generalize hF:qU (wbs ([a0,a1,a2,a3,a4,a5,a6,a7].take j))=F at *
         have HF:=sqH hF;clear hF;go_loopg [8,55] 8 (fun gn v i wr=>∃k:Nat,gn=8 - k∧i= .int .i64 k∧k≤8∧wr.ownsRow w.heap.size 5 1 v (8*j+k) (bys (F++Zp x k))∧Below w.heap.size w wr)
         case atStart=>exact⟨0,rfl,rfl,by omega,ho5,hbel⟩
         case round =>
          clear ho5 hbel;obtain⟨k,hgk,rfl,hk,hown,hbel⟩:=hrel;have HGK:=sqH hgk;clear hgk;by_cases hk8:k<8
          ·have hnb:=jy x k hk8;have hq16:x.toNat / 16 ^ (7 - k) % 16<16:=by omega
           have hnib:nib x k=dig (x.toNat / 16 ^ (7 - k) % 16):=rfl;generalize x.toNat / 16 ^ (7 - k) % 16=qn at *
           have HNIB:=sqH hnib;clear hnib;have hwx0:=ZD x;have hwx1:=ZC x;have hkl:(k:Int)<8:=by omega
           repeat' (fail_if_success (first|at_builtin|at_make));first|go_values|go_skip|go_guarded|go_step|go_upon|go_back
           rw [dif_pos (by omega)];simp only [Zi,Result.andThen]
           repeat' (fail_if_success (first|at_builtin|at_make));first|go_values|go_skip|go_guarded|go_step|go_upon|go_back
           refine zh rfl (.tmp 58) (.tmp 66) rfl yE (by rfl) hown rfl rfl (by simp;rfl) (by omega) hbel.size ?_;intro v7 w7 ho7 hg7 _;have hb7:=zc hbel hown (Nat.le_refl _) hg7
           repeat' (fail_if_success (first|at_builtin|at_make));first|go_values|go_skip|go_guarded|go_step|go_upon|go_back
           go_roundg (8 - (k+1))
           case measure=>have:=HGK.out;omega
           case rel =>
            refine⟨k+1,rfl,by go_num,by omega,?_,hb7⟩;rw [uD,←List.append_assoc,zD _ [_],HNIB.out];exact ho7
          ·obtain rfl:k=8:=by omega
           have ho6:wr.ownsRow w.heap.size 5 1 u8 (8*(j+1)) (bys (F++qU (wb x))):=by
            rw [←jz];exact hown
           clear hown
           repeat' (fail_if_success (first|at_builtin|at_make));first|go_values|go_skip|go_guarded|go_step|go_upon|go_back
           go_roundg (8 - (j+1))
           case measure=>have:=HGJ.out;omega
           case rel =>
            refine⟨j+1,rfl,by go_num,by omega,?_,hbel⟩;rw [HWX.out,jv,HF.out];exact ho6
        ·obtain rfl:j=8:=by omega
         obtain⟨A8,c8,rfl,hc8,hrd8⟩:=Rd.of_own' hown;rw [List.take_of_length_le (show [a0,a1,a2,a3,a4,a5,a6,a7].length≤8 by rw [hHl];omega),←HFIN2.out]at hrd8;have hstr:=yy (P:=Tryz.prog) (w:=wr) (c:=c8) (src:=30) (dst:=9) Tryz.underlying30 Tryz.underlying5 Tryz.underlying9 (xX l) hrd8;generalize hS:shaS l=S at *
         have HS:=sqH hS;clear hS
         repeat' (fail_if_success (first|at_builtin|at_make));first|go_values|go_skip|go_guarded|go_step|go_upon|go_back
         go_ret;rw [HS.out];exact⟨rfl,hbel⟩
  ·have hkz:=j6 n k h56 hk;have hb56:(((n+1+k:Nat):Int) % 64 != 56)=true:=by rw [bne_iff_ne];omega
   generalize hm1:n+1+k=m at *
   have HM:=sqH hm1;have hm2:m≤n+64:=by omega
   have HGK:=sqH hgk;clear hm1 h56 hgk
   repeat' (fail_if_success (first|at_builtin|at_make));first|go_values|go_skip|go_guarded|go_step|go_upon|go_back
   refine zh rfl (.tmp 20) (.tmp 21) rfl yE (by rfl) hown rfl rfl (by simp;rfl) (by omega) hbel.size ?_;intro v2 w2 ho2 hg2 _;have hb2:=zc hbel hown (Nat.le_refl _) hg2
   repeat' (fail_if_success (first|at_builtin|at_make));first|go_values|go_skip|go_guarded|go_step|go_upon|go_back
   go_roundg (qV n - (k+1))
   case measure=>have:=HGK.out;omega
   case rel =>
    refine⟨k+1,rfl,by omega,?_,hb2⟩;rw [←Nat.add_assoc,HM.out,List.replicate_succ',←List.append_assoc,zD];exact ho2
theorem kj (A:Option Addr) (n c:Nat) (l:List UInt8) (w:World) (hl:l.length=n) (hc:n≤c) (hm:n≤140737488351232) (hr:Rd w 1 A n (bys l)) :
  Calls Tryz.prog 16 #[.slice A n c] w fun e w'=>e= .returned (.string ⟨(shaS l).toArray⟩)∧Below w.heap.size w w':=vj A n c l w hl hc (by omega) hr
theorem uo (a:UInt8) (h:¬val a<0):dig (val a).toNat=a:=by
 have key:∀n:Fin 256,¬val (UInt8.ofNat n.val)<0→dig (val (UInt8.ofNat n.val)).toNat=UInt8.ofNat n.val:=by decide +kernel
 have:=key ⟨a.toNat,a.toNat_lt⟩;rw [show UInt8.ofNat (a.toNat)=a from UInt8.ofNat_toNat]at this;exact this h
theorem yU:∀(l r:List UInt8),qB l=some r→qU r=l
 | [],r,h=>by simp [qB]at h;subst h;rfl
 | [_],r,h=>by simp [qB]at h
 | a::b::l,r,h=>by
  rw [qB]at h
  split at h
  ·cases h
  ·rename_i hv
   simp only [Option.map_eq_some_iff]at h
   obtain⟨r',hr,rfl⟩:=h
   have ih:=yU l r' hr
   have ra:=zU a
   have rb:=zU b
   have ea:=uo a (fun h=>hv (.inl h))
   have eb:=uo b (fun h=>hv (.inr h))
   show dig ((UInt8.ofNat (16*(val a).toNat+(val b).toNat)).toNat / 16)::dig ((UInt8.ofNat (16*(val a).toNat+(val b).toNat)).toNat % 16)::qU r'=_
   have e:(UInt8.ofNat (16*(val a).toNat+(val b).toNat)).toNat=16*(val a).toNat+(val b).toNat:=by rw [UInt8.toNat_ofNat'];omega
   rw [e,show(16*(val a).toNat+(val b).toNat) / 16=(val a).toNat by omega,show(16*(val a).toNat+(val b).toNat) % 16=(val b).toNat by omega,ea,eb,ih]
theorem Zg (n k j:Nat) (hj:j+k=7):8*(n:Int) / 2 ^ (8*j) % 256=((UInt8.ofNat (8*n / 256 ^ (7 - k))).toNat:Int):=by
 have h:=jQ n k (by omega);rw [show 56 - 8*k=8*j by omega]at h;rw [Int.mul_comm];exact h
theorem ZK (A:Option Addr) (n c:Nat) (l:List UInt8) (w:World) (hl:l.length=n) (hn:n≤2000) (hc:n≤c) (hr:Rd w 1 A n (bys l)) :
  Calls Tryz.prog 94 #[.slice A n c] w fun e w'=>∃A' c',e= .returned (.tuple #[.slice A' (zt l).length c',.int .i64 0])∧OwnB 5 w.heap.size w' A' c' (zt l)∧Below w.heap.size w w':=by
 have HL:=sqH hl;clear hl;go_enter Tryz.func94,Tryz.ntmps94
 repeat' (fail_if_success (first|at_builtin|at_make));first|go_values|go_skip|go_guarded|go_step|go_upon|go_back
 have hl:=HL.out;refine zq rfl (.const (.slice none 0 0)) (.tmp 10) rfl yE (by rfl) (World.ownsRow_nil w w.heap.size _ _) (by rfl) hr (qX _) (by omega) (Nat.le_refl _) ?_;intro v1 w1 ho1 hg1 _;have hb1:=zc (Below.refl _ _) (World.ownsRow_nil w w.heap.size 5 1) (Nat.le_refl _) hg1;rw [List.nil_append,Nat.zero_add]at ho1
 repeat' (fail_if_success (first|at_builtin|at_make));first|go_values|go_skip|go_guarded|go_step|go_upon|go_back
 refine zh rfl (.tmp 11) (.tmp 12) rfl yE (by rfl) ho1 rfl rfl (by simp;rfl) (by omega) hb1.size ?_;intro v2 w2 ho2 hg2 _;have hb2:=zc hb1 ho1 (Nat.le_refl _) hg2;have ho3:w2.ownsRow w.heap.size 5 1 v2 (n+1+0) (bys (l++ [128]++List.replicate 0 0)):=by
  rw [List.replicate_zero,List.append_nil,zD];exact ho2
 clear hl ho1 ho2 hg2 hg1 hb1;go_wp2_with fail;go_loopg [4] (qV n) (fun gn v wr=>∃k,gn=qV n - k∧k≤qV n∧wr.ownsRow w.heap.size 5 1 v (n+1+k) (bys (l++ [128]++List.replicate k 0))∧Below w.heap.size w wr)
 case atStart=>exact⟨0,rfl,by omega,ho3,hb2⟩
 case round =>
  clear ho3 hb2;obtain⟨k,hgk,hk,hown,hbel⟩:=hrel;obtain⟨A3,c3,rfl,hc3,hrd3⟩:=Rd.of_own' hown;have hz:qV n≤63:=by unfold qV;omega
  by_cases h56:(n+1+k) % 64=56
  ·have hkz:=vi n k h56 hk;have hb56:(((n+1+k:Nat):Int) % 64 != 56)=false:=by rw [bne_eq_false_iff_eq];omega
   generalize hm1:n+1+k=m at *
   have HM:=sqH hm1;have hm2:m≤n+64:=by omega
   clear hm1 h56 hgk;subst hkz;go_wp2_with fail;have ho4:wr.ownsRow w.heap.size 5 1 (.slice A3 m c3) (m+0) (bys (l++ [128]++List.replicate (qV n) 0++(xk (8*n)).take 0)):=by
    rw [List.take_zero,List.append_nil];exact hown
   clear hown hrd3 hc3 hb56;go_loopg [4,6] 8 (fun gn v i wr=>Below w.heap.size w wr∧((∃k j:Nat,gn=8 - k∧i= .int .i64 j∧j+k=7∧wr.ownsRow w.heap.size 5 1 v (m+k) (bys (l++ [128]++List.replicate (qV n) 0++(xk (8*n)).take k))) ∨
    (i= .int .i64 (-1)∧wr.ownsRow w.heap.size 5 1 v (m+8) (bys (l++ [128]++List.replicate (qV n) 0++(xk (8*n)).take 8)))))
   case atStart=>exact⟨hbel,.inl ⟨0,7,rfl,rfl,rfl,ho4⟩⟩
   case round =>
    clear ho4 hbel;obtain⟨hbel,⟨k,j,hgk,rfl,hjk,hown⟩ | ⟨rfl,hown⟩⟩:=hrel
    ·have HGK:=sqH hgk;clear hgk;have HJK:=sqH hjk;have hk7:k≤7:=by omega
     have hj7:j≤7:=by omega
     clear hjk;have hbn:=ug (8*n) k (by omega);have HBN:=sqH hbn;clear hbn
     repeat' (fail_if_success (first|at_builtin|at_make));first|go_values|go_skip|go_guarded|go_step|go_upon|go_back
     refine zh rfl (.tmp 28) (.tmp 34) rfl yE (by rfl) hown rfl rfl (by simp;rfl) (by omega) hbel.size ?_;intro v2 w2 ho2 hg2 _;have hb2:=zc hbel hown (Nat.le_refl _) hg2;rw [Zg n k j HJK.out]at ho2;have ho9:w2.ownsRow w.heap.size 5 1 v2 (m+(k+1)) (bys (l++ [128]++List.replicate (qV n) 0++(xk (8*n)).take (k+1))):=by
      rw [HBN.out,←List.append_assoc,zD _ [_]];exact ho2
     by_cases hj0:j=0
     ·subst hj0;go_wp2_with fail;go_roundg 0
      case measure=>have:=HGK.out;omega
      case rel =>
       have hk:k=7:=by have:=HJK.out;omega
       subst hk;exact⟨hb2,.inr ⟨by go_num,ho9⟩⟩
     ·have hj1:1≤j:=by omega
      clear hj0;go_wp2_with fail;go_roundg (8 - (k+1))
      case measure=>have:=HGK.out;omega
      case rel=>exact⟨hb2,.inl ⟨k+1,j - 1,rfl,by go_num,by have:=HJK.out;omega,ho9⟩⟩
    ·have hsp:l++ [128]++List.replicate (qV n) 0++(xk (8*n)).take 8=zt l:=by
      rw [List.take_of_length_le (by rw [yM];omega)];unfold zt;rw [HL.out]
     have hpl2:(zt l).length=m+8:=by rw [←hsp];have:=HM.out;have:=HL.out;simp [yM];omega
     rw [hsp]at hown;clear hsp;obtain⟨A5,c5,rfl,hc5,hrd5⟩:=Rd.of_own' hown;have HPL:=sqH hpl2;clear hpl2 hown
     repeat' (fail_if_success (first|at_builtin|at_make));first|go_values|go_skip|go_guarded|go_step|go_upon|go_back
     refine zq rfl (.const (.slice none 0 0)) (.tmp 36) rfl yE (by rfl) (World.ownsRow_nil wr w.heap.size _ _) (by rfl) hrd5 (qX _) (by omega) hbel.size ?_;intro v8 w8 ho8 hg8 _;have hb8:=zc hbel (World.ownsRow_nil wr w.heap.size 5 1) (Nat.le_refl _) hg8;rw [List.nil_append,Nat.zero_add]at ho8;obtain⟨A9,c9,rfl,ho9⟩:=OwnB.of HPL.out ho8;go_wp2_with fail;go_ret2;exact⟨A9,c9,rfl,ho9,hb8⟩
  ·have hkz:=j6 n k h56 hk;have hb56:(((n+1+k:Nat):Int) % 64 != 56)=true:=by rw [bne_iff_ne];omega
   generalize hm1:n+1+k=m at *
   have HM:=sqH hm1;have hm2:m≤n+64:=by omega
   have HGK:=sqH hgk;clear hm1 h56 hgk
   repeat' (fail_if_success (first|at_builtin|at_make));first|go_values|go_skip|go_guarded|go_step|go_upon|go_back
   refine zh rfl (.tmp 18) (.tmp 19) rfl yE (by rfl) hown rfl rfl (by simp;rfl) (by omega) hbel.size ?_;intro v2 w2 ho2 hg2 _;have hb2:=zc hbel hown (Nat.le_refl _) hg2;go_wp2_with fail;go_roundg (qV n - (k+1))
   case measure=>have:=HGK.out;omega
   case rel =>
    refine⟨k+1,rfl,by omega,?_,hb2⟩;rw [←Nat.add_assoc,HM.out,List.replicate_succ',←List.append_assoc,zD];exact ho2
def zJ (l:List UInt8):Nat:=if l.length≠64 then 1 else (kf l).2
theorem qG (s:ByteArray) (w:World) (hs:s.size≤140737488351232) :
  Calls Tryz.prog 29 #[.string s] w fun e w'=>e= .returned (.int .i64 (zJ s.data.toList))∧Below w.heap.size w w':=by
 have hsz:s.data.toList.length=s.size:=by rw [Array.length_toList];rfl
 by_cases h64:s.size=64
 ·have hb:((s.size:Int) != 64)=false:=by rw [bne_eq_false_iff_eq];omega
  have hfin:zJ s.data.toList=(kf s.data.toList).2:=by rw [zJ,if_neg (by omega)]
  have HF:=sqH hfin;clear hfin hsz h64;go_enter Tryz.func29,Tryz.ntmps29;go_wp2_with fail;refine(uw s _ hs).mono ?_;rintro e_ w1 ⟨A1,c1,rfl,ho1,hb1⟩;dsimp only;go_wp2_with fail;go_ret;rw [HF.out];exact⟨rfl,hb1⟩
 ·have hb:((s.size:Int) != 64)=true:=by rw [bne_iff_ne];omega
  have hfin:zJ s.data.toList=1:=by rw [zJ,if_pos (by omega)]
  have HF:=sqH hfin;clear hfin hsz h64;go_enter Tryz.func29,Tryz.ntmps29;go_wp2_with fail;go_ret;rw [HF.out];exact⟨rfl,Below.refl _ _⟩
end Go.Proofs.YtfmnggcfhalfnaaGreat
