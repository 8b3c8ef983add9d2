/- Lemmas of the proof. Conditions: as stated. -/
import Derived.WalkKit
import Derived.WalkLawsBesides
import Derived.WalkSpells
import Derived.Deep.QuietTactic
import Derived.BigQuiet
import Derived.IntWalk
import Derived.Lib.Hide
import Derived.Maps.AppendAt
import Derived.Deep.AppendLies
import Derived.Deep.Draws
import Derived.RangeFuncBox
import Derived.OneCell
import Derived.Deep.MidRow
import Derived.Deep.RegionLaw
import Derived.Lib.SliceRun
set_option linter.unusedVariables false
set_option linter.unusedSimpArgs false
namespace Go.Proofs.YtfmnggcfhalfnaaGreat
open Go.RowKit
theorem sqH {p:Prop} (h:p):Hid p:=h
theorem sqP:(∀ {α:Type} (l:List α) (i:Nat) (h:i<l.toArray.size),l.toArray[i]=l[i]'(by simpa using h))∧(∀ {α:Type} (a:α) (l:List α) (h:0<(a::l).length),(a::l)[0]=a)∧(∀ {α:Type} (a:α) (l:List α) (i:Nat) (h:i+1<(a::l).length),(a::l)[i+1]=l[i]'(Nat.lt_of_succ_lt_succ h))∧(∀(a:Act) (t:Tmp) (v:Value),a.put t v= { a with tmps:=a.tmps.setIfInBounds t v })∧(∀ {α:Type} (l:List α) (i:Nat) (a:α),l.toArray.setIfInBounds i a=(l.set i a).toArray)∧(∀ {α:Type} (x:α) (l:List α) (a:α),(x::l).set 0 a=a::l)∧(∀ {α:Type} (x:α) (l:List α) (n:Nat) (a:α),(x::l).set (n+1) a=x::l.set n a) :=
 ⟨fun _ _ _=>rfl,fun _ _ _=>rfl,fun _ _ _ _=>rfl,fun _ _ _=>rfl,fun l i a=>List.setIfInBounds_toArray l i a,fun _ _ _=>rfl,fun _ _ _ _=>rfl⟩
theorem sqQ:(∀(a:Act) (t:Tmp) (v:Value),a.put t v= { a with tmps:=a.tmps.setIfInBounds t v })∧(∀ {α:Type} (l:List α) (i:Nat) (a:α),l.toArray.setIfInBounds i a=(l.set i a).toArray)∧(∀ {α:Type} (x:α) (l:List α) (a:α),(x::l).set 0 a=a::l)∧(∀ {α:Type} (x:α) (l:List α) (n:Nat) (a:α),(x::l).set (n+1) a=x::l.set n a) :=
 ⟨fun _ _ _=>rfl,fun l i a=>List.setIfInBounds_toArray l i a,fun _ _ _=>rfl,fun _ _ _ _=>rfl⟩
theorem sqTH {P:Program} {ops:Array Oper} {Q:Exit→Act→World→Prop} {md:Region.Mode} {S:World→Prop} (i:Nat) {oi:Oper} {v:Value} {fuel:Nat} {listed:Array Bool} {a:Act} {w:World} (h:wpAnyH P md ops Q S fuel (listed.setIfInBounds i true) (a.put oi.dst v) w) (hi:ops[i]?=some oi:=by rfl) (hs:Region.noSelect ops=true:=by kernel_rfl) (hf:Region.free md ops listed i=true:=by kernel_rfl) (hr:(Region.ready md ops listed).contains i=true:=by kernel_rfl) (hw:Region.wanted oi (yielded ops a.tmps)=true:=by rfl) (hS:S w:=by assumption) (hy:∀w,S w→(execOp a.eval oi).run P w= .ok (.value v) w:=by(intro w hSw;(try dsimp only at hSw);go_simp;try (with_reducible rfl))) (hQ:∀c a w,Q (.panic c) (a.put oi.dst v) w→Q (.panic c) a w:=by exact fun _ _ _ h=>h):wpAnyH P md ops Q S (fuel+1) listed a w :=
 wpAnyH_take hi hs hf hr hQ (Or.inl ⟨hw,hy⟩) hS h
end Go.Proofs.YtfmnggcfhalfnaaGreat
namespace Go.Proofs.YtfmnggcfhalfnaaGreat
open Go.RowKit
abbrev wd (b:BitVec 32):Int:=(b.toNat:Int)
theorem ZC (b:BitVec 32):wd b<4294967296:=by
 have:=b.isLt;simp only [wd];omega
theorem ZD (b:BitVec 32):0≤wd b:=by simp only [wd];omega
theorem jY {a b:BitVec 32}:wd a=wd b↔a=b:=by
 constructor
 ·intro h;apply BitVec.eq_of_toNat_eq;simp only [wd]at h;omega
 ·rintro rfl;rfl
theorem yD (n:Nat):IntKind.u32.wrap (n:Int)=((n % 4294967296:Nat):Int):=by
 rw [IntKind.wrap_u32];omega
theorem zP (a b:BitVec 32):bits .and .u32 (wd a) (wd b)=wd (a &&& b):=by
 show IntKind.u32.wrap ((BitVec.ofInt 32 (wd a) &&& BitVec.ofInt 32 (wd b)).toNat:Int)=_;have ha:BitVec.ofInt 32 (wd a)=a:=by simp [wd]
 have hb:BitVec.ofInt 32 (wd b)=b:=by simp [wd]
 rw [ha,hb,yD,Nat.mod_eq_of_lt (a &&& b).isLt]
theorem zQ (a b:BitVec 32):bits .or .u32 (wd a) (wd b)=wd (a ||| b):=by
 show IntKind.u32.wrap ((BitVec.ofInt 32 (wd a) ||| BitVec.ofInt 32 (wd b)).toNat:Int)=_;have ha:BitVec.ofInt 32 (wd a)=a:=by simp [wd]
 have hb:BitVec.ofInt 32 (wd b)=b:=by simp [wd]
 rw [ha,hb,yD,Nat.mod_eq_of_lt (a ||| b).isLt]
theorem zx (a b:BitVec 32):bits .xor .u32 (wd a) (wd b)=wd (a ^^^ b):=by
 show IntKind.u32.wrap ((BitVec.ofInt 32 (wd a) ^^^ BitVec.ofInt 32 (wd b)).toNat:Int)=_;have ha:BitVec.ofInt 32 (wd a)=a:=by simp [wd]
 have hb:BitVec.ofInt 32 (wd b)=b:=by simp [wd]
 rw [ha,hb,yD,Nat.mod_eq_of_lt (a ^^^ b).isLt]
theorem Q7:IntKind.u32.max=wd (BitVec.allOnes 32):=by decide
theorem kO (a:BitVec 32):bits .xor .u32 IntKind.u32.max (wd a)=wd (~~~a):=by
 rw [Q7,zx,BitVec.allOnes_xor]
theorem xb (x:BitVec 32) (n:Nat):wd x / 2 ^ n=wd (x >>> n):=by
 show((x.toNat:Int) / 2 ^ n)=((x >>> n).toNat:Int)
 rw [BitVec.toNat_ushiftRight,Nat.shiftRight_eq_div_pow,Int.natCast_ediv,Int.natCast_pow];rfl
theorem jF (x:BitVec 32) (n:Nat):wd x*2 ^ n % 4294967296=wd (x <<< n):=by
 show((x.toNat:Int)*2 ^ n % ((4294967296:Nat):Int))=((x <<< n).toNat:Int)
 rw [BitVec.toNat_shiftLeft,Nat.shiftLeft_eq,Int.natCast_emod,Int.natCast_mul,Int.natCast_pow];rfl
theorem ZU (x:BitVec 32) (n:Nat) (h:n≤31):bits .or .u32 (wd x / 2 ^ n) (wd x*2 ^ (32 - n) % 4294967296)=wd (x.rotateRight n):=by
 rw [xb,jF,zQ];simp only [BitVec.rotateRight,BitVec.rotateRightAux,Nat.mod_eq_of_lt (show n<32 by omega)]
theorem zk {B:Nat} {a w:World} (h:Below B a w) (n:Nat):Below B a (w.drewN n):=⟨h.os,h.tape,h.output,h.size,h.block⟩
theorem ZL (a:Addr) (i j:Nat):(a.add i).add j=a.add (i+j):=by
 unfold Addr.add;by_cases hi:i=0<;>by_cases hj:j=0<;>simp [hi,hj,Nat.add_assoc]
def Rd (w:World) (size:Nat) (A:Option Addr) (n:Nat) (xs:List Value):Prop :=
 xs.length=n*size∧(0<n→∃b off,A=some ⟨b,off,none⟩∧b<w.heap.size∧∀j u,xs[j]?=some u→w.cell? ⟨b,off+j,none⟩=some u)
section
variable {w w':World} {size n:Nat} {A:Option Addr} {xs:List Value}
theorem Rd.nil_:Rd w size A 0 []:=⟨by simp,fun h=>absurd h (by omega)⟩
theorem Rd.at_ {k:Nat} (h:Rd w 1 A n xs) (hk:k<n):∃b off u,A=some ⟨b,off,none⟩∧b<w.heap.size∧xs[k]?=some u∧w.cell? ⟨b,off+k,none⟩=some u:=by
 obtain⟨b,off,e,hb,hc⟩:=h.2 (by omega);have hl:k<xs.length:=by have:=h.1;omega
 exact⟨b,off,xs[k],e,hb,List.getElem?_eq_getElem hl,hc k _ (List.getElem?_eq_getElem hl)⟩
theorem Rd.keep (h:Rd w size A n xs) (hs:w.heap.size≤w'.heap.size) (hk:∀p:Addr,p.block<w.heap.size→w'.cell? p=w.cell? p):Rd w' size A n xs :=
 ⟨h.1,fun hn=>by
  obtain⟨b,off,e,hb,hc⟩:=h.2 hn
  exact⟨b,off,e,by omega,fun j u hu=>(hk _ (by exact hb)).trans (hc j u hu)⟩⟩
theorem Rd.below (h:Rd w size A n xs) (hb:Below w.heap.size w w'):Rd w' size A n xs:=h.keep hb.size fun _ hp=>hb.cell hp
theorem Rd.alloc (h:Rd w size A n xs) (o:Obj):Rd (w.alloc o) size A n xs:=h.keep (by simp) fun p hp=>World.cell?_alloc_lt w o p hp
theorem Rd.of_own {base:Nat} {e:TypeId} {c:Nat} (h:w.ownsRow base e size (.slice A n c) n xs):Rd w size A n xs:=by
 refine⟨h.1,fun hn=> ?_⟩;rcases h.2 with ⟨_,h0⟩ | ⟨g,cap,cur,hv,hb,hg,_⟩
 ·omega
 ·injection hv with hA;subst hA;refine⟨g,0,rfl,(Array.getElem?_eq_some_iff.1 hg).1,fun j u hu=> ?_⟩;have:=h.cells (g:=g) (by simp [Value.ownBlock]) j u hu;have hadd:(⟨g,0,none⟩:Addr).add j=⟨g,0+j,none⟩:=by unfold Addr.add;split<;>simp_all
  rwa [hadd]at this
theorem Rd.of_own' {base:Nat} {e:TypeId} {v:Value} (h:w.ownsRow base e size v n xs):∃A c,v= .slice A n c∧n≤c∧Rd w size A n xs:=by
 rcases h.2 with ⟨rfl,rfl⟩ | ⟨g,cap,cur,rfl,hb,hg,hnc,_⟩
 ·exact⟨none,0,rfl,Nat.le_refl _,Rd.of_own h⟩
 ·exact⟨_,cap,rfl,hnc,Rd.of_own h⟩
theorem Rd.cut (h:Rd w size A n xs) {k cap:Nat} (hk:k≤n) (hc:n≤cap) :
  Rd w size (if cap=k then A else A.map (·.add (k*size))) (n - k) (xs.drop (k*size)):=by
 refine⟨by rw [List.length_drop,h.1,Nat.sub_mul],fun hn=> ?_⟩;obtain⟨b,off,rfl,hb,hcell⟩:=h.2 (by omega);rw [if_neg (by omega)];refine⟨b,off+k*size,?_,hb,fun j u hu=> ?_⟩
 ·simp only [Option.map_some,Addr.add];split
  ·simp_all
  ·rfl
 ·rw [Nat.add_assoc];exact hcell _ u (by rw [←hu,List.getElem?_drop])
theorem Rd.pre (h:Rd w size A n xs) {k:Nat} (hk:k≤n):Rd w size A k (xs.take (k*size)):=by
 refine⟨by rw [List.length_take,h.1];exact Nat.min_eq_left (Nat.mul_le_mul_right _ hk),fun hn=> ?_⟩;obtain⟨b,off,rfl,hb,hcell⟩:=h.2 (by omega);exact⟨b,off,rfl,hb,fun j u hu=>hcell j u (by rw [List.getElem?_take]at hu;split at hu<;>simp_all)⟩
end
structure El (P:Program) (t e:TypeId) (size bytes:Nat):Prop where
 und:P.underlying t=some (.slice e)
 ex:∃(i:TypeInfo) (z:Value),P.info? e=some i∧i.zero=some z∧i.size=size∧i.bytes=bytes∧z.cells.size=size
 pos:0<size
 posb:0<bytes
theorem El.mk' {P:Program} {t e:TypeId} {size bytes:Nat} {z:Value} (hu:P.underlying t=some (.slice e)) (hi:(P.info? e).map (fun i=>(i.zero,i.size,i.bytes))=some (some z,size,bytes))
  (hz:z.cells.size=size) (hp:0<size) (hq:0<bytes):El P t e size bytes:=by
 refine⟨hu,?_,hp,hq⟩;cases h:P.info? e with
 | none=>rw [h]at hi;cases hi
 | some i =>
  rw [h]at hi;simp only [Option.map_some,Option.some.injEq,Prod.mk.injEq]at hi;exact⟨i,z,rfl,hi.1,hi.2.1,hi.2.2,hz⟩
section
variable {P:Program} {w:World}
theorem qP {base:Nat} {t ty e:TypeId} {size bytes:Nat} (E:El P t e size bytes) {v:Value} {n:Nat} {xs:List Value} (hown:w.ownsRow base e size v n xs) (c:Nat) :
  (Builtin.append_ #[t,t] ty #[v,.slice none 0 c]).run P w= .ok v w:=by
 obtain⟨hu,⟨i,z,hi,_,_,_,_⟩,_,_⟩:=E;rcases hown.2 with ⟨rfl,rfl⟩ | ⟨g,cap,cur,rfl,_,_,hnc,_⟩
 ·simp [Builtin.append_,run_underlying hu,sizeOf,typeInfo,hi,Builtin.lenOf,Builtin.firstCells]
 ·simp [Builtin.append_,run_underlying hu,sizeOf,typeInfo,hi,Builtin.lenOf,Builtin.firstCells,hnc,storeCells]
theorem ZV {base:Nat} {t ty e:TypeId} {size bytes:Nat} (E:El P t e size bytes) {v:Value} {n:Nat} {xs:List Value} (hown:w.ownsRow base e size v n xs)
  {A:Option Addr} {m c:Nat} {news:List Value} (hr:Rd w size A m news) (h1:∀u∈news,u.oneCell'=true)
  (hb:(n+m)*bytes≤140737488355328) (hbase:base≤w.heap.size) :
  ∃v' w',(Builtin.append_ #[t,t] ty #[v,.slice A m c]).run P w= .ok v' w'∧w'.ownsRow base e size v' (n+m) (xs++news)∧w.grownBy w' v.ownBlock ∧
   (v'.ownBlock=v.ownBlock∨v'.ownBlock=some w.heap.size):=by
 have h63:n+m≤maxLen:=by
  have:=Nat.le_trans (Nat.le_mul_of_pos_right (n+m) E.posb) hb;simp only [maxLen];omega
 rcases Nat.eq_zero_or_pos m with h0 | h0
 ·subst h0;have hn:news= []:=List.eq_nil_of_length_eq_zero (by simpa using hr.1);subst hn;cases A with
  | none=>exact⟨v,w,qP E hown c,by simpa using hown,⟨rfl,rfl,rfl,Nat.le_refl _,fun _ _ _=>rfl⟩,.inl rfl⟩
  | some ad =>
   obtain⟨hu,⟨i,z,hi,hz,hs,hby,hzs⟩,hp,hq⟩:=E;obtain⟨v',w',hrun,h2,h3,_,h5⟩:=run_append_own_at (P:=P) w base t ty e i z size bytes hu hi hz hs hby hzs hp v n xs hown ad 0 c [] hr.1 (fun j u hu=>by simp at hu) h1 h63 hb hbase;exact⟨v',w',hrun,h2,h3,h5⟩
 ·obtain⟨b,off,rfl,hbl,hc⟩:=hr.2 h0;obtain⟨hu,⟨i,z,hi,hz,hs,hby,hzs⟩,hp,hq⟩:=E;have hc':∀j u,news[j]?=some u→w.cell? ((⟨b,off,none⟩:Addr).add j)=some u:=fun j u hj=>by
   have hadd:(⟨b,off,none⟩:Addr).add j=⟨b,off+j,none⟩:=by unfold Addr.add;split<;>simp_all
   rw [hadd];exact hc j u hj
  obtain⟨v',w',hrun,h2,h3,_,h5⟩:=run_append_own_at (P:=P) w base t ty e i z size bytes hu hi hz hs hby hzs hp v n xs hown ⟨b,off,none⟩ m c news hr.1 hc' h1 h63 hb hbase;exact⟨v',w',hrun,h2,h3,h5⟩
theorem Q0 {o:Oper} {a:Act} {K:Act→World→Prop} {Q:Exit→Act→World→Prop} (s x:Operand) {t e:TypeId} {size bytes:Nat}
  (ho:o.op= .call { callee:= .builtin .append,args:=#[s,x],argTypes:=#[t,t] }) (E:El P t e size bytes)
  {base:Nat} {v:Value} {n:Nat} {xs:List Value} (hs:a.eval s=v) (hown:w.ownsRow base e size v n xs)
  {A:Option Addr} {m c:Nat} {news:List Value} (hx:a.eval x= .slice A m c) (hr:Rd w size A m news) (h1:∀u∈news,u.oneCell'=true)
  (hb:(n+m)*bytes≤140737488355328) (hbase:base≤w.heap.size)
  (h:∀v' w',w'.ownsRow base e size v' (n+m) (xs++news)→w.grownBy w' v.ownBlock→(v'.ownBlock=v.ownBlock∨v'.ownBlock=some w.heap.size)→K (a.put o.dst v') w'):o.wp P a w K Q:=by
 obtain⟨v',w',hrun,h2,h3,h4⟩:=ZV (P:=P) (ty:=o.type) E hown hr h1 hb hbase (c:=c);unfold Oper.wp execOp;simp only [ho,resolve,invoke,builtin,Sem.run_bind,Sem.run_pure,Result.andThen_ok,List.map_toArray,List.map_cons,List.map_nil,hs,hx,hrun];exact h v' w' h2 h3 h4
theorem zq {ops:Array Oper} {rest:List Oper} {o:Oper} {a:Act} {Q:Exit→Act→World→Prop} (hgd:o.guard=none) (s x:Operand) {t e:TypeId} {size bytes:Nat}
  (ho:o.op= .call { callee:= .builtin .append,args:=#[s,x],argTypes:=#[t,t] }) (E:El P t e size bytes)
  {base:Nat} {v:Value} {n:Nat} {xs:List Value} (hs:a.eval s=v) (hown:w.ownsRow base e size v n xs)
  {A:Option Addr} {m c:Nat} {news:List Value} (hx:a.eval x= .slice A m c) (hr:Rd w size A m news) (h1:∀u∈news,u.oneCell'=true)
  (hb:(n+m)*bytes≤140737488355328) (hbase:base≤w.heap.size)
  (h:∀v' w',w'.ownsRow base e size v' (n+m) (xs++news)→w.grownBy w' v.ownBlock→(v'.ownBlock=v.ownBlock∨v'.ownBlock=some w.heap.size)→wpList P ops Q rest (a.put o.dst v') w') :
  wpList P ops Q (o::rest) a w :=
 wpList_plain hgd fun _ hK=>Q0 s x ho E hs hown hx hr h1 hb hbase fun v' w' h2 h3 h4=>hK _ _ (h v' w' h2 h3 h4)
theorem yz {ops:Array Oper} {o:Oper} {a:Act} {K:Act→World→Prop} {Q:Exit→Act→World→Prop} {E0:Prop} (hgd:o.guard=none) (s x:Operand) {t e:TypeId} {size bytes:Nat}
  (ho:o.op= .call { callee:= .builtin .append,args:=#[s,x],argTypes:=#[t,t] }) (E:El P t e size bytes)
  {base:Nat} {v:Value} {n:Nat} {xs:List Value} (hs:a.eval s=v) (hown:w.ownsRow base e size v n xs)
  {A:Option Addr} {m c:Nat} {news:List Value} (hx:a.eval x= .slice A m c) (hr:Rd w size A m news) (h1:∀u∈news,u.oneCell'=true)
  (hb:(n+m)*bytes≤140737488355328) (hbase:base≤w.heap.size)
  (h:∀v' w',w'.ownsRow base e size v' (n+m) (xs++news)→w.grownBy w' v.ownBlock→(v'.ownBlock=v.ownBlock∨v'.ownBlock=some w.heap.size)→K (a.put o.dst v') w') :
  if Region.wanted o (yielded ops a.tmps)=true then Oper.wp P o a w K Q else E0:=by
 rw [if_pos (by simp [Region.wanted,hgd])];exact Q0 s x ho E hs hown hx hr h1 hb hbase h
theorem Rd.newN {w:World} {e:TypeId} {size m:Nat} (us:List Value) (hl:us.length=m*size):Rd (w.alloc (.cells us.toArray e)) size (some ⟨w.heap.size,0,none⟩) m us :=
 ⟨hl,fun _=>⟨_,0,rfl,by simp,fun j x hx=>by
  rw [World.cell?_alloc_new,Nat.zero_add];simpa using hx⟩⟩
theorem zh {ops:Array Oper} {rest:List Oper} {o:Oper} {a:Act} {Q:Exit→Act→World→Prop} (hgd:o.guard=none) (s x:Operand) {t e e':TypeId} {size bytes:Nat}
  (ho:o.op= .call { callee:= .builtin .append,args:=#[s,x],argTypes:=#[t,t] }) (E:El P t e size bytes)
  {base:Nat} {v:Value} {n:Nat} {xs:List Value} (hs:a.eval s=v) (hown:w.ownsRow base e size v n xs)
  {us:List Value} {m c:Nat} (hx:a.eval x= .slice (some ⟨w.heap.size,0,none⟩) m c) (hl:us.length=m*size) (h1:∀u∈us,u.oneCell'=true)
  (hb:(n+m)*bytes≤140737488355328) (hbase:base≤w.heap.size)
  (h:∀v' w',w'.ownsRow base e size v' (n+m) (xs++us)→w.grownBy w' v.ownBlock→(v'.ownBlock=v.ownBlock∨∃g,v'.ownBlock=some g∧w.heap.size≤g)→wpList P ops Q rest (a.put o.dst v') w') :
  wpList P ops Q (o::rest) a (w.alloc (.cells us.toArray e')) :=
 zq hgd s x ho E hs (hown.alloc _) hx (Rd.newN us hl) h1 hb (by simp;omega) fun v' w' h2 h3 h4=>h v' w' h2
  ⟨h3.os,h3.tape,h3.output,by have:=h3.size;simp at this;omega,fun k hk hne=>(h3.block k (by simp;omega) hne).trans (Below.heap_alloc _ _ _ hk)⟩
  (h4.imp id fun h=>⟨_,h,by simp⟩)
end
def bys (l:List UInt8):List Value:=l.map fun b=> .int .u8 (b.toNat:Int)
theorem zE (l:List UInt8):(bys l).length=l.length:=by simp [bys]
theorem zD (l m:List UInt8):bys (l++m)=bys l++bys m:=by simp [bys]
theorem qX (l:List UInt8):∀u∈bys l,u.oneCell'=true:=by
 intro u hu;simp only [bys,List.mem_map]at hu;obtain⟨_,_,rfl⟩:=hu;rfl
theorem kr (l:List UInt8) (k:Nat) (h:k<l.length):(bys l)[k]?=some (.int .u8 (l[k].toNat:Int)):=by simp [bys,h]
theorem Rd.new1 {w:World} {e:TypeId} (u:Value):Rd (w.alloc (.cells #[u] e)) 1 (some ⟨w.heap.size,0,none⟩) 1 [u] :=
 ⟨by simp,fun _=>⟨_,0,rfl,by simp,fun j x hx=>by
  match j,hx with
  | 0,hx=>simp at hx;subst hx;simp⟩⟩
theorem zc {w0 w w':World} {v:Value} {base:Nat} {e:TypeId} {size n:Nat} {xs:List Value} (hb:Below w0.heap.size w0 w) (hown:w.ownsRow base e size v n xs) (hbase:w0.heap.size≤base)
  (hg:w.grownBy w' v.ownBlock):Below w0.heap.size w0 w' :=
 hb.grown hg hb.size fun k hk=>by have:=(hown.lt k hk).1;omega
theorem yy {P:Program} {w:World} {src dst e:TypeId} {A:Option Addr} {n c:Nat} {l:List UInt8} (hs:P.underlying src=some (.slice e)) (he:P.underlying e=some (.int .u8)) (hd:P.underlying dst=some .string)
  (hl:l.length=n) (hr:Rd w 1 A n (bys l)):(convert src dst (.slice A n c)).run P w= .ok (.string ⟨l.toArray⟩) w:=by
 rcases Nat.eq_zero_or_pos n with h0 | h0
 ·subst h0;obtain rfl:l= []:=List.eq_nil_of_length_eq_zero hl;cases A with
  | none=>exact run_convert_bytes_nil w src e hs he 0 c dst hd
  | some a=>exact run_convert_bytes_back w src dst e a c [] hs he hd (fun j hj=>absurd hj (by simp))
 ·obtain⟨b,off,rfl,hb,hc⟩:=hr.2 h0;subst hl;refine run_convert_bytes_back w src dst e ⟨b,off,none⟩ c l hs he hd (fun j hj=> ?_);have hadd:(⟨b,off,none⟩:Addr).add j=⟨b,off+j,none⟩:=by unfold Addr.add;split<;>simp_all
  rw [hadd];exact hc j _ (kr l j hj)
structure OwnB (e:TypeId) (base:Nat) (w:World) (A:Option Addr) (c:Nat) (l:List UInt8):Prop where
 own:w.ownsRow base e 1 (.slice A l.length c) l.length (bys l)
 cap:l.length≤c
theorem OwnB.rd {e:TypeId} {base:Nat} {w:World} {A:Option Addr} {c:Nat} {l:List UInt8} (h:OwnB e base w A c l):Rd w 1 A l.length (bys l):=Rd.of_own h.own
theorem OwnB.of {e:TypeId} {base:Nat} {w:World} {v:Value} {n:Nat} {l:List UInt8} (hn:l.length=n) (h:w.ownsRow base e 1 v n (bys l)):∃A c,v= .slice A l.length c∧OwnB e base w A c l:=by
 subst hn;obtain⟨A,c,rfl,hc,_⟩:=Rd.of_own' h;exact⟨A,c,rfl,h,hc⟩
theorem OwnB.below {e:TypeId} {base:Nat} {w w':World} {A:Option Addr} {c:Nat} {l:List UInt8} (h:OwnB e base w A c l) (hb:Below w.heap.size w w'):OwnB e base w' A c l :=
 ⟨h.own.kept ⟨hb.os,hb.tape,hb.output,hb.size,fun k hk _=>hb.block k hk⟩ (row:=none) (by cases A<;>simp [Value.ownBlock]),h.cap⟩
theorem OwnB.nil_ (e:TypeId) (base:Nat) (w:World):OwnB e base w none 0 []:=⟨World.ownsRow_nil _ _ _ _,Nat.le_refl _⟩
theorem zb {w w':World} {base:Nat} {e:TypeId} {size:Nat} {v:Value} {n:Nat} {xs:List Value} (h:w.ownsRow base e size v n xs) (hb:Below w.heap.size w w'):w'.ownsRow base e size v n xs :=
 h.kept ⟨hb.os,hb.tape,hb.output,hb.size,fun k hk _=>hb.block k hk⟩ (row:=none) (Classical.em _)
theorem xl {w w':World} (h:w.grownBy w' none):Below w.heap.size w w':=⟨h.os,h.tape,h.output,h.size,fun k hk=>h.block k hk (by simp)⟩
theorem qf {P:Program} {w:World} {ops:Array Oper} {rest:List Oper} {o:Oper} {a:Act} {Q:Exit→Act→World→Prop}
  (hg:o.guard=none) (l c:Operand) {t e:TypeId} {size bytes:Nat} (hop:o.op=Op.makeSlice t l c) (E:El P t e size bytes)
  {kl kc:IntKind} {C:Int} (n:Nat) (hl:a.eval l= .int kl 0) (hc:a.eval c= .int kc C) (hC:C=(n:Int)) (hb:n*bytes≤140737488355328)
  (hK:∀w' g,w'.ownsRow w.heap.size e size (.slice (some ⟨g,0,none⟩) 0 n) 0 []→Below w.heap.size w w'→wpList P ops Q rest (a.put o.dst (.slice (some ⟨g,0,none⟩) 0 n)) w') :
  wpList P ops Q (o::rest) a w:=by
 have hpb:=E.posb;obtain⟨hu,⟨i,z,hi,hz,hs,hby,hzs⟩,_,_⟩:=E;refine wpList_make_own w hg l c t hop w.heap.size e i z size hu hi hz hs kl kc C n hl hc hC (by rw [hby,Nat.mul_comm];omega) ?_ (Nat.le_refl _) fun w' h1 h2=>hK w' _ h1 (xl h2);have:=Nat.le_trans (Nat.le_mul_of_pos_right n hpb) hb;simp only [maxLen];omega
theorem qi {w:World} {base:Nat} {e:TypeId} {size:Nat} {v:Value} {n:Nat} {xs:List Value} (h:w.ownsRow base e size v n xs):w.drew.ownsRow base e size v n xs:=h
theorem yX {w:World} {base:Nat} {e:TypeId} {size:Nat} {v:Value} {n:Nat} {xs:List Value} (h:w.ownsRow base e size v n xs) (k:Nat):(w.drewN k).ownsRow base e size v n xs:=h
theorem qK {w w':World} {base:Nat} {e:TypeId} {size:Nat} {v:Value} {n:Nat} {xs:List Value} (hown:w.ownsRow base e size v n xs) (hg:w.grownBy w' v.ownBlock)
  {b off:Nat} {u:Value} (hb:b<base) (h:w.cell? ⟨b,off,none⟩=some u):w'.cell? ⟨b,off,none⟩=some u :=
 hg.cell h (fun he=>by have:=(hown.lt b he.symm).1;omega)
theorem Rd.cutAt {w:World} {b off n c k:Nat} {xs:List Value} (h:Rd w 1 (some ⟨b,off,none⟩) n xs) (hk:k≤n) (hc:n≤c) :
  Rd w 1 (if c=k then some ⟨b,off,none⟩ else some ⟨b,off+k,none⟩) (n - k) (xs.drop k):=by
 have:=h.cut (k:=k) (cap:=c) hk hc;simp only [Nat.mul_one,Option.map_some]at this;rw [show((⟨b,off,none⟩:Addr).add k)=⟨b,off+k,none⟩ by unfold Addr.add;split<;>simp_all]at this;exact this
theorem jq (l:List UInt8) (k:Nat):(bys l).drop k=bys (l.drop k):=by simp [bys]
def Arr (W:World) (g:Nat) (e:TypeId) (xs:List Value):Prop:=W.heap[g]?=some (.cells xs.toArray e (0,0))
variable {W W':World} {g g' k base:Nat} {e:TypeId} {xs:List Value} {v:Value}
theorem z8 {P:Program} {ops:Array Oper} {rest:List Oper} {a:Act} {w:World} {Q:Exit→Act→World→Prop} (ty:TypeId) {d:Option Tmp} {x y:Operand} {t:TypeId} {pos:String} {after:Array Edge} {gd:Option (Tmp×Bool)}
  (h:wpList P ops Q (⟨d,.store ty x y,t,pos,after,gd⟩::rest) a w):wpList P ops Q (⟨d,.store ty x y,t,pos,after,gd⟩::rest) a w:=h
theorem zf {P:Program} {ops:Array Oper} {rest:List Oper} {a:Act} {w:World} {Q:Exit→Act→World→Prop} (ty:TypeId) {d:Option Tmp} {x:Operand} {t:TypeId} {pos:String} {after:Array Edge} {gd:Option (Tmp×Bool)}
  (h:wpList P ops Q (⟨d,.load ty x,t,pos,after,gd⟩::rest) a w):wpList P ops Q (⟨d,.load ty x,t,pos,after,gd⟩::rest) a w:=h
theorem ze {P:Program} {ops:Array Oper} {rest:List Oper} {a:Act} {w:World} {Q:Exit→Act→World→Prop} {d:Option Tmp} {xa:Array Operand} {ts:Array TypeId} {t:TypeId} {pos:String} {after:Array Edge} {gd:Option (Tmp×Bool)}
  (h:wpList P ops Q (⟨d,.call { callee:= .builtin .copy,args:=xa,argTypes:=ts },t,pos,after,gd⟩::rest) a w):wpList P ops Q (⟨d,.call { callee:= .builtin .copy,args:=xa,argTypes:=ts },t,pos,after,gd⟩::rest) a w:=h
theorem Arr.lt (h:Arr W g e xs):g<W.heap.size:=(Array.getElem?_eq_some_iff.1 h).1
theorem Arr.new (W:World) (e:TypeId) (xs:List Value):Arr (W.alloc (.cells xs.toArray e)) W.heap.size e xs:=World.alloc_heap_new W _
theorem Arr.cell (h:Arr W g e xs) (hk:xs[k]?=some v):W.cell? ⟨g,k,none⟩=some v:=by
 have h':W.heap[g]?=_:=h;simp [World.cell?,h',hk]
theorem sqC2 {W:World} {g:Nat} {e:TypeId} {a0 a1:Value} {l:List Value} (h:Arr W g e (a0::a1::l)):W.cell? ⟨g,0,none⟩=some a0∧W.cell? ⟨g,1,none⟩=some a1 :=
 ⟨h.cell (k:=0) rfl,h.cell (k:=1) rfl⟩
theorem sqC3 {W:World} {g:Nat} {e:TypeId} {a0 a1 a2:Value} {l:List Value} (h:Arr W g e (a0::a1::a2::l)):W.cell? ⟨g,0,none⟩=some a0∧W.cell? ⟨g,1,none⟩=some a1∧W.cell? ⟨g,2,none⟩=some a2 :=
 ⟨h.cell (k:=0) rfl,h.cell (k:=1) rfl,h.cell (k:=2) rfl⟩
theorem sqC4 {W:World} {g:Nat} {e:TypeId} {a0 a1 a2 a3:Value} {l:List Value} (h:Arr W g e (a0::a1::a2::a3::l)):W.cell? ⟨g,0,none⟩=some a0∧W.cell? ⟨g,1,none⟩=some a1∧W.cell? ⟨g,2,none⟩=some a2∧W.cell? ⟨g,3,none⟩=some a3 :=
 ⟨h.cell (k:=0) rfl,h.cell (k:=1) rfl,h.cell (k:=2) rfl,h.cell (k:=3) rfl⟩
theorem sqC8 {W:World} {g:Nat} {e:TypeId} {a0 a1 a2 a3 a4 a5 a6 a7:Value} {l:List Value} (h:Arr W g e (a0::a1::a2::a3::a4::a5::a6::a7::l)):W.cell? ⟨g,0,none⟩=some a0∧W.cell? ⟨g,1,none⟩=some a1∧W.cell? ⟨g,2,none⟩=some a2∧W.cell? ⟨g,3,none⟩=some a3∧W.cell? ⟨g,4,none⟩=some a4∧W.cell? ⟨g,5,none⟩=some a5∧W.cell? ⟨g,6,none⟩=some a6∧W.cell? ⟨g,7,none⟩=some a7 :=
 ⟨h.cell (k:=0) rfl,h.cell (k:=1) rfl,h.cell (k:=2) rfl,h.cell (k:=3) rfl,h.cell (k:=4) rfl,h.cell (k:=5) rfl,h.cell (k:=6) rfl,h.cell (k:=7) rfl⟩
theorem Arr.frozen (h:Arr W g e xs) (k:Nat):W.frozen? ⟨g,k,none⟩=false:=by
 have h':W.heap[g]?=_:=h;simp [World.frozen?,h']
theorem sqF4 {W:World} {g:Nat} {e:TypeId} {xs:List Value} (h:Arr W g e xs):W.frozen? ⟨g,0,none⟩=false∧W.frozen? ⟨g,1,none⟩=false∧W.frozen? ⟨g,2,none⟩=false∧W.frozen? ⟨g,3,none⟩=false :=
 ⟨h.frozen 0,h.frozen 1,h.frozen 2,h.frozen 3⟩
theorem Arr.below (h:Arr W g e xs) (hb:Below W.heap.size W W'):Arr W' g e xs:=(hb.block g h.lt).trans h
theorem Arr.drew (h:Arr W g e xs):Arr W.drew g e xs:=h
theorem Arr.drewN (h:Arr W g e xs) (n:Nat):Arr (W.drewN n) g e xs:=h
theorem Arr.alloc (h:Arr W g e xs) (o:Obj):Arr (W.alloc o) g e xs:=(Below.heap_alloc _ _ _ h.lt).trans h
theorem Arr.other (h:Arr W g e xs) (hne:g≠g') (u:Value):Arr (W.setCell ⟨g',k,none⟩ u) g e xs:=(Below.heap_setCell W _ u g hne).trans h
theorem Arr.set (h:Arr W g e xs) (hk:k<xs.length) (u:Value):Arr (W.setCell ⟨g,k,none⟩ u) g e (xs.set k u):=by
 obtain⟨hlt,hk'⟩:=Array.getElem?_eq_some_iff.1 h;show(W.heap.modify g _)[g]?=_;rw [Array.getElem?_eq_getElem (by rw [Array.size_modify];exact hlt),Array.getElem_modify_self,hk'];simp
theorem Arr.set8 {x0 x1 x2 x3 x4 x5 x6 x7:Value} (h:Arr W g e [x0,x1,x2,x3,x4,x5,x6,x7]) (y0 y1 y2 y3 y4 y5 y6 y7:Value) :
  Arr ((((((((W.setCell ⟨g,0,none⟩ y0).setCell ⟨g,1,none⟩ y1).setCell ⟨g,2,none⟩ y2).setCell ⟨g,3,none⟩ y3).setCell ⟨g,4,none⟩ y4).setCell ⟨g,5,none⟩ y5).setCell ⟨g,6,none⟩ y6).setCell ⟨g,7,none⟩ y7) g e [y0,y1,y2,y3,y4,y5,y6,y7] :=
 ((((((((h.set (k:=0) (by simp) y0).set (k:=1) (by simp) y1).set (k:=2) (by simp) y2).set (k:=3) (by simp) y3).set (k:=4) (by simp) y4).set (k:=5) (by simp) y5).set (k:=6) (by simp) y6).set (k:=7) (by simp) y7)
theorem Arr.other8 (h:Arr W g e xs) (hne:g≠g') (y0 y1 y2 y3 y4 y5 y6 y7:Value) :
  Arr ((((((((W.setCell ⟨g',0,none⟩ y0).setCell ⟨g',1,none⟩ y1).setCell ⟨g',2,none⟩ y2).setCell ⟨g',3,none⟩ y3).setCell ⟨g',4,none⟩ y4).setCell ⟨g',5,none⟩ y5).setCell ⟨g',6,none⟩ y6).setCell ⟨g',7,none⟩ y7) g e xs :=
 ((((((((h.other hne _).other hne _).other hne _).other hne _).other hne _).other hne _).other hne _).other hne _)
theorem Below.set8 {B:Nat} {a:World} (h:Below B a W) (hg:B≤g) (y0 y1 y2 y3 y4 y5 y6 y7:Value) :
  Below B a ((((((((W.setCell ⟨g,0,none⟩ y0).setCell ⟨g,1,none⟩ y1).setCell ⟨g,2,none⟩ y2).setCell ⟨g,3,none⟩ y3).setCell ⟨g,4,none⟩ y4).setCell ⟨g,5,none⟩ y5).setCell ⟨g,6,none⟩ y6).setCell ⟨g,7,none⟩ y7) :=
 (Below.setCell (Below.setCell (Below.setCell (Below.setCell (Below.setCell (Below.setCell (Below.setCell (Below.setCell h hg _) hg _) hg _) hg _) hg _) hg _) hg _) hg _)
theorem Rd.other {size n b off:Nat} (h:Rd W size (some ⟨b,off,none⟩) n xs) (hne:b≠g) (u:Value):Rd (W.setCell ⟨g,k,none⟩ u) size (some ⟨b,off,none⟩) n xs :=
 ⟨h.1,fun hn=>by
  obtain⟨b',off',e,hb,hc⟩:=h.2 hn
  cases e
  refine⟨b,off,rfl,by simpa [World.setCell] using hb,fun j v hj=> ?_⟩
  rw [←hc j v hj]
  exact World.cell?_of_block (Below.heap_setCell W _ u b hne)⟩
theorem Rd.other8 {size n b off:Nat} (h:Rd W size (some ⟨b,off,none⟩) n xs) (hne:b≠g) (y0 y1 y2 y3 y4 y5 y6 y7:Value) :
  Rd ((((((((W.setCell ⟨g,0,none⟩ y0).setCell ⟨g,1,none⟩ y1).setCell ⟨g,2,none⟩ y2).setCell ⟨g,3,none⟩ y3).setCell ⟨g,4,none⟩ y4).setCell ⟨g,5,none⟩ y5).setCell ⟨g,6,none⟩ y6).setCell ⟨g,7,none⟩ y7) size (some ⟨b,off,none⟩) n xs :=
 ((((((((h.other hne _).other hne _).other hne _).other hne _).other hne _).other hne _).other hne _).other hne _)
theorem Arr.range (h:Arr W g e xs):W.rangeAt g 0 xs:=fun j v hj=>by rw [Nat.zero_add];exact h.cell hj
theorem Arr.there (h:Arr W g e xs):W.there g 0 xs.length:=fun j hj=>by
 rw [Nat.zero_add];exact⟨by rw [h.cell (List.getElem?_eq_getElem hj)];rfl,h.frozen j⟩
theorem Arr.thereN {n:Nat} (h:Arr W g e xs) (hn:xs.length=n):W.there g 0 n:=hn▸h.there
theorem Arr.setsAt:∀(ys xs zs:List Value) (W:World),Arr W g e (zs++xs)→ys.length=xs.length→Arr (W.setCells g zs.length ys) g e (zs++ys)
 | [], [],zs,W,h,_=>h
 | y::ys,x::xs,zs,W,h,hl=>by
  have h1:=h.set (k:=zs.length) (by simp) y
  rw [List.set_append_right _ _ (Nat.le_refl _),Nat.sub_self,List.set_cons_zero]at h1
  have h2:=Arr.setsAt ys xs (zs++ [y]) _ (by simpa using h1) (by simpa using hl)
  rw [List.append_assoc]at h2
  simp only [List.length_append,List.length_cons,List.length_nil,Nat.zero_add]at h2
  exact h2
theorem Arr.sets {ys:List Value} (h:Arr W g e xs) (hl:ys.length=xs.length):Arr (W.setCells g 0 ys) g e ys:=Arr.setsAt ys xs [] W h hl
theorem Arr.otherSets (hne:g≠g'):∀(ys:List Value) (o:Nat) (W:World),Arr W g e xs→Arr (W.setCells g' o ys) g e xs
 | [],_,_,h=>h
 | y::ys,o,W,h=>Arr.otherSets hne ys (o+1) _ (h.other hne y)
theorem Below.sets {B:Nat} {a:World} (hg:B≤g):∀(ys:List Value) (o:Nat) (W:World),Below B a W→Below B a (W.setCells g o ys)
 | [],_,_,h=>h
 | y::ys,o,W,h=>Below.sets hg ys (o+1) _ (Below.setCell h hg y)
theorem ZS {w:World} {base:Nat} {e:TypeId} {size:Nat} {v:Value} {n:Nat} {xs:List Value} (h:w.ownsRow base e size v n xs) (h0:0<n) :
  ∃g cap cs,v= .slice (some ⟨g,0,none⟩) n cap∧base≤g∧Arr w g e cs∧n≤cap∧cap≤maxLen∧cs.length=cap*size∧cs.take (n*size)=xs:=by
 rcases h.2 with ⟨_,hz⟩ | ⟨g,cap,cur,rfl,hb,hg,hn,hm,hs,ht⟩
 ·omega
 ·exact⟨g,cap,cur.toList,rfl,hb,by simpa [Arr] using hg,hn,hm,by simpa using hs,ht⟩
theorem Rd.of_arr {w:World} {g n size:Nat} {e:TypeId} {cs xs:List Value} (h:Arr w g e cs) (hx:xs.length=n*size) (ht:cs.take (n*size)=xs):Rd w size (some ⟨g,0,none⟩) n xs :=
 ⟨hx,fun _=>⟨g,0,rfl,h.lt,fun j u hu=>by
  rw [Nat.zero_add];refine h.cell ?_
  rw [←ht,List.getElem?_take]at hu
  split at hu
  ·exact hu
  ·cases hu⟩⟩
theorem z7 {w:World} {base n g k:Nat} {e:TypeId} {size:Nat} {v u:Value} {xs:List Value} (h:w.ownsRow base e size v n xs) (hne:v.ownBlock≠some g):(w.setCell ⟨g,k,none⟩ u).ownsRow base e size v n xs:=by
 refine⟨h.1,?_⟩;rcases h.2 with h1 | ⟨g',cap,cur,rfl,hb,hg,h2⟩
 ·exact .inl h1
 ·refine .inr ⟨g',cap,cur,rfl,hb,?_,h2⟩;rw [Below.heap_setCell w _ _ g' (by intro e;exact hne (by rw [e];rfl))];exact hg
theorem zu {w:World} {base b':Nat} {e:TypeId} {size:Nat} {v:Value} {n:Nat} {xs:List Value} (h:w.ownsRow base e size v n xs) (hb:b'≤base):w.ownsRow b' e size v n xs:=by
 refine⟨h.1,?_⟩;rcases h.2 with h1 | ⟨g,cap,cur,h1,h2,h3⟩
 ·exact .inl h1
 ·exact .inr ⟨g,cap,cur,h1,Nat.le_trans hb h2,h3⟩
theorem zB (w:World) (e:TypeId) (c1 c2:List Value):∃W,W=(w.alloc (.cells c1.toArray e)).alloc (.cells c2.toArray e)∧Arr W w.heap.size e c1∧Arr W (w.heap.size+1) e c2∧Below w.heap.size w W:=by
 refine⟨_,rfl,(Arr.new w e c1).below ((Below.refl _ _).alloc (Nat.le_refl _) _),?_,((Below.refl w.heap.size w).alloc (Nat.le_refl _) _).alloc ((Below.refl w.heap.size w).alloc (Nat.le_refl _) _).size _⟩;have:=Arr.new (w.alloc (.cells c1.toArray e)) e c2
 rwa [World.size_alloc]at this
end Go.Proofs.YtfmnggcfhalfnaaGreat
namespace Go.Proofs.YtfmnggcfhalfnaaGreat
open Go.RowKit
section
variable {W:World} {g:Nat} {e:TypeId}
end
def leads (b:Nat) (cs:List Value):Prop:=∃a n c,(Value.slice (some a) n c)∈cs∧a.block=b
structure Shp (α:Type) where
 size:Nat
 R:World→α→List Value→Prop
 len:∀ {w x cs},R w x cs→cs.length=size
 one:∀ {w x cs},R w x cs→∀u∈cs,u.oneCell'=true
 live:∀ {w x cs},R w x cs→∀b,leads b cs→b<w.heap.size
 keep:∀ {w w' x cs},R w x cs→w.heap.size≤w'.heap.size→(∀b,b<w.heap.size→leads b cs→w'.heap[b]?=w.heap[b]?)→R w' x cs
theorem Rd.keepb {w w':World} {size n:Nat} {A:Option Addr} {xs:List Value} (h:Rd w size A n xs) (hs:w.heap.size≤w'.heap.size) (hk:∀b,b<w.heap.size→(∃a,A=some a∧a.block=b)→w'.heap[b]?=w.heap[b]?):Rd w' size A n xs :=
 ⟨h.1,fun hn=>by
  obtain⟨b,off,rfl,hb,hc⟩:=h.2 hn
  refine⟨b,off,rfl,by omega,fun j u hu=> ?_⟩
  rw [←hc j u hu]
  exact World.cell?_of_block (hk b hb ⟨_,rfl,rfl⟩)⟩
section
variable {α:Type}
abbrev Cel (α:Type):=List (α×List Value)
def cls (ps:Cel α):List Value:=ps.flatMap (·.2)
theorem zp (p:α×List Value) (ps:Cel α):cls (p::ps)=p.2++cls ps:=rfl
theorem qu (ps qs:Cel α):cls (ps++qs)=cls ps++cls qs:=by simp [cls]
theorem qY {s:Nat}:∀(ps:Cel α),(∀p∈ps,p.2.length=s)→(cls ps).length=ps.length*s
 | [],_=>by simp [cls]
 | p::ps,h=>by
  have ih:=qY ps (fun q hq=>h q (by simp [hq]))
  rw [zp,List.length_append,ih,h p (by simp),List.length_cons,Nat.succ_mul];omega
theorem xQ {s:Nat}:∀(ps:Cel α) (k j:Nat) (hk:k<ps.length),(∀p∈ps,p.2.length=s)→j<s→(cls ps)[k*s+j]?=(ps[k].2)[j]?
 | p::ps,0,j,hk,h,hj=>by
  rw [zp,Nat.zero_mul,Nat.zero_add,List.getElem?_append_left (by rw [h p (by simp)];exact hj)];rfl
 | p::ps,k+1,j,hk,h,hj=>by
  have h0:=h p (by simp)
  have e:(k+1)*s=k*s+s:=Nat.succ_mul k s
  rw [zp,List.getElem?_append_right (by omega),show(k+1)*s+j - p.2.length=k*s+j by omega,xQ ps k j (by simpa using hk) (fun q hq=>h q (by simp [hq])) hj]
  rfl
theorem zY {s:Nat}:∀(ps:Cel α) (k:Nat),(∀p∈ps,p.2.length=s)→(cls ps).take (k*s)=cls (ps.take k)
 | [],k,_=>by simp [cls]
 | p::ps,0,_=>by simp [cls]
 | p::ps,k+1,h=>by
  have h0:=h p (by simp)
  have e:(k+1)*s=k*s+s:=Nat.succ_mul k s
  rw [zp,List.take_succ_cons,zp,←zY ps k (fun q hq=>h q (by simp [hq])),List.take_append,List.take_of_length_le (by omega),show(k+1)*s - p.2.length=k*s by omega]
theorem zX {s:Nat}:∀(ps:Cel α) (k:Nat),(∀p∈ps,p.2.length=s)→(cls ps).drop (k*s)=cls (ps.drop k)
 | [],k,_=>by simp [cls]
 | p::ps,0,_=>by simp [cls]
 | p::ps,k+1,h=>by
  have h0:=h p (by simp)
  have e:(k+1)*s=k*s+s:=Nat.succ_mul k s
  rw [zp,List.drop_succ_cons,←zX ps k (fun q hq=>h q (by simp [hq])),List.drop_append,List.drop_eq_nil_of_le (by omega),show(k+1)*s - p.2.length=k*s by omega,List.nil_append]
theorem ul {s:Nat} (ps:Cel α) (i:Nat) (h:∀p∈ps,p.2.length=s):(cls ps).take (i*s)++(cls ps).drop ((i+1)*s)=cls (ps.eraseIdx i):=by
 rw [zY ps i h,zX ps (i+1) h,←qu,List.eraseIdx_eq_take_drop_succ]
theorem Zh {s:Nat} (ps:Cel α) (i:Nat) (p:α×List Value) (hi:i<ps.length) (h:∀p∈ps,p.2.length=s):cls (ps.set i p)=(cls ps).take (i*s)++p.2++(cls ps).drop ((i+1)*s):=by
 rw [zY ps i h,zX ps (i+1) h,List.set_eq_take_append_cons_drop,if_pos hi,qu,zp,List.append_assoc]
theorem xR {s:Nat}:∀(ps:Cel α) (i j:Nat) (u:Value) (y:α) (hi:i<ps.length) (h:∀p∈ps,p.2.length=s) (hj:j<s),(cls ps).set (i*s+j) u=cls (ps.set i (y,(ps[i].2).set j u))
 | p::ps,0,j,u,y,hi,h,hj=>by
  rw [zp,Nat.zero_mul,Nat.zero_add,List.set_append_left _ _ (by rw [h p (by simp)];exact hj)];rfl
 | p::ps,i+1,j,u,y,hi,h,hj=>by
  have h0:=h p (by simp)
  have e:(i+1)*s=i*s+s:=Nat.succ_mul i s
  rw [zp,List.set_append_right _ _ (by omega),show(i+1)*s+j - p.2.length=i*s+j by omega,xR ps i j u y (by simpa using hi) (fun q hq=>h q (by simp [hq])) hj]
  rfl
end
section
variable {α:Type} {S:Shp α} {w w':World} {A:Option Addr} {l m:List α}
def zK (S:Shp α) (w:World) (ps:Cel α):Prop:=∀p∈ps,S.R w p.1 p.2
theorem zK.lens {ps:Cel α} (h:zK S w ps):∀p∈ps,p.2.length=S.size:=fun p hp=>S.len (h p hp)
theorem zK.ones {ps:Cel α} (h:zK S w ps):∀u∈cls ps,u.oneCell'=true:=fun u hu=>by
 obtain⟨p,hp,hu⟩:=List.mem_flatMap.1 hu
 exact S.one (h p hp) u hu
theorem zK.keep {ps:Cel α} (h:zK S w ps) (hs:w.heap.size≤w'.heap.size) (hk:∀b,b<w.heap.size→(∃p∈ps,leads b p.2)→w'.heap[b]?=w.heap[b]?):zK S w' ps :=
 fun p hp=>S.keep (h p hp) hs fun b hb hl=>hk b hb ⟨p,hp,hl⟩
theorem zK.below {ps:Cel α} (h:zK S w ps) (hb:Below w.heap.size w w'):zK S w' ps:=h.keep hb.size fun b h _=>hb.block b h
theorem zK.grown {ps:Cel α} {g:Option Nat} (h:zK S w ps) (hg:w.grownBy w' g) (ha:∀p∈ps,∀b,g=some b→¬leads b p.2):zK S w' ps :=
 h.keep hg.size fun b hb ⟨p,hp,hl⟩=>hg.block b hb (fun e=>ha p hp b e.symm hl)
def Rw (S:Shp α) (w:World) (A:Option Addr) (l:List α):Prop:=∃ps:Cel α,ps.map (·.1)=l∧zK S w ps∧Rd w S.size A l.length (cls ps)
theorem Rw.below (h:Rw S w A l) (hb:Below w.heap.size w w'):Rw S w' A l:=by
 obtain⟨ps,h1,h2,h3⟩:=h;exact⟨ps,h1,h2.below hb,h3.below hb⟩
theorem Rw.nil_:Rw S w A []:=⟨[],rfl,(fun p hp=>nomatch hp),by simp [cls],fun h=>absurd h (by simp)⟩
theorem Rw.at_ (h:Rw S w A l) (k:Nat) (hk:k<l.length):∃b off cs,A=some ⟨b,off,none⟩∧b<w.heap.size∧S.R w l[k] cs∧∀j u,cs[j]?=some u→w.cell? ⟨b,off+k*S.size+j,none⟩=some u:=by
 obtain⟨ps,rfl,h2,h3⟩:=h;rw [List.length_map]at hk h3;obtain⟨b,off,rfl,hb,hc⟩:=h3.2 (by omega);have hm:=List.getElem_mem hk;refine⟨b,off,ps[k].2,rfl,hb,by rw [List.getElem_map];exact h2 _ hm,fun j u hu=> ?_⟩;have hl:=h2.lens _ hm;have hj:j<S.size:=by have:=(List.getElem?_eq_some_iff.1 hu).1;omega
 rw [Nat.add_assoc];exact hc _ u (by rw [xQ ps k j hk h2.lens hj];exact hu)
theorem Rw.pre (h:Rw S w A l) {k:Nat} (hk:k≤l.length):Rw S w A (l.take k):=by
 obtain⟨ps,rfl,h2,h3⟩:=h;rw [List.length_map]at hk h3;have h4:=h3.pre (k:=k) hk;rw [zY ps k h2.lens]at h4;refine⟨ps.take k,by rw [List.map_take],fun p hp=>h2 p (List.mem_of_mem_take hp),?_⟩
 rwa [List.length_take,List.length_map,Nat.min_eq_left hk]
theorem Rw.cut (h:Rw S w A l) {k cap:Nat} (hk:k≤l.length) (hc:l.length≤cap):Rw S w (if cap=k then A else A.map (·.add (k*S.size))) (l.drop k):=by
 obtain⟨ps,rfl,h2,h3⟩:=h;rw [List.length_map]at hk h3 hc;have h4:=h3.cut (k:=k) hk hc;rw [zX ps k h2.lens]at h4;refine⟨ps.drop k,by rw [List.map_drop],fun p hp=>h2 p (List.mem_of_mem_drop hp),?_⟩
 rwa [List.length_drop,List.length_map]
def RwO (S:Shp α) (e:TypeId) (w:World) (base:Nat) (v:Value) (l:List α):Prop :=
 ∃ps:Cel α,ps.map (·.1)=l∧zK S w ps∧w.ownsRow base e S.size v l.length (cls ps)∧∀p∈ps,∀b,v.ownBlock=some b→¬leads b p.2
variable {e:TypeId} {base base':Nat} {v v':Value}
theorem RwO.rows (h:RwO S e w base v l):∃A c,v= .slice A l.length c∧l.length≤c∧c≤maxLen∧Rw S w A l:=by
 obtain⟨ps,h1,h2,h3,h4⟩:=h;have h5:=h3.2;obtain⟨A,c,rfl,hc,hr⟩:=Rd.of_own' h3;refine⟨A,c,rfl,hc,?_,ps,h1,h2,hr⟩;rcases h5 with ⟨e1,e2⟩ | ⟨_,cap,_,e1,_,_,_,hm,_⟩
 ·injection e1 with _ _ e3;subst e3;exact Nat.zero_le _
 ·injection e1 with _ _ e3;subst e3;exact hm
theorem RwO.below (h:RwO S e w base v l) (hb:Below w.heap.size w w'):RwO S e w' base v l:=by
 obtain⟨ps,h1,h2,h3,h4⟩:=h;exact⟨ps,h1,h2.below hb,zb h3 hb,h4⟩
theorem RwO.nil_ (h:w.ownsRow base e S.size v 0 []):RwO S e w base v []:=⟨[],rfl,(fun p hp=>nomatch hp),h,(fun p hp=>nomatch hp)⟩
theorem RwO.lower (h:RwO S e w base v l) (hb:base'≤base):RwO S e w base' v l:=by
 obtain⟨ps,h1,h2,h3,h4⟩:=h;refine⟨ps,h1,h2,⟨h3.1,h3.2.imp id ?_⟩,h4⟩;rintro⟨g,cap,cur,e1,e2,e3⟩;exact⟨g,cap,cur,e1,Nat.le_trans hb e2,e3⟩
theorem RwO.blk (h:RwO S e w base v l) {g:Nat} (hg:v.ownBlock=some g):base≤g∧g<w.heap.size:=by
 obtain⟨ps,h1,h2,h3,h4⟩:=h;exact h3.lt g hg
theorem RwO.nonnil (h:RwO S e w base v l) (h0:0<l.length):∃g c,v= .slice (some ⟨g,0,none⟩) l.length c∧base≤g∧g<w.heap.size∧l.length≤c∧c≤maxLen:=by
 obtain⟨ps,h1,h2,h3,h4⟩:=h;have hlt:=h3.lt;rcases h3.2 with ⟨_,e2⟩ | ⟨g,cap,cur,rfl,hb,_,hn,hm,_⟩
 ·omega
 ·exact⟨g,cap,rfl,hb,(hlt g rfl).2,hn,hm⟩
theorem RwO.other (h:RwO S e w base v l) {g:Option Nat} (hg:w.grownBy w' g) (hv:∀b,g=some b→v.ownBlock≠some b) (hl:∀ps:Cel α,zK S w ps→ps.map (·.1)=l→(∀p∈ps,∀b,v.ownBlock=some b→¬leads b p.2)→w.ownsRow base e S.size v l.length (cls ps)→∀p∈ps,∀b,g=some b→¬leads b p.2):RwO S e w' base v l:=by
 obtain⟨ps,h1,h2,h3,h4⟩:=h;refine⟨ps,h1,h2.grown hg (hl ps h2 h1 h4 h3),h3.kept hg ?_,h4⟩;cases hb:v.ownBlock with
 | none=>exact .inl rfl
 | some b=>exact .inr (fun e1=>hv b e1.symm hb)
theorem RwO.erase {g cap i:Nat} (h:RwO S e w base (.slice (some ⟨g,0,none⟩) l.length cap) l) (hi:i<l.length) :
  ∃xs,w.ownsRow base e S.size (.slice (some ⟨g,0,none⟩) l.length cap) l.length xs∧(∀u∈xs,u.oneCell'=true) ∧
   ∀w',w'.ownsRow base e S.size (.slice (some ⟨g,0,none⟩) (l.length - 1) cap) (l.length - 1) (xs.take (i*S.size)++xs.drop ((i+1)*S.size))→w.grownBy w' (some g) →
    RwO S e w' base (.slice (some ⟨g,0,none⟩) (l.length - 1) cap) (l.eraseIdx i):=by
 obtain⟨ps,h1,h2,h3,h4⟩:=h;refine⟨_,h3,h2.ones,fun w' ho hg=> ?_⟩;rw [ul ps i h2.lens]at ho;have hl:(l.eraseIdx i).length=l.length - 1:=List.length_eraseIdx_of_lt hi;refine⟨ps.eraseIdx i,by rw [←h1,List.eraseIdx_eq_take_drop_succ,List.eraseIdx_eq_take_drop_succ,List.map_append,List.map_take,List.map_drop],zK.grown (fun p hp=>h2 p (List.mem_of_mem_eraseIdx hp)) hg (fun p hp b hb=>h4 p (List.mem_of_mem_eraseIdx hp) b hb),by rw [hl];exact ho,fun p hp b hb=>h4 p (List.mem_of_mem_eraseIdx hp) b hb⟩
theorem kz {w:World} {base g n cap s k:Nat} {e:TypeId} {xs:List Value} (h:w.ownsRow base e s (.slice (some ⟨g,0,none⟩) n cap) n xs) (hk:k<xs.length) (u:Value) :
  (w.setCell ⟨g,k,none⟩ u).ownsRow base e s (.slice (some ⟨g,0,none⟩) n cap) n (xs.set k u)∧w.grownBy (w.setCell ⟨g,k,none⟩ u) (some g)∧(∃v0,w.cell? ⟨g,k,none⟩=some v0)∧w.frozen? ⟨g,k,none⟩=false:=by
 have hgr:w.grownBy (w.setCell ⟨g,k,none⟩ u) (some g):=⟨rfl,rfl,rfl,by simp [World.setCell],fun j _ hj=>Below.heap_setCell w _ u j (fun e=>hj (by rw [e]))⟩
 obtain⟨hl,h2⟩:=h;rcases h2 with ⟨e1,_⟩ | ⟨g',cap',cur,e1,hb,hg,hn,hm,hs,ht⟩
 ·cases e1
 injection e1 with e1 _ e3;injection e1 with e1;injection e1 with e1;subst e1 e3;have hA:Arr w g e cur.toList:=by simpa [Arr] using hg
 have hkc:k<cur.toList.length:=by
  rw [←ht,List.length_take]at hk;omega
 have hA2:=hA.set hkc u;refine⟨⟨by rw [List.length_set];exact hl,.inr ⟨g,cap,_,rfl,hb,hA2,hn,hm,by simp [hs],?_⟩⟩,hgr,⟨_,hA.cell (List.getElem?_eq_getElem hkc)⟩,hA.frozen k⟩;rw [List.take_set,ht]
theorem RwO.set1 {g cap i j:Nat} {u:Value} {y:α} (h:RwO S e w base (.slice (some ⟨g,0,none⟩) l.length cap) l) (hi:i<l.length) (hj:j<S.size)
  (hR:∀W cs,S.R W l[i] cs→S.R W y (cs.set j u)) (hlead:∀b,leads b [u]→b≠g) :
  (∃v0,w.cell? ⟨g,i*S.size+j,none⟩=some v0)∧w.frozen? ⟨g,i*S.size+j,none⟩=false ∧
   RwO S e (w.setCell ⟨g,i*S.size+j,none⟩ u) base (.slice (some ⟨g,0,none⟩) l.length cap) (l.set i y)∧w.grownBy (w.setCell ⟨g,i*S.size+j,none⟩ u) (some g):=by
 obtain⟨ps,h1,h2,h3,h4⟩:=h;have hpl:ps.length=l.length:=by rw [←h1,List.length_map]
 have hip:i<ps.length:=by omega
 have hk:i*S.size+j<(cls ps).length:=by
  rw [qY ps h2.lens];have e1:(i+1)*S.size≤ps.length*S.size:=Nat.mul_le_mul_right _ hip;rw [Nat.succ_mul]at e1;omega
 obtain⟨k1,k2,k3,k4⟩:=kz h3 hk u;refine⟨k3,k4,⟨ps.set i (y,(ps[i].2).set j u),?_,?_,?_,?_⟩,k2⟩
 ·rw [List.map_set,h1]
 ·have hlds:∀p∈ps.set i (y,(ps[i].2).set j u),∀b,some g=some b→¬leads b p.2:=fun p hp b hb hl=>by
   rcases List.mem_or_eq_of_mem_set hp with h | h
   ·exact h4 p h b hb hl
   ·subst h;obtain⟨a,n,c,hm,e2⟩:=hl;rcases List.mem_or_eq_of_mem_set hm with h | h
    ·exact h4 _ (List.getElem_mem hip) b hb ⟨a,n,c,h,e2⟩
    ·cases hb
     exact hlead g ⟨a,n,c,by simp [h],e2⟩ rfl
  refine zK.grown (w:=w) (g:=some g) (fun p hp=> ?_) k2 hlds;rcases List.mem_or_eq_of_mem_set hp with h | h
  ·exact h2 p h
  ·subst h;have h5:=h2 _ (List.getElem_mem hip);have h6:(ps[i]).1=l[i]:=by
    have h7:=congrArg (fun x=>x[i]?) h1;simp only [List.getElem?_map,List.getElem?_eq_getElem hip,List.getElem?_eq_getElem hi,Option.map_some,Option.some.injEq]at h7;exact h7
   rw [h6]at h5;exact hR w _ h5
 ·rw [List.length_set,←xR ps i j u y hip h2.lens hj];exact k1
 ·intro p hp b hb hl;rcases List.mem_or_eq_of_mem_set hp with h | h
  ·exact h4 p h b hb hl
  ·subst h;obtain⟨a,n,c,hm,e2⟩:=hl;rcases List.mem_or_eq_of_mem_set hm with h | h
   ·exact h4 _ (List.getElem_mem hip) b hb ⟨a,n,c,h,e2⟩
   ·cases hb
    exact hlead g ⟨a,n,c,by simp [h],e2⟩ rfl
end
structure Sl (w:World) (size:Nat) (A:Option Addr) (n c:Nat) (xs:List Value):Prop where
 rd:Rd w size A n xs
 cap:n≤c
 max:c≤maxLen
 live:∀a,A=some a→a.block<w.heap.size
 nf:∀g o,A=some ⟨g,o,none⟩→∀j,j<n*size→w.frozen? ⟨g,o+j,none⟩=false
theorem xp {w:World} {g:Nat} {cur:Array Value} {e:TypeId} (h:w.heap[g]?=some (.cells cur e (0,0))) (j:Nat):w.frozen? ⟨g,j,none⟩=false:=by
 simp [World.frozen?,h]
theorem Zo {w w':World} {g j:Nat} (h:w'.heap[g]?=w.heap[g]?):w'.frozen? ⟨g,j,none⟩=w.frozen? ⟨g,j,none⟩:=by
 simp only [World.frozen?,h]
theorem Sl.keep {w w':World} {size n c:Nat} {A:Option Addr} {xs:List Value} (h:Sl w size A n c xs) (hs:w.heap.size≤w'.heap.size) (hk:∀b,b<w.heap.size→(∃a,A=some a∧a.block=b)→w'.heap[b]?=w.heap[b]?):Sl w' size A n c xs :=
 ⟨h.rd.keepb hs hk,h.cap,h.max,fun a ha=>Nat.lt_of_lt_of_le (h.live a ha) hs,fun g o e j hj=>(Zo (hk g (h.live _ e) ⟨_,e,rfl⟩)).trans (h.nf g o e j hj)⟩
theorem Sl.below {w w':World} {size n c:Nat} {A:Option Addr} {xs:List Value} (h:Sl w size A n c xs) (hb:Below w.heap.size w w'):Sl w' size A n c xs:=h.keep hb.size fun b h _=>hb.block b h
theorem Sl.nil_ (w:World) (size:Nat):Sl w size none 0 0 []:=⟨Rd.nil_,Nat.le_refl _,by simp [maxLen],fun a h=>(by cases h),fun g o h=>(by cases h)⟩
theorem Sl.of_own {w:World} {base size n:Nat} {e:TypeId} {v:Value} {xs:List Value} (h:w.ownsRow base e size v n xs):∃A c,v= .slice A n c∧Sl w size A n c xs∧∀a,A=some a→base≤a.block:=by
 have hlt:=h.lt;rcases h.2 with ⟨rfl,rfl⟩ | ⟨g,cap,cur,rfl,hb,hh,hn,hm,_⟩
 ·exact⟨none,0,rfl,⟨Rd.of_own h,Nat.le_refl _,Nat.zero_le _,fun a ha=>(by cases ha),fun g o h=>(by cases h)⟩,fun a ha=>by cases ha⟩
 ·exact⟨_,cap,rfl,⟨Rd.of_own h,hn,hm,fun a ha=>(by cases ha;exact(hlt g rfl).2),fun g' o e j hj=>(by cases e;exact xp hh _)⟩,fun a ha=>by cases ha;exact hb⟩
end Go.Proofs.YtfmnggcfhalfnaaGreat
