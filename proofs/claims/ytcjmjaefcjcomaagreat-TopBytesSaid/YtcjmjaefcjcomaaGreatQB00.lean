/- Lemmas, as stated. -/
import Derived.WalkKit
import Derived.WalkLawsBesides
import Derived.WalkSpells
import Derived.Deep.QuietTactic
import Derived.BigQuiet
import Derived.IntWalk
import Derived.Lib.Hide
import Derived.Maps.AppendAt
import Derived.Deep.AppendLies
import Derived.Deep.Draws
import Derived.RangeFuncBox
import Derived.OneCell
import Derived.Deep.MidRow
import Derived.Deep.RegionLaw
import Derived.Deep.RegionHeld
import Derived.Lib.SliceRun
set_option linter.unusedVariables false
set_option linter.unusedSimpArgs false
theorem Go.RowKit.Hid.o {p:Prop} (h:Go.RowKit.Hid p):p:=h.out
theorem Go.Shut.o {p:Prop} (h:Go.Shut p):p:=h.out
open Go.Value renaming slice->aA
open Option renaming none->aF,some->aG
namespace Go.Proofs.YtcjmjaefcjcomaaGreat
variable {K:Act->World->Prop} {listed:Array Bool} {ops:Array Oper} {rest:List Oper} {B base bytes cap fuel g k n off s size:Nat} {o:Oper} {gd:Option (Tmp×Bool)} {P:Program} {p p0 p1 p2 p3 p4 p5 p6 q:Prop} {e t ty:TypeId} {a a0 a1 a2 a3 a4 a5 a6 b c d i j m u v:Value} {w w':World} {A:(Option Addr)} {cs l xs:(List Value)} {Q:Exit->Act->World->Prop}
section
open Go.RowKit
abbrev am:=Nat->Prop
abbrev al:=Exit->Act->World->Prop
abbrev ak:=List Value
abbrev aj:=Option Addr
abbrev ai:=List UInt8
abbrev wH (W:World) (g:Nat) (a b c:Value):Prop:=W.cell? ⟨g,0,aF⟩=aG a/\W.cell? ⟨g,1,aF⟩=aG b/\W.cell? ⟨g,2,aF⟩=aG c
abbrev wI (W:World) (g:Nat) (a b c d:Value):Prop:=W.cell? ⟨g,0,aF⟩=aG a/\W.cell? ⟨g,1,aF⟩=aG b/\W.cell? ⟨g,2,aF⟩=aG c/\W.cell? ⟨g,3,aF⟩=aG d
abbrev wJ (W:World) (g:Nat) (a b c d i j k m:Value):Prop:=W.cell? ⟨g,0,aF⟩=aG a/\W.cell? ⟨g,1,aF⟩=aG b/\W.cell? ⟨g,2,aF⟩=aG c/\W.cell? ⟨g,3,aF⟩=aG d/\W.cell? ⟨g,4,aF⟩=aG i/\W.cell? ⟨g,5,aF⟩=aG j/\W.cell? ⟨g,6,aF⟩=aG k/\W.cell? ⟨g,7,aF⟩=aG m
abbrev wK (W:World) (g:Nat) (a b c d i j k:Value):Prop:=W.cell? ⟨g,0,aF⟩=aG a/\W.cell? ⟨g,1,aF⟩=aG b/\W.cell? ⟨g,2,aF⟩=aG c/\W.cell? ⟨g,3,aF⟩=aG d/\W.cell? ⟨g,4,aF⟩=aG i/\W.cell? ⟨g,5,aF⟩=aG j/\W.cell? ⟨g,6,aF⟩=aG k
structure an {a:Type} (i:a) (q:Prop):Prop where o:q
theorem wL (h:q) (k:an 0 q->p:=by intro hzz0;(repeat' (fail_if_success (first|at_builtin|at_make));first|go_values|go_skip|go_guarded|go_step|go_upon|go_back);(repeat (rename_i hzz1;revert hzz1;have hzz2:=hzz0;clear hzz2));exact hzz0.o):p:=k ⟨h⟩
section
variable {P:Program} {ops:Array Oper} {c d e f h j:Code} {b:Bool} {a:Act} {w:World} {Q:Exit->Act->World->Prop} {i:Nat} {q:Prop} {rest:List Oper} {ty:TypeId} {dd:Option Tmp} {x y:Operand} {t:TypeId} {pos:String} {after:Array Edge} {gd:Option (Tmp×Bool)} {oz:Array Operand} {tz:Array TypeId}
theorem ao (_:an i q) (z:Code.wp P (.region i ops b) Q a w):Code.wp P (.region i ops b) Q a w:=z
theorem aq (_:an i q) (z:Code.wp P (.seq (.region i ops b) c) Q a w):Code.wp P (.seq (.region i ops b) c) Q a w:=z
theorem ar (_:an i q) (z:Code.wp P (.seq (.seq (.region i ops b) c) d) Q a w):Code.wp P (.seq (.seq (.region i ops b) c) d) Q a w:=z
theorem au (_:an i q) (z:Code.wp P (.seq (.seq (.seq (.region i ops b) c) d) e) Q a w):Code.wp P (.seq (.seq (.seq (.region i ops b) c) d) e) Q a w:=z
theorem av (_:an i q) (z:Code.wp P (.seq (.seq (.seq (.seq (.region i ops b) c) d) e) f) Q a w):Code.wp P (.seq (.seq (.seq (.seq (.region i ops b) c) d) e) f) Q a w:=z
theorem aw (_:an i q) (z:Code.wp P (.seq (.seq (.seq (.seq (.seq (.region i ops b) c) d) e) f) h) Q a w):Code.wp P (.seq (.seq (.seq (.seq (.seq (.region i ops b) c) d) e) f) h) Q a w:=z
theorem ax (_:an ty q) (z:wpList P ops Q (⟨dd,.store ty x y,t,pos,after,gd⟩::rest) a w):wpList P ops Q (⟨dd,.store ty x y,t,pos,after,gd⟩::rest) a w:=z
theorem ay (_:an ty q) (z:wpList P ops Q (⟨dd,.load ty x,t,pos,after,gd⟩::rest) a w):wpList P ops Q (⟨dd,.load ty x,t,pos,after,gd⟩::rest) a w:=z
theorem az (_:an ty q) (z:wpList P ops Q (⟨dd,.call {callee:=.builtin .copy,args:=oz,argTypes:=tz},t,pos,after,gd⟩::rest) a w):wpList P ops Q (⟨dd,.call {callee:=.builtin .copy,args:=oz,argTypes:=tz},t,pos,after,gd⟩::rest) a w:=z
end
theorem wM (i:Nat) (h:q) (k:an i q->p:=by intro hzz0;(repeat' (fail_if_success (first|at_builtin|at_make|with_reducible first|refine ao hzz0 ?_|refine aq hzz0 ?_|refine ar hzz0 ?_));first|go_values|go_skip|go_guarded|go_step|go_upon|go_back);(repeat (rename_i hzz1;revert hzz1;have hzz2:=hzz0;clear hzz2));exact hzz0.o):p:=k ⟨h⟩
theorem wN (i:Nat) (h:q) (k:an i q->p:=by intro hzz0;(repeat' (fail_if_success (first|at_builtin|at_make|with_reducible first|refine ao hzz0 ?_|refine aq hzz0 ?_|refine ar hzz0 ?_|refine au hzz0 ?_|refine av hzz0 ?_|refine aw hzz0 ?_));first|go_values|go_skip|go_guarded|go_step|go_upon|go_back);(repeat (rename_i hzz1;revert hzz1;have hzz2:=hzz0;clear hzz2));exact hzz0.o):p:=k ⟨h⟩
theorem wO (i:TypeId) (h:q) (k:an i q->p:=by intro hzz0;(repeat' (fail_if_success (first|at_builtin|at_make|with_reducible first|refine ax hzz0 ?_|refine ay hzz0 ?_|refine az hzz0 ?_));first|go_values|go_skip|go_guarded|go_step|go_upon|go_back);(repeat (rename_i hzz1;revert hzz1;have hzz2:=hzz0;clear hzz2));exact hzz0.o):p:=k ⟨h⟩
theorem sqJ3 (h0:p0) (h1:p1) (h2:p2):Hid p0/\Hid p1/\Hid p2:=⟨h0,h1,h2⟩
theorem sqJ4 (h0:p0) (h1:p1) (h2:p2) (h3:p3):Hid p0/\Hid p1/\Hid p2/\Hid p3:=⟨h0,h1,h2,h3⟩
theorem sqJ5 (h0:p0) (h1:p1) (h2:p2) (h3:p3) (h4:p4):Hid p0/\Hid p1/\Hid p2/\Hid p3/\Hid p4:=⟨h0,h1,h2,h3,h4⟩
theorem sqJ6 (h0:p0) (h1:p1) (h2:p2) (h3:p3) (h4:p4) (h5:p5):Hid p0/\Hid p1/\Hid p2/\Hid p3/\Hid p4/\Hid p5:=⟨h0,h1,h2,h3,h4,h5⟩
theorem sqJ7 (h0:p0) (h1:p1) (h2:p2) (h3:p3) (h4:p4) (h5:p5) (h6:p6):Hid p0/\Hid p1/\Hid p2/\Hid p3/\Hid p4/\Hid p5/\Hid p6:=⟨h0,h1,h2,h3,h4,h5,h6⟩
theorem sqJ8 {p7:Prop} (h0:p0) (h1:p1) (h2:p2) (h3:p3) (h4:p4) (h5:p5) (h6:p6) (h7:p7):Hid p0/\Hid p1/\Hid p2/\Hid p3/\Hid p4/\Hid p5/\Hid p6/\Hid p7:=⟨h0,h1,h2,h3,h4,h5,h6,h7⟩
theorem wQ (i:Nat) (h:q) (k:an i q->p:=by intro hzz0;(try simp only [sqP]);refine sqTH (wP hzz0) ?_;(try simp only [sqP,wP]);exact hzz0.o):p:=k ⟨h⟩
theorem wR (i:Nat) (h:q) (k:an i q->p:=by intro hzz0;(try simp only [sqP]);refine sqTT (wP hzz0) ?_;(try simp only [sqP,wP]);exact hzz0.o):p:=k ⟨h⟩
theorem wS (i:Nat) (h:q) (k:an i q->p:=by intro hzz0;(try simp only [sqP]);refine tkU (wP hzz0) ?_;(try simp only [sqP,wP]);exact hzz0.o):p:=k ⟨h⟩
theorem wT (i:Nat) (h:q) (k:an i q->p:=by intro hzz0;(try simp only [sqP]);refine tkP (wP hzz0) ?_;(try simp only [sqP,wP]);exact hzz0.o):p:=k ⟨h⟩
abbrev wP {i:Nat} {q:Prop} (_:an i q):Nat:=i
theorem wU {md:Region.Mode} {Q:Exit->Act->World->Prop} {S:World->Prop} {a:Act} (i:Nat) (h:∀K':Act->World->Prop,Shut (∀a w,S w->(S w->wpAnyH P md ops Q S fuel (listed.setIfInBounds i true) a w)->K' a w)->if Region.wanted o (yielded ops a.tmps)=true then Oper.wp P o a w K' Q else K' (a.put o.dst undef) w) (hr:Region.ready md ops listed=[i]:=by kernel_rfl) (ho:ops[i]?=aG o:=by rfl):wpAnyH P md ops Q S (fuel+1) listed a w:=wpAnyH_ready hr (by simp) (AllReadyH.cons ho h AllReadyH.nil)
theorem wY {a:Sort _} (x:a):∃b,b=x:=⟨x,rfl⟩
theorem wZ {f:FuncId} {args:Array Value} {v:Ending} {B:World->Prop} {R:Ending->World->Prop} (h:Calls P f args w fun e w'=>e=v/\B w') (k:∀w',B w'->R v w'):Calls P f args w R:=h.mono fun e w' h=>h.1▸k w' h.2
theorem wc (h:Hid p) (k:p->q:=by intro h;omega):q:=k h.o
theorem we (m:Nat):(0:Int)<=(m:Int):=by omega
theorem wo (w:World):Below w.heap.size w w:=Below.refl _ _
theorem wm {a b c:World} (h:Below a.heap.size a b) (k:Below b.heap.size b c):Below a.heap.size a c:=h.trans (k.mono h.size)
theorem ws (w:World) (o:Obj):Below w.heap.size w (w.alloc o):=(Below.refl _ _).alloc (Nat.le_refl _) o
theorem wu (h:p:=by omega):p:=h
theorem ww (h:p:=by kernel_rfl):p:=h
theorem aa (h:p:=by decide):p:=h
theorem ab (h:p:=by simp):p:=h
theorem ac (h:p:=by rfl):p:=h
theorem ae (h:p:=by simp only;omega):p:=h
theorem af (h:p:=by simp;omega):p:=h
theorem ag:n<=n:=Nat.le_refl _
theorem sqH (h:p):Hid p:=h
theorem sqP:(∀ {α:Type} (l:List α) (i:Nat) (h:i<l.toArray.size),l.toArray[i]=l[i]'(by simpa using h))/\(∀ {α:Type} (a:α) (l:List α) (h:0<(a::l).length),(a::l)[0]=a)/\(∀ {α:Type} (a:α) (l:List α) (i:Nat) (h:i+1<(a::l).length),(a::l)[i+1]=l[i]'(Nat.lt_of_succ_lt_succ h))/\(∀(a:Act) (t:Tmp) (v:Value),a.put t v= { a with tmps:=a.tmps.setIfInBounds t v })/\(∀ {α:Type} (l:List α) (i:Nat) (a:α),l.toArray.setIfInBounds i a=(l.set i a).toArray)/\(∀ {α:Type} (x:α) (l:List α) (a:α),(x::l).set 0 a=a::l)/\(∀ {α:Type} (x:α) (l:List α) (n:Nat) (a:α),(x::l).set (n+1) a=x::l.set n a) :=
 ⟨fun _ _ _=>rfl,fun _ _ _=>rfl,fun _ _ _ _=>rfl,fun _ _ _=>rfl,fun l i a=>List.setIfInBounds_toArray l i a,fun _ _ _=>rfl,fun _ _ _ _=>rfl⟩
theorem sqQ:(∀(a:Act) (t:Tmp) (v:Value),a.put t v= { a with tmps:=a.tmps.setIfInBounds t v })/\(∀ {α:Type} (l:List α) (i:Nat) (a:α),l.toArray.setIfInBounds i a=(l.set i a).toArray)/\(∀ {α:Type} (x:α) (l:List α) (a:α),(x::l).set 0 a=a::l)/\(∀ {α:Type} (x:α) (l:List α) (n:Nat) (a:α),(x::l).set (n+1) a=x::l.set n a) :=
 ⟨fun _ _ _=>rfl,fun l i a=>List.setIfInBounds_toArray l i a,fun _ _ _=>rfl,fun _ _ _ _=>rfl⟩
theorem sqTH {md:Region.Mode} {S:World->Prop} (i:Nat) {oi:Oper} {a:Act} (h:wpAnyH P md ops Q S fuel (listed.setIfInBounds i true) (a.put oi.dst v) w) (hi:ops[i]?=aG oi:=by rfl) (hs:Region.noSelect ops=true:=by kernel_rfl) (hf:Region.free md ops listed i=true:=by kernel_rfl) (hr:(Region.ready md ops listed).contains i=true:=by kernel_rfl) (hw:Region.wanted oi (yielded ops a.tmps)=true:=by rfl) (hS:S w:=by assumption) (hy:∀w,S w->(execOp a.eval oi).run P w= .ok (.value v) w:=by(intro w hSw;(try dsimp only [wH,wI,wJ,wK] at hSw);go_simp;try (with_reducible rfl))) (hQ:∀c a w,Q (.panic c) (a.put oi.dst v) w->Q (.panic c) a w:=by exact fun _ _ _ h=>h):wpAnyH P md ops Q S (fuel+1) listed a w :=
 wpAnyH_take hi hs hf hr hQ (Or.inl ⟨hw,hy⟩) hS h
end
section
open Go.RowKit
abbrev wd (b:BitVec 32):Int:=(b.toNat:Int)
theorem z2g (b:BitVec 32):wd b<4294967296:=by
 have:=b.isLt;simp only [wd];omega
theorem z2h (b:BitVec 32):0<=wd b:=by simp only [wd];omega
theorem JY {a b:BitVec 32}:wd a=wd b↔a=b:=by
 constructor
 ·intro h;apply BitVec.eq_of_toNat_eq;simp only [wd]at h;omega
 ·rintro rfl;rfl
theorem Z9 (n:Nat):IntKind.u32.wrap (n:Int)=((n % 4294967296:Nat):Int):=by
 rw [IntKind.wrap_u32];omega
theorem kU (a b:BitVec 32):bits .and .u32 (wd a) (wd b)=wd (a &&& b):=by
 show IntKind.u32.wrap ((BitVec.ofInt 32 (wd a) &&& BitVec.ofInt 32 (wd b)).toNat:Int)=_;have ha:BitVec.ofInt 32 (wd a)=a:=by simp [wd]
 have hb:BitVec.ofInt 32 (wd b)=b:=by simp [wd]
 rw [ha,hb,Z9,Nat.mod_eq_of_lt (a &&& b).isLt]
theorem kV (a b:BitVec 32):bits .or .u32 (wd a) (wd b)=wd (a ||| b):=by
 show IntKind.u32.wrap ((BitVec.ofInt 32 (wd a) ||| BitVec.ofInt 32 (wd b)).toNat:Int)=_;have ha:BitVec.ofInt 32 (wd a)=a:=by simp [wd]
 have hb:BitVec.ofInt 32 (wd b)=b:=by simp [wd]
 rw [ha,hb,Z9,Nat.mod_eq_of_lt (a ||| b).isLt]
theorem qG (a b:BitVec 32):bits .xor .u32 (wd a) (wd b)=wd (a ^^^ b):=by
 show IntKind.u32.wrap ((BitVec.ofInt 32 (wd a) ^^^ BitVec.ofInt 32 (wd b)).toNat:Int)=_;have ha:BitVec.ofInt 32 (wd a)=a:=by simp [wd]
 have hb:BitVec.ofInt 32 (wd b)=b:=by simp [wd]
 rw [ha,hb,Z9,Nat.mod_eq_of_lt (a ^^^ b).isLt]
theorem z55:IntKind.u32.max=wd (BitVec.allOnes 32):=by decide
theorem uR (a:BitVec 32):bits .xor .u32 IntKind.u32.max (wd a)=wd (~~~a):=by
 rw [z55,qG,BitVec.allOnes_xor]
theorem ZZ (x:BitVec 32) (n:Nat):wd x / 2 ^ n=wd (x >>> n):=by
 show((x.toNat:Int) / 2 ^ n)=((x >>> n).toNat:Int)
 rw [BitVec.toNat_ushiftRight,Nat.shiftRight_eq_div_pow,Int.natCast_ediv,Int.natCast_pow];rfl
theorem Jn (x:BitVec 32) (n:Nat):wd x*2 ^ n % 4294967296=wd (x <<< n):=by
 show((x.toNat:Int)*2 ^ n % ((4294967296:Nat):Int))=((x <<< n).toNat:Int)
 rw [BitVec.toNat_shiftLeft,Nat.shiftLeft_eq,Int.natCast_emod,Int.natCast_mul,Int.natCast_pow];rfl
theorem z3t (x:BitVec 32) (n:Nat) (h:n<=31):bits .or .u32 (wd x / 2 ^ n) (wd x*2 ^ (32 - n) % 4294967296)=wd (x.rotateRight n):=by
 rw [ZZ,Jn,kV];simp only [BitVec.rotateRight,BitVec.rotateRightAux,Nat.mod_eq_of_lt (show n<32 by omega)]
theorem zO {a:World} (h:Below B a w) (n:Nat):Below B a (w.drewN n):=⟨h.os,h.tape,h.output,h.size,h.block⟩
theorem UA (a:Addr) (n:Nat):(a.add n).block=a.block:=by unfold Addr.add;split<;>rfl
theorem z3c (a:Addr) (i j:Nat):(a.add i).add j=a.add (i+j):=by
 unfold Addr.add;by_cases hi:i=0<;>by_cases hj:j=0<;>simp [hi,hj,Nat.add_assoc]
def Rd (w:World) (size:Nat) (A:aj) (n:Nat) (xs:ak):Prop :=
 xs.length=n*size/\(0<n->∃b off,A=aG ⟨b,off,aF⟩/\b<w.heap.size/\∀j u,xs[j]?=aG u->w.cell? ⟨b,off+j,aF⟩=aG u)
section
variable {w w':World} {size n:Nat} {A:aj} {xs:ak}
theorem Rd.nil_:Rd w size A 0 []:=⟨ab,fun h=>absurd h wu⟩
theorem Rd.at_ (h:Rd w 1 A n xs) (hk:k<n):∃b off u,A=aG ⟨b,off,aF⟩/\b<w.heap.size/\xs[k]?=aG u/\w.cell? ⟨b,off+k,aF⟩=aG u:=by
 obtain⟨b,off,e,hb,hc⟩:=h.2 wu;have hl:k<xs.length:=by have:=h.1;omega
 exact⟨b,off,xs[k],e,hb,List.getElem?_eq_getElem hl,hc k _ (List.getElem?_eq_getElem hl)⟩
theorem Rd.keep (h:Rd w size A n xs) (hs:w.heap.size<=w'.heap.size) (hk:∀p:Addr,p.block<w.heap.size->w'.cell? p=w.cell? p):Rd w' size A n xs :=
 ⟨h.1,fun hn=>by
  obtain⟨b,off,e,hb,hc⟩:=h.2 hn
  exact⟨b,off,e,wu,fun j u hu=>(hk _ (by exact hb)).trans (hc j u hu)⟩⟩
theorem Rd.below (h:Rd w size A n xs) (hb:Below w.heap.size w w'):Rd w' size A n xs:=h.keep hb.size fun _ hp=>hb.cell hp
theorem Rd.alloc (h:Rd w size A n xs) (o:Obj):Rd (w.alloc o) size A n xs:=h.keep ab fun p hp=>World.cell?_alloc_lt w o p hp
theorem Rd.of_own {c:Nat} (h:w.ownsRow base e size (aA A n c) n xs):Rd w size A n xs:=by
 refine⟨h.1,fun hn=> ?_⟩;rcases h.2 with ⟨_,h0⟩ | ⟨g,cap,cur,hv,hb,hg,_⟩
 ·omega
 ·injection hv with hA;subst hA;refine⟨g,0,rfl,(Array.getElem?_eq_some_iff.1 hg).1,fun j u hu=> ?_⟩;have:=h.cells (g:=g) (by simp [Value.ownBlock]) j u hu;have hadd:(⟨g,0,aF⟩:Addr).add j=⟨g,0+j,aF⟩:=by unfold Addr.add;split<;>simp_all
  rwa [hadd]at this
theorem Rd.of_own' (h:w.ownsRow base e size v n xs):∃A c,v= aA A n c/\n<=c/\Rd w size A n xs:=by
 rcases h.2 with ⟨rfl,rfl⟩ | ⟨g,cap,cur,rfl,hb,hg,hnc,_⟩
 ·exact⟨aF,0,rfl,Nat.le_refl _,Rd.of_own h⟩
 ·exact⟨_,cap,rfl,hnc,Rd.of_own h⟩
theorem Rd.cut (h:Rd w size A n xs) (hk:k<=n) (hc:n<=cap) :
  Rd w size (if cap=k then A else A.map (·.add (k*size))) (n - k) (xs.drop (k*size)):=by
 refine⟨by rw [List.length_drop,h.1,Nat.sub_mul],fun hn=> ?_⟩;obtain⟨b,off,rfl,hb,hcell⟩:=h.2 wu;rw [if_neg wu];refine⟨b,off+k*size,?_,hb,fun j u hu=> ?_⟩
 ·simp only [Option.map_some,Addr.add];split
  ·simp_all
  ·rfl
 ·rw [Nat.add_assoc];exact hcell _ u (by rw [<-hu,List.getElem?_drop])
theorem Rd.pre (h:Rd w size A n xs) (hk:k<=n):Rd w size A k (xs.take (k*size)):=by
 refine⟨by rw [List.length_take,h.1];exact Nat.min_eq_left (Nat.mul_le_mul_right _ hk),fun hn=> ?_⟩;obtain⟨b,off,rfl,hb,hcell⟩:=h.2 wu;exact⟨b,off,rfl,hb,fun j u hu=>hcell j u (by rw [List.getElem?_take]at hu;split at hu<;>simp_all)⟩
end
structure El (P:Program) (t e:TypeId) (size bytes:Nat):Prop where
 und:P.underlying t=aG (.slice e)
 ex:∃(i:TypeInfo) (z:Value),P.info? e=aG i/\i.zero=aG z/\i.size=size/\i.bytes=bytes/\z.cells.size=size
 pos:0<size
 posb:0<bytes
theorem El.mk' {z:Value} (hu:P.underlying t=aG (.slice e)) (hi:(P.info? e).map (fun i=>(i.zero,i.size,i.bytes))=aG (aG z,size,bytes))
  (hz:z.cells.size=size) (hp:0<size) (hq:0<bytes):El P t e size bytes:=by
 refine⟨hu,?_,hp,hq⟩;cases h:P.info? e with
 | none=>rw [h]at hi;cases hi
 | some i =>
  rw [h]at hi;simp only [Option.map_some,Option.some.injEq,Prod.mk.injEq]at hi;exact⟨i,z,rfl,hi.1,hi.2.1,hi.2.2,hz⟩
section
variable {P:Program} {w:World}
theorem xK (E:El P t e size bytes) (hown:w.ownsRow base e size v n xs) (c:Nat) :
  (Builtin.append_ #[t,t] ty #[v,aA aF 0 c]).run P w= .ok v w:=by
 obtain⟨hu,⟨i,z,hi,_,_,_,_⟩,_,_⟩:=E;rcases hown.2 with ⟨rfl,rfl⟩ | ⟨g,cap,cur,rfl,_,_,hnc,_⟩
 ·simp [Builtin.append_,run_underlying hu,sizeOf,typeInfo,hi,Builtin.lenOf,Builtin.firstCells]
 ·simp [Builtin.append_,run_underlying hu,sizeOf,typeInfo,hi,Builtin.lenOf,Builtin.firstCells,hnc,storeCells]
theorem z3v (E:El P t e size bytes) (hown:w.ownsRow base e size v n xs)
  {A:aj} {m c:Nat} {news:ak} (hr:Rd w size A m news) (h1:∀u∈news,u.oneCell'=true)
  (hb:(n+m)*bytes<=140737488355328) (hbase:base<=w.heap.size) :
  ∃v' w',(Builtin.append_ #[t,t] ty #[v,aA A m c]).run P w= .ok v' w'/\w'.ownsRow base e size v' (n+m) (xs++news)/\w.grownBy w' v.ownBlock /\
   (v'.ownBlock=v.ownBlock\/v'.ownBlock=aG w.heap.size):=by
 have h63:n+m<=maxLen:=by
  have:=Nat.le_trans (Nat.le_mul_of_pos_right (n+m) E.posb) hb;simp only [maxLen];omega
 rcases Nat.eq_zero_or_pos m with h0 | h0
 ·subst h0;have hn:news= []:=List.eq_nil_of_length_eq_zero (by simpa using hr.1);subst hn;cases A with
  | none=>exact⟨v,w,xK E hown c,by simpa using hown,⟨rfl,rfl,rfl,Nat.le_refl _,fun _ _ _=>rfl⟩,.inl rfl⟩
  | some ad =>
   obtain⟨hu,⟨i,z,hi,hz,hs,hby,hzs⟩,hp,hq⟩:=E;obtain⟨v',w',hrun,h2,h3,_,h5⟩:=run_append_own_at (P:=P) w base t ty e i z size bytes hu hi hz hs hby hzs hp v n xs hown ad 0 c [] hr.1 (fun j u hu=>by simp at hu) h1 h63 hb hbase;exact⟨v',w',hrun,h2,h3,h5⟩
 ·obtain⟨b,off,rfl,hbl,hc⟩:=hr.2 h0;obtain⟨hu,⟨i,z,hi,hz,hs,hby,hzs⟩,hp,hq⟩:=E;have hc':∀j u,news[j]?=aG u->w.cell? ((⟨b,off,aF⟩:Addr).add j)=aG u:=fun j u hj=>by
   have hadd:(⟨b,off,aF⟩:Addr).add j=⟨b,off+j,aF⟩:=by unfold Addr.add;split<;>simp_all
   rw [hadd];exact hc j u hj
  obtain⟨v',w',hrun,h2,h3,_,h5⟩:=run_append_own_at (P:=P) w base t ty e i z size bytes hu hi hz hs hby hzs hp v n xs hown ⟨b,off,aF⟩ m c news hr.1 hc' h1 h63 hb hbase;exact⟨v',w',hrun,h2,h3,h5⟩
theorem z4e {a:Act} (s x:Operand) 
  (ho:o.op= .call { callee:= .builtin .append,args:=#[s,x],argTypes:=#[t,t] }) (E:El P t e size bytes)
  {base:Nat} {v:Value} {n:Nat} {xs:ak} (hs:a.eval s=v) (hown:w.ownsRow base e size v n xs)
  {A:aj} {m c:Nat} {news:ak} (hx:a.eval x= aA A m c) (hr:Rd w size A m news) (h1:∀u∈news,u.oneCell'=true)
  (hb:(n+m)*bytes<=140737488355328) (hbase:base<=w.heap.size)
  (h:∀v' w',w'.ownsRow base e size v' (n+m) (xs++news)->w.grownBy w' v.ownBlock->(v'.ownBlock=v.ownBlock\/v'.ownBlock=aG w.heap.size)->K (a.put o.dst v') w'):o.wp P a w K Q:=by
 obtain⟨v',w',hrun,h2,h3,h4⟩:=z3v (P:=P) (ty:=o.type) E hown hr h1 hb hbase (c:=c);unfold Oper.wp execOp;simp only [ho,resolve,invoke,builtin,Sem.run_bind,Sem.run_pure,Result.andThen_ok,List.map_toArray,List.map_cons,List.map_nil,hs,hx,hrun];exact h v' w' h2 h3 h4
theorem zG {a:Act} (hgd:o.guard=aF) (s x:Operand) 
  (ho:o.op= .call { callee:= .builtin .append,args:=#[s,x],argTypes:=#[t,t] }) (E:El P t e size bytes)
  {base:Nat} {v:Value} {n:Nat} {xs:ak} (hs:a.eval s=v) (hown:w.ownsRow base e size v n xs)
  {A:aj} {m c:Nat} {news:ak} (hx:a.eval x= aA A m c) (hr:Rd w size A m news) (h1:∀u∈news,u.oneCell'=true)
  (hb:(n+m)*bytes<=140737488355328) (hbase:base<=w.heap.size)
  (h:∀v' w',w'.ownsRow base e size v' (n+m) (xs++news)->w.grownBy w' v.ownBlock->(v'.ownBlock=v.ownBlock\/v'.ownBlock=aG w.heap.size)->wpList P ops Q rest (a.put o.dst v') w') :
  wpList P ops Q (o::rest) a w :=
 wpList_plain hgd fun _ hK=>z4e s x ho E hs hown hx hr h1 hb hbase fun v' w' h2 h3 h4=>hK _ _ (h v' w' h2 h3 h4)
theorem Z4 {a:Act} {E0:Prop} (hgd:o.guard=aF) (s x:Operand) 
  (ho:o.op= .call { callee:= .builtin .append,args:=#[s,x],argTypes:=#[t,t] }) (E:El P t e size bytes)
  {base:Nat} {v:Value} {n:Nat} {xs:ak} (hs:a.eval s=v) (hown:w.ownsRow base e size v n xs)
  {A:aj} {m c:Nat} {news:ak} (hx:a.eval x= aA A m c) (hr:Rd w size A m news) (h1:∀u∈news,u.oneCell'=true)
  (hb:(n+m)*bytes<=140737488355328) (hbase:base<=w.heap.size)
  (h:∀v' w',w'.ownsRow base e size v' (n+m) (xs++news)->w.grownBy w' v.ownBlock->(v'.ownBlock=v.ownBlock\/v'.ownBlock=aG w.heap.size)->K (a.put o.dst v') w') :
  if Region.wanted o (yielded ops a.tmps)=true then Oper.wp P o a w K Q else E0:=by
 rw [if_pos (by simp [Region.wanted,hgd])];exact z4e s x ho E hs hown hx hr h1 hb hbase h
theorem Rd.newN {w:World} {m:Nat} (us:ak) (hl:us.length=m*size):Rd (w.alloc (.cells us.toArray e)) size (aG ⟨w.heap.size,0,aF⟩) m us :=
 ⟨hl,fun _=>⟨_,0,rfl,ab,fun j x hx=>by
  rw [World.cell?_alloc_new,Nat.zero_add];simpa using hx⟩⟩
theorem zj {a:Act} (hgd:o.guard=aF) (s x:Operand) {e':TypeId} 
  (ho:o.op= .call { callee:= .builtin .append,args:=#[s,x],argTypes:=#[t,t] }) (E:El P t e size bytes)
  {base:Nat} {v:Value} {n:Nat} {xs:ak} (hs:a.eval s=v) (hown:w.ownsRow base e size v n xs)
  {us:ak} {m c:Nat} (hx:a.eval x= aA (aG ⟨w.heap.size,0,aF⟩) m c) (hl:us.length=m*size) (h1:∀u∈us,u.oneCell'=true)
  (hb:(n+m)*bytes<=140737488355328) (hbase:base<=w.heap.size)
  (h:∀v' w',w'.ownsRow base e size v' (n+m) (xs++us)->w.grownBy w' v.ownBlock->(v'.ownBlock=v.ownBlock\/∃g,v'.ownBlock=aG g/\w.heap.size<=g)->wpList P ops Q rest (a.put o.dst v') w') :
  wpList P ops Q (o::rest) a (w.alloc (.cells us.toArray e')) :=
 zG hgd s x ho E hs (hown.alloc _) hx (Rd.newN us hl) h1 hb af fun v' w' h2 h3 h4=>h v' w' h2
  ⟨h3.os,h3.tape,h3.output,by have:=h3.size;simp at this;omega,fun k hk hne=>(h3.block k af hne).trans (Below.heap_alloc _ _ _ hk)⟩
  (h4.imp id fun h=>⟨_,h,ab⟩)
end
def bys (l:ai):ak:=l.map fun b=> .int .u8 (b.toNat:Int)
theorem qt (l:ai):(bys l).length=l.length:=by simp [bys]
theorem q6 (l m:ai):bys (l++m)=bys l++bys m:=by simp [bys]
theorem kC (l:ai):∀u∈bys l,u.oneCell'=true:=by
 intro u hu;simp only [bys,List.mem_map]at hu;obtain⟨_,_,rfl⟩:=hu;rfl
theorem vq (l:ai) (k:Nat) (h:k<l.length):(bys l)[k]?=aG (.int .u8 (l[k].toNat:Int)):=by simp [bys,h]
theorem Rd.new1 (u:Value):Rd (w.alloc (.cells #[u] e)) 1 (aG ⟨w.heap.size,0,aF⟩) 1 [u] :=
 ⟨ab,fun _=>⟨_,0,rfl,ab,fun j x hx=>by
  match j,hx with
  | 0,hx=>simp at hx;subst hx;simp⟩⟩
theorem zh {w0:World} (hb:Below w0.heap.size w0 w) (hown:w.ownsRow base e size v n xs) (hbase:w0.heap.size<=base)
  (hg:w.grownBy w' v.ownBlock):Below w0.heap.size w0 w' :=
 hb.grown hg hb.size fun k hk=>by have:=(hown.lt k hk).1;omega
theorem kK {src dst:TypeId} {c:Nat} {l:ai} (hs:P.underlying src=aG (.slice e)) (he:P.underlying e=aG (.int .u8)) (hd:P.underlying dst=aG .string)
  (hl:l.length=n) (hr:Rd w 1 A n (bys l)):(convert src dst (aA A n c)).run P w= .ok (.string ⟨l.toArray⟩) w:=by
 rcases Nat.eq_zero_or_pos n with h0 | h0
 ·subst h0;obtain rfl:l= []:=List.eq_nil_of_length_eq_zero hl;cases A with
  | none=>exact run_convert_bytes_nil w src e hs he 0 c dst hd
  | some a=>exact run_convert_bytes_back w src dst e a c [] hs he hd (fun j hj=>absurd hj ab)
 ·obtain⟨b,off,rfl,hb,hc⟩:=hr.2 h0;subst hl;refine run_convert_bytes_back w src dst e ⟨b,off,aF⟩ c l hs he hd (fun j hj=> ?_);have hadd:(⟨b,off,aF⟩:Addr).add j=⟨b,off+j,aF⟩:=by unfold Addr.add;split<;>simp_all
  rw [hadd];exact hc j _ (vq l j hj)
theorem z2b {l m:ai}:((⟨l.toArray⟩:ByteArray)=⟨m.toArray⟩)↔l=m:=by
 constructor
 ·intro h;injection h with h;simpa using h
 ·rintro rfl;rfl
structure OwnB (e:TypeId) (base:Nat) (w:World) (A:aj) (c:Nat) (l:ai):Prop where
 own:w.ownsRow base e 1 (aA A l.length c) l.length (bys l)
 cap:l.length<=c
theorem OwnB.rd {c:Nat} {l:ai} (h:OwnB e base w A c l):Rd w 1 A l.length (bys l):=Rd.of_own h.own
theorem OwnB.of {l:ai} (hn:l.length=n) (h:w.ownsRow base e 1 v n (bys l)):∃A c,v= aA A l.length c/\OwnB e base w A c l:=by
 subst hn;obtain⟨A,c,rfl,hc,_⟩:=Rd.of_own' h;exact⟨A,c,rfl,h,hc⟩
theorem OwnB.below {c:Nat} {l:ai} (h:OwnB e base w A c l) (hb:Below w.heap.size w w'):OwnB e base w' A c l :=
 ⟨h.own.kept ⟨hb.os,hb.tape,hb.output,hb.size,fun k hk _=>hb.block k hk⟩ (row:=aF) (by cases A<;>simp [Value.ownBlock]),h.cap⟩
theorem OwnB.nil_ (e:TypeId) (base:Nat) (w:World):OwnB e base w aF 0 []:=⟨World.ownsRow_nil _ _ _ _,Nat.le_refl _⟩
theorem zc (h:w.ownsRow base e size v n xs) (hb:Below w.heap.size w w'):w'.ownsRow base e size v n xs :=
 h.kept ⟨hb.os,hb.tape,hb.output,hb.size,fun k hk _=>hb.block k hk⟩ (row:=aF) (Classical.em _)
theorem Qq (h:w.grownBy w' aF):Below w.heap.size w w':=⟨h.os,h.tape,h.output,h.size,fun k hk=>h.block k hk ab⟩
theorem ya {a:Act} 
  (hg:o.guard=aF) (l c:Operand) {t e:TypeId} {size bytes:Nat} (hop:o.op=Op.makeSlice t l c) (E:El P t e size bytes)
  {kl kc:IntKind} {C:Int} (n:Nat) (hl:a.eval l= .int kl 0) (hc:a.eval c= .int kc C) (hC:C=(n:Int)) (hb:n*bytes<=140737488355328)
  (hK:∀w' g,w'.ownsRow w.heap.size e size (aA (aG ⟨g,0,aF⟩) 0 n) 0 []->Below w.heap.size w w'->wpList P ops Q rest (a.put o.dst (aA (aG ⟨g,0,aF⟩) 0 n)) w') :
  wpList P ops Q (o::rest) a w:=by
 have hpb:=E.posb;obtain⟨hu,⟨i,z,hi,hz,hs,hby,hzs⟩,_,_⟩:=E;refine wpList_make_own w hg l c t hop w.heap.size e i z size hu hi hz hs kl kc C n hl hc hC (by rw [hby,Nat.mul_comm];omega) ?_ ag fun w' h1 h2=>hK w' _ h1 (Qq h2);have:=Nat.le_trans (Nat.le_mul_of_pos_right n hpb) hb;simp only [maxLen];omega
theorem yR (h:w.ownsRow base e size v n xs):w.drew.ownsRow base e size v n xs:=h
theorem ZR (h:w.ownsRow base e size v n xs) (k:Nat):(w.drewN k).ownsRow base e size v n xs:=h
theorem xB (hown:w.ownsRow base e size v n xs) (hg:w.grownBy w' v.ownBlock)
  {b off:Nat} {u:Value} (hb:b<base) (h:w.cell? ⟨b,off,aF⟩=aG u):w'.cell? ⟨b,off,aF⟩=aG u :=
 hg.cell h (fun he=>by have:=(hown.lt b he.symm).1;omega)
theorem Rd.cutAt {b c:Nat} (h:Rd w 1 (aG ⟨b,off,aF⟩) n xs) (hk:k<=n) (hc:n<=c) :
  Rd w 1 (if c=k then aG ⟨b,off,aF⟩ else aG ⟨b,off+k,aF⟩) (n - k) (xs.drop k):=by
 have:=h.cut (k:=k) (cap:=c) hk hc;simp only [Nat.mul_one,Option.map_some]at this;rw [show((⟨b,off,aF⟩:Addr).add k)=⟨b,off+k,aF⟩ by unfold Addr.add;split<;>simp_all]at this;exact this
theorem yM (l:ai) (k:Nat):(bys l).drop k=bys (l.drop k):=by simp [bys]
theorem jJ (l:ai) (k:Nat):(bys l).take k=bys (l.take k):=by simp [bys]
def Arr (W:World) (g:Nat) (e:TypeId) (xs:ak):Prop:=W.heap[g]?=aG (.cells xs.toArray e (0,0))
variable {W W':World} {g g' k base:Nat} {e:TypeId} {xs:ak} {v:Value}
theorem zn {a:Act} (ty:TypeId) {d:Option Tmp} {x y:Operand} {pos:String} {after:Array Edge} 
  (h:wpList P ops Q (⟨d,.store ty x y,t,pos,after,gd⟩::rest) a w):wpList P ops Q (⟨d,.store ty x y,t,pos,after,gd⟩::rest) a w:=h
theorem zB {a:Act} (ty:TypeId) {d:Option Tmp} {x:Operand} {pos:String} {after:Array Edge} 
  (h:wpList P ops Q (⟨d,.load ty x,t,pos,after,gd⟩::rest) a w):wpList P ops Q (⟨d,.load ty x,t,pos,after,gd⟩::rest) a w:=h
theorem zA {a:Act} {d:Option Tmp} {xa:Array Operand} {ts:Array TypeId} {pos:String} {after:Array Edge} 
  (h:wpList P ops Q (⟨d,.call { callee:= .builtin .copy,args:=xa,argTypes:=ts },t,pos,after,gd⟩::rest) a w):wpList P ops Q (⟨d,.call { callee:= .builtin .copy,args:=xa,argTypes:=ts },t,pos,after,gd⟩::rest) a w:=h
theorem Arr.lt (h:Arr W g e xs):g<W.heap.size:=(Array.getElem?_eq_some_iff.1 h).1
theorem Arr.new (W:World) (e:TypeId) (xs:ak):Arr (W.alloc (.cells xs.toArray e)) W.heap.size e xs:=World.alloc_heap_new W _
theorem wG (w:World) (e:TypeId) (l:ak) (h:n<=w.heap.size):∃g,g=w.heap.size/\Below w.heap.size w (w.alloc (.cells l.toArray e))/\Arr (w.alloc (.cells l.toArray e)) g e l/\n<=g/\∀b,b=g->w.heap.size<=b:=⟨_,rfl,(Below.refl _ _).alloc ag _,Arr.new w e l,h,fun b h=>h▸Nat.le_refl _⟩
theorem Arr.cell (h:Arr W g e xs) (hk:xs[k]?=aG v):W.cell? ⟨g,k,aF⟩=aG v:=by
 have h':W.heap[g]?=_:=h;simp [World.cell?,h',hk]
theorem Arr.c0 {W:World} {g:Nat} {e:TypeId} (h:Arr W g e (a::l)):W.cell? ⟨g,0,aF⟩=aG a:=h.cell rfl
theorem Arr.c1 {W:World} {g:Nat} {e:TypeId} (h:Arr W g e (a::b::l)):W.cell? ⟨g,1,aF⟩=aG b:=h.cell rfl
theorem Arr.c2 {W:World} {g:Nat} {e:TypeId} (h:Arr W g e (a::b::c::l)):W.cell? ⟨g,2,aF⟩=aG c:=h.cell rfl
theorem Arr.c3 {W:World} {g:Nat} {e:TypeId} (h:Arr W g e (a::b::c::d::l)):W.cell? ⟨g,3,aF⟩=aG d:=h.cell rfl
theorem Arr.c4 {W:World} {g:Nat} {e:TypeId} (h:Arr W g e (a::b::c::d::i::l)):W.cell? ⟨g,4,aF⟩=aG i:=h.cell rfl
theorem Arr.c5 {W:World} {g:Nat} {e:TypeId} (h:Arr W g e (a::b::c::d::i::j::l)):W.cell? ⟨g,5,aF⟩=aG j:=h.cell rfl
theorem Arr.c6 {W:World} {g:Nat} {e:TypeId} {k:Value} (h:Arr W g e (a::b::c::d::i::j::k::l)):W.cell? ⟨g,6,aF⟩=aG k:=h.cell rfl
theorem Arr.c7 {W:World} {g:Nat} {e:TypeId} {k:Value} (h:Arr W g e (a::b::c::d::i::j::k::m::l)):W.cell? ⟨g,7,aF⟩=aG m:=h.cell rfl
theorem sqC2 {W:World} {g:Nat} {e:TypeId} (h:Arr W g e (a0::a1::l)):W.cell? ⟨g,0,aF⟩=aG a0/\W.cell? ⟨g,1,aF⟩=aG a1 :=
 ⟨h.cell (k:=0) rfl,h.cell (k:=1) rfl⟩
theorem sqC3 {W:World} {g:Nat} {e:TypeId} (h:Arr W g e (a0::a1::a2::l)):W.cell? ⟨g,0,aF⟩=aG a0/\W.cell? ⟨g,1,aF⟩=aG a1/\W.cell? ⟨g,2,aF⟩=aG a2 :=
 ⟨h.cell (k:=0) rfl,h.cell (k:=1) rfl,h.cell (k:=2) rfl⟩
theorem sqC4 {W:World} {g:Nat} {e:TypeId} (h:Arr W g e (a0::a1::a2::a3::l)):W.cell? ⟨g,0,aF⟩=aG a0/\W.cell? ⟨g,1,aF⟩=aG a1/\W.cell? ⟨g,2,aF⟩=aG a2/\W.cell? ⟨g,3,aF⟩=aG a3 :=
 ⟨h.cell (k:=0) rfl,h.cell (k:=1) rfl,h.cell (k:=2) rfl,h.cell (k:=3) rfl⟩
theorem sqC5 {W:World} {g:Nat} {e:TypeId} (h:Arr W g e (a0::a1::a2::a3::a4::l)):W.cell? ⟨g,0,aF⟩=aG a0/\W.cell? ⟨g,1,aF⟩=aG a1/\W.cell? ⟨g,2,aF⟩=aG a2/\W.cell? ⟨g,3,aF⟩=aG a3/\W.cell? ⟨g,4,aF⟩=aG a4 :=
 ⟨h.cell (k:=0) rfl,h.cell (k:=1) rfl,h.cell (k:=2) rfl,h.cell (k:=3) rfl,h.cell (k:=4) rfl⟩
theorem sqC6 {W:World} {g:Nat} {e:TypeId} (h:Arr W g e (a0::a1::a2::a3::a4::a5::l)):W.cell? ⟨g,0,aF⟩=aG a0/\W.cell? ⟨g,1,aF⟩=aG a1/\W.cell? ⟨g,2,aF⟩=aG a2/\W.cell? ⟨g,3,aF⟩=aG a3/\W.cell? ⟨g,4,aF⟩=aG a4/\W.cell? ⟨g,5,aF⟩=aG a5 :=
 ⟨h.cell (k:=0) rfl,h.cell (k:=1) rfl,h.cell (k:=2) rfl,h.cell (k:=3) rfl,h.cell (k:=4) rfl,h.cell (k:=5) rfl⟩
theorem sqC7 {W:World} {g:Nat} {e:TypeId} (h:Arr W g e (a0::a1::a2::a3::a4::a5::a6::l)):W.cell? ⟨g,0,aF⟩=aG a0/\W.cell? ⟨g,1,aF⟩=aG a1/\W.cell? ⟨g,2,aF⟩=aG a2/\W.cell? ⟨g,3,aF⟩=aG a3/\W.cell? ⟨g,4,aF⟩=aG a4/\W.cell? ⟨g,5,aF⟩=aG a5/\W.cell? ⟨g,6,aF⟩=aG a6 :=
 ⟨h.cell (k:=0) rfl,h.cell (k:=1) rfl,h.cell (k:=2) rfl,h.cell (k:=3) rfl,h.cell (k:=4) rfl,h.cell (k:=5) rfl,h.cell (k:=6) rfl⟩
theorem sqC8 {W:World} {g:Nat} {e:TypeId} {a7:Value} (h:Arr W g e (a0::a1::a2::a3::a4::a5::a6::a7::l)):W.cell? ⟨g,0,aF⟩=aG a0/\W.cell? ⟨g,1,aF⟩=aG a1/\W.cell? ⟨g,2,aF⟩=aG a2/\W.cell? ⟨g,3,aF⟩=aG a3/\W.cell? ⟨g,4,aF⟩=aG a4/\W.cell? ⟨g,5,aF⟩=aG a5/\W.cell? ⟨g,6,aF⟩=aG a6/\W.cell? ⟨g,7,aF⟩=aG a7 :=
 ⟨h.cell (k:=0) rfl,h.cell (k:=1) rfl,h.cell (k:=2) rfl,h.cell (k:=3) rfl,h.cell (k:=4) rfl,h.cell (k:=5) rfl,h.cell (k:=6) rfl,h.cell (k:=7) rfl⟩
theorem Arr.frozen (h:Arr W g e xs) (k:Nat):W.frozen? ⟨g,k,aF⟩=false:=by
 have h':W.heap[g]?=_:=h;simp [World.frozen?,h']
theorem wh {W:World} {g:Nat} {e:TypeId} (h:Arr W g e (a::b::c::l)):W.cell? ⟨g,0,aF⟩=aG a/\W.frozen? ⟨g,0,aF⟩=false/\W.cell? ⟨g,1,aF⟩=aG b/\W.frozen? ⟨g,1,aF⟩=false/\W.cell? ⟨g,2,aF⟩=aG c/\W.frozen? ⟨g,2,aF⟩=false:=⟨h.cell rfl,h.frozen 0,h.cell rfl,h.frozen 1,h.cell rfl,h.frozen 2⟩
theorem wg {W:World} {g:Nat} {e:TypeId} (h:Arr W g e (a::b::c::d::l)):W.cell? ⟨g,0,aF⟩=aG a/\W.frozen? ⟨g,0,aF⟩=false/\W.cell? ⟨g,1,aF⟩=aG b/\W.frozen? ⟨g,1,aF⟩=false/\W.cell? ⟨g,2,aF⟩=aG c/\W.frozen? ⟨g,2,aF⟩=false/\W.cell? ⟨g,3,aF⟩=aG d/\W.frozen? ⟨g,3,aF⟩=false:=⟨h.cell rfl,h.frozen 0,h.cell rfl,h.frozen 1,h.cell rfl,h.frozen 2,h.cell rfl,h.frozen 3⟩
theorem wj {W:World} {g:Nat} {e:TypeId} (h:Arr W g e (a::b::c::d::i::j::l)):W.cell? ⟨g,0,aF⟩=aG a/\W.frozen? ⟨g,0,aF⟩=false/\W.cell? ⟨g,1,aF⟩=aG b/\W.frozen? ⟨g,1,aF⟩=false/\W.cell? ⟨g,2,aF⟩=aG c/\W.frozen? ⟨g,2,aF⟩=false/\W.cell? ⟨g,3,aF⟩=aG d/\W.frozen? ⟨g,3,aF⟩=false/\W.cell? ⟨g,4,aF⟩=aG i/\W.frozen? ⟨g,4,aF⟩=false/\W.cell? ⟨g,5,aF⟩=aG j/\W.frozen? ⟨g,5,aF⟩=false:=⟨h.cell rfl,h.frozen 0,h.cell rfl,h.frozen 1,h.cell rfl,h.frozen 2,h.cell rfl,h.frozen 3,h.cell rfl,h.frozen 4,h.cell rfl,h.frozen 5⟩
theorem wi {W:World} {g:Nat} {e:TypeId} {k:Value} (h:Arr W g e (a::b::c::d::i::j::k::m::l)):W.cell? ⟨g,0,aF⟩=aG a/\W.frozen? ⟨g,0,aF⟩=false/\W.cell? ⟨g,1,aF⟩=aG b/\W.frozen? ⟨g,1,aF⟩=false/\W.cell? ⟨g,2,aF⟩=aG c/\W.frozen? ⟨g,2,aF⟩=false/\W.cell? ⟨g,3,aF⟩=aG d/\W.frozen? ⟨g,3,aF⟩=false/\W.cell? ⟨g,4,aF⟩=aG i/\W.frozen? ⟨g,4,aF⟩=false/\W.cell? ⟨g,5,aF⟩=aG j/\W.frozen? ⟨g,5,aF⟩=false/\W.cell? ⟨g,6,aF⟩=aG k/\W.frozen? ⟨g,6,aF⟩=false/\W.cell? ⟨g,7,aF⟩=aG m/\W.frozen? ⟨g,7,aF⟩=false:=⟨h.cell rfl,h.frozen 0,h.cell rfl,h.frozen 1,h.cell rfl,h.frozen 2,h.cell rfl,h.frozen 3,h.cell rfl,h.frozen 4,h.cell rfl,h.frozen 5,h.cell rfl,h.frozen 6,h.cell rfl,h.frozen 7⟩
theorem sqF2 {W:World} {g:Nat} {e:TypeId} {xs:ak} (h:Arr W g e xs):W.frozen? ⟨g,0,aF⟩=false/\W.frozen? ⟨g,1,aF⟩=false :=
 ⟨h.frozen 0,h.frozen 1⟩
theorem sqF3 {W:World} {g:Nat} {e:TypeId} {xs:ak} (h:Arr W g e xs):W.frozen? ⟨g,0,aF⟩=false/\W.frozen? ⟨g,1,aF⟩=false/\W.frozen? ⟨g,2,aF⟩=false :=
 ⟨h.frozen 0,h.frozen 1,h.frozen 2⟩
theorem sqF4 {W:World} {g:Nat} {e:TypeId} {xs:ak} (h:Arr W g e xs):W.frozen? ⟨g,0,aF⟩=false/\W.frozen? ⟨g,1,aF⟩=false/\W.frozen? ⟨g,2,aF⟩=false/\W.frozen? ⟨g,3,aF⟩=false :=
 ⟨h.frozen 0,h.frozen 1,h.frozen 2,h.frozen 3⟩
theorem sqF6 {W:World} {g:Nat} {e:TypeId} {xs:ak} (h:Arr W g e xs):W.frozen? ⟨g,0,aF⟩=false/\W.frozen? ⟨g,1,aF⟩=false/\W.frozen? ⟨g,2,aF⟩=false/\W.frozen? ⟨g,3,aF⟩=false/\W.frozen? ⟨g,4,aF⟩=false/\W.frozen? ⟨g,5,aF⟩=false :=
 ⟨h.frozen 0,h.frozen 1,h.frozen 2,h.frozen 3,h.frozen 4,h.frozen 5⟩
theorem sqF7 {W:World} {g:Nat} {e:TypeId} {xs:ak} (h:Arr W g e xs):W.frozen? ⟨g,0,aF⟩=false/\W.frozen? ⟨g,1,aF⟩=false/\W.frozen? ⟨g,2,aF⟩=false/\W.frozen? ⟨g,3,aF⟩=false/\W.frozen? ⟨g,4,aF⟩=false/\W.frozen? ⟨g,5,aF⟩=false/\W.frozen? ⟨g,6,aF⟩=false :=
 ⟨h.frozen 0,h.frozen 1,h.frozen 2,h.frozen 3,h.frozen 4,h.frozen 5,h.frozen 6⟩
theorem sqF8 {W:World} {g:Nat} {e:TypeId} {xs:ak} (h:Arr W g e xs):W.frozen? ⟨g,0,aF⟩=false/\W.frozen? ⟨g,1,aF⟩=false/\W.frozen? ⟨g,2,aF⟩=false/\W.frozen? ⟨g,3,aF⟩=false/\W.frozen? ⟨g,4,aF⟩=false/\W.frozen? ⟨g,5,aF⟩=false/\W.frozen? ⟨g,6,aF⟩=false/\W.frozen? ⟨g,7,aF⟩=false :=
 ⟨h.frozen 0,h.frozen 1,h.frozen 2,h.frozen 3,h.frozen 4,h.frozen 5,h.frozen 6,h.frozen 7⟩
theorem Arr.below (h:Arr W g e xs) (hb:Below W.heap.size W W'):Arr W' g e xs:=(hb.block g h.lt).trans h
theorem Arr.drew (h:Arr W g e xs):Arr W.drew g e xs:=h
theorem Arr.drewN (h:Arr W g e xs) (n:Nat):Arr (W.drewN n) g e xs:=h
theorem Arr.alloc (h:Arr W g e xs) (o:Obj):Arr (W.alloc o) g e xs:=(Below.heap_alloc _ _ _ h.lt).trans h
theorem Arr.other (h:Arr W g e xs) (hne:g≠g') (u:Value):Arr (W.setCell ⟨g',k,aF⟩ u) g e xs:=(Below.heap_setCell W _ u g hne).trans h
theorem Arr.set (h:Arr W g e xs) (hk:k<xs.length) (u:Value):Arr (W.setCell ⟨g,k,aF⟩ u) g e (xs.set k u):=by
 obtain⟨hlt,hk'⟩:=Array.getElem?_eq_some_iff.1 h;show(W.heap.modify g _)[g]?=_;rw [Array.getElem?_eq_getElem (by rw [Array.size_modify];exact hlt),Array.getElem_modify_self,hk'];simp
theorem Arr.set8 {x0 x1 x2 x3 x4 x5 x6 x7:Value} (h:Arr W g e [x0,x1,x2,x3,x4,x5,x6,x7]) (y0 y1 y2 y3 y4 y5 y6 y7:Value) :
  Arr ((((((((W.setCell ⟨g,0,aF⟩ y0).setCell ⟨g,1,aF⟩ y1).setCell ⟨g,2,aF⟩ y2).setCell ⟨g,3,aF⟩ y3).setCell ⟨g,4,aF⟩ y4).setCell ⟨g,5,aF⟩ y5).setCell ⟨g,6,aF⟩ y6).setCell ⟨g,7,aF⟩ y7) g e [y0,y1,y2,y3,y4,y5,y6,y7] :=
 ((((((((h.set (k:=0) ab y0).set (k:=1) ab y1).set (k:=2) ab y2).set (k:=3) ab y3).set (k:=4) ab y4).set (k:=5) ab y5).set (k:=6) ab y6).set (k:=7) ab y7)
theorem Arr.other8 (h:Arr W g e xs) (hne:g≠g') (y0 y1 y2 y3 y4 y5 y6 y7:Value) :
  Arr ((((((((W.setCell ⟨g',0,aF⟩ y0).setCell ⟨g',1,aF⟩ y1).setCell ⟨g',2,aF⟩ y2).setCell ⟨g',3,aF⟩ y3).setCell ⟨g',4,aF⟩ y4).setCell ⟨g',5,aF⟩ y5).setCell ⟨g',6,aF⟩ y6).setCell ⟨g',7,aF⟩ y7) g e xs :=
 ((((((((h.other hne _).other hne _).other hne _).other hne _).other hne _).other hne _).other hne _).other hne _)
theorem Below.set8 {a:World} (h:Below B a W) (hg:B<=g) (y0 y1 y2 y3 y4 y5 y6 y7:Value) :
  Below B a ((((((((W.setCell ⟨g,0,aF⟩ y0).setCell ⟨g,1,aF⟩ y1).setCell ⟨g,2,aF⟩ y2).setCell ⟨g,3,aF⟩ y3).setCell ⟨g,4,aF⟩ y4).setCell ⟨g,5,aF⟩ y5).setCell ⟨g,6,aF⟩ y6).setCell ⟨g,7,aF⟩ y7) :=
 (Below.setCell (Below.setCell (Below.setCell (Below.setCell (Below.setCell (Below.setCell (Below.setCell (Below.setCell h hg _) hg _) hg _) hg _) hg _) hg _) hg _) hg _)
theorem Rd.other {b:Nat} (h:Rd W size (aG ⟨b,off,aF⟩) n xs) (hne:b≠g) (u:Value):Rd (W.setCell ⟨g,k,aF⟩ u) size (aG ⟨b,off,aF⟩) n xs :=
 ⟨h.1,fun hn=>by
  obtain⟨b',off',e,hb,hc⟩:=h.2 hn
  cases e
  refine⟨b,off,rfl,by simpa [World.setCell] using hb,fun j v hj=> ?_⟩
  rw [<-hc j v hj]
  exact World.cell?_of_block (Below.heap_setCell W _ u b hne)⟩
theorem Rd.other8 {b:Nat} (h:Rd W size (aG ⟨b,off,aF⟩) n xs) (hne:b≠g) (y0 y1 y2 y3 y4 y5 y6 y7:Value) :
  Rd ((((((((W.setCell ⟨g,0,aF⟩ y0).setCell ⟨g,1,aF⟩ y1).setCell ⟨g,2,aF⟩ y2).setCell ⟨g,3,aF⟩ y3).setCell ⟨g,4,aF⟩ y4).setCell ⟨g,5,aF⟩ y5).setCell ⟨g,6,aF⟩ y6).setCell ⟨g,7,aF⟩ y7) size (aG ⟨b,off,aF⟩) n xs :=
 ((((((((h.other hne _).other hne _).other hne _).other hne _).other hne _).other hne _).other hne _).other hne _)
theorem Arr.range (h:Arr W g e xs):W.rangeAt g 0 xs:=fun j v hj=>by rw [Nat.zero_add];exact h.cell hj
theorem Arr.there (h:Arr W g e xs):W.there g 0 xs.length:=fun j hj=>by
 rw [Nat.zero_add];exact⟨by rw [h.cell (List.getElem?_eq_getElem hj)];rfl,h.frozen j⟩
theorem Arr.thereN (h:Arr W g e xs) (hn:xs.length=n):W.there g 0 n:=hn▸h.there
theorem Arr.setsAt:∀(ys xs zs:ak) (W:World),Arr W g e (zs++xs)->ys.length=xs.length->Arr (W.setCells g zs.length ys) g e (zs++ys)
 | [], [],zs,W,h,_=>h
 | y::ys,x::xs,zs,W,h,hl=>by
  have h1:=h.set (k:=zs.length) ab y
  rw [List.set_append_right _ _ ag,Nat.sub_self,List.set_cons_zero]at h1
  have h2:=Arr.setsAt ys xs (zs++ [y]) _ (by simpa using h1) (by simpa using hl)
  rw [List.append_assoc]at h2
  simp only [List.length_append,List.length_cons,List.length_nil,Nat.zero_add]at h2
  exact h2
theorem Arr.sets {ys:ak} (h:Arr W g e xs) (hl:ys.length=xs.length):Arr (W.setCells g 0 ys) g e ys:=Arr.setsAt ys xs [] W h hl
theorem Arr.otherSets (hne:g≠g'):∀(ys:ak) (o:Nat) (W:World),Arr W g e xs->Arr (W.setCells g' o ys) g e xs
 | [],_,_,h=>h
 | y::ys,o,W,h=>Arr.otherSets hne ys (o+1) _ (h.other hne y)
theorem Below.sets {B:Nat} {a:World} (hg:B<=g):∀(ys:ak) (o:Nat) (W:World),Below B a W->Below B a (W.setCells g o ys)
 | [],_,_,h=>h
 | y::ys,o,W,h=>Below.sets hg ys (o+1) _ (Below.setCell h hg y)
theorem yt {base:Nat} {e:TypeId} {v:Value} {xs:ak} (h:w.ownsRow base e size v n xs) (h0:0<n) :
  ∃g cap cs,v= aA (aG ⟨g,0,aF⟩) n cap/\base<=g/\Arr w g e cs/\n<=cap/\cap<=maxLen/\cs.length=cap*size/\cs.take (n*size)=xs:=by
 rcases h.2 with ⟨_,hz⟩ | ⟨g,cap,cur,rfl,hb,hg,hn,hm,hs,ht⟩
 ·omega
 ·exact⟨g,cap,cur.toList,rfl,hb,by simpa [Arr] using hg,hn,hm,by simpa using hs,ht⟩
theorem Rd.of_arr {g:Nat} {e:TypeId} {xs:ak} (h:Arr w g e cs) (hx:xs.length=n*size) (ht:cs.take (n*size)=xs):Rd w size (aG ⟨g,0,aF⟩) n xs :=
 ⟨hx,fun _=>⟨g,0,rfl,h.lt,fun j u hu=>by
  rw [Nat.zero_add];refine h.cell ?_
  rw [<-ht,List.getElem?_take]at hu
  split at hu
  ·exact hu
  ·cases hu⟩⟩
theorem zd {base g k:Nat} {e:TypeId} {v:Value} {xs:ak} (h:w.ownsRow base e size v n xs) (hne:v.ownBlock≠aG g):(w.setCell ⟨g,k,aF⟩ u).ownsRow base e size v n xs:=by
 refine⟨h.1,?_⟩;rcases h.2 with h1 | ⟨g',cap,cur,rfl,hb,hg,h2⟩
 ·exact .inl h1
 ·refine .inr ⟨g',cap,cur,rfl,hb,?_,h2⟩;rw [Below.heap_setCell w _ _ g' (by intro e;exact hne (by rw [e];rfl))];exact hg
theorem zb {base b':Nat} {e:TypeId} {v:Value} {xs:ak} (h:w.ownsRow base e size v n xs) (hb:b'<=base):w.ownsRow b' e size v n xs:=by
 refine⟨h.1,?_⟩;rcases h.2 with h1 | ⟨g,cap,cur,h1,h2,h3⟩
 ·exact .inl h1
 ·exact .inr ⟨g,cap,cur,h1,Nat.le_trans hb h2,h3⟩
theorem zW (w:World) (e:TypeId) (c1 c2:ak):∃W,W=(w.alloc (.cells c1.toArray e)).alloc (.cells c2.toArray e)/\Arr W w.heap.size e c1/\Arr W (w.heap.size+1) e c2/\Below w.heap.size w W:=by
 refine⟨_,rfl,(Arr.new w e c1).below ((Below.refl _ _).alloc ag _),?_,((Below.refl w.heap.size w).alloc ag _).alloc ((Below.refl w.heap.size w).alloc ag _).size _⟩;have:=Arr.new (w.alloc (.cells c1.toArray e)) e c2
 rwa [World.size_alloc]at this
end
section
open Go.RowKit
theorem yr (w:World) (t e ty:TypeId) (z:Value) (zs:ak) (ht:P.underlying t=aG (.slice e)) (hv:∀w,(zeroValue e).run P w= .ok z w) (hz:(Builtin.zeroCells z.cells 1).toList=zs) (h1:∀u∈zs,u.oneCell'=true) (b o c:Nat)
  (hc:∀j,j<zs.length->(w.cell? ⟨b,o+j,aF⟩).isSome=true) (hf:∀j,j<zs.length->w.frozen? ⟨b,o+j,aF⟩=false) :
  (Builtin.clear_ #[t] ty #[aA (aG ⟨b,o,aF⟩) 1 c]).run P w= .ok (.tuple #[]) (w.setCells b o zs):=by
 have hst:=run_storeCells_cells (P:=P) b o zs 0 w (by simpa using hc) (by simpa using hf) h1;simp only [Nat.add_zero]at hst;simp [Builtin.clear_,run_underlying ht,hv,hz,hst]
section
variable {W:World} {g:Nat} {e:TypeId}
theorem vH (rs:ak):∀(ys xs zs:ak) (W:World),Arr W g e (zs++(xs++rs))->ys.length=xs.length->Arr (W.setCells g zs.length ys) g e (zs++(ys++rs))
 | [], [],zs,W,h,_=>h
 | y::ys,x::xs,zs,W,h,hl=>by
  have h1:=h.set (k:=zs.length) ab y
  rw [List.set_append_right _ _ ag,Nat.sub_self,List.cons_append,List.set_cons_zero]at h1
  have h2:=vH rs ys xs (zs++ [y]) _ (by simpa using h1) (by simpa using hl)
  rw [List.append_assoc]at h2
  simp only [List.length_append,List.length_cons,List.length_nil,Nat.zero_add]at h2
  exact h2
theorem qg:∀(ys:ak) (o:Nat) (W:World),W.grownBy (W.setCells g o ys) (aG g)
 | [],_,W=>World.grownBy.refl _ _
 | y::ys,o,W=>by
  have h1:W.grownBy (W.setCell ⟨g,o,aF⟩ y) (aG g):=⟨rfl,rfl,rfl,by simp [World.setCell],fun j _ hj=>Below.heap_setCell W _ y j (fun e=>hj (by rw [e]))⟩
  exact h1.trans (qg ys (o+1) _)
theorem Qr {cur:ak} {i:Nat} {zs:ak} (h:Arr W g e cur) (hc:cur.length=cap*s) (hn:n<=cap) (hi:i<n) (hz:zs.length=s) :
  Arr (W.setCells g (i*s) ((cur.take (n*s)).drop ((i+1)*s))) g e (cur.take (i*s)++(cur.take (n*s)).drop ((i+1)*s)++cur.drop ((n - 1)*s)) /\
  Arr ((W.setCells g (i*s) ((cur.take (n*s)).drop ((i+1)*s))).setCells g ((n - 1)*s) zs) g e (cur.take (i*s)++(cur.take (n*s)).drop ((i+1)*s)++zs++cur.drop (n*s)):=by
 obtain⟨m,rfl⟩:∃m,n=m+1:=⟨n - 1,wu⟩
 have h1:i*s<=m*s:=Nat.mul_le_mul_right _ wu;have h2:(m+1)*s<=cap*s:=Nat.mul_le_mul_right _ hn;have h3:(m+1)*s=m*s+s:=Nat.succ_mul m s;have h4:(i+1)*s=i*s+s:=Nat.succ_mul i s;rw [Nat.add_sub_cancel];obtain⟨news,hnews⟩:=wY ((cur.take ((m+1)*s)).drop ((i+1)*s))
 have hl:news.length=m*s - i*s:=by rw [hnews,List.length_drop,List.length_take];omega
 rw [<-hnews];have e1:cur=cur.take (i*s)++((cur.drop (i*s)).take (m*s - i*s)++cur.drop (m*s)):=by
  have:cur.drop (m*s)=(cur.drop (i*s)).drop (m*s - i*s):=by rw [List.drop_drop];congr 1;omega
  rw [this,List.take_append_drop,List.take_append_drop]
 have t1:(cur.take (i*s)).length=i*s:=by rw [List.length_take];omega
 have a1:=vH (g:=g) (e:=e) (cur.drop (m*s)) news ((cur.drop (i*s)).take (m*s - i*s)) (cur.take (i*s)) W (e1▸h) (by rw [hl,List.length_take,List.length_drop];omega);rw [t1,<-List.append_assoc]at a1;refine⟨a1,?_⟩;have e2:cur.drop (m*s)=(cur.drop (m*s)).take s++cur.drop ((m+1)*s):=by
  have:cur.drop ((m+1)*s)=(cur.drop (m*s)).drop s:=by rw [List.drop_drop];congr 1
  rw [this,List.take_append_drop]
 rw [e2]at a1;have a2:=vH (g:=g) (e:=e) (cur.drop ((m+1)*s)) zs ((cur.drop (m*s)).take s) (cur.take (i*s)++news) _ a1 (by rw [hz,List.length_take,List.length_drop];omega);rw [show(cur.take (i*s)++news).length=m*s by rw [List.length_append,t1,hl];omega,<-List.append_assoc]at a2;exact a2
end
def leads (b:Nat) (cs:ak):Prop:=∃a n c,(aA (aG a) n c)∈cs/\a.block=b
structure Shp (α:Type) where
 size:Nat
 R:World->α->List Value->Prop
 len:∀ {w x cs},R w x cs->cs.length=size
 one:∀ {w x cs},R w x cs->∀u∈cs,u.oneCell'=true
 live:∀ {w x cs},R w x cs->∀b,leads b cs->b<w.heap.size
 keep:∀ {w w' x cs},R w x cs->w.heap.size<=w'.heap.size->(∀b,b<w.heap.size->leads b cs->w'.heap[b]?=w.heap[b]?)->R w' x cs
theorem Rd.keepb (h:Rd w size A n xs) (hs:w.heap.size<=w'.heap.size) (hk:∀b,b<w.heap.size->(∃a,A=aG a/\a.block=b)->w'.heap[b]?=w.heap[b]?):Rd w' size A n xs :=
 ⟨h.1,fun hn=>by
  obtain⟨b,off,rfl,hb,hc⟩:=h.2 hn
  refine⟨b,off,rfl,wu,fun j u hu=> ?_⟩
  rw [<-hc j u hu]
  exact World.cell?_of_block (hk b hb ⟨_,rfl,rfl⟩)⟩
section
variable {α:Type}
abbrev Cel (α:Type):=List (α×ak)
def cls (ps:Cel α):ak:=ps.flatMap (·.2)
theorem qj (p:α×ak) (ps:Cel α):cls (p::ps)=p.2++cls ps:=rfl
theorem xg (ps qs:Cel α):cls (ps++qs)=cls ps++cls qs:=by simp [cls]
theorem vZ {s:Nat}:∀(ps:Cel α),(∀p∈ps,p.2.length=s)->(cls ps).length=ps.length*s
 | [],_=>by simp [cls]
 | p::ps,h=>by
  have ih:=vZ ps (fun q hq=>h q (by simp [hq]))
  rw [qj,List.length_append,ih,h p ab,List.length_cons,Nat.succ_mul];omega
theorem JH {s:Nat}:∀(ps:Cel α) (k j:Nat) (hk:k<ps.length),(∀p∈ps,p.2.length=s)->j<s->(cls ps)[k*s+j]?=(ps[k].2)[j]?
 | p::ps,0,j,hk,h,hj=>by
  rw [qj,Nat.zero_mul,Nat.zero_add,List.getElem?_append_left (by rw [h p ab];exact hj)];rfl
 | p::ps,k+1,j,hk,h,hj=>by
  have h0:=h p ab
  have e:(k+1)*s=k*s+s:=Nat.succ_mul k s
  rw [qj,List.getElem?_append_right wu,show(k+1)*s+j - p.2.length=k*s+j by omega,JH ps k j (by simpa using hk) (fun q hq=>h q (by simp [hq])) hj]
  rfl
theorem kO {s:Nat}:∀(ps:Cel α) (k:Nat),(∀p∈ps,p.2.length=s)->(cls ps).take (k*s)=cls (ps.take k)
 | [],k,_=>by simp [cls]
 | p::ps,0,_=>by simp [cls]
 | p::ps,k+1,h=>by
  have h0:=h p ab
  have e:(k+1)*s=k*s+s:=Nat.succ_mul k s
  rw [qj,List.take_succ_cons,qj,<-kO ps k (fun q hq=>h q (by simp [hq])),List.take_append,List.take_of_length_le wu,show(k+1)*s - p.2.length=k*s by omega]
theorem yg {s:Nat}:∀(ps:Cel α) (k:Nat),(∀p∈ps,p.2.length=s)->(cls ps).drop (k*s)=cls (ps.drop k)
 | [],k,_=>by simp [cls]
 | p::ps,0,_=>by simp [cls]
 | p::ps,k+1,h=>by
  have h0:=h p ab
  have e:(k+1)*s=k*s+s:=Nat.succ_mul k s
  rw [qj,List.drop_succ_cons,<-yg ps k (fun q hq=>h q (by simp [hq])),List.drop_append,List.drop_eq_nil_of_le wu,show(k+1)*s - p.2.length=k*s by omega,List.nil_append]
theorem vY (ps:Cel α) (i:Nat) (h:∀p∈ps,p.2.length=s):(cls ps).take (i*s)++(cls ps).drop ((i+1)*s)=cls (ps.eraseIdx i):=by
 rw [kO ps i h,yg ps (i+1) h,<-xg,List.eraseIdx_eq_take_drop_succ]
theorem z12 (ps:Cel α) (i:Nat) (p:α×ak) (hi:i<ps.length) (h:∀p∈ps,p.2.length=s):cls (ps.set i p)=(cls ps).take (i*s)++p.2++(cls ps).drop ((i+1)*s):=by
 rw [kO ps i h,yg ps (i+1) h,List.set_eq_take_append_cons_drop,if_pos hi,xg,qj,List.append_assoc]
theorem K7 {s:Nat}:∀(ps:Cel α) (i j:Nat) (u:Value) (y:α) (hi:i<ps.length) (h:∀p∈ps,p.2.length=s) (hj:j<s),(cls ps).set (i*s+j) u=cls (ps.set i (y,(ps[i].2).set j u))
 | p::ps,0,j,u,y,hi,h,hj=>by
  rw [qj,Nat.zero_mul,Nat.zero_add,List.set_append_left _ _ (by rw [h p ab];exact hj)];rfl
 | p::ps,i+1,j,u,y,hi,h,hj=>by
  have h0:=h p ab
  have e:(i+1)*s=i*s+s:=Nat.succ_mul i s
  rw [qj,List.set_append_right _ _ wu,show(i+1)*s+j - p.2.length=i*s+j by omega,K7 ps i j u y (by simpa using hi) (fun q hq=>h q (by simp [hq])) hj]
  rfl
end
section
variable {α:Type} {S:Shp α} {w w':World} {A:aj} {l m:List α}
def qJ (S:Shp α) (w:World) (ps:Cel α):Prop:=∀p∈ps,S.R w p.1 p.2
theorem qJ.lens {ps:Cel α} (h:qJ S w ps):∀p∈ps,p.2.length=S.size:=fun p hp=>S.len (h p hp)
theorem qJ.ones {ps:Cel α} (h:qJ S w ps):∀u∈cls ps,u.oneCell'=true:=fun u hu=>by
 obtain⟨p,hp,hu⟩:=List.mem_flatMap.1 hu
 exact S.one (h p hp) u hu
theorem qJ.keep {ps:Cel α} (h:qJ S w ps) (hs:w.heap.size<=w'.heap.size) (hk:∀b,b<w.heap.size->(∃p∈ps,leads b p.2)->w'.heap[b]?=w.heap[b]?):qJ S w' ps :=
 fun p hp=>S.keep (h p hp) hs fun b hb hl=>hk b hb ⟨p,hp,hl⟩
theorem qJ.below {ps:Cel α} (h:qJ S w ps) (hb:Below w.heap.size w w'):qJ S w' ps:=h.keep hb.size fun b h _=>hb.block b h
theorem qJ.grown {ps:Cel α} {g:Option Nat} (h:qJ S w ps) (hg:w.grownBy w' g) (ha:∀p∈ps,∀b,g=aG b->¬leads b p.2):qJ S w' ps :=
 h.keep hg.size fun b hb ⟨p,hp,hl⟩=>hg.block b hb (fun e=>ha p hp b e.symm hl)
def Rw (S:Shp α) (w:World) (A:aj) (l:List α):Prop:=∃ps:Cel α,ps.map (·.1)=l/\qJ S w ps/\Rd w S.size A l.length (cls ps)
theorem Rw.below (h:Rw S w A l) (hb:Below w.heap.size w w'):Rw S w' A l:=by
 obtain⟨ps,h1,h2,h3⟩:=h;exact⟨ps,h1,h2.below hb,h3.below hb⟩
theorem Rw.nil_:Rw S w A []:=⟨[],rfl,(fun p hp=>nomatch hp),by simp [cls],fun h=>absurd h ab⟩
theorem Rw.at_ (h:Rw S w A l) (k:Nat) (hk:k<l.length):∃b off cs,A=aG ⟨b,off,aF⟩/\b<w.heap.size/\S.R w l[k] cs/\∀j u,cs[j]?=aG u->w.cell? ⟨b,off+k*S.size+j,aF⟩=aG u:=by
 obtain⟨ps,rfl,h2,h3⟩:=h;rw [List.length_map]at hk h3;obtain⟨b,off,rfl,hb,hc⟩:=h3.2 wu;have hm:=List.getElem_mem hk;refine⟨b,off,ps[k].2,rfl,hb,by rw [List.getElem_map];exact h2 _ hm,fun j u hu=> ?_⟩;have hl:=h2.lens _ hm;have hj:j<S.size:=by have:=(List.getElem?_eq_some_iff.1 hu).1;omega
 rw [Nat.add_assoc];exact hc _ u (by rw [JH ps k j hk h2.lens hj];exact hu)
theorem Rw.pre (h:Rw S w A l) (hk:k<=l.length):Rw S w A (l.take k):=by
 obtain⟨ps,rfl,h2,h3⟩:=h;rw [List.length_map]at hk h3;have h4:=h3.pre (k:=k) hk;rw [kO ps k h2.lens]at h4;refine⟨ps.take k,by rw [List.map_take],fun p hp=>h2 p (List.mem_of_mem_take hp),?_⟩
 rwa [List.length_take,List.length_map,Nat.min_eq_left hk]
theorem Rw.cut (h:Rw S w A l) (hk:k<=l.length) (hc:l.length<=cap):Rw S w (if cap=k then A else A.map (·.add (k*S.size))) (l.drop k):=by
 obtain⟨ps,rfl,h2,h3⟩:=h;rw [List.length_map]at hk h3 hc;have h4:=h3.cut (k:=k) hk hc;rw [yg ps k h2.lens]at h4;refine⟨ps.drop k,by rw [List.map_drop],fun p hp=>h2 p (List.mem_of_mem_drop hp),?_⟩
 rwa [List.length_drop,List.length_map]
def RwO (S:Shp α) (e:TypeId) (w:World) (base:Nat) (v:Value) (l:List α):Prop :=
 ∃ps:Cel α,ps.map (·.1)=l/\qJ S w ps/\w.ownsRow base e S.size v l.length (cls ps)/\∀p∈ps,∀b,v.ownBlock=aG b->¬leads b p.2
variable {e:TypeId} {base base':Nat} {v v':Value}
theorem RwO.rows (h:RwO S e w base v l):∃A c,v= aA A l.length c/\l.length<=c/\c<=maxLen/\Rw S w A l:=by
 obtain⟨ps,h1,h2,h3,h4⟩:=h;have h5:=h3.2;obtain⟨A,c,rfl,hc,hr⟩:=Rd.of_own' h3;refine⟨A,c,rfl,hc,?_,ps,h1,h2,hr⟩;rcases h5 with ⟨e1,e2⟩ | ⟨_,cap,_,e1,_,_,_,hm,_⟩
 ·injection e1 with _ _ e3;subst e3;exact Nat.zero_le _
 ·injection e1 with _ _ e3;subst e3;exact hm
theorem RwO.below (h:RwO S e w base v l) (hb:Below w.heap.size w w'):RwO S e w' base v l:=by
 obtain⟨ps,h1,h2,h3,h4⟩:=h;exact⟨ps,h1,h2.below hb,zc h3 hb,h4⟩
theorem RwO.nil_ (h:w.ownsRow base e S.size v 0 []):RwO S e w base v []:=⟨[],rfl,(fun p hp=>nomatch hp),h,(fun p hp=>nomatch hp)⟩
theorem RwO.lower (h:RwO S e w base v l) (hb:base'<=base):RwO S e w base' v l:=by
 obtain⟨ps,h1,h2,h3,h4⟩:=h;refine⟨ps,h1,h2,⟨h3.1,h3.2.imp id ?_⟩,h4⟩;rintro⟨g,cap,cur,e1,e2,e3⟩;exact⟨g,cap,cur,e1,Nat.le_trans hb e2,e3⟩
theorem RwO.blk (h:RwO S e w base v l) (hg:v.ownBlock=aG g):base<=g/\g<w.heap.size:=by
 obtain⟨ps,h1,h2,h3,h4⟩:=h;exact h3.lt g hg
theorem RwO.nonnil (h:RwO S e w base v l) (h0:0<l.length):∃g c,v= aA (aG ⟨g,0,aF⟩) l.length c/\base<=g/\g<w.heap.size/\l.length<=c/\c<=maxLen:=by
 obtain⟨ps,h1,h2,h3,h4⟩:=h;have hlt:=h3.lt;rcases h3.2 with ⟨_,e2⟩ | ⟨g,cap,cur,rfl,hb,_,hn,hm,_⟩
 ·omega
 ·exact⟨g,cap,rfl,hb,(hlt g rfl).2,hn,hm⟩
theorem RwO.other (h:RwO S e w base v l) {g:Option Nat} (hg:w.grownBy w' g) (hv:∀b,g=aG b->v.ownBlock≠aG b) (hl:∀ps:Cel α,qJ S w ps->ps.map (·.1)=l->(∀p∈ps,∀b,v.ownBlock=aG b->¬leads b p.2)->w.ownsRow base e S.size v l.length (cls ps)->∀p∈ps,∀b,g=aG b->¬leads b p.2):RwO S e w' base v l:=by
 obtain⟨ps,h1,h2,h3,h4⟩:=h;refine⟨ps,h1,h2.grown hg (hl ps h2 h1 h4 h3),h3.kept hg ?_,h4⟩;cases hb:v.ownBlock with
 | none=>exact .inl rfl
 | some b=>exact .inr (fun e1=>hv b e1.symm hb)
theorem RwO.snoc {ps:Cel α} {x:α} (h1:ps.map (·.1)=l) (h2:qJ S w ps) (h3:w.ownsRow base e S.size v l.length (cls ps)) (h4:∀p∈ps,∀b,v.ownBlock=aG b->¬leads b p.2)
  (hx:S.R w x cs) (hx4:∀b,v.ownBlock=aG b->¬leads b cs)
  (ho:w'.ownsRow base e S.size v' (l.length+1) (cls ps++cs)) (hg:w.grownBy w' v.ownBlock) (hv:v'.ownBlock=v.ownBlock\/∃g,v'.ownBlock=aG g/\w.heap.size<=g):RwO S e w' base v' (l++ [x]):=by
 have hall:∀p∈ps++ [(x,cs)],(∀b,v.ownBlock=aG b->¬leads b p.2)/\(∀b,leads b p.2->b<w.heap.size):=fun p hp=>by
  rcases List.mem_append.1 hp with h | h
  ·exact⟨h4 p h,S.live (h2 p h)⟩
  ·have:=List.mem_singleton.1 h;subst this;exact⟨hx4,S.live hx⟩
 refine⟨ps++ [(x,cs)],by simp [h1],?_,?_,fun p hp b hb hl=> ?_⟩
 ·refine qJ.grown (w:=w) (g:=v.ownBlock) (fun p hp=> ?_) hg (fun p hp b hb=>(hall p hp).1 b hb);rcases List.mem_append.1 hp with h | h
  ·exact h2 p h
  ·have:=List.mem_singleton.1 h;subst this;exact hx
 ·rw [xg,List.length_append];simpa [cls] using ho
 ·rcases hv with e1 | ⟨g,e1,hge⟩
  ·exact(hall p hp).1 b (by rw [<-e1];exact hb) hl
  ·rw [e1]at hb;cases hb
   have:=(hall p hp).2 _ hl;omega
theorem RwO.erase {i:Nat} (h:RwO S e w base (aA (aG ⟨g,0,aF⟩) l.length cap) l) (hi:i<l.length) :
  ∃xs,w.ownsRow base e S.size (aA (aG ⟨g,0,aF⟩) l.length cap) l.length xs/\(∀u∈xs,u.oneCell'=true) /\
   ∀w',w'.ownsRow base e S.size (aA (aG ⟨g,0,aF⟩) (l.length - 1) cap) (l.length - 1) (xs.take (i*S.size)++xs.drop ((i+1)*S.size))->w.grownBy w' (aG g) ->
    RwO S e w' base (aA (aG ⟨g,0,aF⟩) (l.length - 1) cap) (l.eraseIdx i):=by
 obtain⟨ps,h1,h2,h3,h4⟩:=h;refine⟨_,h3,h2.ones,fun w' ho hg=> ?_⟩;rw [vY ps i h2.lens]at ho;have hl:(l.eraseIdx i).length=l.length - 1:=List.length_eraseIdx_of_lt hi;refine⟨ps.eraseIdx i,by rw [<-h1,List.eraseIdx_eq_take_drop_succ,List.eraseIdx_eq_take_drop_succ,List.map_append,List.map_take,List.map_drop],qJ.grown (fun p hp=>h2 p (List.mem_of_mem_eraseIdx hp)) hg (fun p hp b hb=>h4 p (List.mem_of_mem_eraseIdx hp) b hb),by rw [hl];exact ho,fun p hp b hb=>h4 p (List.mem_of_mem_eraseIdx hp) b hb⟩
theorem xZ {w:World} {base:Nat} {e:TypeId} (h:w.ownsRow base e s (aA (aG ⟨g,0,aF⟩) n cap) n xs) (hk:k<xs.length) (u:Value) :
  (w.setCell ⟨g,k,aF⟩ u).ownsRow base e s (aA (aG ⟨g,0,aF⟩) n cap) n (xs.set k u)/\w.grownBy (w.setCell ⟨g,k,aF⟩ u) (aG g)/\(∃v0,w.cell? ⟨g,k,aF⟩=aG v0)/\w.frozen? ⟨g,k,aF⟩=false:=by
 have hgr:w.grownBy (w.setCell ⟨g,k,aF⟩ u) (aG g):=⟨rfl,rfl,rfl,by simp [World.setCell],fun j _ hj=>Below.heap_setCell w _ u j (fun e=>hj (by rw [e]))⟩
 obtain⟨hl,h2⟩:=h;rcases h2 with ⟨e1,_⟩ | ⟨g',cap',cur,e1,hb,hg,hn,hm,hs,ht⟩
 ·cases e1
 injection e1 with e1 _ e3;injection e1 with e1;injection e1 with e1;subst e1 e3;have hA:Arr w g e cur.toList:=by simpa [Arr] using hg
 have hkc:k<cur.toList.length:=by
  rw [<-ht,List.length_take]at hk;omega
 have hA2:=hA.set hkc u;refine⟨⟨by rw [List.length_set];exact hl,.inr ⟨g,cap,_,rfl,hb,hA2,hn,hm,by simp [hs],?_⟩⟩,hgr,⟨_,hA.cell (List.getElem?_eq_getElem hkc)⟩,hA.frozen k⟩;rw [List.take_set,ht]
theorem RwO.set1 {i j:Nat} {y:α} (h:RwO S e w base (aA (aG ⟨g,0,aF⟩) l.length cap) l) (hi:i<l.length) (hj:j<S.size)
  (hR:∀W cs,S.R W l[i] cs->S.R W y (cs.set j u)) (hlead:∀b,leads b [u]->b≠g) :
  (∃v0,w.cell? ⟨g,i*S.size+j,aF⟩=aG v0)/\w.frozen? ⟨g,i*S.size+j,aF⟩=false /\
   RwO S e (w.setCell ⟨g,i*S.size+j,aF⟩ u) base (aA (aG ⟨g,0,aF⟩) l.length cap) (l.set i y)/\w.grownBy (w.setCell ⟨g,i*S.size+j,aF⟩ u) (aG g):=by
 obtain⟨ps,h1,h2,h3,h4⟩:=h;have hpl:ps.length=l.length:=by rw [<-h1,List.length_map]
 have hip:i<ps.length:=wu;have hk:i*S.size+j<(cls ps).length:=by
  rw [vZ ps h2.lens];have e1:(i+1)*S.size<=ps.length*S.size:=Nat.mul_le_mul_right _ hip;rw [Nat.succ_mul]at e1;omega
 obtain⟨k1,k2,k3,k4⟩:=xZ h3 hk u;refine⟨k3,k4,⟨ps.set i (y,(ps[i].2).set j u),?_,?_,?_,?_⟩,k2⟩
 ·rw [List.map_set,h1]
 ·have hlds:∀p∈ps.set i (y,(ps[i].2).set j u),∀b,aG g=aG b->¬leads b p.2:=fun p hp b hb hl=>by
   rcases List.mem_or_eq_of_mem_set hp with h | h
   ·exact h4 p h b hb hl
   ·subst h;obtain⟨a,n,c,hm,e2⟩:=hl;rcases List.mem_or_eq_of_mem_set hm with h | h
    ·exact h4 _ (List.getElem_mem hip) b hb ⟨a,n,c,h,e2⟩
    ·cases hb
     exact hlead g ⟨a,n,c,by simp [h],e2⟩ rfl
  refine qJ.grown (w:=w) (g:=aG g) (fun p hp=> ?_) k2 hlds;rcases List.mem_or_eq_of_mem_set hp with h | h
  ·exact h2 p h
  ·subst h;have h5:=h2 _ (List.getElem_mem hip);have h6:(ps[i]).1=l[i]:=by
    have h7:=congrArg (fun x=>x[i]?) h1;simp only [List.getElem?_map,List.getElem?_eq_getElem hip,List.getElem?_eq_getElem hi,Option.map_some,Option.some.injEq]at h7;exact h7
   rw [h6]at h5;exact hR w _ h5
 ·rw [List.length_set,<-K7 ps i j u y hip h2.lens hj];exact k1
 ·intro p hp b hb hl;rcases List.mem_or_eq_of_mem_set hp with h | h
  ·exact h4 p h b hb hl
  ·subst h;obtain⟨a,n,c,hm,e2⟩:=hl;rcases List.mem_or_eq_of_mem_set hm with h | h
   ·exact h4 _ (List.getElem_mem hip) b hb ⟨a,n,c,h,e2⟩
   ·cases hb
    exact hlead g ⟨a,n,c,by simp [h],e2⟩ rfl
end
structure Sl (w:World) (size:Nat) (A:aj) (n c:Nat) (xs:ak):Prop where
 rd:Rd w size A n xs
 cap:n<=c
 max:c<=maxLen
 live:∀a,A=aG a->a.block<w.heap.size
theorem Sl.keep {c:Nat} (h:Sl w size A n c xs) (hs:w.heap.size<=w'.heap.size) (hk:∀b,b<w.heap.size->(∃a,A=aG a/\a.block=b)->w'.heap[b]?=w.heap[b]?):Sl w' size A n c xs :=
 ⟨h.rd.keepb hs hk,h.cap,h.max,fun a ha=>Nat.lt_of_lt_of_le (h.live a ha) hs⟩
theorem Sl.below {c:Nat} (h:Sl w size A n c xs) (hb:Below w.heap.size w w'):Sl w' size A n c xs:=h.keep hb.size fun b h _=>hb.block b h
theorem Sl.nil_ (w:World) (size:Nat):Sl w size aF 0 0 []:=⟨Rd.nil_,Nat.le_refl _,by simp [maxLen],fun a h=>by cases h⟩
theorem Sl.of_own (h:w.ownsRow base e size v n xs):∃A c,v= aA A n c/\Sl w size A n c xs/\∀a,A=aG a->base<=a.block:=by
 have hlt:=h.lt;rcases h.2 with ⟨rfl,rfl⟩ | ⟨g,cap,cur,rfl,hb,_,hn,hm,_⟩
 ·exact⟨aF,0,rfl,⟨Rd.of_own h,Nat.le_refl _,Nat.zero_le _,fun a ha=>by cases ha⟩,fun a ha=>by cases ha⟩
 ·exact⟨_,cap,rfl,⟨Rd.of_own h,hn,hm,fun a ha=>by cases ha;exact(hlt g rfl).2⟩,fun a ha=>by cases ha;exact hb⟩
end
end Go.Proofs.YtcjmjaefcjcomaaGreat
