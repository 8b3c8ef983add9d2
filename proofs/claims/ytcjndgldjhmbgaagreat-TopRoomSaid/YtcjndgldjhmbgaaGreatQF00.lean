/- Lemmas, as stated. -/
import Derived.WalkKit
import Derived.WalkLawsBesides
import Derived.WalkSpells
import Derived.Deep.QuietTactic
import Derived.BigQuiet
import Derived.IntWalk
import Derived.Lib.Hide
import Derived.Maps.AppendAt
import Derived.Deep.AppendLies
import Derived.Deep.Draws
import Derived.RangeFuncBox
import Derived.OneCell
import Derived.Deep.MidRow
import Derived.Deep.RegionLaw
import Derived.Deep.RegionHeld
import Derived.Lib.SliceRun
import Derived.Shelf.Strings.Builder1
import Derived.Shelf.Small.Bits
import Derived.Shelf.Small.Strs
import Derived.Shelf.Strings.BuilderF
import Derived.Shelf.Strings.BuilderK
import Derived.Shelf.Strconv.Itoa0
import Derived.Shelf.Strings.Search1
import Derived.Shelf.Sort.Plain
import Derived.Shelf.Strings.BuilderCap
import Derived.Shelf.Slices.Turned
import Derived.Shelf.Slices.Equal
import Derived.Ground.Names2Prog
import Derived.Shelf.Slices.Clone
import Derived.Shelf.Slices.CompactS
import Derived.Shelf.Slices.Cells
import Derived.Shelf.Slices.In.SortNone
import Derived.Shelf.Slices.Empties2
import Derived.Shelf.Bytes.SlSearch0
import Derived.Ground.SlbCloneProg
import Derived.Shelf.Bytes.SlClone
import Derived.Shelf.Bytes.SlSmallAll
import Derived.Shelf.Bytes.SlEqualAll
import Derived.Shelf.Bytes.Small
import Derived.Test.YtcjndgldjhmbgaaGreatProg
import Derived.Deep.RegionHeld3
import Derived.Laws.Pointers
import Derived.StillTactics
import Derived.Lib.Builder
import Derived.Lib.UnsafeStr
import Derived.Laws.Externs
set_option linter.unusedVariables false
set_option linter.unusedSimpArgs false
set_option maxRecDepth 20000
theorem Go.RowKit.Hid.o {p:Prop} (h:Go.RowKit.Hid p):p:=h.out
theorem Go.Shut.o {p:Prop} (h:Go.Shut p):p:=h.out
open Go.Proofs.Tryz
open Go.Value renaming slice->aw,int->ax,string->az
open Option renaming none->aB,some->aC
open Go.Proofs.Tryz renaming prog->zZZ
open Go.IntKind renaming i64->ay
namespace Go.Proofs.YtcjndgldjhmbgaaGreat
variable {K:Act->World->Prop} {listed:Array Bool} {ops:Array Oper} {rest:List Oper} {B base bytes cap fuel g k n off s size:Nat} {o:Oper} {gd:Option (Tmp×Bool)} {P:Program} {p p0 p1 p2 p3 p4 p5 p6 q:Prop} {e t ty:TypeId} {a a0 a1 a2 a3 a4 a5 a6 b c d i j m u v:Value} {w w':World} {A:(Option Addr)} {cs l xs:(List Value)} {Q:Exit->Act->World->Prop}
section
open Go.RowKit
abbrev ai:=Nat->Prop
abbrev ag:=Exit->Act->World->Prop
abbrev af:=List Value
abbrev ae:=Option Addr
abbrev ac:=List UInt8
abbrev wC (W:World) (g:Nat) (a b c:Value):Prop:=W.cell? ⟨g,0,aB⟩=aC a/\W.cell? ⟨g,1,aB⟩=aC b/\W.cell? ⟨g,2,aB⟩=aC c
abbrev wD (W:World) (g:Nat) (a b c d:Value):Prop:=W.cell? ⟨g,0,aB⟩=aC a/\W.cell? ⟨g,1,aB⟩=aC b/\W.cell? ⟨g,2,aB⟩=aC c/\W.cell? ⟨g,3,aB⟩=aC d
abbrev wF (W:World) (g:Nat) (a b c d i j k m:Value):Prop:=W.cell? ⟨g,0,aB⟩=aC a/\W.cell? ⟨g,1,aB⟩=aC b/\W.cell? ⟨g,2,aB⟩=aC c/\W.cell? ⟨g,3,aB⟩=aC d/\W.cell? ⟨g,4,aB⟩=aC i/\W.cell? ⟨g,5,aB⟩=aC j/\W.cell? ⟨g,6,aB⟩=aC k/\W.cell? ⟨g,7,aB⟩=aC m
abbrev wG (W:World) (g:Nat) (a b c d i j k:Value):Prop:=W.cell? ⟨g,0,aB⟩=aC a/\W.cell? ⟨g,1,aB⟩=aC b/\W.cell? ⟨g,2,aB⟩=aC c/\W.cell? ⟨g,3,aB⟩=aC d/\W.cell? ⟨g,4,aB⟩=aC i/\W.cell? ⟨g,5,aB⟩=aC j/\W.cell? ⟨g,6,aB⟩=aC k
structure aj {a:Type} (i:a) (q:Prop):Prop where o:q
theorem wH (h:q) (k:aj 0 q->p:=by intro hzz0;(repeat' (fail_if_success (first|at_builtin|at_make));first|go_values|go_skip|go_guarded|go_step|go_upon|go_back);(repeat (rename_i hzz1;revert hzz1;have hzz2:=hzz0;clear hzz2));exact hzz0.o):p:=k ⟨h⟩
section
variable {P:Program} {ops:Array Oper} {c d e f h j:Code} {b:Bool} {a:Act} {w:World} {Q:Exit->Act->World->Prop} {i:Nat} {q:Prop} {rest:List Oper} {ty:TypeId} {dd:Option Tmp} {x y:Operand} {t:TypeId} {pos:String} {after:Array Edge} {gd:Option (Tmp×Bool)} {oz:Array Operand} {tz:Array TypeId}
theorem ak (_:aj i q) (z:Code.wp P (.region i ops b) Q a w):Code.wp P (.region i ops b) Q a w:=z
theorem al (_:aj i q) (z:Code.wp P (.seq (.region i ops b) c) Q a w):Code.wp P (.seq (.region i ops b) c) Q a w:=z
theorem am (_:aj i q) (z:Code.wp P (.seq (.seq (.region i ops b) c) d) Q a w):Code.wp P (.seq (.seq (.region i ops b) c) d) Q a w:=z
theorem an (_:aj i q) (z:Code.wp P (.seq (.seq (.seq (.region i ops b) c) d) e) Q a w):Code.wp P (.seq (.seq (.seq (.region i ops b) c) d) e) Q a w:=z
theorem ao (_:aj i q) (z:Code.wp P (.seq (.seq (.seq (.seq (.region i ops b) c) d) e) f) Q a w):Code.wp P (.seq (.seq (.seq (.seq (.region i ops b) c) d) e) f) Q a w:=z
theorem aq (_:aj i q) (z:Code.wp P (.seq (.seq (.seq (.seq (.seq (.region i ops b) c) d) e) f) h) Q a w):Code.wp P (.seq (.seq (.seq (.seq (.seq (.region i ops b) c) d) e) f) h) Q a w:=z
theorem ar (_:aj ty q) (z:wpList P ops Q (⟨dd,.store ty x y,t,pos,after,gd⟩::rest) a w):wpList P ops Q (⟨dd,.store ty x y,t,pos,after,gd⟩::rest) a w:=z
theorem au (_:aj ty q) (z:wpList P ops Q (⟨dd,.load ty x,t,pos,after,gd⟩::rest) a w):wpList P ops Q (⟨dd,.load ty x,t,pos,after,gd⟩::rest) a w:=z
theorem av (_:aj ty q) (z:wpList P ops Q (⟨dd,.call {callee:=.builtin .copy,args:=oz,argTypes:=tz},t,pos,after,gd⟩::rest) a w):wpList P ops Q (⟨dd,.call {callee:=.builtin .copy,args:=oz,argTypes:=tz},t,pos,after,gd⟩::rest) a w:=z
end
theorem wI (i:Nat) (h:q) (k:aj i q->p:=by intro hzz0;(repeat' (fail_if_success (first|at_builtin|at_make|with_reducible first|refine ak hzz0 ?_|refine al hzz0 ?_|refine am hzz0 ?_));first|go_values|go_skip|go_guarded|go_step|go_upon|go_back);(repeat (rename_i hzz1;revert hzz1;have hzz2:=hzz0;clear hzz2));exact hzz0.o):p:=k ⟨h⟩
theorem wJ (i:Nat) (h:q) (k:aj i q->p:=by intro hzz0;(repeat' (fail_if_success (first|at_builtin|at_make|with_reducible first|refine ak hzz0 ?_|refine al hzz0 ?_|refine am hzz0 ?_|refine an hzz0 ?_|refine ao hzz0 ?_|refine aq hzz0 ?_));first|go_values|go_skip|go_guarded|go_step|go_upon|go_back);(repeat (rename_i hzz1;revert hzz1;have hzz2:=hzz0;clear hzz2));exact hzz0.o):p:=k ⟨h⟩
theorem wK (i:TypeId) (h:q) (k:aj i q->p:=by intro hzz0;(repeat' (fail_if_success (first|at_builtin|at_make|with_reducible first|refine ar hzz0 ?_|refine au hzz0 ?_|refine av hzz0 ?_));first|go_values|go_skip|go_guarded|go_step|go_upon|go_back);(repeat (rename_i hzz1;revert hzz1;have hzz2:=hzz0;clear hzz2));exact hzz0.o):p:=k ⟨h⟩
theorem sqJ3 (h0:p0) (h1:p1) (h2:p2):Hid p0/\Hid p1/\Hid p2:=⟨h0,h1,h2⟩
theorem sqJ4 (h0:p0) (h1:p1) (h2:p2) (h3:p3):Hid p0/\Hid p1/\Hid p2/\Hid p3:=⟨h0,h1,h2,h3⟩
theorem sqJ5 (h0:p0) (h1:p1) (h2:p2) (h3:p3) (h4:p4):Hid p0/\Hid p1/\Hid p2/\Hid p3/\Hid p4:=⟨h0,h1,h2,h3,h4⟩
theorem sqJ6 (h0:p0) (h1:p1) (h2:p2) (h3:p3) (h4:p4) (h5:p5):Hid p0/\Hid p1/\Hid p2/\Hid p3/\Hid p4/\Hid p5:=⟨h0,h1,h2,h3,h4,h5⟩
theorem sqJ7 (h0:p0) (h1:p1) (h2:p2) (h3:p3) (h4:p4) (h5:p5) (h6:p6):Hid p0/\Hid p1/\Hid p2/\Hid p3/\Hid p4/\Hid p5/\Hid p6:=⟨h0,h1,h2,h3,h4,h5,h6⟩
theorem sqJ8 {p7:Prop} (h0:p0) (h1:p1) (h2:p2) (h3:p3) (h4:p4) (h5:p5) (h6:p6) (h7:p7):Hid p0/\Hid p1/\Hid p2/\Hid p3/\Hid p4/\Hid p5/\Hid p6/\Hid p7:=⟨h0,h1,h2,h3,h4,h5,h6,h7⟩
theorem wM (i:Nat) (h:q) (k:aj i q->p:=by intro hzz0;(try simp only [sqP]);refine sqTH (wL hzz0) ?_;(try simp only [sqP,wL]);exact hzz0.o):p:=k ⟨h⟩
theorem wN (i:Nat) (h:q) (k:aj i q->p:=by intro hzz0;(try simp only [sqP]);refine sqTT (wL hzz0) ?_;(try simp only [sqP,wL]);exact hzz0.o):p:=k ⟨h⟩
theorem wO (i:Nat) (h:q) (k:aj i q->p:=by intro hzz0;(try simp only [sqP]);refine tkU (wL hzz0) ?_;(try simp only [sqP,wL]);exact hzz0.o):p:=k ⟨h⟩
theorem wP (i:Nat) (h:q) (k:aj i q->p:=by intro hzz0;(try simp only [sqP]);refine tkP (wL hzz0) ?_;(try simp only [sqP,wL]);exact hzz0.o):p:=k ⟨h⟩
abbrev wL {i:Nat} {q:Prop} (_:aj i q):Nat:=i
theorem wQ {md:Region.Mode} {Q:Exit->Act->World->Prop} {S:World->Prop} {a:Act} (i:Nat) (h:∀K':Act->World->Prop,Shut (∀a w,S w->(S w->wpAnyH P md ops Q S fuel (listed.setIfInBounds i true) a w)->K' a w)->if Region.wanted o (yielded ops a.tmps)=true then Oper.wp P o a w K' Q else K' (a.put o.dst undef) w) (hr:Region.ready md ops listed=[i]:=by kernel_rfl) (ho:ops[i]?=aC o:=by rfl):wpAnyH P md ops Q S (fuel+1) listed a w:=wpAnyH_ready hr (by simp) (AllReadyH.cons ho h AllReadyH.nil)
theorem wU {a:Sort _} (x:a):∃b,b=x:=⟨x,rfl⟩
theorem wV {f:FuncId} {args:Array Value} {v:Ending} {B:World->Prop} {R:Ending->World->Prop} (h:Calls P f args w fun e w'=>e=v/\B w') (k:∀w',B w'->R v w'):Calls P f args w R:=h.mono fun e w' h=>h.1▸k w' h.2
theorem wW (h:Hid p) (k:p->q:=by intro h;omega):q:=k h.o
theorem wX (m:Nat):(0:Int)<=(m:Int):=by omega
theorem wh (w:World):Below w.heap.size w w:=Below.refl _ _
theorem wg {a b c:World} (h:Below a.heap.size a b) (k:Below b.heap.size b c):Below a.heap.size a c:=h.trans (k.mono h.size)
theorem wi (w:World) (o:Obj):Below w.heap.size w (w.alloc o):=(Below.refl _ _).alloc (Nat.le_refl _) o
theorem wj (h:p:=by omega):p:=h
theorem wm (h:p:=by kernel_rfl):p:=h
theorem wo (h:p:=by decide):p:=h
theorem ws (h:p:=by simp):p:=h
theorem wu (h:p:=by rfl):p:=h
theorem ww (h:p:=by simp only;omega):p:=h
theorem aa (h:p:=by simp;omega):p:=h
theorem ab:n<=n:=Nat.le_refl _
theorem sqH (h:p):Hid p:=h
theorem sqP:(∀ {α:Type} (l:List α) (i:Nat) (h:i<l.toArray.size),l.toArray[i]=l[i]'(by simpa using h))/\(∀ {α:Type} (a:α) (l:List α) (h:0<(a::l).length),(a::l)[0]=a)/\(∀ {α:Type} (a:α) (l:List α) (i:Nat) (h:i+1<(a::l).length),(a::l)[i+1]=l[i]'(Nat.lt_of_succ_lt_succ h))/\(∀(a:Act) (t:Tmp) (v:Value),a.put t v= { a with tmps:=a.tmps.setIfInBounds t v })/\(∀ {α:Type} (l:List α) (i:Nat) (a:α),l.toArray.setIfInBounds i a=(l.set i a).toArray)/\(∀ {α:Type} (x:α) (l:List α) (a:α),(x::l).set 0 a=a::l)/\(∀ {α:Type} (x:α) (l:List α) (n:Nat) (a:α),(x::l).set (n+1) a=x::l.set n a) :=
 ⟨fun _ _ _=>rfl,fun _ _ _=>rfl,fun _ _ _ _=>rfl,fun _ _ _=>rfl,fun l i a=>List.setIfInBounds_toArray l i a,fun _ _ _=>rfl,fun _ _ _ _=>rfl⟩
theorem sqQ:(∀(a:Act) (t:Tmp) (v:Value),a.put t v= { a with tmps:=a.tmps.setIfInBounds t v })/\(∀ {α:Type} (l:List α) (i:Nat) (a:α),l.toArray.setIfInBounds i a=(l.set i a).toArray)/\(∀ {α:Type} (x:α) (l:List α) (a:α),(x::l).set 0 a=a::l)/\(∀ {α:Type} (x:α) (l:List α) (n:Nat) (a:α),(x::l).set (n+1) a=x::l.set n a) :=
 ⟨fun _ _ _=>rfl,fun l i a=>List.setIfInBounds_toArray l i a,fun _ _ _=>rfl,fun _ _ _ _=>rfl⟩
theorem sqTH {md:Region.Mode} {S:World->Prop} (i:Nat) {oi:Oper} {a:Act} (h:wpAnyH P md ops Q S fuel (listed.setIfInBounds i true) (a.put oi.dst v) w) (hi:ops[i]?=aC oi:=by rfl) (hs:Region.noSelect ops=true:=by kernel_rfl) (hf:Region.free md ops listed i=true:=by kernel_rfl) (hr:(Region.ready md ops listed).contains i=true:=by kernel_rfl) (hw:Region.wanted oi (yielded ops a.tmps)=true:=by rfl) (hS:S w:=by assumption) (hy:∀w,S w->(execOp a.eval oi).run P w= .ok (.value v) w:=by(intro w hSw;(try dsimp only [wC,wD,wF,wG] at hSw);go_simp;try (with_reducible rfl))) (hQ:∀c a w,Q (.panic c) (a.put oi.dst v) w->Q (.panic c) a w:=by exact fun _ _ _ h=>h):wpAnyH P md ops Q S (fuel+1) listed a w :=
 wpAnyH_take hi hs hf hr hQ (Or.inl ⟨hw,hy⟩) hS h
end
section
open Go.RowKit
abbrev wd (b:BitVec 32):Int:=(b.toNat:Int)
theorem z2a (b:BitVec 32):wd b<4294967296:=by
 have:=b.isLt;simp only [wd];omega
theorem z2b (b:BitVec 32):0<=wd b:=by simp only [wd];omega
theorem JR {a b:BitVec 32}:wd a=wd b↔a=b:=by
 constructor
 ·intro h;apply BitVec.eq_of_toNat_eq;simp only [wd]at h;omega
 ·rintro rfl;rfl
theorem Zc (n:Nat):IntKind.u32.wrap (n:Int)=((n % 4294967296:Nat):Int):=by
 rw [IntKind.wrap_u32];omega
theorem kQ (a b:BitVec 32):bits .and .u32 (wd a) (wd b)=wd (a &&& b):=by
 show IntKind.u32.wrap ((BitVec.ofInt 32 (wd a) &&& BitVec.ofInt 32 (wd b)).toNat:Int)=_;have ha:BitVec.ofInt 32 (wd a)=a:=by simp [wd]
 have hb:BitVec.ofInt 32 (wd b)=b:=by simp [wd]
 rw [ha,hb,Zc,Nat.mod_eq_of_lt (a &&& b).isLt]
theorem kR (a b:BitVec 32):bits .or .u32 (wd a) (wd b)=wd (a ||| b):=by
 show IntKind.u32.wrap ((BitVec.ofInt 32 (wd a) ||| BitVec.ofInt 32 (wd b)).toNat:Int)=_;have ha:BitVec.ofInt 32 (wd a)=a:=by simp [wd]
 have hb:BitVec.ofInt 32 (wd b)=b:=by simp [wd]
 rw [ha,hb,Zc,Nat.mod_eq_of_lt (a ||| b).isLt]
theorem qF (a b:BitVec 32):bits .xor .u32 (wd a) (wd b)=wd (a ^^^ b):=by
 show IntKind.u32.wrap ((BitVec.ofInt 32 (wd a) ^^^ BitVec.ofInt 32 (wd b)).toNat:Int)=_;have ha:BitVec.ofInt 32 (wd a)=a:=by simp [wd]
 have hb:BitVec.ofInt 32 (wd b)=b:=by simp [wd]
 rw [ha,hb,Zc,Nat.mod_eq_of_lt (a ^^^ b).isLt]
theorem z4s:IntKind.u32.max=wd (BitVec.allOnes 32):=by decide
theorem uT (a:BitVec 32):bits .xor .u32 IntKind.u32.max (wd a)=wd (~~~a):=by
 rw [z4s,qF,BitVec.allOnes_xor]
theorem Q4 (x:BitVec 32) (n:Nat):wd x / 2 ^ n=wd (x >>> n):=by
 show((x.toNat:Int) / 2 ^ n)=((x >>> n).toNat:Int)
 rw [BitVec.toNat_ushiftRight,Nat.shiftRight_eq_div_pow,Int.natCast_ediv,Int.natCast_pow];rfl
theorem Jk (x:BitVec 32) (n:Nat):wd x*2 ^ n % 4294967296=wd (x <<< n):=by
 show((x.toNat:Int)*2 ^ n % ((4294967296:Nat):Int))=((x <<< n).toNat:Int)
 rw [BitVec.toNat_shiftLeft,Nat.shiftLeft_eq,Int.natCast_emod,Int.natCast_mul,Int.natCast_pow];rfl
theorem z3o (x:BitVec 32) (n:Nat) (h:n<=31):bits .or .u32 (wd x / 2 ^ n) (wd x*2 ^ (32 - n) % 4294967296)=wd (x.rotateRight n):=by
 rw [Q4,Jk,kR];simp only [BitVec.rotateRight,BitVec.rotateRightAux,Nat.mod_eq_of_lt (show n<32 by omega)]
theorem zN {a:World} (h:Below B a w) (n:Nat):Below B a (w.drewN n):=⟨h.os,h.tape,h.output,h.size,h.block⟩
theorem UC (a:Addr) (n:Nat):(a.add n).block=a.block:=by unfold Addr.add;split<;>rfl
theorem z34 (a:Addr) (i j:Nat):(a.add i).add j=a.add (i+j):=by
 unfold Addr.add;by_cases hi:i=0<;>by_cases hj:j=0<;>simp [hi,hj,Nat.add_assoc]
def Rd (w:World) (size:Nat) (A:ae) (n:Nat) (xs:af):Prop :=
 xs.length=n*size/\(0<n->∃b off,A=aC ⟨b,off,aB⟩/\b<w.heap.size/\∀j u,xs[j]?=aC u->w.cell? ⟨b,off+j,aB⟩=aC u)
section
variable {w w':World} {size n:Nat} {A:ae} {xs:af}
theorem Rd.nil_:Rd w size A 0 []:=⟨ws,fun h=>absurd h wj⟩
theorem Rd.at_ (h:Rd w 1 A n xs) (hk:k<n):∃b off u,A=aC ⟨b,off,aB⟩/\b<w.heap.size/\xs[k]?=aC u/\w.cell? ⟨b,off+k,aB⟩=aC u:=by
 obtain⟨b,off,e,hb,hc⟩:=h.2 wj;have hl:k<xs.length:=by have:=h.1;omega
 exact⟨b,off,xs[k],e,hb,List.getElem?_eq_getElem hl,hc k _ (List.getElem?_eq_getElem hl)⟩
theorem Rd.keep (h:Rd w size A n xs) (hs:w.heap.size<=w'.heap.size) (hk:∀p:Addr,p.block<w.heap.size->w'.cell? p=w.cell? p):Rd w' size A n xs :=
 ⟨h.1,fun hn=>by
  obtain⟨b,off,e,hb,hc⟩:=h.2 hn
  exact⟨b,off,e,wj,fun j u hu=>(hk _ (by exact hb)).trans (hc j u hu)⟩⟩
theorem Rd.below (h:Rd w size A n xs) (hb:Below w.heap.size w w'):Rd w' size A n xs:=h.keep hb.size fun _ hp=>hb.cell hp
theorem Rd.alloc (h:Rd w size A n xs) (o:Obj):Rd (w.alloc o) size A n xs:=h.keep ws fun p hp=>World.cell?_alloc_lt w o p hp
theorem Rd.of_own {c:Nat} (h:w.ownsRow base e size (aw A n c) n xs):Rd w size A n xs:=by
 refine⟨h.1,fun hn=> ?_⟩;rcases h.2 with ⟨_,h0⟩ | ⟨g,cap,cur,hv,hb,hg,_⟩
 ·omega
 ·injection hv with hA;subst hA;refine⟨g,0,rfl,(Array.getElem?_eq_some_iff.1 hg).1,fun j u hu=> ?_⟩;have:=h.cells (g:=g) (by simp [Value.ownBlock]) j u hu;have hadd:(⟨g,0,aB⟩:Addr).add j=⟨g,0+j,aB⟩:=by unfold Addr.add;split<;>simp_all
  rwa [hadd]at this
theorem Rd.of_own' (h:w.ownsRow base e size v n xs):∃A c,v= aw A n c/\n<=c/\Rd w size A n xs:=by
 rcases h.2 with ⟨rfl,rfl⟩ | ⟨g,cap,cur,rfl,hb,hg,hnc,_⟩
 ·exact⟨aB,0,rfl,Nat.le_refl _,Rd.of_own h⟩
 ·exact⟨_,cap,rfl,hnc,Rd.of_own h⟩
theorem Rd.cut (h:Rd w size A n xs) (hk:k<=n) (hc:n<=cap) :
  Rd w size (if cap=k then A else A.map (·.add (k*size))) (n - k) (xs.drop (k*size)):=by
 refine⟨by rw [List.length_drop,h.1,Nat.sub_mul],fun hn=> ?_⟩;obtain⟨b,off,rfl,hb,hcell⟩:=h.2 wj;rw [if_neg wj];refine⟨b,off+k*size,?_,hb,fun j u hu=> ?_⟩
 ·simp only [Option.map_some,Addr.add];split
  ·simp_all
  ·rfl
 ·rw [Nat.add_assoc];exact hcell _ u (by rw [<-hu,List.getElem?_drop])
theorem Rd.pre (h:Rd w size A n xs) (hk:k<=n):Rd w size A k (xs.take (k*size)):=by
 refine⟨by rw [List.length_take,h.1];exact Nat.min_eq_left (Nat.mul_le_mul_right _ hk),fun hn=> ?_⟩;obtain⟨b,off,rfl,hb,hcell⟩:=h.2 wj;exact⟨b,off,rfl,hb,fun j u hu=>hcell j u (by rw [List.getElem?_take]at hu;split at hu<;>simp_all)⟩
end
structure El (P:Program) (t e:TypeId) (size bytes:Nat):Prop where
 und:P.underlying t=aC (.slice e)
 ex:∃(i:TypeInfo) (z:Value),P.info? e=aC i/\i.zero=aC z/\i.size=size/\i.bytes=bytes/\z.cells.size=size
 pos:0<size
 posb:0<bytes
theorem El.mk' {z:Value} (hu:P.underlying t=aC (.slice e)) (hi:(P.info? e).map (fun i=>(i.zero,i.size,i.bytes))=aC (aC z,size,bytes))
  (hz:z.cells.size=size) (hp:0<size) (hq:0<bytes):El P t e size bytes:=by
 refine⟨hu,?_,hp,hq⟩;cases h:P.info? e with
 | none=>rw [h]at hi;cases hi
 | some i =>
  rw [h]at hi;simp only [Option.map_some,Option.some.injEq,Prod.mk.injEq]at hi;exact⟨i,z,rfl,hi.1,hi.2.1,hi.2.2,hz⟩
section
variable {P:Program} {w:World}
theorem xB (E:El P t e size bytes) (hown:w.ownsRow base e size v n xs) (c:Nat) :
  (Builtin.append_ #[t,t] ty #[v,aw aB 0 c]).run P w= .ok v w:=by
 obtain⟨hu,⟨i,z,hi,_,_,_,_⟩,_,_⟩:=E;rcases hown.2 with ⟨rfl,rfl⟩ | ⟨g,cap,cur,rfl,_,_,hnc,_⟩
 ·simp [Builtin.append_,run_underlying hu,sizeOf,typeInfo,hi,Builtin.lenOf,Builtin.firstCells]
 ·simp [Builtin.append_,run_underlying hu,sizeOf,typeInfo,hi,Builtin.lenOf,Builtin.firstCells,hnc,storeCells]
theorem z3q (E:El P t e size bytes) (hown:w.ownsRow base e size v n xs)
  {A:ae} {m c:Nat} {news:af} (hr:Rd w size A m news) (h1:∀u∈news,u.oneCell'=true)
  (hb:(n+m)*bytes<=140737488355328) (hbase:base<=w.heap.size) :
  ∃v' w',(Builtin.append_ #[t,t] ty #[v,aw A m c]).run P w= .ok v' w'/\w'.ownsRow base e size v' (n+m) (xs++news)/\w.grownBy w' v.ownBlock /\
   (v'.ownBlock=v.ownBlock\/v'.ownBlock=aC w.heap.size):=by
 have h63:n+m<=maxLen:=by
  have:=Nat.le_trans (Nat.le_mul_of_pos_right (n+m) E.posb) hb;simp only [maxLen];omega
 rcases Nat.eq_zero_or_pos m with h0 | h0
 ·subst h0;have hn:news= []:=List.eq_nil_of_length_eq_zero (by simpa using hr.1);subst hn;cases A with
  | none=>exact⟨v,w,xB E hown c,by simpa using hown,⟨rfl,rfl,rfl,Nat.le_refl _,fun _ _ _=>rfl⟩,.inl rfl⟩
  | some ad =>
   obtain⟨hu,⟨i,z,hi,hz,hs,hby,hzs⟩,hp,hq⟩:=E;obtain⟨v',w',hrun,h2,h3,_,h5⟩:=run_append_own_at (P:=P) w base t ty e i z size bytes hu hi hz hs hby hzs hp v n xs hown ad 0 c [] hr.1 (fun j u hu=>by simp at hu) h1 h63 hb hbase;exact⟨v',w',hrun,h2,h3,h5⟩
 ·obtain⟨b,off,rfl,hbl,hc⟩:=hr.2 h0;obtain⟨hu,⟨i,z,hi,hz,hs,hby,hzs⟩,hp,hq⟩:=E;have hc':∀j u,news[j]?=aC u->w.cell? ((⟨b,off,aB⟩:Addr).add j)=aC u:=fun j u hj=>by
   have hadd:(⟨b,off,aB⟩:Addr).add j=⟨b,off+j,aB⟩:=by unfold Addr.add;split<;>simp_all
   rw [hadd];exact hc j u hj
  obtain⟨v',w',hrun,h2,h3,_,h5⟩:=run_append_own_at (P:=P) w base t ty e i z size bytes hu hi hz hs hby hzs hp v n xs hown ⟨b,off,aB⟩ m c news hr.1 hc' h1 h63 hb hbase;exact⟨v',w',hrun,h2,h3,h5⟩
theorem z49 {a:Act} (s x:Operand) 
  (ho:o.op= .call { callee:= .builtin .append,args:=#[s,x],argTypes:=#[t,t] }) (E:El P t e size bytes)
  {base:Nat} {v:Value} {n:Nat} {xs:af} (hs:a.eval s=v) (hown:w.ownsRow base e size v n xs)
  {A:ae} {m c:Nat} {news:af} (hx:a.eval x= aw A m c) (hr:Rd w size A m news) (h1:∀u∈news,u.oneCell'=true)
  (hb:(n+m)*bytes<=140737488355328) (hbase:base<=w.heap.size)
  (h:∀v' w',w'.ownsRow base e size v' (n+m) (xs++news)->w.grownBy w' v.ownBlock->(v'.ownBlock=v.ownBlock\/v'.ownBlock=aC w.heap.size)->K (a.put o.dst v') w'):o.wp P a w K Q:=by
 obtain⟨v',w',hrun,h2,h3,h4⟩:=z3q (P:=P) (ty:=o.type) E hown hr h1 hb hbase (c:=c);unfold Oper.wp execOp;simp only [ho,resolve,invoke,builtin,Sem.run_bind,Sem.run_pure,Result.andThen_ok,List.map_toArray,List.map_cons,List.map_nil,hs,hx,hrun];exact h v' w' h2 h3 h4
theorem zK {a:Act} (hgd:o.guard=aB) (s x:Operand) 
  (ho:o.op= .call { callee:= .builtin .append,args:=#[s,x],argTypes:=#[t,t] }) (E:El P t e size bytes)
  {base:Nat} {v:Value} {n:Nat} {xs:af} (hs:a.eval s=v) (hown:w.ownsRow base e size v n xs)
  {A:ae} {m c:Nat} {news:af} (hx:a.eval x= aw A m c) (hr:Rd w size A m news) (h1:∀u∈news,u.oneCell'=true)
  (hb:(n+m)*bytes<=140737488355328) (hbase:base<=w.heap.size)
  (h:∀v' w',w'.ownsRow base e size v' (n+m) (xs++news)->w.grownBy w' v.ownBlock->(v'.ownBlock=v.ownBlock\/v'.ownBlock=aC w.heap.size)->wpList P ops Q rest (a.put o.dst v') w') :
  wpList P ops Q (o::rest) a w :=
 wpList_plain hgd fun _ hK=>z49 s x ho E hs hown hx hr h1 hb hbase fun v' w' h2 h3 h4=>hK _ _ (h v' w' h2 h3 h4)
theorem Z8 {a:Act} {E0:Prop} (hgd:o.guard=aB) (s x:Operand) 
  (ho:o.op= .call { callee:= .builtin .append,args:=#[s,x],argTypes:=#[t,t] }) (E:El P t e size bytes)
  {base:Nat} {v:Value} {n:Nat} {xs:af} (hs:a.eval s=v) (hown:w.ownsRow base e size v n xs)
  {A:ae} {m c:Nat} {news:af} (hx:a.eval x= aw A m c) (hr:Rd w size A m news) (h1:∀u∈news,u.oneCell'=true)
  (hb:(n+m)*bytes<=140737488355328) (hbase:base<=w.heap.size)
  (h:∀v' w',w'.ownsRow base e size v' (n+m) (xs++news)->w.grownBy w' v.ownBlock->(v'.ownBlock=v.ownBlock\/v'.ownBlock=aC w.heap.size)->K (a.put o.dst v') w') :
  if Region.wanted o (yielded ops a.tmps)=true then Oper.wp P o a w K Q else E0:=by
 rw [if_pos (by simp [Region.wanted,hgd])];exact z49 s x ho E hs hown hx hr h1 hb hbase h
theorem Rd.newN {w:World} {m:Nat} (us:af) (hl:us.length=m*size):Rd (w.alloc (.cells us.toArray e)) size (aC ⟨w.heap.size,0,aB⟩) m us :=
 ⟨hl,fun _=>⟨_,0,rfl,ws,fun j x hx=>by
  rw [World.cell?_alloc_new,Nat.zero_add];simpa using hx⟩⟩
theorem zg {a:Act} (hgd:o.guard=aB) (s x:Operand) {e':TypeId} 
  (ho:o.op= .call { callee:= .builtin .append,args:=#[s,x],argTypes:=#[t,t] }) (E:El P t e size bytes)
  {base:Nat} {v:Value} {n:Nat} {xs:af} (hs:a.eval s=v) (hown:w.ownsRow base e size v n xs)
  {us:af} {m c:Nat} (hx:a.eval x= aw (aC ⟨w.heap.size,0,aB⟩) m c) (hl:us.length=m*size) (h1:∀u∈us,u.oneCell'=true)
  (hb:(n+m)*bytes<=140737488355328) (hbase:base<=w.heap.size)
  (h:∀v' w',w'.ownsRow base e size v' (n+m) (xs++us)->w.grownBy w' v.ownBlock->(v'.ownBlock=v.ownBlock\/∃g,v'.ownBlock=aC g/\w.heap.size<=g)->wpList P ops Q rest (a.put o.dst v') w') :
  wpList P ops Q (o::rest) a (w.alloc (.cells us.toArray e')) :=
 zK hgd s x ho E hs (hown.alloc _) hx (Rd.newN us hl) h1 hb aa fun v' w' h2 h3 h4=>h v' w' h2
  ⟨h3.os,h3.tape,h3.output,by have:=h3.size;simp at this;omega,fun k hk hne=>(h3.block k aa hne).trans (Below.heap_alloc _ _ _ hk)⟩
  (h4.imp id fun h=>⟨_,h,ws⟩)
end
def bys (l:ac):af:=l.map fun b=> .int .u8 (b.toNat:Int)
theorem qZ (l:ac):(bys l).length=l.length:=by simp [bys]
theorem qY (l m:ac):bys (l++m)=bys l++bys m:=by simp [bys]
theorem xL (l:ac):∀u∈bys l,u.oneCell'=true:=by
 intro u hu;simp only [bys,List.mem_map]at hu;obtain⟨_,_,rfl⟩:=hu;rfl
theorem vh (l:ac) (k:Nat) (h:k<l.length):(bys l)[k]?=aC (.int .u8 (l[k].toNat:Int)):=by simp [bys,h]
theorem Rd.new1 (u:Value):Rd (w.alloc (.cells #[u] e)) 1 (aC ⟨w.heap.size,0,aB⟩) 1 [u] :=
 ⟨ws,fun _=>⟨_,0,rfl,ws,fun j x hx=>by
  match j,hx with
  | 0,hx=>simp at hx;subst hx;simp⟩⟩
theorem zj {w0:World} (hb:Below w0.heap.size w0 w) (hown:w.ownsRow base e size v n xs) (hbase:w0.heap.size<=base)
  (hg:w.grownBy w' v.ownBlock):Below w0.heap.size w0 w' :=
 hb.grown hg hb.size fun k hk=>by have:=(hown.lt k hk).1;omega
theorem xZ {src dst:TypeId} {c:Nat} {l:ac} (hs:P.underlying src=aC (.slice e)) (he:P.underlying e=aC (.int .u8)) (hd:P.underlying dst=aC .string)
  (hl:l.length=n) (hr:Rd w 1 A n (bys l)):(convert src dst (aw A n c)).run P w= .ok (.string ⟨l.toArray⟩) w:=by
 rcases Nat.eq_zero_or_pos n with h0 | h0
 ·subst h0;obtain rfl:l= []:=List.eq_nil_of_length_eq_zero hl;cases A with
  | none=>exact run_convert_bytes_nil w src e hs he 0 c dst hd
  | some a=>exact run_convert_bytes_back w src dst e a c [] hs he hd (fun j hj=>absurd hj ws)
 ·obtain⟨b,off,rfl,hb,hc⟩:=hr.2 h0;subst hl;refine run_convert_bytes_back w src dst e ⟨b,off,aB⟩ c l hs he hd (fun j hj=> ?_);have hadd:(⟨b,off,aB⟩:Addr).add j=⟨b,off+j,aB⟩:=by unfold Addr.add;split<;>simp_all
  rw [hadd];exact hc j _ (vh l j hj)
theorem z1y {l m:ac}:((⟨l.toArray⟩:ByteArray)=⟨m.toArray⟩)↔l=m:=by
 constructor
 ·intro h;injection h with h;simpa using h
 ·rintro rfl;rfl
structure OwnB (e:TypeId) (base:Nat) (w:World) (A:ae) (c:Nat) (l:ac):Prop where
 own:w.ownsRow base e 1 (aw A l.length c) l.length (bys l)
 cap:l.length<=c
theorem OwnB.rd {c:Nat} {l:ac} (h:OwnB e base w A c l):Rd w 1 A l.length (bys l):=Rd.of_own h.own
theorem OwnB.of {l:ac} (hn:l.length=n) (h:w.ownsRow base e 1 v n (bys l)):∃A c,v= aw A l.length c/\OwnB e base w A c l:=by
 subst hn;obtain⟨A,c,rfl,hc,_⟩:=Rd.of_own' h;exact⟨A,c,rfl,h,hc⟩
theorem OwnB.below {c:Nat} {l:ac} (h:OwnB e base w A c l) (hb:Below w.heap.size w w'):OwnB e base w' A c l :=
 ⟨h.own.kept ⟨hb.os,hb.tape,hb.output,hb.size,fun k hk _=>hb.block k hk⟩ (row:=aB) (by cases A<;>simp [Value.ownBlock]),h.cap⟩
theorem OwnB.nil_ (e:TypeId) (base:Nat) (w:World):OwnB e base w aB 0 []:=⟨World.ownsRow_nil _ _ _ _,Nat.le_refl _⟩
theorem zc (h:w.ownsRow base e size v n xs) (hb:Below w.heap.size w w'):w'.ownsRow base e size v n xs :=
 h.kept ⟨hb.os,hb.tape,hb.output,hb.size,fun k hk _=>hb.block k hk⟩ (row:=aB) (Classical.em _)
theorem Qt (h:w.grownBy w' aB):Below w.heap.size w w':=⟨h.os,h.tape,h.output,h.size,fun k hk=>h.block k hk ws⟩
theorem ya {a:Act} 
  (hg:o.guard=aB) (l c:Operand) {t e:TypeId} {size bytes:Nat} (hop:o.op=Op.makeSlice t l c) (E:El P t e size bytes)
  {kl kc:IntKind} {C:Int} (n:Nat) (hl:a.eval l= .int kl 0) (hc:a.eval c= .int kc C) (hC:C=(n:Int)) (hb:n*bytes<=140737488355328)
  (hK:∀w' g,w'.ownsRow w.heap.size e size (aw (aC ⟨g,0,aB⟩) 0 n) 0 []->Below w.heap.size w w'->wpList P ops Q rest (a.put o.dst (aw (aC ⟨g,0,aB⟩) 0 n)) w') :
  wpList P ops Q (o::rest) a w:=by
 have hpb:=E.posb;obtain⟨hu,⟨i,z,hi,hz,hs,hby,hzs⟩,_,_⟩:=E;refine wpList_make_own w hg l c t hop w.heap.size e i z size hu hi hz hs kl kc C n hl hc hC (by rw [hby,Nat.mul_comm];omega) ?_ ab fun w' h1 h2=>hK w' _ h1 (Qt h2);have:=Nat.le_trans (Nat.le_mul_of_pos_right n hpb) hb;simp only [maxLen];omega
theorem yM (h:w.ownsRow base e size v n xs):w.drew.ownsRow base e size v n xs:=h
theorem ZV (h:w.ownsRow base e size v n xs) (k:Nat):(w.drewN k).ownsRow base e size v n xs:=h
theorem xq (hown:w.ownsRow base e size v n xs) (hg:w.grownBy w' v.ownBlock)
  {b off:Nat} {u:Value} (hb:b<base) (h:w.cell? ⟨b,off,aB⟩=aC u):w'.cell? ⟨b,off,aB⟩=aC u :=
 hg.cell h (fun he=>by have:=(hown.lt b he.symm).1;omega)
theorem Rd.cutAt {b c:Nat} (h:Rd w 1 (aC ⟨b,off,aB⟩) n xs) (hk:k<=n) (hc:n<=c) :
  Rd w 1 (if c=k then aC ⟨b,off,aB⟩ else aC ⟨b,off+k,aB⟩) (n - k) (xs.drop k):=by
 have:=h.cut (k:=k) (cap:=c) hk hc;simp only [Nat.mul_one,Option.map_some]at this;rw [show((⟨b,off,aB⟩:Addr).add k)=⟨b,off+k,aB⟩ by unfold Addr.add;split<;>simp_all]at this;exact this
theorem xl (l:ac) (k:Nat):(bys l).drop k=bys (l.drop k):=by simp [bys]
theorem K5 (l:ac) (k:Nat):(bys l).take k=bys (l.take k):=by simp [bys]
def Arr (W:World) (g:Nat) (e:TypeId) (xs:af):Prop:=W.heap[g]?=aC (.cells xs.toArray e (0,0))
variable {W W':World} {g g' k base:Nat} {e:TypeId} {xs:af} {v:Value}
theorem zo {a:Act} (ty:TypeId) {d:Option Tmp} {x y:Operand} {pos:String} {after:Array Edge} 
  (h:wpList P ops Q (⟨d,.store ty x y,t,pos,after,gd⟩::rest) a w):wpList P ops Q (⟨d,.store ty x y,t,pos,after,gd⟩::rest) a w:=h
theorem zD {a:Act} (ty:TypeId) {d:Option Tmp} {x:Operand} {pos:String} {after:Array Edge} 
  (h:wpList P ops Q (⟨d,.load ty x,t,pos,after,gd⟩::rest) a w):wpList P ops Q (⟨d,.load ty x,t,pos,after,gd⟩::rest) a w:=h
theorem zC {a:Act} {d:Option Tmp} {xa:Array Operand} {ts:Array TypeId} {pos:String} {after:Array Edge} 
  (h:wpList P ops Q (⟨d,.call { callee:= .builtin .copy,args:=xa,argTypes:=ts },t,pos,after,gd⟩::rest) a w):wpList P ops Q (⟨d,.call { callee:= .builtin .copy,args:=xa,argTypes:=ts },t,pos,after,gd⟩::rest) a w:=h
theorem Arr.lt (h:Arr W g e xs):g<W.heap.size:=(Array.getElem?_eq_some_iff.1 h).1
theorem Arr.new (W:World) (e:TypeId) (xs:af):Arr (W.alloc (.cells xs.toArray e)) W.heap.size e xs:=World.alloc_heap_new W _
theorem Arr.cell (h:Arr W g e xs) (hk:xs[k]?=aC v):W.cell? ⟨g,k,aB⟩=aC v:=by
 have h':W.heap[g]?=_:=h;simp [World.cell?,h',hk]
theorem Arr.c0 {W:World} {g:Nat} {e:TypeId} (h:Arr W g e (a::l)):W.cell? ⟨g,0,aB⟩=aC a:=h.cell rfl
theorem Arr.c1 {W:World} {g:Nat} {e:TypeId} (h:Arr W g e (a::b::l)):W.cell? ⟨g,1,aB⟩=aC b:=h.cell rfl
theorem Arr.c2 {W:World} {g:Nat} {e:TypeId} (h:Arr W g e (a::b::c::l)):W.cell? ⟨g,2,aB⟩=aC c:=h.cell rfl
theorem Arr.c3 {W:World} {g:Nat} {e:TypeId} (h:Arr W g e (a::b::c::d::l)):W.cell? ⟨g,3,aB⟩=aC d:=h.cell rfl
theorem Arr.c4 {W:World} {g:Nat} {e:TypeId} (h:Arr W g e (a::b::c::d::i::l)):W.cell? ⟨g,4,aB⟩=aC i:=h.cell rfl
theorem Arr.c5 {W:World} {g:Nat} {e:TypeId} (h:Arr W g e (a::b::c::d::i::j::l)):W.cell? ⟨g,5,aB⟩=aC j:=h.cell rfl
theorem Arr.c6 {W:World} {g:Nat} {e:TypeId} {k:Value} (h:Arr W g e (a::b::c::d::i::j::k::l)):W.cell? ⟨g,6,aB⟩=aC k:=h.cell rfl
theorem Arr.c7 {W:World} {g:Nat} {e:TypeId} {k:Value} (h:Arr W g e (a::b::c::d::i::j::k::m::l)):W.cell? ⟨g,7,aB⟩=aC m:=h.cell rfl
theorem sqC2 {W:World} {g:Nat} {e:TypeId} (h:Arr W g e (a0::a1::l)):W.cell? ⟨g,0,aB⟩=aC a0/\W.cell? ⟨g,1,aB⟩=aC a1 :=
 ⟨h.cell (k:=0) rfl,h.cell (k:=1) rfl⟩
theorem sqC3 {W:World} {g:Nat} {e:TypeId} (h:Arr W g e (a0::a1::a2::l)):W.cell? ⟨g,0,aB⟩=aC a0/\W.cell? ⟨g,1,aB⟩=aC a1/\W.cell? ⟨g,2,aB⟩=aC a2 :=
 ⟨h.cell (k:=0) rfl,h.cell (k:=1) rfl,h.cell (k:=2) rfl⟩
theorem sqC4 {W:World} {g:Nat} {e:TypeId} (h:Arr W g e (a0::a1::a2::a3::l)):W.cell? ⟨g,0,aB⟩=aC a0/\W.cell? ⟨g,1,aB⟩=aC a1/\W.cell? ⟨g,2,aB⟩=aC a2/\W.cell? ⟨g,3,aB⟩=aC a3 :=
 ⟨h.cell (k:=0) rfl,h.cell (k:=1) rfl,h.cell (k:=2) rfl,h.cell (k:=3) rfl⟩
theorem sqC5 {W:World} {g:Nat} {e:TypeId} (h:Arr W g e (a0::a1::a2::a3::a4::l)):W.cell? ⟨g,0,aB⟩=aC a0/\W.cell? ⟨g,1,aB⟩=aC a1/\W.cell? ⟨g,2,aB⟩=aC a2/\W.cell? ⟨g,3,aB⟩=aC a3/\W.cell? ⟨g,4,aB⟩=aC a4 :=
 ⟨h.cell (k:=0) rfl,h.cell (k:=1) rfl,h.cell (k:=2) rfl,h.cell (k:=3) rfl,h.cell (k:=4) rfl⟩
theorem sqC6 {W:World} {g:Nat} {e:TypeId} (h:Arr W g e (a0::a1::a2::a3::a4::a5::l)):W.cell? ⟨g,0,aB⟩=aC a0/\W.cell? ⟨g,1,aB⟩=aC a1/\W.cell? ⟨g,2,aB⟩=aC a2/\W.cell? ⟨g,3,aB⟩=aC a3/\W.cell? ⟨g,4,aB⟩=aC a4/\W.cell? ⟨g,5,aB⟩=aC a5 :=
 ⟨h.cell (k:=0) rfl,h.cell (k:=1) rfl,h.cell (k:=2) rfl,h.cell (k:=3) rfl,h.cell (k:=4) rfl,h.cell (k:=5) rfl⟩
theorem sqC7 {W:World} {g:Nat} {e:TypeId} (h:Arr W g e (a0::a1::a2::a3::a4::a5::a6::l)):W.cell? ⟨g,0,aB⟩=aC a0/\W.cell? ⟨g,1,aB⟩=aC a1/\W.cell? ⟨g,2,aB⟩=aC a2/\W.cell? ⟨g,3,aB⟩=aC a3/\W.cell? ⟨g,4,aB⟩=aC a4/\W.cell? ⟨g,5,aB⟩=aC a5/\W.cell? ⟨g,6,aB⟩=aC a6 :=
 ⟨h.cell (k:=0) rfl,h.cell (k:=1) rfl,h.cell (k:=2) rfl,h.cell (k:=3) rfl,h.cell (k:=4) rfl,h.cell (k:=5) rfl,h.cell (k:=6) rfl⟩
theorem sqC8 {W:World} {g:Nat} {e:TypeId} {a7:Value} (h:Arr W g e (a0::a1::a2::a3::a4::a5::a6::a7::l)):W.cell? ⟨g,0,aB⟩=aC a0/\W.cell? ⟨g,1,aB⟩=aC a1/\W.cell? ⟨g,2,aB⟩=aC a2/\W.cell? ⟨g,3,aB⟩=aC a3/\W.cell? ⟨g,4,aB⟩=aC a4/\W.cell? ⟨g,5,aB⟩=aC a5/\W.cell? ⟨g,6,aB⟩=aC a6/\W.cell? ⟨g,7,aB⟩=aC a7 :=
 ⟨h.cell (k:=0) rfl,h.cell (k:=1) rfl,h.cell (k:=2) rfl,h.cell (k:=3) rfl,h.cell (k:=4) rfl,h.cell (k:=5) rfl,h.cell (k:=6) rfl,h.cell (k:=7) rfl⟩
theorem Arr.frozen (h:Arr W g e xs) (k:Nat):W.frozen? ⟨g,k,aB⟩=false:=by
 have h':W.heap[g]?=_:=h;simp [World.frozen?,h']
theorem wZ {W:World} {g:Nat} {e:TypeId} (h:Arr W g e (a::b::c::l)):W.cell? ⟨g,0,aB⟩=aC a/\W.frozen? ⟨g,0,aB⟩=false/\W.cell? ⟨g,1,aB⟩=aC b/\W.frozen? ⟨g,1,aB⟩=false/\W.cell? ⟨g,2,aB⟩=aC c/\W.frozen? ⟨g,2,aB⟩=false:=⟨h.cell rfl,h.frozen 0,h.cell rfl,h.frozen 1,h.cell rfl,h.frozen 2⟩
theorem wY {W:World} {g:Nat} {e:TypeId} (h:Arr W g e (a::b::c::d::l)):W.cell? ⟨g,0,aB⟩=aC a/\W.frozen? ⟨g,0,aB⟩=false/\W.cell? ⟨g,1,aB⟩=aC b/\W.frozen? ⟨g,1,aB⟩=false/\W.cell? ⟨g,2,aB⟩=aC c/\W.frozen? ⟨g,2,aB⟩=false/\W.cell? ⟨g,3,aB⟩=aC d/\W.frozen? ⟨g,3,aB⟩=false:=⟨h.cell rfl,h.frozen 0,h.cell rfl,h.frozen 1,h.cell rfl,h.frozen 2,h.cell rfl,h.frozen 3⟩
theorem we {W:World} {g:Nat} {e:TypeId} (h:Arr W g e (a::b::c::d::i::j::l)):W.cell? ⟨g,0,aB⟩=aC a/\W.frozen? ⟨g,0,aB⟩=false/\W.cell? ⟨g,1,aB⟩=aC b/\W.frozen? ⟨g,1,aB⟩=false/\W.cell? ⟨g,2,aB⟩=aC c/\W.frozen? ⟨g,2,aB⟩=false/\W.cell? ⟨g,3,aB⟩=aC d/\W.frozen? ⟨g,3,aB⟩=false/\W.cell? ⟨g,4,aB⟩=aC i/\W.frozen? ⟨g,4,aB⟩=false/\W.cell? ⟨g,5,aB⟩=aC j/\W.frozen? ⟨g,5,aB⟩=false:=⟨h.cell rfl,h.frozen 0,h.cell rfl,h.frozen 1,h.cell rfl,h.frozen 2,h.cell rfl,h.frozen 3,h.cell rfl,h.frozen 4,h.cell rfl,h.frozen 5⟩
theorem wc {W:World} {g:Nat} {e:TypeId} {k:Value} (h:Arr W g e (a::b::c::d::i::j::k::m::l)):W.cell? ⟨g,0,aB⟩=aC a/\W.frozen? ⟨g,0,aB⟩=false/\W.cell? ⟨g,1,aB⟩=aC b/\W.frozen? ⟨g,1,aB⟩=false/\W.cell? ⟨g,2,aB⟩=aC c/\W.frozen? ⟨g,2,aB⟩=false/\W.cell? ⟨g,3,aB⟩=aC d/\W.frozen? ⟨g,3,aB⟩=false/\W.cell? ⟨g,4,aB⟩=aC i/\W.frozen? ⟨g,4,aB⟩=false/\W.cell? ⟨g,5,aB⟩=aC j/\W.frozen? ⟨g,5,aB⟩=false/\W.cell? ⟨g,6,aB⟩=aC k/\W.frozen? ⟨g,6,aB⟩=false/\W.cell? ⟨g,7,aB⟩=aC m/\W.frozen? ⟨g,7,aB⟩=false:=⟨h.cell rfl,h.frozen 0,h.cell rfl,h.frozen 1,h.cell rfl,h.frozen 2,h.cell rfl,h.frozen 3,h.cell rfl,h.frozen 4,h.cell rfl,h.frozen 5,h.cell rfl,h.frozen 6,h.cell rfl,h.frozen 7⟩
theorem sqF2 {W:World} {g:Nat} {e:TypeId} {xs:af} (h:Arr W g e xs):W.frozen? ⟨g,0,aB⟩=false/\W.frozen? ⟨g,1,aB⟩=false :=
 ⟨h.frozen 0,h.frozen 1⟩
theorem sqF3 {W:World} {g:Nat} {e:TypeId} {xs:af} (h:Arr W g e xs):W.frozen? ⟨g,0,aB⟩=false/\W.frozen? ⟨g,1,aB⟩=false/\W.frozen? ⟨g,2,aB⟩=false :=
 ⟨h.frozen 0,h.frozen 1,h.frozen 2⟩
theorem sqF4 {W:World} {g:Nat} {e:TypeId} {xs:af} (h:Arr W g e xs):W.frozen? ⟨g,0,aB⟩=false/\W.frozen? ⟨g,1,aB⟩=false/\W.frozen? ⟨g,2,aB⟩=false/\W.frozen? ⟨g,3,aB⟩=false :=
 ⟨h.frozen 0,h.frozen 1,h.frozen 2,h.frozen 3⟩
theorem sqF6 {W:World} {g:Nat} {e:TypeId} {xs:af} (h:Arr W g e xs):W.frozen? ⟨g,0,aB⟩=false/\W.frozen? ⟨g,1,aB⟩=false/\W.frozen? ⟨g,2,aB⟩=false/\W.frozen? ⟨g,3,aB⟩=false/\W.frozen? ⟨g,4,aB⟩=false/\W.frozen? ⟨g,5,aB⟩=false :=
 ⟨h.frozen 0,h.frozen 1,h.frozen 2,h.frozen 3,h.frozen 4,h.frozen 5⟩
theorem sqF7 {W:World} {g:Nat} {e:TypeId} {xs:af} (h:Arr W g e xs):W.frozen? ⟨g,0,aB⟩=false/\W.frozen? ⟨g,1,aB⟩=false/\W.frozen? ⟨g,2,aB⟩=false/\W.frozen? ⟨g,3,aB⟩=false/\W.frozen? ⟨g,4,aB⟩=false/\W.frozen? ⟨g,5,aB⟩=false/\W.frozen? ⟨g,6,aB⟩=false :=
 ⟨h.frozen 0,h.frozen 1,h.frozen 2,h.frozen 3,h.frozen 4,h.frozen 5,h.frozen 6⟩
theorem sqF8 {W:World} {g:Nat} {e:TypeId} {xs:af} (h:Arr W g e xs):W.frozen? ⟨g,0,aB⟩=false/\W.frozen? ⟨g,1,aB⟩=false/\W.frozen? ⟨g,2,aB⟩=false/\W.frozen? ⟨g,3,aB⟩=false/\W.frozen? ⟨g,4,aB⟩=false/\W.frozen? ⟨g,5,aB⟩=false/\W.frozen? ⟨g,6,aB⟩=false/\W.frozen? ⟨g,7,aB⟩=false :=
 ⟨h.frozen 0,h.frozen 1,h.frozen 2,h.frozen 3,h.frozen 4,h.frozen 5,h.frozen 6,h.frozen 7⟩
theorem Arr.below (h:Arr W g e xs) (hb:Below W.heap.size W W'):Arr W' g e xs:=(hb.block g h.lt).trans h
theorem Arr.drew (h:Arr W g e xs):Arr W.drew g e xs:=h
theorem Arr.drewN (h:Arr W g e xs) (n:Nat):Arr (W.drewN n) g e xs:=h
theorem Arr.alloc (h:Arr W g e xs) (o:Obj):Arr (W.alloc o) g e xs:=(Below.heap_alloc _ _ _ h.lt).trans h
theorem Arr.other (h:Arr W g e xs) (hne:g≠g') (u:Value):Arr (W.setCell ⟨g',k,aB⟩ u) g e xs:=(Below.heap_setCell W _ u g hne).trans h
theorem Arr.set (h:Arr W g e xs) (hk:k<xs.length) (u:Value):Arr (W.setCell ⟨g,k,aB⟩ u) g e (xs.set k u):=by
 obtain⟨hlt,hk'⟩:=Array.getElem?_eq_some_iff.1 h;show(W.heap.modify g _)[g]?=_;rw [Array.getElem?_eq_getElem (by rw [Array.size_modify];exact hlt),Array.getElem_modify_self,hk'];simp
theorem Arr.set8 {x0 x1 x2 x3 x4 x5 x6 x7:Value} (h:Arr W g e [x0,x1,x2,x3,x4,x5,x6,x7]) (y0 y1 y2 y3 y4 y5 y6 y7:Value) :
  Arr ((((((((W.setCell ⟨g,0,aB⟩ y0).setCell ⟨g,1,aB⟩ y1).setCell ⟨g,2,aB⟩ y2).setCell ⟨g,3,aB⟩ y3).setCell ⟨g,4,aB⟩ y4).setCell ⟨g,5,aB⟩ y5).setCell ⟨g,6,aB⟩ y6).setCell ⟨g,7,aB⟩ y7) g e [y0,y1,y2,y3,y4,y5,y6,y7] :=
 ((((((((h.set (k:=0) ws y0).set (k:=1) ws y1).set (k:=2) ws y2).set (k:=3) ws y3).set (k:=4) ws y4).set (k:=5) ws y5).set (k:=6) ws y6).set (k:=7) ws y7)
theorem Arr.other8 (h:Arr W g e xs) (hne:g≠g') (y0 y1 y2 y3 y4 y5 y6 y7:Value) :
  Arr ((((((((W.setCell ⟨g',0,aB⟩ y0).setCell ⟨g',1,aB⟩ y1).setCell ⟨g',2,aB⟩ y2).setCell ⟨g',3,aB⟩ y3).setCell ⟨g',4,aB⟩ y4).setCell ⟨g',5,aB⟩ y5).setCell ⟨g',6,aB⟩ y6).setCell ⟨g',7,aB⟩ y7) g e xs :=
 ((((((((h.other hne _).other hne _).other hne _).other hne _).other hne _).other hne _).other hne _).other hne _)
theorem Below.set8 {a:World} (h:Below B a W) (hg:B<=g) (y0 y1 y2 y3 y4 y5 y6 y7:Value) :
  Below B a ((((((((W.setCell ⟨g,0,aB⟩ y0).setCell ⟨g,1,aB⟩ y1).setCell ⟨g,2,aB⟩ y2).setCell ⟨g,3,aB⟩ y3).setCell ⟨g,4,aB⟩ y4).setCell ⟨g,5,aB⟩ y5).setCell ⟨g,6,aB⟩ y6).setCell ⟨g,7,aB⟩ y7) :=
 (Below.setCell (Below.setCell (Below.setCell (Below.setCell (Below.setCell (Below.setCell (Below.setCell (Below.setCell h hg _) hg _) hg _) hg _) hg _) hg _) hg _) hg _)
theorem Rd.other {b:Nat} (h:Rd W size (aC ⟨b,off,aB⟩) n xs) (hne:b≠g) (u:Value):Rd (W.setCell ⟨g,k,aB⟩ u) size (aC ⟨b,off,aB⟩) n xs :=
 ⟨h.1,fun hn=>by
  obtain⟨b',off',e,hb,hc⟩:=h.2 hn
  cases e
  refine⟨b,off,rfl,by simpa [World.setCell] using hb,fun j v hj=> ?_⟩
  rw [<-hc j v hj]
  exact World.cell?_of_block (Below.heap_setCell W _ u b hne)⟩
theorem Rd.other8 {b:Nat} (h:Rd W size (aC ⟨b,off,aB⟩) n xs) (hne:b≠g) (y0 y1 y2 y3 y4 y5 y6 y7:Value) :
  Rd ((((((((W.setCell ⟨g,0,aB⟩ y0).setCell ⟨g,1,aB⟩ y1).setCell ⟨g,2,aB⟩ y2).setCell ⟨g,3,aB⟩ y3).setCell ⟨g,4,aB⟩ y4).setCell ⟨g,5,aB⟩ y5).setCell ⟨g,6,aB⟩ y6).setCell ⟨g,7,aB⟩ y7) size (aC ⟨b,off,aB⟩) n xs :=
 ((((((((h.other hne _).other hne _).other hne _).other hne _).other hne _).other hne _).other hne _).other hne _)
theorem Arr.range (h:Arr W g e xs):W.rangeAt g 0 xs:=fun j v hj=>by rw [Nat.zero_add];exact h.cell hj
theorem Arr.there (h:Arr W g e xs):W.there g 0 xs.length:=fun j hj=>by
 rw [Nat.zero_add];exact⟨by rw [h.cell (List.getElem?_eq_getElem hj)];rfl,h.frozen j⟩
theorem Arr.thereN (h:Arr W g e xs) (hn:xs.length=n):W.there g 0 n:=hn▸h.there
theorem Arr.setsAt:∀(ys xs zs:af) (W:World),Arr W g e (zs++xs)->ys.length=xs.length->Arr (W.setCells g zs.length ys) g e (zs++ys)
 | [], [],zs,W,h,_=>h
 | y::ys,x::xs,zs,W,h,hl=>by
  have h1:=h.set (k:=zs.length) ws y
  rw [List.set_append_right _ _ ab,Nat.sub_self,List.set_cons_zero]at h1
  have h2:=Arr.setsAt ys xs (zs++ [y]) _ (by simpa using h1) (by simpa using hl)
  rw [List.append_assoc]at h2
  simp only [List.length_append,List.length_cons,List.length_nil,Nat.zero_add]at h2
  exact h2
theorem Arr.sets {ys:af} (h:Arr W g e xs) (hl:ys.length=xs.length):Arr (W.setCells g 0 ys) g e ys:=Arr.setsAt ys xs [] W h hl
theorem Arr.otherSets (hne:g≠g'):∀(ys:af) (o:Nat) (W:World),Arr W g e xs->Arr (W.setCells g' o ys) g e xs
 | [],_,_,h=>h
 | y::ys,o,W,h=>Arr.otherSets hne ys (o+1) _ (h.other hne y)
theorem Below.sets {a:World} (hg:B<=g):∀(ys:af) (o:Nat) (W:World),Below B a W->Below B a (W.setCells g o ys)
 | [],_,_,h=>h
 | y::ys,o,W,h=>Below.sets hg ys (o+1) _ (Below.setCell h hg y)
theorem yq {base:Nat} {e:TypeId} {v:Value} {xs:af} (h:w.ownsRow base e size v n xs) (h0:0<n) :
  ∃g cap cs,v= aw (aC ⟨g,0,aB⟩) n cap/\base<=g/\Arr w g e cs/\n<=cap/\cap<=maxLen/\cs.length=cap*size/\cs.take (n*size)=xs:=by
 rcases h.2 with ⟨_,hz⟩ | ⟨g,cap,cur,rfl,hb,hg,hn,hm,hs,ht⟩
 ·omega
 ·exact⟨g,cap,cur.toList,rfl,hb,by simpa [Arr] using hg,hn,hm,by simpa using hs,ht⟩
theorem Rd.of_arr {g:Nat} {e:TypeId} {xs:af} (h:Arr w g e cs) (hx:xs.length=n*size) (ht:cs.take (n*size)=xs):Rd w size (aC ⟨g,0,aB⟩) n xs :=
 ⟨hx,fun _=>⟨g,0,rfl,h.lt,fun j u hu=>by
  rw [Nat.zero_add];refine h.cell ?_
  rw [<-ht,List.getElem?_take]at hu
  split at hu
  ·exact hu
  ·cases hu⟩⟩
theorem zd {base g k:Nat} {e:TypeId} {v:Value} {xs:af} (h:w.ownsRow base e size v n xs) (hne:v.ownBlock≠aC g):(w.setCell ⟨g,k,aB⟩ u).ownsRow base e size v n xs:=by
 refine⟨h.1,?_⟩;rcases h.2 with h1 | ⟨g',cap,cur,rfl,hb,hg,h2⟩
 ·exact .inl h1
 ·refine .inr ⟨g',cap,cur,rfl,hb,?_,h2⟩;rw [Below.heap_setCell w _ _ g' (by intro e;exact hne (by rw [e];rfl))];exact hg
theorem zb {base b':Nat} {e:TypeId} {v:Value} {xs:af} (h:w.ownsRow base e size v n xs) (hb:b'<=base):w.ownsRow b' e size v n xs:=by
 refine⟨h.1,?_⟩;rcases h.2 with h1 | ⟨g,cap,cur,h1,h2,h3⟩
 ·exact .inl h1
 ·exact .inr ⟨g,cap,cur,h1,Nat.le_trans hb h2,h3⟩
theorem zY (w:World) (e:TypeId) (c1 c2:af):∃W,W=(w.alloc (.cells c1.toArray e)).alloc (.cells c2.toArray e)/\Arr W w.heap.size e c1/\Arr W (w.heap.size+1) e c2/\Below w.heap.size w W:=by
 refine⟨_,rfl,(Arr.new w e c1).below ((Below.refl _ _).alloc ab _),?_,((Below.refl w.heap.size w).alloc ab _).alloc ((Below.refl w.heap.size w).alloc ab _).size _⟩;have:=Arr.new (w.alloc (.cells c1.toArray e)) e c2
 rwa [World.size_alloc]at this
end
section
open Go.RowKit
theorem yp (w:World) (t e ty:TypeId) (z:Value) (zs:af) (ht:P.underlying t=aC (.slice e)) (hv:∀w,(zeroValue e).run P w= .ok z w) (hz:(Builtin.zeroCells z.cells 1).toList=zs) (h1:∀u∈zs,u.oneCell'=true) (b o c:Nat)
  (hc:∀j,j<zs.length->(w.cell? ⟨b,o+j,aB⟩).isSome=true) (hf:∀j,j<zs.length->w.frozen? ⟨b,o+j,aB⟩=false) :
  (Builtin.clear_ #[t] ty #[aw (aC ⟨b,o,aB⟩) 1 c]).run P w= .ok (.tuple #[]) (w.setCells b o zs):=by
 have hst:=run_storeCells_cells (P:=P) b o zs 0 w (by simpa using hc) (by simpa using hf) h1;simp only [Nat.add_zero]at hst;simp [Builtin.clear_,run_underlying ht,hv,hz,hst]
section
variable {W:World} {g:Nat} {e:TypeId}
theorem vD (rs:af):∀(ys xs zs:af) (W:World),Arr W g e (zs++(xs++rs))->ys.length=xs.length->Arr (W.setCells g zs.length ys) g e (zs++(ys++rs))
 | [], [],zs,W,h,_=>h
 | y::ys,x::xs,zs,W,h,hl=>by
  have h1:=h.set (k:=zs.length) ws y
  rw [List.set_append_right _ _ ab,Nat.sub_self,List.cons_append,List.set_cons_zero]at h1
  have h2:=vD rs ys xs (zs++ [y]) _ (by simpa using h1) (by simpa using hl)
  rw [List.append_assoc]at h2
  simp only [List.length_append,List.length_cons,List.length_nil,Nat.zero_add]at h2
  exact h2
theorem qi:∀(ys:af) (o:Nat) (W:World),W.grownBy (W.setCells g o ys) (aC g)
 | [],_,W=>World.grownBy.refl _ _
 | y::ys,o,W=>by
  have h1:W.grownBy (W.setCell ⟨g,o,aB⟩ y) (aC g):=⟨rfl,rfl,rfl,by simp [World.setCell],fun j _ hj=>Below.heap_setCell W _ y j (fun e=>hj (by rw [e]))⟩
  exact h1.trans (qi ys (o+1) _)
theorem Qu {cur:af} {i:Nat} {zs:af} (h:Arr W g e cur) (hc:cur.length=cap*s) (hn:n<=cap) (hi:i<n) (hz:zs.length=s) :
  Arr (W.setCells g (i*s) ((cur.take (n*s)).drop ((i+1)*s))) g e (cur.take (i*s)++(cur.take (n*s)).drop ((i+1)*s)++cur.drop ((n - 1)*s)) /\
  Arr ((W.setCells g (i*s) ((cur.take (n*s)).drop ((i+1)*s))).setCells g ((n - 1)*s) zs) g e (cur.take (i*s)++(cur.take (n*s)).drop ((i+1)*s)++zs++cur.drop (n*s)):=by
 obtain⟨m,rfl⟩:∃m,n=m+1:=⟨n - 1,wj⟩
 have h1:i*s<=m*s:=Nat.mul_le_mul_right _ wj;have h2:(m+1)*s<=cap*s:=Nat.mul_le_mul_right _ hn;have h3:(m+1)*s=m*s+s:=Nat.succ_mul m s;have h4:(i+1)*s=i*s+s:=Nat.succ_mul i s;rw [Nat.add_sub_cancel];obtain⟨news,hnews⟩:=wU ((cur.take ((m+1)*s)).drop ((i+1)*s))
 have hl:news.length=m*s - i*s:=by rw [hnews,List.length_drop,List.length_take];omega
 rw [<-hnews];have e1:cur=cur.take (i*s)++((cur.drop (i*s)).take (m*s - i*s)++cur.drop (m*s)):=by
  have:cur.drop (m*s)=(cur.drop (i*s)).drop (m*s - i*s):=by rw [List.drop_drop];congr 1;omega
  rw [this,List.take_append_drop,List.take_append_drop]
 have t1:(cur.take (i*s)).length=i*s:=by rw [List.length_take];omega
 have a1:=vD (g:=g) (e:=e) (cur.drop (m*s)) news ((cur.drop (i*s)).take (m*s - i*s)) (cur.take (i*s)) W (e1▸h) (by rw [hl,List.length_take,List.length_drop];omega);rw [t1,<-List.append_assoc]at a1;refine⟨a1,?_⟩;have e2:cur.drop (m*s)=(cur.drop (m*s)).take s++cur.drop ((m+1)*s):=by
  have:cur.drop ((m+1)*s)=(cur.drop (m*s)).drop s:=by rw [List.drop_drop];congr 1
  rw [this,List.take_append_drop]
 rw [e2]at a1;have a2:=vD (g:=g) (e:=e) (cur.drop ((m+1)*s)) zs ((cur.drop (m*s)).take s) (cur.take (i*s)++news) _ a1 (by rw [hz,List.length_take,List.length_drop];omega);rw [show(cur.take (i*s)++news).length=m*s by rw [List.length_append,t1,hl];omega,<-List.append_assoc]at a2;exact a2
end
def leads (b:Nat) (cs:af):Prop:=∃a n c,(aw (aC a) n c)∈cs/\a.block=b
structure Shp (α:Type) where
 size:Nat
 R:World->α->List Value->Prop
 len:∀ {w x cs},R w x cs->cs.length=size
 one:∀ {w x cs},R w x cs->∀u∈cs,u.oneCell'=true
 live:∀ {w x cs},R w x cs->∀b,leads b cs->b<w.heap.size
 keep:∀ {w w' x cs},R w x cs->w.heap.size<=w'.heap.size->(∀b,b<w.heap.size->leads b cs->w'.heap[b]?=w.heap[b]?)->R w' x cs
theorem Rd.keepb (h:Rd w size A n xs) (hs:w.heap.size<=w'.heap.size) (hk:∀b,b<w.heap.size->(∃a,A=aC a/\a.block=b)->w'.heap[b]?=w.heap[b]?):Rd w' size A n xs :=
 ⟨h.1,fun hn=>by
  obtain⟨b,off,rfl,hb,hc⟩:=h.2 hn
  refine⟨b,off,rfl,wj,fun j u hu=> ?_⟩
  rw [<-hc j u hu]
  exact World.cell?_of_block (hk b hb ⟨_,rfl,rfl⟩)⟩
section
variable {α:Type}
abbrev Cel (α:Type):=List (α×af)
def cls (ps:Cel α):af:=ps.flatMap (·.2)
theorem ql (p:α×af) (ps:Cel α):cls (p::ps)=p.2++cls ps:=rfl
theorem yW (ps qs:Cel α):cls (ps++qs)=cls ps++cls qs:=by simp [cls]
theorem vZ:∀(ps:Cel α),(∀p∈ps,p.2.length=s)->(cls ps).length=ps.length*s
 | [],_=>by simp [cls]
 | p::ps,h=>by
  have ih:=vZ ps (fun q hq=>h q (by simp [hq]))
  rw [ql,List.length_append,ih,h p ws,List.length_cons,Nat.succ_mul];omega
theorem JE:∀(ps:Cel α) (k j:Nat) (hk:k<ps.length),(∀p∈ps,p.2.length=s)->j<s->(cls ps)[k*s+j]?=(ps[k].2)[j]?
 | p::ps,0,j,hk,h,hj=>by
  rw [ql,Nat.zero_mul,Nat.zero_add,List.getElem?_append_left (by rw [h p ws];exact hj)];rfl
 | p::ps,k+1,j,hk,h,hj=>by
  have h0:=h p ws
  have e:(k+1)*s=k*s+s:=Nat.succ_mul k s
  rw [ql,List.getElem?_append_right wj,show(k+1)*s+j - p.2.length=k*s+j by omega,JE ps k j (by simpa using hk) (fun q hq=>h q (by simp [hq])) hj]
  rfl
theorem kJ:∀(ps:Cel α) (k:Nat),(∀p∈ps,p.2.length=s)->(cls ps).take (k*s)=cls (ps.take k)
 | [],k,_=>by simp [cls]
 | p::ps,0,_=>by simp [cls]
 | p::ps,k+1,h=>by
  have h0:=h p ws
  have e:(k+1)*s=k*s+s:=Nat.succ_mul k s
  rw [ql,List.take_succ_cons,ql,<-kJ ps k (fun q hq=>h q (by simp [hq])),List.take_append,List.take_of_length_le wj,show(k+1)*s - p.2.length=k*s by omega]
theorem yh:∀(ps:Cel α) (k:Nat),(∀p∈ps,p.2.length=s)->(cls ps).drop (k*s)=cls (ps.drop k)
 | [],k,_=>by simp [cls]
 | p::ps,0,_=>by simp [cls]
 | p::ps,k+1,h=>by
  have h0:=h p ws
  have e:(k+1)*s=k*s+s:=Nat.succ_mul k s
  rw [ql,List.drop_succ_cons,<-yh ps k (fun q hq=>h q (by simp [hq])),List.drop_append,List.drop_eq_nil_of_le wj,show(k+1)*s - p.2.length=k*s by omega,List.nil_append]
theorem vY (ps:Cel α) (i:Nat) (h:∀p∈ps,p.2.length=s):(cls ps).take (i*s)++(cls ps).drop ((i+1)*s)=cls (ps.eraseIdx i):=by
 rw [kJ ps i h,yh ps (i+1) h,<-yW,List.eraseIdx_eq_take_drop_succ]
theorem z0w (ps:Cel α) (i:Nat) (p:α×af) (hi:i<ps.length) (h:∀p∈ps,p.2.length=s):cls (ps.set i p)=(cls ps).take (i*s)++p.2++(cls ps).drop ((i+1)*s):=by
 rw [kJ ps i h,yh ps (i+1) h,List.set_eq_take_append_cons_drop,if_pos hi,yW,ql,List.append_assoc]
theorem K9:∀(ps:Cel α) (i j:Nat) (u:Value) (y:α) (hi:i<ps.length) (h:∀p∈ps,p.2.length=s) (hj:j<s),(cls ps).set (i*s+j) u=cls (ps.set i (y,(ps[i].2).set j u))
 | p::ps,0,j,u,y,hi,h,hj=>by
  rw [ql,Nat.zero_mul,Nat.zero_add,List.set_append_left _ _ (by rw [h p ws];exact hj)];rfl
 | p::ps,i+1,j,u,y,hi,h,hj=>by
  have h0:=h p ws
  have e:(i+1)*s=i*s+s:=Nat.succ_mul i s
  rw [ql,List.set_append_right _ _ wj,show(i+1)*s+j - p.2.length=i*s+j by omega,K9 ps i j u y (by simpa using hi) (fun q hq=>h q (by simp [hq])) hj]
  rfl
end
section
variable {α:Type} {S:Shp α} {w w':World} {A:ae} {l m:List α}
def qK (S:Shp α) (w:World) (ps:Cel α):Prop:=∀p∈ps,S.R w p.1 p.2
theorem qK.lens {ps:Cel α} (h:qK S w ps):∀p∈ps,p.2.length=S.size:=fun p hp=>S.len (h p hp)
theorem qK.ones {ps:Cel α} (h:qK S w ps):∀u∈cls ps,u.oneCell'=true:=fun u hu=>by
 obtain⟨p,hp,hu⟩:=List.mem_flatMap.1 hu
 exact S.one (h p hp) u hu
theorem qK.keep {ps:Cel α} (h:qK S w ps) (hs:w.heap.size<=w'.heap.size) (hk:∀b,b<w.heap.size->(∃p∈ps,leads b p.2)->w'.heap[b]?=w.heap[b]?):qK S w' ps :=
 fun p hp=>S.keep (h p hp) hs fun b hb hl=>hk b hb ⟨p,hp,hl⟩
theorem qK.below {ps:Cel α} (h:qK S w ps) (hb:Below w.heap.size w w'):qK S w' ps:=h.keep hb.size fun b h _=>hb.block b h
theorem qK.grown {ps:Cel α} {g:Option Nat} (h:qK S w ps) (hg:w.grownBy w' g) (ha:∀p∈ps,∀b,g=aC b->¬leads b p.2):qK S w' ps :=
 h.keep hg.size fun b hb ⟨p,hp,hl⟩=>hg.block b hb (fun e=>ha p hp b e.symm hl)
def Rw (S:Shp α) (w:World) (A:ae) (l:List α):Prop:=∃ps:Cel α,ps.map (·.1)=l/\qK S w ps/\Rd w S.size A l.length (cls ps)
theorem Rw.below (h:Rw S w A l) (hb:Below w.heap.size w w'):Rw S w' A l:=by
 obtain⟨ps,h1,h2,h3⟩:=h;exact⟨ps,h1,h2.below hb,h3.below hb⟩
theorem Rw.nil_:Rw S w A []:=⟨[],rfl,(fun p hp=>nomatch hp),by simp [cls],fun h=>absurd h ws⟩
theorem Rw.at_ (h:Rw S w A l) (k:Nat) (hk:k<l.length):∃b off cs,A=aC ⟨b,off,aB⟩/\b<w.heap.size/\S.R w l[k] cs/\∀j u,cs[j]?=aC u->w.cell? ⟨b,off+k*S.size+j,aB⟩=aC u:=by
 obtain⟨ps,rfl,h2,h3⟩:=h;rw [List.length_map]at hk h3;obtain⟨b,off,rfl,hb,hc⟩:=h3.2 wj;have hm:=List.getElem_mem hk;refine⟨b,off,ps[k].2,rfl,hb,by rw [List.getElem_map];exact h2 _ hm,fun j u hu=> ?_⟩;have hl:=h2.lens _ hm;have hj:j<S.size:=by have:=(List.getElem?_eq_some_iff.1 hu).1;omega
 rw [Nat.add_assoc];exact hc _ u (by rw [JE ps k j hk h2.lens hj];exact hu)
theorem Rw.pre (h:Rw S w A l) (hk:k<=l.length):Rw S w A (l.take k):=by
 obtain⟨ps,rfl,h2,h3⟩:=h;rw [List.length_map]at hk h3;have h4:=h3.pre (k:=k) hk;rw [kJ ps k h2.lens]at h4;refine⟨ps.take k,by rw [List.map_take],fun p hp=>h2 p (List.mem_of_mem_take hp),?_⟩
 rwa [List.length_take,List.length_map,Nat.min_eq_left hk]
theorem Rw.cut (h:Rw S w A l) (hk:k<=l.length) (hc:l.length<=cap):Rw S w (if cap=k then A else A.map (·.add (k*S.size))) (l.drop k):=by
 obtain⟨ps,rfl,h2,h3⟩:=h;rw [List.length_map]at hk h3 hc;have h4:=h3.cut (k:=k) hk hc;rw [yh ps k h2.lens]at h4;refine⟨ps.drop k,by rw [List.map_drop],fun p hp=>h2 p (List.mem_of_mem_drop hp),?_⟩
 rwa [List.length_drop,List.length_map]
def RwO (S:Shp α) (e:TypeId) (w:World) (base:Nat) (v:Value) (l:List α):Prop :=
 ∃ps:Cel α,ps.map (·.1)=l/\qK S w ps/\w.ownsRow base e S.size v l.length (cls ps)/\∀p∈ps,∀b,v.ownBlock=aC b->¬leads b p.2
variable {e:TypeId} {base base':Nat} {v v':Value}
theorem RwO.rows (h:RwO S e w base v l):∃A c,v= aw A l.length c/\l.length<=c/\c<=maxLen/\Rw S w A l:=by
 obtain⟨ps,h1,h2,h3,h4⟩:=h;have h5:=h3.2;obtain⟨A,c,rfl,hc,hr⟩:=Rd.of_own' h3;refine⟨A,c,rfl,hc,?_,ps,h1,h2,hr⟩;rcases h5 with ⟨e1,e2⟩ | ⟨_,cap,_,e1,_,_,_,hm,_⟩
 ·injection e1 with _ _ e3;subst e3;exact Nat.zero_le _
 ·injection e1 with _ _ e3;subst e3;exact hm
theorem RwO.below (h:RwO S e w base v l) (hb:Below w.heap.size w w'):RwO S e w' base v l:=by
 obtain⟨ps,h1,h2,h3,h4⟩:=h;exact⟨ps,h1,h2.below hb,zc h3 hb,h4⟩
theorem RwO.nil_ (h:w.ownsRow base e S.size v 0 []):RwO S e w base v []:=⟨[],rfl,(fun p hp=>nomatch hp),h,(fun p hp=>nomatch hp)⟩
theorem RwO.lower (h:RwO S e w base v l) (hb:base'<=base):RwO S e w base' v l:=by
 obtain⟨ps,h1,h2,h3,h4⟩:=h;refine⟨ps,h1,h2,⟨h3.1,h3.2.imp id ?_⟩,h4⟩;rintro⟨g,cap,cur,e1,e2,e3⟩;exact⟨g,cap,cur,e1,Nat.le_trans hb e2,e3⟩
theorem RwO.blk (h:RwO S e w base v l) (hg:v.ownBlock=aC g):base<=g/\g<w.heap.size:=by
 obtain⟨ps,h1,h2,h3,h4⟩:=h;exact h3.lt g hg
theorem RwO.nonnil (h:RwO S e w base v l) (h0:0<l.length):∃g c,v= aw (aC ⟨g,0,aB⟩) l.length c/\base<=g/\g<w.heap.size/\l.length<=c/\c<=maxLen:=by
 obtain⟨ps,h1,h2,h3,h4⟩:=h;have hlt:=h3.lt;rcases h3.2 with ⟨_,e2⟩ | ⟨g,cap,cur,rfl,hb,_,hn,hm,_⟩
 ·omega
 ·exact⟨g,cap,rfl,hb,(hlt g rfl).2,hn,hm⟩
theorem RwO.other (h:RwO S e w base v l) {g:Option Nat} (hg:w.grownBy w' g) (hv:∀b,g=aC b->v.ownBlock≠aC b) (hl:∀ps:Cel α,qK S w ps->ps.map (·.1)=l->(∀p∈ps,∀b,v.ownBlock=aC b->¬leads b p.2)->w.ownsRow base e S.size v l.length (cls ps)->∀p∈ps,∀b,g=aC b->¬leads b p.2):RwO S e w' base v l:=by
 obtain⟨ps,h1,h2,h3,h4⟩:=h;refine⟨ps,h1,h2.grown hg (hl ps h2 h1 h4 h3),h3.kept hg ?_,h4⟩;cases hb:v.ownBlock with
 | none=>exact .inl rfl
 | some b=>exact .inr (fun e1=>hv b e1.symm hb)
theorem RwO.snoc {ps:Cel α} {x:α} (h1:ps.map (·.1)=l) (h2:qK S w ps) (h3:w.ownsRow base e S.size v l.length (cls ps)) (h4:∀p∈ps,∀b,v.ownBlock=aC b->¬leads b p.2)
  (hx:S.R w x cs) (hx4:∀b,v.ownBlock=aC b->¬leads b cs)
  (ho:w'.ownsRow base e S.size v' (l.length+1) (cls ps++cs)) (hg:w.grownBy w' v.ownBlock) (hv:v'.ownBlock=v.ownBlock\/∃g,v'.ownBlock=aC g/\w.heap.size<=g):RwO S e w' base v' (l++ [x]):=by
 have hall:∀p∈ps++ [(x,cs)],(∀b,v.ownBlock=aC b->¬leads b p.2)/\(∀b,leads b p.2->b<w.heap.size):=fun p hp=>by
  rcases List.mem_append.1 hp with h | h
  ·exact⟨h4 p h,S.live (h2 p h)⟩
  ·have:=List.mem_singleton.1 h;subst this;exact⟨hx4,S.live hx⟩
 refine⟨ps++ [(x,cs)],by simp [h1],?_,?_,fun p hp b hb hl=> ?_⟩
 ·refine qK.grown (w:=w) (g:=v.ownBlock) (fun p hp=> ?_) hg (fun p hp b hb=>(hall p hp).1 b hb);rcases List.mem_append.1 hp with h | h
  ·exact h2 p h
  ·have:=List.mem_singleton.1 h;subst this;exact hx
 ·rw [yW,List.length_append];simpa [cls] using ho
 ·rcases hv with e1 | ⟨g,e1,hge⟩
  ·exact(hall p hp).1 b (by rw [<-e1];exact hb) hl
  ·rw [e1]at hb;cases hb
   have:=(hall p hp).2 _ hl;omega
theorem RwO.erase {i:Nat} (h:RwO S e w base (aw (aC ⟨g,0,aB⟩) l.length cap) l) (hi:i<l.length) :
  ∃xs,w.ownsRow base e S.size (aw (aC ⟨g,0,aB⟩) l.length cap) l.length xs/\(∀u∈xs,u.oneCell'=true) /\
   ∀w',w'.ownsRow base e S.size (aw (aC ⟨g,0,aB⟩) (l.length - 1) cap) (l.length - 1) (xs.take (i*S.size)++xs.drop ((i+1)*S.size))->w.grownBy w' (aC g) ->
    RwO S e w' base (aw (aC ⟨g,0,aB⟩) (l.length - 1) cap) (l.eraseIdx i):=by
 obtain⟨ps,h1,h2,h3,h4⟩:=h;refine⟨_,h3,h2.ones,fun w' ho hg=> ?_⟩;rw [vY ps i h2.lens]at ho;have hl:(l.eraseIdx i).length=l.length - 1:=List.length_eraseIdx_of_lt hi;refine⟨ps.eraseIdx i,by rw [<-h1,List.eraseIdx_eq_take_drop_succ,List.eraseIdx_eq_take_drop_succ,List.map_append,List.map_take,List.map_drop],qK.grown (fun p hp=>h2 p (List.mem_of_mem_eraseIdx hp)) hg (fun p hp b hb=>h4 p (List.mem_of_mem_eraseIdx hp) b hb),by rw [hl];exact ho,fun p hp b hb=>h4 p (List.mem_of_mem_eraseIdx hp) b hb⟩
theorem xT {w:World} {base:Nat} {e:TypeId} (h:w.ownsRow base e s (aw (aC ⟨g,0,aB⟩) n cap) n xs) (hk:k<xs.length) (u:Value) :
  (w.setCell ⟨g,k,aB⟩ u).ownsRow base e s (aw (aC ⟨g,0,aB⟩) n cap) n (xs.set k u)/\w.grownBy (w.setCell ⟨g,k,aB⟩ u) (aC g)/\(∃v0,w.cell? ⟨g,k,aB⟩=aC v0)/\w.frozen? ⟨g,k,aB⟩=false:=by
 have hgr:w.grownBy (w.setCell ⟨g,k,aB⟩ u) (aC g):=⟨rfl,rfl,rfl,by simp [World.setCell],fun j _ hj=>Below.heap_setCell w _ u j (fun e=>hj (by rw [e]))⟩
 obtain⟨hl,h2⟩:=h;rcases h2 with ⟨e1,_⟩ | ⟨g',cap',cur,e1,hb,hg,hn,hm,hs,ht⟩
 ·cases e1
 injection e1 with e1 _ e3;injection e1 with e1;injection e1 with e1;subst e1 e3;have hA:Arr w g e cur.toList:=by simpa [Arr] using hg
 have hkc:k<cur.toList.length:=by
  rw [<-ht,List.length_take]at hk;omega
 have hA2:=hA.set hkc u;refine⟨⟨by rw [List.length_set];exact hl,.inr ⟨g,cap,_,rfl,hb,hA2,hn,hm,by simp [hs],?_⟩⟩,hgr,⟨_,hA.cell (List.getElem?_eq_getElem hkc)⟩,hA.frozen k⟩;rw [List.take_set,ht]
theorem RwO.set1 {i j:Nat} {y:α} (h:RwO S e w base (aw (aC ⟨g,0,aB⟩) l.length cap) l) (hi:i<l.length) (hj:j<S.size)
  (hR:∀W cs,S.R W l[i] cs->S.R W y (cs.set j u)) (hlead:∀b,leads b [u]->b≠g) :
  (∃v0,w.cell? ⟨g,i*S.size+j,aB⟩=aC v0)/\w.frozen? ⟨g,i*S.size+j,aB⟩=false /\
   RwO S e (w.setCell ⟨g,i*S.size+j,aB⟩ u) base (aw (aC ⟨g,0,aB⟩) l.length cap) (l.set i y)/\w.grownBy (w.setCell ⟨g,i*S.size+j,aB⟩ u) (aC g):=by
 obtain⟨ps,h1,h2,h3,h4⟩:=h;have hpl:ps.length=l.length:=by rw [<-h1,List.length_map]
 have hip:i<ps.length:=wj;have hk:i*S.size+j<(cls ps).length:=by
  rw [vZ ps h2.lens];have e1:(i+1)*S.size<=ps.length*S.size:=Nat.mul_le_mul_right _ hip;rw [Nat.succ_mul]at e1;omega
 obtain⟨k1,k2,k3,k4⟩:=xT h3 hk u;refine⟨k3,k4,⟨ps.set i (y,(ps[i].2).set j u),?_,?_,?_,?_⟩,k2⟩
 ·rw [List.map_set,h1]
 ·have hlds:∀p∈ps.set i (y,(ps[i].2).set j u),∀b,aC g=aC b->¬leads b p.2:=fun p hp b hb hl=>by
   rcases List.mem_or_eq_of_mem_set hp with h | h
   ·exact h4 p h b hb hl
   ·subst h;obtain⟨a,n,c,hm,e2⟩:=hl;rcases List.mem_or_eq_of_mem_set hm with h | h
    ·exact h4 _ (List.getElem_mem hip) b hb ⟨a,n,c,h,e2⟩
    ·cases hb
     exact hlead g ⟨a,n,c,by simp [h],e2⟩ rfl
  refine qK.grown (w:=w) (g:=aC g) (fun p hp=> ?_) k2 hlds;rcases List.mem_or_eq_of_mem_set hp with h | h
  ·exact h2 p h
  ·subst h;have h5:=h2 _ (List.getElem_mem hip);have h6:(ps[i]).1=l[i]:=by
    have h7:=congrArg (fun x=>x[i]?) h1;simp only [List.getElem?_map,List.getElem?_eq_getElem hip,List.getElem?_eq_getElem hi,Option.map_some,Option.some.injEq]at h7;exact h7
   rw [h6]at h5;exact hR w _ h5
 ·rw [List.length_set,<-K9 ps i j u y hip h2.lens hj];exact k1
 ·intro p hp b hb hl;rcases List.mem_or_eq_of_mem_set hp with h | h
  ·exact h4 p h b hb hl
  ·subst h;obtain⟨a,n,c,hm,e2⟩:=hl;rcases List.mem_or_eq_of_mem_set hm with h | h
   ·exact h4 _ (List.getElem_mem hip) b hb ⟨a,n,c,h,e2⟩
   ·cases hb
    exact hlead g ⟨a,n,c,by simp [h],e2⟩ rfl
end
structure Sl (w:World) (size:Nat) (A:ae) (n c:Nat) (xs:af):Prop where
 rd:Rd w size A n xs
 cap:n<=c
 max:c<=maxLen
 live:∀a,A=aC a->a.block<w.heap.size
theorem Sl.keep {c:Nat} (h:Sl w size A n c xs) (hs:w.heap.size<=w'.heap.size) (hk:∀b,b<w.heap.size->(∃a,A=aC a/\a.block=b)->w'.heap[b]?=w.heap[b]?):Sl w' size A n c xs :=
 ⟨h.rd.keepb hs hk,h.cap,h.max,fun a ha=>Nat.lt_of_lt_of_le (h.live a ha) hs⟩
theorem Sl.below {c:Nat} (h:Sl w size A n c xs) (hb:Below w.heap.size w w'):Sl w' size A n c xs:=h.keep hb.size fun b h _=>hb.block b h
theorem Sl.nil_ (w:World) (size:Nat):Sl w size aB 0 0 []:=⟨Rd.nil_,Nat.le_refl _,by simp [maxLen],fun a h=>by cases h⟩
theorem Sl.of_own (h:w.ownsRow base e size v n xs):∃A c,v= aw A n c/\Sl w size A n c xs/\∀a,A=aC a->base<=a.block:=by
 have hlt:=h.lt;rcases h.2 with ⟨rfl,rfl⟩ | ⟨g,cap,cur,rfl,hb,_,hn,hm,_⟩
 ·exact⟨aB,0,rfl,⟨Rd.of_own h,Nat.le_refl _,Nat.zero_le _,fun a ha=>by cases ha⟩,fun a ha=>by cases ha⟩
 ·exact⟨_,cap,rfl,⟨Rd.of_own h,hn,hm,fun a ha=>by cases ha;exact(hlt g rfl).2⟩,fun a ha=>by cases ha;exact hb⟩
end
end Go.Proofs.YtcjndgldjhmbgaaGreat
namespace Go.Proofs
open Go.Shelf
def Tryz.lays169_ren:Go.Shelf.Ren:=⟨fun | 169=>117 | n=>n,fun | 70=>175 | 9=>9 | 0=>0 | 72=>177 | 37=>44 | 127=>224 | 3=>3 | 5=>5 | n=>n,fun | n=>n⟩
theorem Tryz.lays169:Go.Proofs.Lays.n169 zZZ Tryz.lays169_ren:= {
 mixed:=by kernel_rfl
 f169:=Tryz.func117.trans (congrArg aC (by kernel_rfl))
 t0:=Tryz.underlying0
 a0:=Tryz.isAgg0
 z0:=Tryz.sizeOf0
 v0:=Tryz.zeroValue0
 t3:=Tryz.underlying3
 a3:=Tryz.isAgg3
 z3:=Tryz.sizeOf3
 v3:=Tryz.zeroValue3
 t9:=Tryz.underlying9
 a9:=Tryz.isAgg9
 z9:=Tryz.sizeOf9
 v9:=Tryz.zeroValue9
 t37:=Tryz.underlying44
 a37:=Tryz.isAgg44
 z37:=Tryz.sizeOf44
 v37:=Tryz.zeroValue44
 t70:=Tryz.underlying175
 a70:=Tryz.isAgg175
 z70:=Tryz.sizeOf175
 v70:=Tryz.zeroValue175
 t72:=Tryz.underlying177
 a72:=Tryz.isAgg177
 z72:=Tryz.sizeOf177
 v72:=Tryz.zeroValue177
 t127:=Tryz.underlying224
 a127:=Tryz.isAgg224
 z127:=Tryz.sizeOf224
 v127:=Tryz.zeroValue224 }
theorem Tryz.Builder_Extra_169:Builder.Extra zZZ Tryz.lays169_ren:= {
 sizeBuilder:=by kernel_rfl
 liesBuilder:=by kernel_rfl
 t5:=Tryz.underlying5
 a5:=Tryz.isAgg5
 z5:=Tryz.sizeOf5
 v5:=Tryz.zeroValue5
 infoByte:=by kernel_rfl
 cellsByte:=by kernel_rfl
 sizeByte:=by kernel_rfl
 neB5:=by decide }
open Go.RowKit in
theorem Tryz.Builder_String_any (B b:Nat) (l:List UInt8) (w:World) (h:Lib.IsBuilder 177 5 B b (Lib.byteCells l) w) (hBw:B<=w.heap.size) :
  Calls zZZ 117 #[.pointer (aC ⟨b,0,aB⟩)] w fun e w'=>e= .returned (az ⟨l.toArray⟩)/\Below B w w':=Any.Builder_String_any Tryz.lays169 Tryz.Builder_Extra_169 B b l w h hBw
def Tryz.lays106_ren:Go.Shelf.Ren:=⟨fun | 106=>205 | 213=>220 | 265=>229 | n=>n,fun | 9=>9 | 3=>3 | n=>n,fun | n=>n⟩
theorem Tryz.lays106:Go.Proofs.Lays.n106 zZZ Tryz.lays106_ren:= {
 mixed:=by kernel_rfl
 f106:=Tryz.func205.trans (congrArg aC (by kernel_rfl))
 f213:=Tryz.func220.trans (congrArg aC (by kernel_rfl))
 f265:=Tryz.func229.trans (congrArg aC (by kernel_rfl))
 t3:=Tryz.underlying3
 a3:=Tryz.isAgg3
 z3:=Tryz.sizeOf3
 v3:=Tryz.zeroValue3
 t9:=Tryz.underlying9
 a9:=Tryz.isAgg9
 z9:=Tryz.sizeOf9
 v9:=Tryz.zeroValue9 }
open Go.RowKit in
theorem Tryz.strings_Compare (a b:ByteArray) (w:World) :
  Calls zZZ 205 #[az a,az b] w fun e w'=>e= .returned (ax .i64 (Lib.compareBytes a.data.toList b.data.toList))/\w'=w:=Any.strings_Compare Tryz.lays106 a b w
def Tryz.lays137_ren:Go.Shelf.Ren:=⟨fun | 137=>114 | 217=>155 | 266=>175 | n=>n,fun | 9=>9 | 5=>5 | 3=>3 | n=>n,fun | n=>n⟩
theorem Tryz.lays137:Go.Proofs.Lays.n137 zZZ Tryz.lays137_ren:= {
 mixed:=by kernel_rfl
 f137:=Tryz.func114.trans (congrArg aC (by kernel_rfl))
 f217:=Tryz.func155.trans (congrArg aC (by kernel_rfl))
 f266:=Tryz.func175.trans (congrArg aC (by kernel_rfl))
 t3:=Tryz.underlying3
 a3:=Tryz.isAgg3
 z3:=Tryz.sizeOf3
 v3:=Tryz.zeroValue3
 t5:=Tryz.underlying5
 a5:=Tryz.isAgg5
 z5:=Tryz.sizeOf5
 v5:=Tryz.zeroValue5
 t9:=Tryz.underlying9
 a9:=Tryz.isAgg9
 z9:=Tryz.sizeOf9
 v9:=Tryz.zeroValue9 }
open Go.RowKit in
theorem Tryz.strings_IndexByte (s:ByteArray) (c:Int) (w:World) :
  Calls zZZ 114 #[az s,ax .u8 c] w fun e w'=>e= .returned (ax .i64 (Lib.indexByte s.data.toList c.toNat.toUInt8))/\w'=w:=Any.strings_IndexByte Tryz.lays137 s c w
def Tryz.lays190_ren:Go.Shelf.Ren:=⟨fun | 190=>148 | 125=>173 | 258=>172 | 128=>201 | 129=>202 | 302=>192 | 303=>193 | 304=>194 | 305=>195 | 306=>196 | 307=>197 | 308=>198 | 309=>199 | 310=>200 | 333=>214 | 329=>215 | 330=>216 | 334=>217 | 335=>218 | 336=>219 | 344=>228 | n=>n,fun | 31=>28 | 9=>9 | 3=>3 | 46=>208 | 0=>0 | 51=>129 | 53=>128 | 4=>4 | 183=>263 | 182=>262 | 131=>268 | 5=>5 | 218=>284 | 222=>288 | 228=>294 | 229=>295 | n=>n,fun | n=>n⟩
theorem Tryz.lays190:Go.Proofs.Lays.n190 zZZ Tryz.lays190_ren:= {
 mixed:=by kernel_rfl
 f125:=Tryz.func173.trans (congrArg aC (by kernel_rfl))
 f128:=Tryz.func201.trans (congrArg aC (by kernel_rfl))
 f129:=Tryz.func202.trans (congrArg aC (by kernel_rfl))
 f190:=Tryz.func148.trans (congrArg aC (by kernel_rfl))
 f258:=Tryz.func172.trans (congrArg aC (by kernel_rfl))
 f302:=Tryz.func192.trans (congrArg aC (by kernel_rfl))
 f303:=Tryz.func193.trans (congrArg aC (by kernel_rfl))
 f304:=Tryz.func194.trans (congrArg aC (by kernel_rfl))
 f305:=Tryz.func195.trans (congrArg aC (by kernel_rfl))
 f306:=Tryz.func196.trans (congrArg aC (by kernel_rfl))
 f307:=Tryz.func197.trans (congrArg aC (by kernel_rfl))
 f308:=Tryz.func198.trans (congrArg aC (by kernel_rfl))
 f309:=Tryz.func199.trans (congrArg aC (by kernel_rfl))
 f310:=Tryz.func200.trans (congrArg aC (by kernel_rfl))
 f329:=Tryz.func215.trans (congrArg aC (by kernel_rfl))
 f330:=Tryz.func216.trans (congrArg aC (by kernel_rfl))
 f333:=Tryz.func214.trans (congrArg aC (by kernel_rfl))
 f334:=Tryz.func217.trans (congrArg aC (by kernel_rfl))
 f335:=Tryz.func218.trans (congrArg aC (by kernel_rfl))
 f336:=Tryz.func219.trans (congrArg aC (by kernel_rfl))
 f344:=Tryz.func228.trans (congrArg aC (by kernel_rfl))
 t0:=Tryz.underlying0
 a0:=Tryz.isAgg0
 z0:=Tryz.sizeOf0
 v0:=Tryz.zeroValue0
 t3:=Tryz.underlying3
 a3:=Tryz.isAgg3
 z3:=Tryz.sizeOf3
 v3:=Tryz.zeroValue3
 t4:=Tryz.underlying4
 a4:=Tryz.isAgg4
 z4:=Tryz.sizeOf4
 v4:=Tryz.zeroValue4
 t5:=Tryz.underlying5
 a5:=Tryz.isAgg5
 z5:=Tryz.sizeOf5
 v5:=Tryz.zeroValue5
 t9:=Tryz.underlying9
 a9:=Tryz.isAgg9
 z9:=Tryz.sizeOf9
 v9:=Tryz.zeroValue9
 t31:=Tryz.underlying28
 a31:=Tryz.isAgg28
 z31:=Tryz.sizeOf28
 v31:=Tryz.zeroValue28
 t46:=Tryz.underlying208
 a46:=Tryz.isAgg208
 z46:=Tryz.sizeOf208
 v46:=Tryz.zeroValue208
 t51:=Tryz.underlying129
 a51:=Tryz.isAgg129
 z51:=Tryz.sizeOf129
 v51:=Tryz.zeroValue129
 t53:=Tryz.underlying128
 a53:=Tryz.isAgg128
 z53:=Tryz.sizeOf128
 v53:=Tryz.zeroValue128
 t131:=Tryz.underlying268
 a131:=Tryz.isAgg268
 z131:=Tryz.sizeOf268
 v131:=Tryz.zeroValue268
 t182:=Tryz.underlying262
 a182:=Tryz.isAgg262
 z182:=Tryz.sizeOf262
 v182:=Tryz.zeroValue262
 t183:=Tryz.underlying263
 a183:=Tryz.isAgg263
 z183:=Tryz.sizeOf263
 v183:=Tryz.zeroValue263
 t218:=Tryz.underlying284
 a218:=Tryz.isAgg284
 z218:=Tryz.sizeOf284
 v218:=Tryz.zeroValue284
 t222:=Tryz.underlying288
 a222:=Tryz.isAgg288
 z222:=Tryz.sizeOf288
 v222:=Tryz.zeroValue288
 t228:=Tryz.underlying294
 a228:=Tryz.isAgg294
 z228:=Tryz.sizeOf294
 v228:=Tryz.zeroValue294
 t229:=Tryz.underlying295
 a229:=Tryz.isAgg295
 z229:=Tryz.sizeOf295
 v229:=Tryz.zeroValue295 }
open Go.Sort Go.RowKit in
theorem Tryz.slices_Sort_string (blk off cap:Nat) (ss:List (List UInt8)) (w:World) (hH:Holds encStr w blk off ss.toArray) (hblk:blk<w.heap.size) (hsz:ss.length<4611686018427387904) :
  Calls zZZ 148 #[aw (aC ⟨blk,off,aB⟩) ss.length cap] w fun e w' =>
   e= .returned (.tuple #[])/\∃n os,w'=grow (putRow encStr (Sort.ahead w n) blk off (ss.mergeSort fun x y=>decide (x<=y)).toArray) os:=Any.slices_Sort_string Tryz.lays190 blk off cap ss w hH hblk hsz
def Tryz.lays107_ren:Go.Shelf.Ren:=⟨fun | 107=>29 | 108=>50 | n=>n,fun | 28=>46 | 3=>3 | 4=>4 | 0=>0 | n=>n,fun | n=>n⟩
theorem Tryz.lays107:Go.Proofs.Lays.n107 zZZ Tryz.lays107_ren:= {
 mixed:=by kernel_rfl
 f107:=Tryz.func29.trans (congrArg aC (by kernel_rfl))
 f108:=Tryz.func50.trans (congrArg aC (by kernel_rfl))
 t0:=Tryz.underlying0
 a0:=Tryz.isAgg0
 z0:=Tryz.sizeOf0
 v0:=Tryz.zeroValue0
 t3:=Tryz.underlying3
 a3:=Tryz.isAgg3
 z3:=Tryz.sizeOf3
 v3:=Tryz.zeroValue3
 t4:=Tryz.underlying4
 a4:=Tryz.isAgg4
 z4:=Tryz.sizeOf4
 v4:=Tryz.zeroValue4
 t28:=Tryz.underlying46
 a28:=Tryz.isAgg46
 z28:=Tryz.sizeOf46
 v28:=Tryz.zeroValue46 }
open Go.Lib in
theorem Tryz.slices_Contains_int (b off n c:Nat) (zs:List Int) (x:Int) (w:World) (hz:n<=zs.length) (hbig:n<=9223372036854775807) (hc:∀j,j<zs.length->w.cell? ⟨b,off+j,aB⟩=aC (ax .i64 (zs.getD j 0))) :
  Calls zZZ 29 #[aw (aC ⟨b,off,aB⟩) n c,ax .i64 x] w fun e w'=>e= .returned (.bool ((zs.take n).contains x))/\w'=w:=Any.slices_Contains_int Tryz.lays107 b off n c zs x w hz hbig hc
open Go.Lib in
theorem Tryz.slices_Contains_int_empty (a:Option Addr) (c:Nat) (x:Int) (w:World) :
  Calls zZZ 29 #[aw a 0 c,ax .i64 x] w fun e w'=>e= .returned (.bool false)/\w'=w:=Any.slices_Contains_int_empty Tryz.lays107 a c x w
def Tryz.lays110_ren:Go.Shelf.Ren:=⟨fun | 110=>110 | 109=>153 | n=>n,fun | 31=>28 | 9=>9 | 4=>4 | 3=>3 | 0=>0 | n=>n,fun | n=>n⟩
theorem Tryz.lays110:Go.Proofs.Lays.n110 zZZ Tryz.lays110_ren:= {
 mixed:=by kernel_rfl
 f109:=Tryz.func153.trans (congrArg aC (by kernel_rfl))
 f110:=Tryz.func110.trans (congrArg aC (by kernel_rfl))
 t0:=Tryz.underlying0
 a0:=Tryz.isAgg0
 z0:=Tryz.sizeOf0
 v0:=Tryz.zeroValue0
 t3:=Tryz.underlying3
 a3:=Tryz.isAgg3
 z3:=Tryz.sizeOf3
 v3:=Tryz.zeroValue3
 t4:=Tryz.underlying4
 a4:=Tryz.isAgg4
 z4:=Tryz.sizeOf4
 v4:=Tryz.zeroValue4
 t9:=Tryz.underlying9
 a9:=Tryz.isAgg9
 z9:=Tryz.sizeOf9
 v9:=Tryz.zeroValue9
 t31:=Tryz.underlying28
 a31:=Tryz.isAgg28
 z31:=Tryz.sizeOf28
 v31:=Tryz.zeroValue28 }
open Go.Lib in
theorem Tryz.slices_Contains_string (b off n c:Nat) (zs:List ByteArray) (x:ByteArray) (w:World) (hz:n<=zs.length) (hbig:n<=9223372036854775807) (hc:∀j,j<zs.length->w.cell? ⟨b,off+j,aB⟩=aC (az (zs.getD j ByteArray.empty))) :
  Calls zZZ 110 #[aw (aC ⟨b,off,aB⟩) n c,az x] w fun e w'=>e= .returned (.bool (Lib.containsS (zs.take n) x))/\w'=w:=Any.slices_Contains_string Tryz.lays110 b off n c zs x w hz hbig hc
open Go.Lib in
theorem Tryz.slices_Contains_string_empty (a:Option Addr) (c:Nat) (x:ByteArray) (w:World) :
  Calls zZZ 110 #[aw a 0 c,az x] w fun e w'=>e= .returned (.bool false)/\w'=w:=Any.slices_Contains_string_empty Tryz.lays110 a c x w
def Tryz.laysNm216_ren:Go.Shelf.Ren:=⟨fun | 16=>84 | n=>n,fun | 24=>28 | 9=>9 | 4=>4 | n=>n,fun | n=>n⟩
theorem Tryz.laysNm216:Go.Proofs.Lays2.n16 zZZ Tryz.laysNm216_ren:= {
 mixed:=by kernel_rfl
 f16:=Tryz.func84.trans (congrArg aC (by kernel_rfl))
 t4:=Tryz.underlying4
 a4:=Tryz.isAgg4
 z4:=Tryz.sizeOf4
 v4:=Tryz.zeroValue4
 t9:=Tryz.underlying9
 a9:=Tryz.isAgg9
 z9:=Tryz.sizeOf9
 v9:=Tryz.zeroValue9
 t24:=Tryz.underlying28
 a24:=Tryz.isAgg28
 z24:=Tryz.sizeOf28
 v24:=Tryz.zeroValue28
 i9:=by kernel_rfl }
open Go.RowKit Go.Lib in
theorem Tryz.slices_Clone_string (b off n c:Nat) (zs:List ByteArray) (w:World) (hz:n<=zs.length) (hbig:n*16<=140737488355328) (hc:∀j,j<zs.length->w.cell? ⟨b,off+j,aB⟩=aC (az (zs.getD j ByteArray.empty))) :
  Calls zZZ 84 #[aw (aC ⟨b,off,aB⟩) n c] w fun e w'=>∃v',e= .returned v'/\w'.ownsRow w.heap.size 9 1 v' n ((zs.take n).map (az))/\v'≠ aw aB 0 0/\Below w.heap.size w w':=Any.slices_Clone_string Tryz.laysNm216 b off n c zs w hz hbig hc
open Go.RowKit Go.Lib in
theorem Tryz.slices_Clone_string_nil (n c:Nat) (w:World) :
  Calls zZZ 84 #[aw aB n c] w fun e w'=>e= .returned (aw aB 0 0)/\w'=w:=Any.slices_Clone_string_nil Tryz.laysNm216 n c w
open Go.RowKit Go.Lib in
theorem Tryz.slices_Clone_string_zero (a:Addr) (c:Nat) (w:World) :
  Calls zZZ 84 #[aw (aC a) 0 c] w fun e w'=>∃v',e= .returned v'/\w'.ownsRow w.heap.size 9 1 v' 0 []/\v'≠ aw aB 0 0/\Below w.heap.size w w':=Any.slices_Clone_string_zero Tryz.laysNm216 a c w
def Tryz.lays194_ren:Go.Shelf.Ren:=⟨fun | 194=>174 | n=>n,fun | 31=>28 | 9=>9 | 3=>3 | 4=>4 | 0=>0 | n=>n,fun | n=>n⟩
theorem Tryz.lays194:Go.Proofs.Lays.n194 zZZ Tryz.lays194_ren:= {
 mixed:=by kernel_rfl
 f194:=Tryz.func174.trans (congrArg aC (by kernel_rfl))
 t0:=Tryz.underlying0
 a0:=Tryz.isAgg0
 z0:=Tryz.sizeOf0
 v0:=Tryz.zeroValue0
 t3:=Tryz.underlying3
 a3:=Tryz.isAgg3
 z3:=Tryz.sizeOf3
 v3:=Tryz.zeroValue3
 t4:=Tryz.underlying4
 a4:=Tryz.isAgg4
 z4:=Tryz.sizeOf4
 v4:=Tryz.zeroValue4
 t9:=Tryz.underlying9
 a9:=Tryz.isAgg9
 z9:=Tryz.sizeOf9
 v9:=Tryz.zeroValue9
 t31:=Tryz.underlying28
 a31:=Tryz.isAgg28
 z31:=Tryz.sizeOf28
 v31:=Tryz.zeroValue28 }
open Go.RowKit Go.Lib Go.Sort in
theorem Tryz.slices_Compact_string (blk off cap:Nat) (zs:List (List UInt8)) (w:World) (hH:Holds encStr w blk off zs.toArray) (hsz:zs.length<=9223372036854775807) (hcap:zs.length<=cap) :
  Calls zZZ 174 #[aw (aC ⟨blk,off,aB⟩) zs.length cap] w fun e w'=>e= .returned (aw (aC ⟨blk,off,aB⟩) (Lib.compact zs).length cap)/\∃q,w'=putRow encStr (Sort.ahead w q) blk off (Lib.compact zs++List.replicate (zs.length - (Lib.compact zs).length) []).toArray:=Any.slices_Compact_string Tryz.lays194 blk off cap zs w hH hsz hcap
open Go.RowKit Go.Lib Go.Sort in
theorem Tryz.slices_Compact_string_empty (a:Option Addr) (cap:Nat) (w:World) :
  Calls zZZ 174 #[aw a 0 cap] w fun e w'=>e= .returned (aw a 0 cap)/\w'=w:=Any.slices_Compact_string_empty Tryz.lays194 a cap w
open Go.RowKit Go.Sort in
theorem Tryz.slices_Sort_string_none (p:Option Addr) (cap:Nat) (w:World) :
  Calls zZZ 148 #[aw p 0 cap] w fun e w'=>e= .returned (.tuple #[])/\w'=w:=Any.slices_Sort_string_none Tryz.lays190 p cap w
def Tryz.laysnb141_ren:Go.Shelf.Ren:=⟨fun | 141=>118 | 116=>157 | 115=>177 | n=>n,fun | 37=>44 | 4=>4 | 3=>3 | 9=>9 | 5=>5 | n=>n,fun | n=>n⟩
theorem Tryz.laysnb141:Go.Proofs.Lays.nb141 zZZ Tryz.laysnb141_ren:= {
 mixed:=by kernel_rfl
 f115:=Tryz.func177.trans (congrArg aC (by kernel_rfl))
 f116:=Tryz.func157.trans (congrArg aC (by kernel_rfl))
 f141:=Tryz.func118.trans (congrArg aC (by kernel_rfl))
 t3:=Tryz.underlying3
 a3:=Tryz.isAgg3
 z3:=Tryz.sizeOf3
 v3:=Tryz.zeroValue3
 t4:=Tryz.underlying4
 a4:=Tryz.isAgg4
 z4:=Tryz.sizeOf4
 v4:=Tryz.zeroValue4
 t9:=Tryz.underlying9
 a9:=Tryz.isAgg9
 z9:=Tryz.sizeOf9
 v9:=Tryz.zeroValue9
 t37:=Tryz.underlying44
 a37:=Tryz.isAgg44
 z37:=Tryz.sizeOf44
 v37:=Tryz.zeroValue44
 t5:=Tryz.underlying5
 a5:=Tryz.isAgg5
 z5:=Tryz.sizeOf5
 v5:=Tryz.zeroValue5 }
theorem Tryz.bytes_CutPrefix_e1 (p1 p2:Option Addr) (c m d:Nat) (hm:0<m) (w:World) :
  Calls zZZ 118 #[aw p1 0 c,aw p2 m d] w fun e w'=>e= .returned (.tuple #[aw p1 0 c,.bool false])/\w'=w:=Any.bytes_CutPrefix_e1 Tryz.laysnb141 p1 p2 c m d hm w
theorem Tryz.bytes_CutPrefix (b1 o1 n c b2 o2 m d:Nat) (xs ys:List Int) (w:World) (hx:xs.length=n) (hy:ys.length=m) (hnc:n<=c) (hc1:∀i,i<n->w.cell? ⟨b1,o1+i,aB⟩=aC (ax .u8 (xs.getD i 0))) (hc2:∀i,i<m->w.cell? ⟨b2,o2+i,aB⟩=aC (ax .u8 (ys.getD i 0))) :
  Calls zZZ 118 #[aw (aC ⟨b1,o1,aB⟩) n c,aw (aC ⟨b2,o2,aB⟩) m d] w fun e w'=>e= .returned (.tuple #[Lib.bytesTrimPrefix b1 o1 n c xs ys,.bool (Lib.hasPrefix (Lib.bytesOf xs) (Lib.bytesOf ys))])/\w'=w:=Any.bytes_CutPrefix Tryz.laysnb141 b1 o1 n c b2 o2 m d xs ys w hx hy hnc hc1 hc2
end Go.Proofs
namespace Go.Proofs.YtcjndgldjhmbgaaGreat
variable {bytes m n size:Nat} {P:Program} {e it t:TypeId} {w:World} {rest:(List UInt8)} {A:(Option Addr)}
def num (n:Nat):ac:=if n<128 then [UInt8.ofNat n] else UInt8.ofNat (n % 128+128)::num (n / 128)
theorem kh (h:n<128):num n= [UInt8.ofNat n]:=by rw [num,if_pos h]
theorem QC (h:¬n<128):num n=UInt8.ofNat (n % 128+128)::num (n / 128):=by rw [num,if_neg h]
theorem Vd (n:Nat):∀k,n<128 ^ (k+1)->1<=(num n).length/\(num n).length<=k+1:=by
 intro k
 induction k generalizing n with
 | zero=>intro h;rw [kh (by simpa using h)];simp
 | succ k ih =>
  intro h;by_cases hn:n<128
  ·rw [kh hn];simp
  ·rw [QC hn];have:=ih (n / 128) (by rw [Nat.div_lt_iff_lt_mul wj];simpa [Nat.pow_succ] using h);simp only [List.length_cons];omega
open Go.RowKit
theorem Zd:El zZZ 44 5 1 1:=El.mk' (z:= ax .u8 0) underlying44 wm rfl wj wj
theorem z14:El zZZ 131 129 1 4:=El.mk' (z:= ax .u32 0) underlying131 wm rfl wj wj
def wds (l:List (BitVec 32)):af:=l.map fun b=> ax .u32 (wd b)
theorem yR (l:List (BitVec 32)) (k:Nat) (h:k<l.length):(wds l)[k]?=aC (ax .u32 (wd l[k])):=by simp [wds,h]
theorem Zb (l:List (BitVec 32)):∀u∈wds l,u.oneCell'=true:=by
 intro u hu;simp only [wds,List.mem_map]at hu;obtain⟨_,_,rfl⟩:=hu;rfl
def wb (x:BitVec 32):ac:= [UInt8.ofNat (x.toNat / 16777216),UInt8.ofNat (x.toNat / 65536),UInt8.ofNat (x.toNat / 256),UInt8.ofNat x.toNat]
def wbs (l:List (BitVec 32)):ac:=l.flatMap wb
theorem Za (l:List (BitVec 32)):(wbs l).length=4*l.length:=by
 induction l with
 | nil=>rfl
 | cons x l ih=>simp only [wbs,List.flatMap_cons,List.length_append,List.length_cons] at *;rw [ih];simp [wb];omega
theorem KH (l:List (BitVec 32)) (k:Nat) (h:k<l.length):wbs (l.take (k+1))=wbs (l.take k)++wb l[k]:=by
 unfold wbs;rw [List.take_succ_eq_append_getElem h,List.flatMap_append,List.flatMap_cons,List.flatMap_nil,List.append_nil]
theorem VQ (A:ae) (n c:Nat) (l:List (BitVec 32)) (w:World) (hl:l.length=n) (hn:n<=2000) (hc:n<=c) (hr:Rd w 1 A n (wds l)) :
  Calls zZZ 191 #[aw A n c] w fun e w'=>∃A' c',e= .returned (.tuple #[aw A' (wbs l).length c',ax ay 0])/\OwnB 5 w.heap.size w' A' c' (wbs l)/\Below w.heap.size w w':=by
 go_enter func191,ntmps191
 refine wH ?_;intros;refine ya rfl _ _ rfl Zd (4*n) rfl rfl wj wj ?_;intro w1 g1 hown1 hb1;go_wp2_with fail;go_loopw [4,16] (fun v i wr=>∃k:Nat,i= ax ay k/\k<=n/\wr.ownsRow w.heap.size 5 1 v (wbs (l.take k)).length (bys (wbs (l.take k)))/\Below w.heap.size w wr) (fun _ i _=>n - (intOf i).toNat)
 case atStart=>exact⟨0,rfl,wj,hown1,hb1⟩
 case round =>
  obtain⟨k,rfl,hk,hown,hbel⟩:=hrel;have hle:=Za (l.take k);rw [List.length_take]at hle;by_cases hlt:k<n
  ·obtain⟨b,off,u,rfl,_,hu,hcell⟩:=(hr.below hbel).at_ hlt;rw [yR l k wj]at hu;cases hu
   have HS:=sqH (KH l k wj);have hwn:=z2b l[k];have hwl:=z2a l[k];generalize hx:l[k]=x at *
   have HX:=sqH hx;clear hx
   refine wH ?_;intros;refine zg rfl (.tmp 20) (.tmp 32) rfl Zd wu hown rfl rfl (by simp;exact⟨rfl,rfl,rfl,rfl⟩) wj hbel.size ?_;intro v2 w2 hown2 hg2 _;have hb2:=zj hbel hown ab hg2;have hx:=x.isLt;have e1:bys (wb x)= [ax .u8 (wd x / (16777216:Int)),ax .u8 (wd x / (65536:Int) % (256:Int)),ax .u8 (wd x / (256:Int) % (256:Int)),ax .u8 (wd x % (256:Int))]:=by
    simp only [bys,wb,wd,List.map_cons,List.map_nil,UInt8.toNat_ofNat'];rw [show x.toNat / 16777216 % 2 ^ 8=x.toNat / 16777216 by omega];rfl
   go_wp2_with fail;rw [<-e1]at hown2;go_roundw
   case rel=>exact⟨k+1,by go_num,wj,by rw [HS.o,qY,List.length_append];exact hown2,hb2⟩
   case measure=>simp [intOf];omega
  ·obtain rfl:k=n:=by omega
   rw [List.take_of_length_le wj]at hown;obtain⟨A1,c1,rfl,hc1,_⟩:=Rd.of_own' hown;go_wp2_with fail;go_ret2;exact⟨A1,c1,rfl,⟨hown,hc1⟩,hbel⟩
def wOf (a b c d:UInt8):BitVec 32:=BitVec.ofNat 32 (a.toNat*16777216+b.toNat*65536+c.toNat*256+d.toNat)
def ko:List UInt8->List (BitVec 32)
 | a::b::c::d::r=>wOf a b c d::ko r
 | _=> []
theorem vL:∀(k:Nat) (l:ac),l.length=4*k->(ko l).length=k
 | 0,l,h=>by obtain rfl:l= []:=List.eq_nil_of_length_eq_zero wj;rfl
 | k+1,a::b::c::d::r,h=>by simp only [ko,List.length_cons] at *;rw [vL k r wj]
 | k+1, [],h=>by simp at h
 | k+1, [_],h=>by simp at h;omega
 | k+1, [_,_],h=>by simp at h;omega
 | k+1, [_,_,_],h=>by simp at h;omega
theorem uG:∀(k:Nat) (l:ac) (h:4*k+3<l.length),ko (l.take (4*(k+1)))=ko (l.take (4*k))++ [wOf l[4*k] l[4*k+1] l[4*k+2] l[4*k+3]]
 | 0,a::b::c::d::r,h=>by simp [ko]
 | k+1,a::b::c::d::r,h=>by
  have h':4*k+3<r.length:=by simp at h;omega
  have e1:(a::b::c::d::r).take (4*(k+1+1))=a::b::c::d::r.take (4*(k+1)):=rfl
  have e2:(a::b::c::d::r).take (4*(k+1))=a::b::c::d::r.take (4*k):=rfl
  rw [e1,e2,ko,ko,uG k r h']
  rfl
 | 0, [],h=>by simp at h
 | 0, [_],h=>by simp at h
 | 0, [_,_],h=>by simp at h
 | 0, [_,_,_],h=>by simp at h
 | k+1, [],h=>by simp at h
 | k+1, [_],h=>by simp at h
 | k+1, [_,_],h=>by simp at h;omega
 | k+1, [_,_,_],h=>by simp at h;omega
theorem uF (n:Int) (h0:0<=n) (h1:n<2 ^ 32):IntKind.u32.wrap n=n:=by
 rw [IntKind.wrap_u32];simp at h1;omega
theorem KG (a b c d:UInt8):bits BinOp.or IntKind.u32 (bits BinOp.or IntKind.u32 (bits BinOp.or IntKind.u32 (IntKind.u32.wrap (IntKind.u32.wrap (a.toNat:Int)*16777216)) (IntKind.u32.wrap (IntKind.u32.wrap (b.toNat:Int)*65536)))
  (IntKind.u32.wrap (IntKind.u32.wrap (c.toNat:Int)*256))) (IntKind.u32.wrap (d.toNat:Int))=wd (wOf a b c d):=by
 have ha:=a.toNat_lt;have hb:=b.toNat_lt;have hc:=c.toNat_lt;have hd:=d.toNat_lt;have hw:wd (wOf a b c d)=((a.toNat*16777216+b.toNat*65536+c.toNat*256+d.toNat:Nat):Int):=by
  simp only [wd,wOf,BitVec.toNat_ofNat];omega
 rw [hw];clear hw;generalize a.toNat=a at *
 generalize b.toNat=b at *
 generalize c.toNat=c at *
 generalize d.toNat=d at *
 have e1:∀x:Nat,x<256->IntKind.u32.wrap (x:Int)=x:=fun x h=>by rw [IntKind.wrap_u32];omega
 rw [e1 a ha,e1 b hb,e1 c hc,e1 d hd];have e2:∀x y:Int,0<=x->x<256->0<=y->y<=16777216->IntKind.u32.wrap (x*y)=x*y:=fun x y h1 h2 h3 h4=>by
  rw [IntKind.wrap_u32];have:=Int.mul_nonneg h1 h3;have h5:x*y<=255*16777216:=Int.mul_le_mul wj h4 h3 wj;omega
 rw [e2 a 16777216 wj wj wj wj,e2 b 65536 wj wj wj wj,e2 c 256 wj wj wj wj];rw [bits_join .u32 32 wo uF 24 ((a:Int)*16777216) ((b:Int)*65536) wj wj wj wj wj wj];rw [bits_join .u32 32 wo uF 16 ((a:Int)*16777216+(b:Int)*65536) ((c:Int)*256) wj wj wj wj wj wj];rw [bits_join .u32 32 wo uF 8 ((a:Int)*16777216+(b:Int)*65536+(c:Int)*256) (d:Int) wj wj wj wj wj wj];omega
theorem Uz (A:ae) (n c:Nat) (l:ac) (w:World) (hl:l.length=n) (hn:n<=2072) (h4:n % 4=0) (hc:n<=c) (hr:Rd w 1 A n (bys l)) :
  Calls zZZ 188 #[aw A n c] w fun e w'=>∃v,e= .returned (.tuple #[v,ax ay 0])/\w'.ownsRow w.heap.size 129 1 v (n / 4) (wds (ko l))/\Below w.heap.size w w':=by
 have h4b:((n:Int) % 4 != 0)=false:=by rw [bne_eq_false_iff_eq];omega
 obtain⟨q,hq⟩:∃q,n=4*q:=⟨n / 4,wj⟩
 have HQ:=sqH hq;have hq1:q*4<=n:=wj;have hq2:n<=q*4:=wj;clear hq h4;go_enter func188,ntmps188
 refine wH ?_;intros;refine ya rfl _ _ rfl z14 q rfl rfl wj wj ?_;intro w1 g1 hown1 hb1;go_wp2_with fail;go_loopw [4,5] (fun v i wr=>∃k:Nat,i= ax ay ((4*k:Nat):Int)/\k<=q/\wr.ownsRow w.heap.size 129 1 v k (wds (ko (l.take (4*k))))/\Below w.heap.size w wr) (fun _ i _=>n - (intOf i).toNat)
 case atStart=>exact⟨0,rfl,wj,hown1,hb1⟩
 case round =>
  obtain⟨k,rfl,hk,hown,hbel⟩:=hrel;by_cases hlt:k<q
  ·have hsz:=hbel.size;obtain⟨b,off,rfl,hbw,hcell0⟩:=hr.2 wj;have hcell:=fun j u h=>(hbel.cell (p:=⟨b,off+j,aB⟩) hbw).trans (hcell0 j u h);clear hcell0;have c0:=hcell (4*k) _ (vh l (4*k) wj);have c1:=hcell (4*k+1) _ (vh l (4*k+1) wj);have c2:=hcell (4*k+2) _ (vh l (4*k+2) wj);have c3:=hcell (4*k+3) _ (vh l (4*k+3) wj);have HS:=sqH (uG k l wj);clear hcell;generalize l[4*k]=b0 at *
   generalize l[4*k+1]=b1 at *
   generalize l[4*k+2]=b2 at *
   generalize l[4*k+3]=b3 at *
   have t0:=b0.toNat_lt;have t1:=b1.toNat_lt;have t2:=b2.toNat_lt;have t3:=b3.toNat_lt;generalize hm:4*k=m at *
   have HM:=sqH hm;have hm1:m+4<=n:=wj;clear hm;go_wp2_with fail;have hm0:=wX m
   have hi0:(m:Int)<n:=wj;have q1:IntKind.i64.wrap ((m:Int)+1)=(m:Int)+1:=IntWalk.i64_in _ wj;have q2:IntKind.i64.wrap ((m:Int)+2)=(m:Int)+2:=IntWalk.i64_in _ wj;have q3:IntKind.i64.wrap ((m:Int)+3)=(m:Int)+3:=IntWalk.i64_in _ wj;have p1:(0:Int)<=(m:Int)+1:=wj;have p2:(0:Int)<=(m:Int)+2:=wj;have p3:(0:Int)<=(m:Int)+3:=wj;have s1:(m:Int)+1<n:=wj;have s2:(m:Int)+2<n:=wj;have s3:(m:Int)+3<n:=wj;have u1:((m:Int)+1).toNat=m+1:=wj;have u2:((m:Int)+2).toNat=m+2:=wj;have u3:((m:Int)+3).toNat=m+3:=wj;go_region_held3 (fun w'=>w'.cell? ⟨b,off+m,aB⟩=aC (ax .u8 b0.toNat)/\w'.cell? ⟨b,off+(m+1),aB⟩=aC (ax .u8 b1.toNat)/\w'.cell? ⟨b,off+(m+2),aB⟩=aC (ax .u8 b2.toNat)/\w'.cell? ⟨b,off+(m+3),aB⟩=aC (ax .u8 b3.toNat))
    (first | go_keep | (go_split_ands;refine⟨xq (yM (hown.alloc _)) hg2 hbw (by assumption),xq (yM (hown.alloc _)) hg2 hbw (by assumption),xq (yM (hown.alloc _)) hg2 hbw (by assumption),xq (yM (hown.alloc _)) hg2 hbw (by assumption)⟩))
    (first | (refine Z8 rfl (.tmp 23) (.tmp 53) rfl z14 wu (yM (hown.alloc _)) wu (Rd.newN (us:= [_]) (m:=1) rfl) (by simp;rfl) wj aa ?_;intro v2 w2 hown2 hg2 _))
   rw [KG]at hown2;have hb2:=zj (hbel.alloc hsz (.cells #[ax .u32 (wd (wOf b0 b1 b2 b3))] 129)).drew (yM (hown.alloc _)) ab (by rw [<-KG];exact hg2);clear hg2 q1 q2 q3 p1 p2 p3 s1 s2 s3 u1 u2 u3;go_wp2_with fail;go_roundw
   case rel=>exact⟨k+1,by have:=HM.o;go_num,wj,by rw [HS.o];simpa [wds] using hown2,hb2⟩
   case measure=>simp [intOf];omega
  ·obtain rfl:k=q:=by omega
   rw [List.take_of_length_le wj]at hown;have hqq:n / 4=k:=wj;have HQQ:=sqH hqq;clear hqq;generalize hm:4*k=m at *
   have HM:=sqH hm;have hm1:n<=m:=wj;clear hm;go_wp2_with fail;go_ret2;exact⟨_,rfl,by rw [HQQ.o];exact hown,hbel⟩
theorem Yt (x:BitVec 32) (n:Nat) (w:World) (hn:n<=31):Calls zZZ 227 #[ax .u32 (wd x),ax ay n] w fun e w'=>e= .returned (ax .u32 (wd (x.rotateRight n)))/\∃k,w'=w.drewN k:=by
 go_enter func227,ntmps227;go_wp2_with fail;go_quiet (fail);go_wp2_with fail;go_ret;refine⟨?_,_,rfl⟩;show Ending.returned (ax .u32 (bits BinOp.or IntKind.u32 (wd x / 2 ^ n) (wd x*2 ^ (32 - n) % 4294967296)))=_;rw [z3o x n hn]
theorem qg (x:BitVec 32) (n:Nat) (N:Int) (hN:N=n) (w:World) (hn:n<=31):Calls zZZ 227 #[ax .u32 (wd x),ax ay N] w fun e w'=>e= .returned (ax .u32 (wd (x.rotateRight n)))/\∃k,w'=w.drewN k:=by
 subst hN;exact Yt x n w hn
def yu (x:BitVec 32):Nat->BitVec 32
 | 0=>x.rotateRight 2 ^^^ x.rotateRight 13 ^^^ x.rotateRight 22
 | 1=>x.rotateRight 6 ^^^ x.rotateRight 11 ^^^ x.rotateRight 25
 | 2=>x.rotateRight 7 ^^^ x.rotateRight 18 ^^^ x >>> 3
 | _=>x.rotateRight 17 ^^^ x.rotateRight 19 ^^^ x >>> 10
theorem QX (x:BitVec 32) (n:Nat) (N:Int) (hN:N=n) (w:World) (hn:n<=3):Calls zZZ 211 #[ax .u32 (wd x),ax ay N] w fun e w'=>e= .returned (.tuple #[ax .u32 (wd (yu x n)),ax ay 0])/\∃k,w'=w.drewN k:=by
 match n,hn with
 | 0,_ =>
  obtain rfl:N=0:=hN;go_enter func211,ntmps211;go_wp2_with fail;refine(qg x 2 _ rfl _ wj).mono ?_;rintro e_ w_ ⟨rfl,k1,rfl⟩;dsimp only;go_wp2_with fail;refine(qg x 13 _ rfl _ wj).mono ?_;rintro e_ w_ ⟨rfl,k2,rfl⟩;dsimp only;go_wp2_with fail;refine(qg x 22 _ rfl _ wj).mono ?_;rintro e_ w_ ⟨rfl,k3,rfl⟩;dsimp only;go_wp2_with fail;go_ret2;refine⟨?_,_,rfl⟩;simp only [qF];rfl
 | 1,_ =>
  obtain rfl:N=1:=hN;go_enter func211,ntmps211;go_wp2_with fail;refine(qg x 6 _ rfl _ wj).mono ?_;rintro e_ w_ ⟨rfl,k1,rfl⟩;dsimp only;go_wp2_with fail;refine(qg x 11 _ rfl _ wj).mono ?_;rintro e_ w_ ⟨rfl,k2,rfl⟩;dsimp only;go_wp2_with fail;refine(qg x 25 _ rfl _ wj).mono ?_;rintro e_ w_ ⟨rfl,k3,rfl⟩;dsimp only;go_wp2_with fail;go_ret2;refine⟨?_,_,rfl⟩;simp only [qF];rfl
 | 2,_ =>
  obtain rfl:N=2:=hN;go_enter func211,ntmps211;go_wp2_with fail;refine(qg x 7 _ rfl _ wj).mono ?_;rintro e_ w_ ⟨rfl,k1,rfl⟩;dsimp only;go_wp2_with fail;refine(qg x 18 _ rfl _ wj).mono ?_;rintro e_ w_ ⟨rfl,k2,rfl⟩;dsimp only;go_wp2_with fail;go_ret2;refine⟨?_,_,rfl⟩;rw [show(wd x:Int) / (8:Int)=wd (x >>> 3) from Q4 x 3];simp only [qF];rfl
 | 3,_ =>
  obtain rfl:N=3:=hN;go_enter func211,ntmps211;go_wp2_with fail;refine(qg x 17 _ rfl _ wj).mono ?_;rintro e_ w_ ⟨rfl,k1,rfl⟩;dsimp only;go_wp2_with fail;refine(qg x 19 _ rfl _ wj).mono ?_;rintro e_ w_ ⟨rfl,k2,rfl⟩;dsimp only;go_wp2_with fail;go_ret2;refine⟨?_,_,rfl⟩;rw [show(wd x:Int) / (1024:Int)=wd (x >>> 10) from Q4 x 10];simp only [qF];rfl
theorem VB:(zZZ.info? 177).map (·.size)=aC 2:=by kernel_rfl
theorem z1i:liesAt zZZ zZZ.depth 177 (2 / zZZ.cellsOf 177) 0 177 1=true:=by kernel_rfl
theorem uJ (b:Nat) (w:World) (h0:w.cell? ⟨b,0,aB⟩=aC (.pointer (aC ⟨b,0,aB⟩))) :
  Calls zZZ 156 #[.pointer (aC ⟨b,0,aB⟩)] w fun e w'=>e= .returned (.tuple #[])/\w=w':=by
 obtain⟨j,hj,_⟩:=Option.map_eq_some_iff.1 VB;have hne:=fun W=>Lib.run_neq_ptr_same (P:=zZZ) W (tp:=175) ⟨b,0,aB⟩ underlying175 hj;clear hj;go_enter func156,ntmps156;go_wp2;go_end0;exact⟨rfl,rfl⟩
theorem uc (b:Nat) (w:World) (h0:w.cell? ⟨b,0,aB⟩=aC (.pointer aB)) (hsh:w.shape? b=aC (177,2)) (hfz:w.frozen? ⟨b,0,aB⟩=false) :
  Calls zZZ 156 #[.pointer (aC ⟨b,0,aB⟩)] w fun e w'=>e= .returned (.tuple #[])/\w.setCell ⟨b,0,aB⟩ (.pointer (aC ⟨b,0,aB⟩))=w':=by
 obtain⟨j,hj,hjs⟩:=Option.map_eq_some_iff.1 VB;have h1:=Lib.run_to_unsafe (P:=zZZ) w (src:=175) (dst:=245) ⟨b,0,aB⟩ underlying175 underlying245 hj (by rw [hjs];decide) hsh (Nat.zero_lt_succ 1);have h2:=Lib.run_from_unsafe (P:=zZZ) w (src:=245) (dst:=175) ⟨b,0,aB⟩ underlying245 underlying175 hj hsh z1i;have h3:∀W,(callFunc 176 #[.pointer (aC ⟨b,0,aB⟩)]).run zZZ W= .ok (.value (.pointer (aC ⟨b,0,aB⟩))) W:=fun W=>by
  rw [run_callFunc_extern func176 wm wm wm (e:=Extern.AbiNoEscape.same) wm,Lib.run_noEscape];rfl
 clear hj;go_enter func156,ntmps156;go_wp2;go_end0;exact⟨rfl,rfl⟩
theorem Zx (B b:Nat) (bs:af) (w:World) (h:Lib.IsBuilder 177 5 B b bs w) :
  Calls zZZ 156 #[.pointer (aC ⟨b,0,aB⟩)] w fun e w'=>e= .returned (.tuple #[])/\(Lib.BuilderAt 177 5 B b (.pointer (aC ⟨b,0,aB⟩)) bs w'/\Below B w w'):=by
 rcases h with h | h
 ·refine(uc b w h.cell0 h.shape h.frozen0).mono fun e w' ⟨he,hw⟩=>⟨he,?_⟩
  subst hw;exact⟨h.used _,(Below.refl _ _).setCell (p:=⟨b,0,aB⟩) h.1 _⟩
 ·refine(uJ b w h.cell0).mono fun e w' ⟨he,hw⟩=>⟨he,?_⟩
  subst hw;exact⟨h,Below.refl _ _⟩
theorem vf (B b:Nat) (bs:af) (c:Int) (w:World) (h:Lib.IsBuilder 177 5 B b bs w) (hlen:bs.length+1<=140737488355328) (hBw:B<=w.heap.size) :
  Calls zZZ 116 #[.pointer (aC ⟨b,0,aB⟩),ax .u8 c] w fun e w'=>e= .returned .nilIface/\(Lib.BuilderAt 177 5 B b (.pointer (aC ⟨b,0,aB⟩)) (bs++ [ax .u8 c]) w'/\Below B w w'):=by
 go_enter func116,ntmps116;go_wp2_with fail;refine(Zx B b bs _ h).mono ?_;rintro e_ w1 ⟨rfl,h1,hb1⟩;dsimp only;obtain⟨hB,v,hbk,hown,hne⟩:=h1;have c0:w1.cell? ⟨b,0,aB⟩=aC (.pointer (aC ⟨b,0,aB⟩)):=by rw [Lib.cell_of_heap hbk];rfl
 have c1:w1.cell? ⟨b,1,aB⟩=aC v:=by rw [Lib.cell_of_heap hbk];rfl
 have hz:=hb1.size
 refine wH ?_;intros;refine zg rfl _ _ rfl Zd wu hown rfl rfl (by simp;rfl) wj wj ?_;intro v' w2 hown' hgrow _;have hlt:b<w1.heap.size:=by
  rcases Nat.lt_or_ge b w1.heap.size with h' | h'
  ·exact h'
  ·simp [Array.getElem?_eq_none h']at hbk
 have hb2:w2.heap[b]?=aC (.cells #[.pointer (aC ⟨b,0,aB⟩),v] 177 (0,0)):=by
  rw [hgrow.block b hlt (fun e=>hne e.symm)];exact hbk
 have d0:w2.cell? ⟨b,0,aB⟩=aC (.pointer (aC ⟨b,0,aB⟩)):=by rw [Lib.cell_of_heap hb2];rfl
 have d1:w2.cell? ⟨b,1,aB⟩=aC v:=by rw [Lib.cell_of_heap hb2];rfl
 have f1:w2.frozen? ⟨b,1,aB⟩=false:=Lib.frozen_of_heap hb2 1;obtain⟨g,cap,rfl⟩:∃g cap,v'= aw (aC ⟨g,0,aB⟩) (bs.length+1) cap:=by
  rcases hown'.2 with ⟨_,h0⟩ | ⟨g,cap,cur,hv,_⟩
  ·omega
  ·exact⟨g,cap,hv⟩
 go_wp2_with fail;go_ret;refine⟨rfl,?_,?_⟩
 ·exact Lib.BuilderAt.put (T:=177) (e:=5) hB hb2 (bs':=bs++ [ax .u8 c]) (by simpa using hown') wo
 ·exact(hb1.grown hgrow wj (fun k hk=>(hown.lt k hk).1)).setCell (p:=⟨b,1,aB⟩) hB _
def dig (n:Nat):UInt8:=if n<10 then UInt8.ofNat (48+n) else UInt8.ofNat (87+n)
def hx1 (c:UInt8):ac:= [dig (c.toNat / 16),dig (c.toNat % 16)]
def yb (l:ac):ac:=l.flatMap hx1
theorem yj (l:ac):(yb l).length=2*l.length:=by
 induction l with
 | nil=>rfl
 | cons x l ih=>simp only [yb,List.flatMap_cons,List.length_append,List.length_cons] at *;rw [ih];simp [hx1];omega
theorem XW (l:ac) (k:Nat) (h:k<l.length):yb (l.take (k+1))=yb (l.take k)++hx1 l[k]:=by
 unfold yb;rw [List.take_succ_eq_append_getElem h,List.flatMap_append,List.flatMap_cons,List.flatMap_nil,List.append_nil]
theorem z11 (m:Nat) (h:m<(⟨#[48,49,50,51,52,53,54,55,56,57,97,98,99,100,101,102]⟩:ByteArray).size) :
  ((⟨#[48,49,50,51,52,53,54,55,56,57,97,98,99,100,101,102]⟩:ByteArray)[m]'h).toNat=(dig m).toNat:=by
 have key:∀m:Fin 16,((⟨#[48,49,50,51,52,53,54,55,56,57,97,98,99,100,101,102]⟩:ByteArray)[m.val]'m.isLt).toNat=(dig m.val).toNat:=wo;exact key ⟨m,h⟩
theorem Xh (A:ae) (n c:Nat) (l:ac) (w:World) (hl:l.length=n) (hn:n<=70368744177664) (hc:n<=c) (hr:Rd w 1 A n (bys l)) :
  Calls zZZ 71 #[aw A n c] w fun e w'=>e= .returned (az ⟨(yb l).toArray⟩)/\Below w.heap.size w w':=by
 go_enter func71,ntmps71;go_wp2_with fail;go_loopw [5,8] (fun u i wr=>∃k:Nat,i= ax ay k/\k<=n/\Lib.IsBuilder 177 5 w.heap.size w.heap.size (bys (yb (l.take k))) wr/\Below w.heap.size w wr) (fun _ i _=>n - (intOf i).toNat)
 case atStart=>exact⟨0,rfl,wj,Lib.fresh_isBuilder _ _ _,(Below.refl _ _).alloc ab _⟩
 case round =>
  obtain⟨k,rfl,hk,hB,hbel⟩:=hrel;have hle:=yj (l.take k);rw [List.length_take]at hle;by_cases hlt:k<n
  ·obtain⟨b,off,u,rfl,_,hu,hcell⟩:=(hr.below hbel).at_ hlt;rw [vh l k wj]at hu;cases hu
   have HS:=sqH (XW l k wj);generalize l[k]=x at *
   have hx:=x.toNat_lt
   refine wH ?_;intros;rw [dif_pos ⟨wj,wj⟩];simp only [z11,Result.andThen];go_wp2_with fail;refine(vf _ _ _ _ _ hB (by rw [qZ];omega) hbel.size).mono ?_;rintro e_ w1 ⟨rfl,hB1,hb1⟩;dsimp only;have hbel1:=hbel.trans hb1
   refine wH ?_;intros;rw [dif_pos ⟨wj,wj⟩];simp only [z11,Result.andThen];go_wp2_with fail;refine(vf _ _ _ _ _ (.inr hB1) (by simp [qZ];omega) hbel1.size).mono ?_;rintro e_ w2 ⟨rfl,hB2,hb2⟩;dsimp only;have hbel2:=hbel1.trans hb2;go_wp2_with fail;go_roundw
   case rel=>exact⟨k+1,by go_num,wj,.inr (by rw [HS.o,qY];simpa [hx1,bys] using hB2),hbel2⟩
   case measure=>simp [intOf];omega
  ·obtain rfl:k=n:=by omega
   rw [List.take_of_length_le wj]at hB;go_wp2_with fail;refine wV (Tryz.Builder_String_any _ _ (yb l) _ hB hbel.size) fun w1 hb1=>?_;dsimp only;go_wp2_with fail;go_ret;exact⟨rfl,hbel.trans hb1⟩
def z54:ByteArray:=⟨#[48,49,50,51,52,53,54,55,56,57,97,98,99,100,101,102]⟩
def val (c:UInt8):Int:=Lib.indexByte [48,49,50,51,52,53,54,55,56,57,97,98,99,100,101,102] c
def xe:List UInt8->Option (ac)
 | []=>aC []
 | [_]=>aB
 | a::b::r=>if val a<0\/val b<0 then aB else (xe r).map (UInt8.ofNat (16*(val a).toNat+(val b).toNat):: ·)
def xJ (l:ac):ac×Nat :=
 if 4000<l.length then ([],1) else if l.length % 2=1 then ([],3) else match xe l with | none=>([],3) | some r=>(r,0)
theorem y9 (c:UInt8): -1<=val c/\val c<=15:=by
 have key:∀n:Fin 256, -1<=val (UInt8.ofNat n.val)/\val (UInt8.ofNat n.val)<=15:=by decide +kernel
 have:=key ⟨c.toNat,c.toNat_lt⟩;rw [show UInt8.ofNat (c.toNat)=c from UInt8.ofNat_toNat]at this;exact this
theorem Uj (c:UInt8) (w:World):Calls zZZ 114 #[az z54,ax .u8 (c.toNat:Int)] w fun e w'=>e= .returned (ax ay (val c))/\w'=w:=by
 refine(Tryz.strings_IndexByte z54 (c.toNat:Int) w).mono fun e w' ⟨he,hw⟩=>⟨?_,hw⟩
 rw [he];have:((c.toNat:Int)).toNat.toUInt8=c:=by rw [Int.toNat_natCast];exact UInt8.ofNat_toNat
 rw [this];rfl
theorem XS (s:ByteArray) (w:World) (hs:s.size<=140737488351232) :
  Calls zZZ 65 #[az s] w fun e w'=>∃A c,e= .returned (.tuple #[aw A (xJ s.data.toList).1.length c,ax ay (xJ s.data.toList).2])/\OwnB 5 w.heap.size w' A c (xJ s.data.toList).1/\Below w.heap.size w w':=by
 have hsz:s.data.toList.length=s.size:=by rw [Array.length_toList];rfl
 by_cases hbig:4000<s.size
 ·have hfin:xJ s.data.toList=([],1):=by rw [xJ,if_pos wj]
  have HF:=sqH hfin;clear hfin;go_enter func65,ntmps65;go_wp2_with fail;go_ret2;rw [HF.o];exact⟨aB,0,rfl,OwnB.nil_ _ _ _,Below.refl _ _⟩
 ·by_cases hodd:s.size % 2=1
  ·have hfin:xJ s.data.toList=([],3):=by rw [xJ,if_neg wj,if_pos wj]
   have HF:=sqH hfin;clear hfin;have h2:((s.size:Int) % 2 != 0)=true:=by rw [bne_iff_ne];omega
   clear hodd;go_enter func65,ntmps65;go_wp2_with fail;go_ret2;rw [HF.o];exact⟨aB,0,rfl,OwnB.nil_ _ _ _,Below.refl _ _⟩
  ·have hfin:xJ s.data.toList=match xe s.data.toList with | none=>([],3) | some r=>(r,0):=by rw [xJ,if_neg wj,if_neg wj]
   have HF:=sqH hfin;clear hfin;have h2:((s.size:Int) % 2 != 0)=false:=by rw [bne_eq_false_iff_eq];omega
   obtain⟨q,hq⟩:∃q,s.size=2*q:=⟨s.size / 2,wj⟩
   have hq1:q*2<=s.size:=wj;have hq2:s.size<=q*2:=wj;have HZ:=sqH hsz;clear hodd hq hsz;go_enter func65,ntmps65
   refine wH ?_;intros;refine ya rfl _ _ rfl Zd q rfl rfl wj wj ?_;intro w1 g1 hown1 hb1;go_wp2_with fail;go_loopw [4,5,6,7] (fun v i x y wr=>∃(k:Nat) (acc:ac),i= ax ay ((2*k:Nat):Int)/\k<=q/\acc.length=k/\xe s.data.toList=(xe (s.data.toList.drop (2*k))).map (acc++ ·) /\
    wr.ownsRow w.heap.size 5 1 v acc.length (bys acc)/\Below w.heap.size w wr) (fun _ i _ _ _=>s.size - (intOf i).toNat)
   case atStart=>exact⟨0, [],rfl,wj,rfl,ws,hown1,hb1⟩
   case round =>
    obtain⟨k,acc,rfl,hk,hacc,hun,hown,hbel⟩:=hrel;have HU:=sqH hun;clear hun;have HA:=sqH hacc;clear hacc;have hsw:=hbel.size;generalize hm:2*k=m at *
    have HM:=sqH hm;by_cases hlt:k<q
    ·have hm1:m+1<s.size:=wj
     have hm0:m<s.size:=wj;have hi0:=wX m
     have hi1:(m:Int)<(s.size:Int):=wj;have hi2:(m:Int)+1<(s.size:Int):=wj;have hi3:(0:Int)<=(m:Int)+1:=wj;have hw1:IntKind.i64.wrap ((m:Int)+1)=(m:Int)+1:=IntWalk.i64_in _ wj;have hn1:((m:Int)+1).toNat=m+1:=wj;have hd:s.data.toList.drop m=s[m]::s[m+1]::s.data.toList.drop (m+2):=by
      have hz:=HZ.o;rw [List.drop_eq_getElem_cons wj,List.drop_eq_getElem_cons (i:=m+1) wj];rfl
     have HD:=sqH hd;have ra:=y9 s[m];have rb:=y9 s[m+1];clear hm hd;by_cases hbad:val s[m]<0\/val s[m+1]<0
     ·have hfin:xJ s.data.toList=([],3):=by rw [HF.o,HU.o,HD.o,xe,if_pos hbad];rfl
      have HG:=sqH hfin;clear hfin;have ha0:val s[m]<0\/¬val s[m]<0/\val s[m+1]<0:=wj;clear hbad;rcases ha0 with ha0 | ⟨ha0,ha1⟩
      all_goals
       go_wp2_with fail;go_quiet ((go_at_call 114;exact Calls.quiet_of_same (Uj _ _)));go_wp2_with fail;go_ret2;rw [HG.o];exact⟨aB,0,rfl,OwnB.nil_ _ _ _,zN hbel _⟩
     ·have hstep:xe s.data.toList=(xe (s.data.toList.drop (m+2))).map ((acc++ [UInt8.ofNat (16*(val s[m]).toNat+(val s[m+1]).toNat)])++ ·):=by
       rw [HU.o,HD.o,xe,if_neg hbad,Option.map_map]
       congr 1;funext x;simp
      have HG:=sqH hstep;clear hstep;have hna:¬val s[m]<0:=fun h=>hbad (.inl h);have hnb:¬val s[m+1]<0:=fun h=>hbad (.inr h);clear hbad;have hacl:=HA.o;go_wp2_with fail;go_quiet ((go_at_call 114;exact Calls.quiet_of_same (Uj _ _)))
      refine wH ?_;intros;refine zg rfl (.tmp 40) (.tmp 46) rfl Zd wu (ZV hown nq) rfl rfl (by simp;rfl) wj hsw ?_;intro v2 w2 hown2 hg2 _;have hb2:=zj (zN hbel nq) (ZV hown nq) ab hg2;have e1:bys (acc++ [UInt8.ofNat (16*(val s[m]).toNat+(val s[m+1]).toNat)])=bys acc++ [ax .u8 (16*val s[m]+val s[m+1])]:=by
       rw [qY];congr 1;simp only [bys,List.map_cons,List.map_nil,UInt8.toNat_ofNat']
       congr 2;omega
      go_wp2_with fail;rw [<-e1]at hown2;go_roundw
      case rel=>exact⟨k+1,acc++ [UInt8.ofNat (16*(val s[m]).toNat+(val s[m+1]).toNat)],by have:=HM.o;go_num,wj,by rw [List.length_append];simp only [List.length_cons,List.length_nil];omega,by rw [show 2*(k+1)=m+2 by have:=HM.o;omega];exact HG.o,by rw [List.length_append];exact hown2,hb2⟩
      case measure=>simp [intOf];omega
    ·have hkq:k=q:=wj
     have hfin:xJ s.data.toList=(acc,0):=by
      rw [HF.o,HU.o,List.drop_of_length_le (wW HZ),xe];simp
     have HG:=sqH hfin;clear hfin;obtain⟨A1,c1,rfl,hc1,_⟩:=Rd.of_own' hown;have hmm:s.size<=m:=wj;clear hkq hm;go_wp2_with fail;go_ret2;rw [HG.o];exact⟨A1,c1,rfl,⟨hown,hc1⟩,hbel⟩
theorem yc (A:ae) (n c:Nat) (l:ac) (w:World) (hl:l.length=n) (hc:n<=c) (hm:n<=140737488353280) (hr:Rd w 1 A n (bys l)) :
  Calls zZZ 68 #[aw A n c] w fun e w'=>∃v,e= .returned v/\w'.ownsRow w.heap.size 5 1 v n (bys l)/\Below w.heap.size w w':=by
 have heq:=fun W=>Lib.run_eql_slice_nil (P:=zZZ) W 44 5 A n c 0 0 underlying44;cases A with
 | none =>
  obtain rfl:n=0:=by
   rcases Nat.eq_zero_or_pos n with h | h
   ·exact h
   ·obtain⟨_,_,h1,_⟩:=hr.2 h;cases h1
  obtain rfl:l= []:=List.eq_nil_of_length_eq_zero hl;go_enter func68,ntmps68;go_wp2_with fail;go_ret;exact⟨_,rfl,World.ownsRow_nil _ _ _ _,Below.refl _ _⟩
 | some ad =>
  go_enter func68,ntmps68
  refine wH ?_;intros;refine zK rfl (.tmp 5) (.tmp 6) rfl Zd wu (World.ownsRow_made (size:=1) w #[] 0 ab (by simp [maxLen]) rfl) wu (hr.alloc _) (xL _) wj ws ?_;intro v1 w1 hown1 hg1 _;have hb1:=zj ((Below.refl _ _).alloc ab _) (World.ownsRow_made (size:=1) w #[] 0 ab (by simp [maxLen]) rfl) ab hg1;go_wp2_with fail;go_ret;exact⟨_,rfl,by simpa using hown1,hb1⟩
def vu:Nat->Nat->List UInt8->Nat×ac×Nat
 | _,_, []=>(0, [],8)
 | i,n,c::r =>
  if c.toNat<128 then
   if 4294967295<n+c.toNat % 128*128 ^ i\/(c.toNat=0/\0<i) then (0, [],3) else (n+c.toNat % 128*128 ^ i,r,0)
  else if i=4 then (0, [],3) else vu (i+1) (n+c.toNat % 128*128 ^ i) r
def zB (b:ac):Nat×ac×Nat:=vu 0 0 b
theorem VR (n:Int) (h0:0<=n) (h1:n<2 ^ 63):IntKind.i64.wrap n=n:=by
 rw [IntKind.wrap_i64];simp at h1;omega
theorem JK (N c k:Nat) (hk:k<=4) (hN:N<128 ^ k) (hc:c<128):bits .or ay (N:Int) (wrap64 ((c:Int) % 128*2 ^ (7*k)))=((N+c % 128*128 ^ k:Nat):Int):=by
 have e0:(128:Nat) ^ k=2 ^ (7*k):=by rw [show(128:Nat)=2 ^ 7 by rfl,<-Nat.pow_mul]
 have hp:2 ^ (7*k)<=2 ^ 28:=Nat.pow_le_pow_right wj wj;have hm:c % 128=c:=Nat.mod_eq_of_lt hc;have hb:c*2 ^ (7*k)<=127*2 ^ 28:=Nat.mul_le_mul wj hp;have e1:((c:Int) % 128*2 ^ (7*k))=((c*2 ^ (7*k):Nat):Int):=by
  rw [show((c:Int) % 128)=(c:Int) by omega,Int.natCast_mul,Int.natCast_pow];rfl
 rw [e1,show wrap64 ((c*2 ^ (7*k):Nat):Int)=((c*2 ^ (7*k):Nat):Int) from IntWalk.wrap64_in _ ⟨wj,wj⟩];have h2:N<2 ^ 63:=by rw [e0]at hN;omega
 rw [(bits_nat ay 63 wo VR N (c*2 ^ (7*k)) h2 wj).2,hm,e0]
 congr 1
 rw [e0]at hN;have:=Nat.two_pow_add_eq_or_of_lt hN c;rw [Nat.or_comm,Nat.mul_comm,<-this];omega
set_option maxRecDepth 20000 in
theorem jG (A:ae) (n c:Nat) (l:ac) (w:World) (hl:l.length=n) (hc:n<=c) (hm:n<=140737488353280) (hr:Rd w 1 A n (bys l)) :
  Calls zZZ 70 #[aw A n c] w fun e w'=>∃v,e= .returned (.tuple #[ax ay (zB l).1,v,ax ay (zB l).2.2]) /\
   w'.ownsRow w.heap.size 5 1 v (zB l).2.1.length (bys (zB l).2.1)/\Below w.heap.size w w':=by
 go_enter func70,ntmps70
 refine wH ?_;intros;go_loop [5,10] (fun m i=>∃k N:Nat,i= ax ay k/\m= ax ay N/\k<=n/\k<=4/\N<128 ^ k/\zB l=vu k N (l.drop k)) (fun _ i=>n - (intOf i).toNat)
 case atStart=>exact⟨0,0,rfl,rfl,wj,wj,ws,rfl⟩
 case round =>
  obtain⟨k,N,rfl,rfl,hk,hk4,hN,hrd⟩:=hrel;have HR:=sqH hrd;clear hrd;have HN:=sqH hN;clear hN;by_cases hlt:k<n
  ·obtain⟨b,off,u,rfl,_,hu,hcell⟩:=hr.at_ hlt;rw [vh l k wj]at hu;cases hu
   have hc0:=l[k].toNat_lt;generalize hcc:l[k].toNat=cc at *
   have HC:=sqH hcc;clear hcc;have hdr:l.drop k=l[k]::l.drop (k+1):=List.drop_eq_getElem_cons wj;have HD:=sqH hdr;clear hdr;by_cases h128:cc<128
   ·have hor:=JK N cc k hk4 HN.o h128;generalize hM:N+cc % 128*128 ^ k=M at *
    have HM:=sqH hM;clear hM;by_cases hbig:4294967295<M
    ·have hfin:zB l=(0, [],3):=by rw [HR.o,HD.o,vu,HC.o,if_pos h128,HM.o,if_pos (.inl hbig)]
     have HF:=sqH hfin;clear hfin
     refine wH ?_;intros;go_ret3;rw [HF.o];exact⟨_,rfl,World.ownsRow_nil _ _ _ _,Below.refl _ _⟩
    ·by_cases h00:cc=0/\0<k
     ·have hfin:zB l=(0, [],3):=by rw [HR.o,HD.o,vu,HC.o,if_pos h128,if_pos (.inr h00)]
      have HF:=sqH hfin;clear hfin;obtain⟨h0,hk0⟩:=h00;have hcc1:((cc:Int)==0)=true:=beq_iff_eq.2 wj;clear h0
      refine wH ?_;intros;go_ret3;rw [HF.o];exact⟨_,rfl,World.ownsRow_nil _ _ _ _,Below.refl _ _⟩
     ·have hfin:zB l=(M,l.drop (k+1),0):=by rw [HR.o,HD.o,vu,HC.o,if_pos h128,HM.o,if_neg wj]
      have HF:=sqH hfin;clear hfin;have hcut:=hr.cutAt (k:=k+1) (c:=c) wj hc;rw [xl]at hcut;have hlen:(l.drop (k+1)).length=n - (k+1):=by rw [List.length_drop,hl]
      have HL:=sqH hlen;clear hlen;by_cases hc0':cc=0
      ·have hcc1:((cc:Int)==0)=true:=beq_iff_eq.2 wj;have hk0:k<=0:=wj
       clear hc0' h00
       refine wH ?_;intros;refine(yc _ _ _ _ _ HL.o wj wj hcut).mono ?_;rintro e_ w_ ⟨v1,rfl,hown1,hb1⟩;dsimp only
       refine wH ?_;intros;go_ret3;rw [HF.o];exact⟨_,rfl,by rw [HL.o];exact hown1,hb1⟩
      ·have hcc0:((cc:Int)==0)=false:=beq_eq_false_iff_ne.2 wj
       refine wH ?_;intros;refine(yc _ _ _ _ _ HL.o wj wj hcut).mono ?_;rintro e_ w_ ⟨v1,rfl,hown1,hb1⟩;dsimp only
       refine wH ?_;intros;go_ret3;rw [HF.o];exact⟨_,rfl,by rw [HL.o];exact hown1,hb1⟩
   ·have hor:=JK N (cc - 128) k hk4 HN.o wj;have ecc:((cc - 128:Nat):Int) % 128=(cc:Int) % 128:=wj
    have ecd:(cc - 128) % 128=cc % 128:=wj;rw [ecc,ecd]at hor;clear ecc ecd;generalize hM:N+cc % 128*128 ^ k=M at *
    have HM:=sqH hM;clear hM;by_cases h4:k=4
    ·subst h4;have hfin:zB l=(0, [],3):=by rw [HR.o,HD.o,vu,HC.o,if_neg h128,if_pos rfl]
     have HF:=sqH hfin;clear hfin
     refine wH ?_;intros;go_ret3;rw [HF.o];exact⟨_,rfl,World.ownsRow_nil _ _ _ _,Below.refl _ _⟩
    ·have hnext:zB l=vu (k+1) M (l.drop (k+1)):=by rw [HR.o,HD.o,vu,HC.o,if_neg h128,if_neg h4,HM.o]
     have HF:=sqH hnext;clear hnext;have hMlt:M<128 ^ (k+1):=by
      have h1:=HM.o;have h2:=HN.o;have h3:cc % 128*128 ^ k<=127*128 ^ k:=Nat.mul_le_mul wj ab;rw [Nat.pow_succ];omega
     have HG:=sqH hMlt;clear hMlt;have hk4b:((k:Int)==4)=false:=beq_eq_false_iff_ne.2 wj
     refine wH ?_;intros;go_round
     case rel=>exact⟨k+1,M,by go_num,rfl,wj,wj,HG.o,HF.o⟩
     case measure=>simp [intOf];omega
  ·have hfin:zB l=(0, [],8):=by rw [HR.o,List.drop_of_length_le wj,vu]
   have HF:=sqH hfin;clear hfin
   refine wH ?_;intros;go_ret3;rw [HF.o];exact⟨_,rfl,World.ownsRow_nil _ _ _ _,Below.refl _ _⟩
theorem ye {c:Nat} {l:ac} {er:Nat} (E:Int) (hE:er=E) (hrd:zB l=(m,rest,er)) (hl:l.length=n) (hc:n<=c) (hm:n<=140737488353280) (hr:Rd w 1 A n (bys l)) :
  Calls zZZ 70 #[aw A n c] w fun e w'=>∃A' c',e= .returned (.tuple #[ax ay m,aw A' rest.length c',ax ay E]) /\
   OwnB 5 w.heap.size w' A' c' rest/\Below w.heap.size w w':=by
 subst hE;refine(jG A n c l w hl hc hm hr).mono fun e w' ⟨v,he,ho,hb⟩=> ?_;rw [hrd]at he ho;obtain⟨A',c',rfl,h⟩:=OwnB.of rfl ho;exact⟨A',c',he,h,hb⟩
theorem Jh:∀(b:ac) (i a m:Nat) (rest:ac),i<=4->vu i a b=(m,rest,0) ->
  m<=4294967295/\∃n,m=a+n*128 ^ i/\b=num n++rest/\(i=0\/0<n):=by
 intro b
 induction b with
 | nil=>intro i a m rest _ h;simp [vu]at h
 | cons c r ih =>
  intro i a m rest hi h;rw [vu]at h;by_cases hc:c.toNat<128
  ·rw [if_pos hc]at h;split at h
   ·simp at h
   ·rename_i hx;simp only [Prod.mk.injEq,and_true]at h;obtain⟨rfl,rfl⟩:=h;rw [Nat.mod_eq_of_lt hc]at hx ⊢
    refine⟨wj,c.toNat,rfl,?_,wj⟩;rw [kh hc];simp
  ·rw [if_neg hc]at h;split at h
   ·simp at h
   ·rename_i h4;obtain⟨hm,n,e1,e2,e3⟩:=ih (i+1) _ m rest wj h;have hn:0<n:=wj
    have hc2:=c.toNat_lt;refine⟨hm,c.toNat % 128+128*n,?_,?_,.inr wj⟩
    ·rw [e1,Nat.pow_succ,Nat.add_mul];have:n*(128 ^ i*128)=128*n*128 ^ i:=by rw [Nat.mul_comm (128 ^ i) 128,<-Nat.mul_assoc,Nat.mul_comm n 128]
     omega
    ·rw [QC wj,e2];have h1:(c.toNat % 128+128*n) % 128+128=c.toNat:=wj
     have h2:(c.toNat % 128+128*n) / 128=n:=wj;rw [h1,h2];simp
theorem xx {b:ac} (h:zB b=(m,rest,0)):m<=4294967295/\b=num m++rest:=by
 obtain⟨h1,n,h2,h3,_⟩:=Jh b 0 0 m rest wj h;simp at h2;subst h2;exact⟨h1,h3⟩
def bl (n:Nat):Nat:=if h:n=0 then 0 else bl (n / 2)+1
termination_by n
decreasing_by omega
theorem z1m {base:Nat} {cap k:Nat} {xs:af} (h:w.ownsRow base e size (aw A n cap) n xs) (hk:k<=n) :
  w.ownsRow base e size (aw A k cap) k (xs.take (k*size)):=by
 refine⟨by rw [List.length_take,h.1];exact Nat.min_eq_left (Nat.mul_le_mul_right _ hk),?_⟩;rcases h.2 with ⟨h1,h2⟩ | ⟨g,cap',cur,hv,hb,hg,hnc,hcm,hcs,htake⟩
 ·left;injection h1 with e1 e2 e3;subst e1 e3;obtain rfl:k=0:=by omega
  exact⟨rfl,rfl⟩
 ·right;injection hv with e1 e2 e3;subst e1 e3;refine⟨g,cap,cur,rfl,hb,hg,wj,hcm,hcs,?_⟩;rw [<-htake,List.take_take,Nat.min_eq_left (Nat.mul_le_mul_right _ hk)]
theorem QI {ty:TypeId} (E:El P t e size bytes) (hit:P.underlying it=aC (.int ay)) (n:Nat) (h0:0<n) (hb:n*bytes<=140737488355328) :
  ∃cap cells,(Builtin.append_ #[t,it] ty #[aw aB 0 0,ax ay n]).run P w= .ok (aw (aC ⟨w.heap.size,0,aB⟩) n cap) (w.drew.alloc (.cells cells e))/\n<=cap/\cap<=maxLen/\cells.size=cap*size:=by
 have hpb:=E.posb;have hps:=E.pos;obtain⟨hu,⟨i,z,hi,hz,hs,hby,hzs⟩,_,_⟩:=E;have hn47:n<=140737488355328:=Nat.le_trans (Nat.le_mul_of_pos_right n hpb) hb;have hge:=grownCap_ge w n 0 e;have hcm:=grownCap_le_maxLen w n 0 e (by simp only [maxLen];omega);have h63':¬(9223372036854775807<(n:Int)):=wj;have h48':¬(281474976710656<Builtin.nextslicecap n 0*i.bytes):=by rw [nextslicecap_zero h0,hby];omega
 have hw:IntKind.i64.wrap (n:Int)=n:=by rw [IntKind.wrap_i64];omega
 have hl:¬((n:Int)<0):=wj;have hl2:¬(281474976710656<(n:Int)*(i.bytes:Int)):=by rw [hby,<-Int.natCast_mul];omega
 have hns:¬(n*i.size=0):=by rw [hs];exact Nat.ne_of_gt (Nat.mul_pos h0 hps)
 have hn0:n≠0:=wj;refine⟨grownCap w n 0 e,#[]++Builtin.zeroCells z.cells n++Builtin.zeroCells z.cells (grownCap w n 0 e - n),?_,hge,hcm,?_⟩
 ·simp [Builtin.append_,run_underlying hu,run_underlying hit,sizeOf,typeInfo,zeroValue,hi,hz,asInt,asIntOf,hw,hl,hl2,hn0,h63',h48',Question.forced,run_firstCells_none,newRow,grownCap];intro h;exact absurd h hns
 ·simp only [Array.size_append,size_zeroCells,hzs];rw [show(#[]:Array Value).size=0 from rfl,Nat.zero_add,<-Nat.add_mul];congr 1;omega
theorem YD {ops:Array Oper} {rest:List Oper} {o:Oper} {a:Act} {Q:ag} (hgd:o.guard=aB) (s x:Operand) 
  (ho:o.op= .call { callee:= .builtin .append,args:=#[s,x],argTypes:=#[t,it] }) (E:El P t e size bytes) (hit:P.underlying it=aC (.int ay))
  (n:Nat) (h0:0<n) (hb:n*bytes<=140737488355328) (hs:a.eval s= aw aB 0 0) (hx:a.eval x= ax ay n)
  (h:∀A c w',w'.ownsRow w.heap.size e size (aw A 0 c) 0 []->n<=c->Below w.heap.size w w'->wpList P ops Q rest (a.put o.dst (aw A n c)) w') :
  wpList P ops Q (o::rest) a w:=by
 refine wpList_plain hgd fun _ hK=> ?_;obtain⟨cap,cells,hrun,h1,h2,h3⟩:=QI (P:=P) (w:=w) (ty:=o.type) E hit n h0 hb;unfold Oper.wp execOp;simp only [ho,resolve,invoke,builtin,Sem.run_bind,Sem.run_pure,Result.andThen_ok,List.map_toArray,List.map_cons,List.map_nil,hs,hx,hrun];refine hK _ _ (h _ _ _ ?_ h1 ((Below.refl _ _).drew.alloc ab _));exact World.ownsRow_made w.drew cells cap ab h2 h3
end Go.Proofs.YtcjndgldjhmbgaaGreat
