/- Lemmas, as stated. -/
import Derived.Laws.ResultCell
import Derived.Test.YtcjmjaefcjcomaaGreatQB08
import Derived.Test.YtcjmjaefcjcomaaGreatQB09
set_option linter.unusedVariables false
set_option linter.unusedSimpArgs false
set_option maxRecDepth 100000
set_option maxHeartbeats 16000000
open Go.Proofs.Tryz
open Option renaming none->aF,some->aG
open Go.Value renaming slice->aA,int->aB,string->aD
open Go.IntKind renaming i64->aC
open Go.Obj renaming cells->aE
open And renaming intro->aH
namespace Go.Proofs.YtcjmjaefcjcomaaGreat
open Go.RowKit
variable {a:Act} {ops:Array Oper} {b:Bool} {c:Code} {p:List PartP} {g k n:Nat} {P:Program} {e:TypeId} {a0 a1 a2 a3 a4:Value} {W w:World} {d t:ai} {A:aj} {Q:al}
structure OrdP where
 kind:Nat
 n:Nat
 dig:ai
 data:ai
 aP:List PartP
structure FldP where
 n:Bool
 dig:Bool
 data:Bool
 aP:Bool
def fOf (k:Nat):FldP×Bool :=
 if k=1 then (⟨false,false,true,false⟩,true)
 else if k=2\/k=3\/k=4\/k=6\/k=7\/k=8\/k=14 then (⟨false,true,false,false⟩,true)
 else if k=5\/k=13 then (⟨false,true,false,true⟩,true)
 else if k=9\/k=11 then (⟨true,false,false,false⟩,true)
 else if k=10 then (⟨false,false,false,false⟩,true)
 else if k=12 then (⟨true,true,false,false⟩,true)
 else (⟨false,false,false,false⟩,false)
theorem Qu (h:14<k):fOf k=(⟨false,false,false,false⟩,false):=by
 unfold fOf;rw [if_neg wu,if_neg wu,if_neg wu,if_neg wu,if_neg wu,if_neg wu]
theorem Kh (h:(fOf k).2=true):1<=k/\k<=14:=by
 rcases Nat.lt_or_ge 14 k with h1 | h1
 ·rw [Qu h1]at h;cases h
 ·rcases Nat.eq_zero_or_pos k with rfl | h0
  ·exact absurd h aa
  ·exact⟨h0,h1⟩
def z3p (o:OrdP):Nat :=
 if (fOf o.kind).2=false then 2
 else if ((fOf o.kind).1.n=false/\o.n≠0)\/((fOf o.kind).1.dig=false/\o.dig≠ [])\/((fOf o.kind).1.data=false/\o.data≠ [])\/((fOf o.kind).1.aP=false/\o.aP≠ []) then 3
 else if 4000<o.n then 4
 else if (fOf o.kind).1.dig=true/\hexC o.dig≠0 then hexC o.dig
 else if 300<o.data.length then 1
 else chk o.aP
structure GoodO (o:OrdP):Prop where
 kind:(fOf o.kind).2=true
 n0:(fOf o.kind).1.n=false->o.n=0
 d0:(fOf o.kind).1.dig=false->o.dig= []
 t0:(fOf o.kind).1.data=false->o.data= []
 p0:(fOf o.kind).1.aP=false->o.aP= []
 n1:o.n<=4000
 d1:(fOf o.kind).1.dig=true->hexC o.dig=0
 t1:o.data.length<=300
 p1:chk o.aP=0
theorem UT (o:OrdP):z3p o=0↔GoodO o:=by
 constructor
 ·intro h;unfold z3p at h;split at h
  ·cases h
  ·rename_i h1;split at h
   ·cases h
   ·rename_i h2;split at h
    ·cases h
    ·rename_i h3;split at h
     ·rename_i h4;exact absurd h h4.2
     ·rename_i h4;split at h
      ·cases h
      ·rename_i h5;have q1:∀ {p:Prop} [Decidable p],¬(¬p)->p:=fun h=>Decidable.not_not.1 h;refine⟨by simpa using h1,fun e=>q1 fun g=>h2 (.inl ⟨e,g⟩),fun e=>q1 fun g=>h2 (.inr (.inl ⟨e,g⟩)),fun e=>q1 fun g=>h2 (.inr (.inr (.inl ⟨e,g⟩))),fun e=>Classical.not_not.1 fun g=>h2 (.inr (.inr (.inr ⟨e,g⟩))),wu,fun e=>q1 fun g=>h4 ⟨e,g⟩,wu,h⟩
 ·intro h;unfold z3p;rw [if_neg (by rw [h.kind];decide),if_neg ?_,if_neg (by have:=h.n1;omega),if_neg (fun g=>g.2 (h.d1 g.1)),if_neg (by have:=h.t1;omega),h.p1];rintro(g | g | g | g)
  ·exact g.2 (h.n0 g.1)
  ·exact g.2 (h.d0 g.1)
  ·exact g.2 (h.t0 g.1)
  ·exact g.2 (h.p0 g.1)
def z2n (f:FldP) (o:OrdP):ai :=
 (if f.n then num o.n else [])++((if f.dig then (kr o.dig).1 else [])++((if f.data then txt o.data else [])++(if f.aP then enc o.aP else [])))
def Ka (o:OrdP):ai:=num o.kind++z2n (fOf o.kind).1 o
def noO (e:Nat):OrdP×Nat:=(⟨0,0, [], [], []⟩,e)
def yV (o:OrdP) (l:ai):OrdP×Nat:=if 0<l.length then noO 3 else if z3p o≠0 then noO (z3p o) else (o,0)
def Zw (f:FldP) (o:OrdP) (l:ai):OrdP×Nat :=
 if f.aP then (if (qU l).2≠0 then noO (qU l).2 else yV { o with aP:=(qU l).1 } []) else yV o l
def Zv (f:FldP) (o:OrdP) (l:ai):OrdP×Nat :=
 if f.data then (if (kM l).2.2≠0 then noO (kM l).2.2 else Zw f { o with data:=(kM l).1 } (kM l).2.1) else Zw f o l
def uI (f:FldP) (o:OrdP) (l:ai):OrdP×Nat :=
 if f.dig then (if l.length<32 then noO 8 else Zv f { o with dig:=kH (l.take 32) } (l.drop 32)) else Zv f o l
def Xv (f:FldP) (o:OrdP) (l:ai):OrdP×Nat :=
 if f.n then (if (zm l).2.2≠0 then noO (zm l).2.2 else uI f { o with n:=(zm l).1 } (zm l).2.1) else uI f o l
def yU (l:ai):OrdP×Nat :=
 if (zm l).2.2≠0 then noO (zm l).2.2
 else if (fOf (zm l).1).2=false then noO 2
 else Xv (fOf (zm l).1).1 ⟨(zm l).1,0, [], [], []⟩ (zm l).2.1
theorem JK (h:hexC d=0):((kr d).1).length=32/\kH (kr d).1=d:=⟨(kf h).2,ZI (kf h).1⟩
theorem UL {o:OrdP} (h:GoodO o):yV o []=(o,0):=by
 rw [yV,if_neg ab,if_neg (by rw [(UT o).2 h];simp)]
theorem UM (o:OrdP) (h:GoodO o):yU (Ka o)=(o,0):=by
 have hk:=Kh h.kind;have e1:zm (Ka o)=(o.kind,z2n (fOf o.kind).1 o,0):=yH _ _ wu;rw [yU,e1];dsimp only;rw [if_neg ab,if_neg (by rw [h.kind];decide)];generalize hf:(fOf o.kind).1=f;have n0:=h.n0;have d0:=h.d0;have t0:=h.t0;have p0:=h.p0;have d1:=h.d1;have n1:=h.n1;have t1:=h.t1;have p1:=h.p1;rw [hf]at n0 d0 t0 p0 d1;have h5:=UL h;clear h e1 hk hf;obtain⟨k,n,d,t,p⟩:=o;obtain⟨fn,fd,ft,fp⟩:=f;dsimp only at *
 have s4:∀l,l=(if fp then enc p else [])->Zw ⟨fn,fd,ft,fp⟩ ⟨k,n,d,t, []⟩ l=(⟨k,n,d,t,p⟩,0):=by
  rintro l rfl;cases fp with
  | false=>obtain rfl:=p0 rfl;exact h5
  | true=>rw [Zw,if_pos rfl,if_pos rfl,UJ p p1,if_neg ab];exact h5
 have s3:∀l,l=(if ft then txt t else [])++(if fp then enc p else [])->Zv ⟨fn,fd,ft,fp⟩ ⟨k,n,d, [], []⟩ l=(⟨k,n,d,t,p⟩,0):=by
  rintro l rfl;cases ft with
  | false=>obtain rfl:=t0 rfl;exact s4 _ rfl
  | true=>rw [Zv,if_pos rfl,if_pos rfl,ZW _ _ wu,if_neg ab];exact s4 _ rfl
 have s2:∀l,l=(if fd then (kr d).1 else [])++((if ft then txt t else [])++(if fp then enc p else []))->uI ⟨fn,fd,ft,fp⟩ ⟨k,n, [], [], []⟩ l=(⟨k,n,d,t,p⟩,0):=by
  rintro l rfl;cases fd with
  | false=>obtain rfl:=d0 rfl;exact s3 _ rfl
  | true =>
   have hd:=JK (d1 rfl);rw [uI,if_pos rfl,if_pos rfl,if_neg (by rw [List.length_append];omega),List.take_append_of_le_length wu,List.take_of_length_le wu,List.drop_append_of_le_length wu,List.drop_of_length_le wu,hd.2];exact s3 _ rfl
 cases fn with
 | false=>obtain rfl:=n0 rfl;exact s2 _ rfl
 | true =>
  rw [Xv,if_pos rfl];have e:zm (z2n ⟨true,fd,ft,fp⟩ ⟨k,n,d,t,p⟩)=(n,_,0):=yH n _ wu;rw [e,if_neg ab];exact s2 _ rfl
theorem jV (n:Nat) (h:n<=4000):1<=(num n).length/\(num n).length<=2:=xY n 1 wu
theorem Qs (o:OrdP) (h:GoodO o):1<=(Ka o).length/\(Ka o).length<=800:=by
 have hk:=Kh h.kind;have a:=jV o.kind wu;have b:=jV o.n h.n1;have c:=QK o.data (by have:=h.t1;omega);have d:=XC o.aP h.p1;have e:=h.d1;have t1:=h.t1;rw [Ka,z2n];generalize (fOf o.kind).1=f at *
 have hd:(if f.dig then (kr o.dig).1 else []).length<=32:=by
  split
  ·rename_i hh;rw [(JK (e hh)).1];omega
  ·simp
 have hn:(if f.n then num o.n else []).length<=2:=by split;omega;exact Nat.zero_le _
 have ht:(if f.data then txt o.data else []).length<=302:=by split;omega;exact Nat.zero_le _
 have hp:(if f.aP then enc o.aP else []).length<=388:=by split;omega;exact Nat.zero_le _
 simp only [List.length_append];omega
theorem yp {fn:Func} {p u:Tmp} {ty:TypeId} (h:fn.results=#[.cell p ty,.tmp u]) (tmps:Array Value) (w:World) (g:Nat) (t:TypeId) (cs:Array Value) (fr:Nat×Nat) (d:TypeDesc)
  (hp:tmps.getD p undef= .pointer (aG ⟨g,0,aF⟩)) (hg:w.heap[g]?=aG (.cells cs t fr))
  (hu:P.underlying ty=aG d) (hd:(match d with | .struct _ | .array _ _=>true | _=>false)=true) (hi:(P.info? ty).map (·.size)=aG cs.size) :
  (results fn tmps).run P w= .ok (.tuple #[.agg cs,tmps.getD u undef]) w:=by
 have hp':tmps[p]?.getD undef= .pointer (aG ⟨g,0,aF⟩):=by simpa using hp
 simp [results,h,hp',asAddr,run_loadVar_row w g t ty cs fr d hg hu hd hi]
def fcs (f:FldP):Array Value:=#[.bool f.n,.bool f.dig,.bool f.data,.bool f.aP]
def z0l (k:Nat) (w:World):Prop:=Calls Tryz.prog 17 #[.int .i64 k] w fun e w'=>e= .returned (.tuple #[.agg (fcs (fOf k).1),.bool (fOf k).2])/\Below w.heap.size w w'
theorem Um (k:Nat) (hk:k<=14) (w:World):z0l k w:=by
 have h:k=0\/k=1\/k=2\/k=3\/k=4\/k=5\/k=6\/k=7\/k=8\/k=9\/k=10\/k=11\/k=12\/k=13\/k=14:=wu;clear hk;unfold z0l;rcases h with rfl | rfl | rfl | rfl | rfl | rfl | rfl | rfl | rfl | rfl | rfl | rfl | rfl | rfl | rfl
 all_goals (
  go_enter func17,ntmps17;go_wp2_with fail;refine bodyPost_ret (yp rfl _ _ w.heap.size _ _ _ _ ac (World.alloc_heap_new w _) underlying62 rfl ww) rfl ⟨ac,(Below.refl _ _).alloc ag _⟩)
theorem z0m (k:Nat) (w:World):z0l k w:=by
 rcases Nat.lt_or_ge 14 k with hk | hk
 ·unfold z0l;rw [Qu hk];have e1:((k:Int)==1)=false:=by rw [beq_eq_false_iff_ne];omega
  have e2:((k:Int)==2)=false:=by rw [beq_eq_false_iff_ne];omega
  have e3:((k:Int)==3)=false:=by rw [beq_eq_false_iff_ne];omega
  have e4:((k:Int)==4)=false:=by rw [beq_eq_false_iff_ne];omega
  have e5:((k:Int)==5)=false:=by rw [beq_eq_false_iff_ne];omega
  have e6:((k:Int)==6)=false:=by rw [beq_eq_false_iff_ne];omega
  have e7:((k:Int)==7)=false:=by rw [beq_eq_false_iff_ne];omega
  have e8:((k:Int)==8)=false:=by rw [beq_eq_false_iff_ne];omega
  have e9:((k:Int)==9)=false:=by rw [beq_eq_false_iff_ne];omega
  have e10:((k:Int)==10)=false:=by rw [beq_eq_false_iff_ne];omega
  have e11:((k:Int)==11)=false:=by rw [beq_eq_false_iff_ne];omega
  have e12:((k:Int)==12)=false:=by rw [beq_eq_false_iff_ne];omega
  have e13:((k:Int)==13)=false:=by rw [beq_eq_false_iff_ne];omega
  have e14:((k:Int)==14)=false:=by rw [beq_eq_false_iff_ne];omega
  clear hk;go_enter func17,ntmps17;go_wp2_with fail;refine bodyPost_ret (yp rfl _ _ w.heap.size _ _ _ _ ac (World.alloc_heap_new w _) underlying62 rfl ww) rfl ⟨rfl,(Below.refl _ _).alloc ag _⟩
 ·exact Um k hk w
def z3q (o:OrdP) (A:aj) (c:Nat) (A':aj) (c':Nat):Value:= .agg #[.int .i64 o.kind,.int .i64 o.n,.string ⟨o.dig.toArray⟩,.slice A o.data.length c,.slice A' o.aP.length c']
theorem z0w (A:aj) (n c:Nat) (l:ai) (E:Int) (gb base:Nat) (v:Value) (X:ai) (w:World) (hl:l.length=n) (h0:0<n) (hr:Rd w 1 A n (bys l)) (hbox:Arr w gb 25 [v]) (hown:w.ownsRow base 5 1 v X.length (bys X))
  (hbase:base<=gb) (hX:X.length+n<=1000000) (hne:v.ownBlock≠aG gb) :
  Calls Tryz.prog 18 #[.slice A n c,.int .i64 E,.pointer (aG ⟨gb,0,aF⟩)] w fun e w'=>e= .returned (.tuple #[])/\∃v',Arr w' gb 25 [v']/\w'.ownsRow base 5 1 v' (X++l).length (bys (X++l))/\v'.ownBlock≠aG gb/\Below base w w' /\
   w.heap.size<=w'.heap.size/\(∀k,k<w.heap.size->k≠gb->v.ownBlock≠aG k->w'.heap[k]?=w.heap[k]?/\v'.ownBlock≠aG k):=by
 have hgl:=hbox.lt;have c0:=hbox.c0;have f0:=hbox.frozen 0;go_enter func18,ntmps18
 refine wL ?_;intros;refine zG rfl (.tmp 5) (.tmp 6) rfl vu ac hown ac hr (kC _) wu wu ?_;intro v1 w1 ho1 hg1 hw1;have hgr:∀k,k<w.heap.size->v.ownBlock≠aG k->w1.heap[k]?=w.heap[k]?:=fun k hk hn=>hg1.block k hk (by simpa using Ne.symm hn);have q1:Arr w1 gb 25 [v]:=(hgr gb hgl hne).trans hbox;have hsz1:=hg1.size;have c1:=q1.c0;have f1:=q1.frozen 0;have q2:=q1.set (k:=0) ab v1;have hne1:v1.ownBlock≠aG gb:=by
  rcases hw1 with h | h
  ·rw [h];exact hne
  ·rw [h];intro e;injection e with e;omega
 have hnk:∀k,k<w.heap.size->v.ownBlock≠aG k->v1.ownBlock≠aG k:=fun k hk hn=>by
  rcases hw1 with h | h
  ·rw [h];exact hn
  ·rw [h];intro e;injection e with e;omega
 have hlt1:=ho1.lt;have hb1:Below base w w1:=⟨hg1.os,hg1.tape,hg1.output,hg1.size,fun k hk=>by
  rcases Nat.lt_or_ge k w.heap.size with h | h
  ·exact hgr k h (fun e=>by have:=(hown.lt k e).1;omega)
  ·omega⟩
 obtain⟨A1,cp1,rfl,hcp1,hrd1⟩:=Rd.of_own' ho1
 refine wL ?_;intros;go_end0;refine⟨rfl,_,q2,?_,hne1,Below.setCell hb1 hbase _,by rw [World.size_setCell];exact hsz1,fun k hk hkg hkv=>⟨(Below.heap_setCell _ _ _ k hkg).trans (hgr k hk hkv),hnk k hk hkv⟩⟩;rw [q6,List.length_append,hl];exact zd ho1 hne1
theorem z4t (h:hexC d=0):d.length=64:=by
 unfold hexC at h;split at h
 ·cases h
 ·omega
def put5 (w:World) (g:Nat) (u0 u1 u2 u3 u4:Value):World:=((((w.setCell ⟨g,0,aF⟩ u0).setCell ⟨g,1,aF⟩ u1).setCell ⟨g,2,aF⟩ u2).setCell ⟨g,3,aF⟩ u3).setCell ⟨g,4,aF⟩ u4
theorem Arr.put5 (h:Arr W g e [a0,a1,a2,a3,a4]) (u0 u1 u2 u3 u4:Value):Arr (put5 W g u0 u1 u2 u3 u4) g e [u0,u1,u2,u3,u4] :=
 ((((h.set (k:=0) ab u0).set (k:=1) ab u1).set (k:=2) ab u2).set (k:=3) ab u3).set (k:=4) ab u4
theorem Below.put5 {B:Nat} {a:World} (h:Below B a W) (hg:B<=g) (u0 u1 u2 u3 u4:Value):Below B a (put5 W g u0 u1 u2 u3 u4) :=
 Below.setCell (Below.setCell (Below.setCell (Below.setCell (Below.setCell h hg _) hg _) hg _) hg _) hg _
theorem Rd.put5 {s:Nat} {xs:ak} (h:Rd w s A n xs) (hne:∀b off,A=aG ⟨b,off,aF⟩->0<n->b≠g) (u0 u1 u2 u3 u4:Value):Rd (put5 w g u0 u1 u2 u3 u4) s A n xs :=
 ((((h.far (zF _ g 0 u0) hne).far (zF _ g 1 u1) hne).far (zF _ g 2 u2) hne).far (zF _ g 3 u3) hne).far (zF _ g 4 u4) hne
structure Five (W:World) (g:Nat) (u0 u1 u2 u3 u4:Value):Prop where
 f0:W.frozen? ⟨g,0,aF⟩=false
 f1:(W.setCell ⟨g,0,aF⟩ u0).frozen? ⟨g,1,aF⟩=false
 f2:((W.setCell ⟨g,0,aF⟩ u0).setCell ⟨g,1,aF⟩ u1).frozen? ⟨g,2,aF⟩=false
 f3:(((W.setCell ⟨g,0,aF⟩ u0).setCell ⟨g,1,aF⟩ u1).setCell ⟨g,2,aF⟩ u2).frozen? ⟨g,3,aF⟩=false
 f4:((((W.setCell ⟨g,0,aF⟩ u0).setCell ⟨g,1,aF⟩ u1).setCell ⟨g,2,aF⟩ u2).setCell ⟨g,3,aF⟩ u3).frozen? ⟨g,4,aF⟩=false
 c0:∃v,W.cell? ⟨g,0,aF⟩=aG v
 c1:∃v,(W.setCell ⟨g,0,aF⟩ u0).cell? ⟨g,1,aF⟩=aG v
 c2:∃v,((W.setCell ⟨g,0,aF⟩ u0).setCell ⟨g,1,aF⟩ u1).cell? ⟨g,2,aF⟩=aG v
 c3:∃v,(((W.setCell ⟨g,0,aF⟩ u0).setCell ⟨g,1,aF⟩ u1).setCell ⟨g,2,aF⟩ u2).cell? ⟨g,3,aF⟩=aG v
 c4:∃v,((((W.setCell ⟨g,0,aF⟩ u0).setCell ⟨g,1,aF⟩ u1).setCell ⟨g,2,aF⟩ u2).setCell ⟨g,3,aF⟩ u3).cell? ⟨g,4,aF⟩=aG v
theorem Arr.five (h:Arr W g e [a0,a1,a2,a3,a4]) (u0 u1 u2 u3 u4:Value):Five W g u0 u1 u2 u3 u4:=by
 have h0:=h.set (k:=0) ab u0;have h1:=h0.set (k:=1) ab u1;have h2:=h1.set (k:=2) ab u2;have h3:=h2.set (k:=3) ab u3;exact⟨h.frozen 0,h0.frozen 1,h1.frozen 2,h2.frozen 3,h3.frozen 4,⟨_,h.c0⟩,⟨_,h0.c1⟩,⟨_,h1.c2⟩,⟨_,h2.c3⟩,⟨_,h3.c4⟩⟩
theorem Rd.nil (w:World) (s:Nat):Rd w s aF 0 []:=⟨ab,fun h=>absurd h wu⟩
theorem UR (h:(fOf k).2=false):fOf k=(⟨false,false,false,false⟩,false):=by
 rcases Nat.lt_or_ge 14 k with h1 | h1
 ·exact Qu h1
 ·have h':k=0\/k=1\/k=2\/k=3\/k=4\/k=5\/k=6\/k=7\/k=8\/k=9\/k=10\/k=11\/k=12\/k=13\/k=14:=wu
  rcases h' with rfl | rfl | rfl | rfl | rfl | rfl | rfl | rfl | rfl | rfl | rfl | rfl | rfl | rfl | rfl<;>simp_all [fOf]
structure GoodD (o:OrdP):Prop where
 g:GoodO o
 k7:(5<=o.kind/\o.kind<=8)\/12<=o.kind->∃j,j<7/\o.dig=keyS j
 ask:o.kind=12->1<=o.n/\o.n<=1000
theorem ZD {f:FldP} (hf:fOf k=(f,true)) (h1:f.n=false->n=0) (h2:f.dig=false->d= []) (h3:f.data=false->t= []) (h4:f.aP=false->p= []) (hn:n<=4000) (hd:f.dig=true->hexC d=0) (ht:t.length<=300) (hp:chk p=0)
  (h5:(5<=k/\k<=8)\/12<=k->∃j,j<7/\d=keyS j:=by first | (intro h;omega) | exact fun _=>⟨_,yo _ wu,rfl⟩) (h12:k=12->1<=n/\n<=1000:=by omega):GoodD ⟨k,n,d,t,p⟩ :=
 ⟨⟨by show(fOf k).2=true;rw [hf],by show(fOf k).1.n=false->_;rw [hf];exact h1,by show(fOf k).1.dig=false->_;rw [hf];exact h2,by show(fOf k).1.data=false->_;rw [hf];exact h3,by show(fOf k).1.aP=false->_;rw [hf];exact h4,hn,by show(fOf k).1.dig=true->_;rw [hf];exact hd,ht,hp⟩,h5,h12⟩
def KT (o:OrdP):Prop:=GoodD o/\(o.kind=12->o.n<=9)
theorem xz {f:FldP} (hf:fOf k=(f,true)) (h1:f.n=false->n=0) (h2:f.dig=false->d= []) (h3:f.data=false->t= []) (h4:f.aP=false->p= []) (hn:n<=4000) (hd:f.dig=true->hexC d=0) (ht:t.length<=300) (hp:chk p=0)
  (h5:(5<=k/\k<=8)\/12<=k->∃j,j<7/\d=keyS j:=by first | (intro h;omega) | exact fun _=>⟨_,yo _ wu,rfl⟩) (h12:k=12->1<=n/\n<=9:=by omega):KT ⟨k,n,d,t,p⟩ :=
 ⟨ZD hf h1 h2 h3 h4 hn hd ht hp h5 (fun h=>⟨(h12 h).1,Nat.le_trans (h12 h).2 aa⟩),fun h=>(h12 h).2⟩
def ocell (o:OrdP) (A:aj) (c:Nat) (A':aj) (c':Nat):ak:= [aB aC o.kind,aB aC o.n,aD ⟨o.dig.toArray⟩,aA A o.data.length c,aA A' o.aP.length c']
theorem yG (o:OrdP) (A:aj) (c:Nat) (A':aj) (c':Nat):∀u∈ocell o A c A' c',u.oneCell'=true:=by
 intro u hu;simp only [ocell,List.mem_cons,List.not_mem_nil,or_false]at hu;rcases hu with rfl | rfl | rfl | rfl | rfl<;>rfl
theorem jW {o:OrdP} {c:Nat} {A':aj} {c' b:Nat} (h:leads b (ocell o A c A' c')):∃a,(A=aG a\/A'=aG a)/\a.block=b:=by
 obtain⟨a,n,c2,hm,rfl⟩:=h;simp only [ocell,List.mem_cons,List.not_mem_nil,or_false,Value.slice.injEq,reduceCtorEq,false_or]at hm;rcases hm with ⟨e,_⟩ | ⟨e,_⟩
 ·exact⟨a,.inl e.symm,rfl⟩
 ·exact⟨a,.inr e.symm,rfl⟩
def OrdS:Shp OrdP where
 size:=5
 R w o cs:=∃A c A' c',cs=ocell o A c A' c'/\Sl w 1 A o.data.length c (bys o.data)/\Sl w 3 A' o.aP.length c' (pcs o.aP)
 len:=by rintro w b cs ⟨A,c,A',c',rfl,_⟩;rfl
 one:=by
  rintro w b cs ⟨A,c,A',c',rfl,_⟩
  exact yG b A c A' c'
 live:=by
  rintro w b cs ⟨A,c,A',c',rfl,h,h'⟩ g hl
  obtain⟨a,e | e,rfl⟩:=jW hl
  ·exact h.live a e
  ·exact h'.live a e
 keep:=by
  rintro w w' b cs ⟨A,c,A',c',rfl,h,h'⟩ hs hk
  exact⟨A,c,A',c',rfl,h.keep hs fun g hg ⟨a,ha,hb⟩=>hk g hg ⟨a,b.data.length,c,by subst ha;simp [ocell],hb⟩,h'.keep hs fun g hg ⟨a,ha,hb⟩=>hk g hg ⟨a,b.aP.length,c',by subst ha;simp [ocell],hb⟩⟩
theorem Rw.ord_at {l:List OrdP} (h:Rw OrdS w A l) (k:Nat) (hk:k<l.length) :
  ∃b off B c B' c',A=aG ⟨b,off,aF⟩/\b<w.heap.size/\w.cell? ⟨b,off+k*5,aF⟩=aG (aB aC (l[k].kind:Int))/\w.cell? ⟨b,off+k*5+1,aF⟩=aG (aB aC (l[k].n:Int)) /\
   w.cell? ⟨b,off+k*5+2,aF⟩=aG (aD ⟨l[k].dig.toArray⟩)/\w.cell? ⟨b,off+k*5+3,aF⟩=aG (aA B l[k].data.length c)/\w.cell? ⟨b,off+k*5+4,aF⟩=aG (aA B' l[k].aP.length c') /\
   Sl w 1 B l[k].data.length c (bys l[k].data)/\Sl w 3 B' l[k].aP.length c' (pcs l[k].aP):=by
 obtain⟨b,off,cs,rfl,hb,⟨B,c,B',c',rfl,hs,hs'⟩,hc⟩:=h.at_ k hk;exact⟨b,off,B,c,B',c',rfl,hb,hc 0 _ rfl,hc 1 _ rfl,hc 2 _ rfl,hc 3 _ rfl,hc 4 _ rfl,hs,hs'⟩
theorem uJ:El Tryz.prog 23 28 5 80:=El.mk' (z:= .agg #[aB aC 0,aB aC 0,aD ByteArray.empty,aA aF 0 0,aA aF 0 0]) Tryz.underlying23 ww rfl wu wu
structure OrW (w:World) (H:Nat) (vo vp:Value) (os:List OrdP) (ps:List BlobP):Prop where
 o:RwX OrdS 28 w H vo os (fun g=>vp.ownBlock=aG g)
 p:RwX BlobS 55 w H vp ps (fun g=>vo.ownBlock=aG g)
 ne:∀g,vo.ownBlock=aG g->vp.ownBlock≠aG g
section
variable {w w':World} {H:Nat} {vo vp:Value} {os:List OrdP} {ps:List BlobP}
theorem OrW.below (h:OrW w H vo vp os ps) (hb:Below w.heap.size w w'):OrW w' H vo vp os ps:=⟨h.o.below hb,h.p.below hb,h.ne⟩
theorem OrW.bO (h:OrW w H vo vp os ps):∀g,vo.ownBlock=aG g->H<=g/\g<w.heap.size:=fun g e=>h.o.rwo.blk e
theorem OrW.bP (h:OrW w H vo vp os ps):∀g,vp.ownBlock=aG g->H<=g/\g<w.heap.size:=fun g e=>h.p.rwo.blk e
theorem OrW.openP (h:OrW w H vo vp os ps):∃xs,w.ownsRow H 55 4 vp ps.length xs /\
  ∀(x:BlobP) (B:aj) (c:Nat) (w1 w2:World) (v2:Value),Below w.heap.size w w1->Sl w1 1 B x.data.length c (bys x.data)->(∀a,B=aG a->w.heap.size<=a.block) ->
   w2.ownsRow H 55 4 v2 (ps.length+1) (xs++zX x B c)->w1.grownBy w2 vp.ownBlock->(v2.ownBlock=vp.ownBlock\/v2.ownBlock=aG w1.heap.size) ->
   OrW w2 H vo v2 os (ps++ [x])/\Sl w2 1 B x.data.length c (bys x.data)/\(∀a,B=aG a->∀g,(vo.ownBlock=aG g\/v2.ownBlock=aG g)->a.block≠g):=by
 obtain⟨xs,hx,hop⟩:=h.p.open_;refine⟨xs,hx,fun x B c w1 w2 v2 hb hs hB ho hg hv=> ?_⟩;have h1:=h.below hb;have hsz:=hb.size;have b2:=hop x (zX x B c) w1 w2 v2 hb ⟨B,c,rfl,hs⟩ (fun b hb' hl=>by
  obtain⟨a,e1,rfl⟩:=Zo hl;have:=hB a e1;rcases hb' with e | e
  ·have:=(h.bP _ e).2;omega
  ·have:=(h.bO _ e).2;omega) ho hg (hv.imp id fun e=>⟨_,e,Nat.le_refl _⟩)
 have o2:=(((h1.o.wider (N':=fun g=>vp.ownBlock=aG g\/v2.ownBlock=aG g) (fun b hb=>by
  rcases hb with hb | hb
  ·exact .inl hb
  ·rcases hv with e | e
   ·exact .inl (e▸hb)
   ·rw [e]at hb;cases hb;exact .inr ag)).other hg (fun b e1 e2=>h.ne b e2 e1) (fun b e=> .inl e)).wider (N':=fun g=>v2.ownBlock=aG g) (fun b hb=> .inl (.inr hb)))
 refine⟨⟨o2,b2,fun g e1 e2=> ?_⟩,hs.keep hg.size (fun b hb' ⟨a,e1,e2⟩=>hg.block b hb' (fun e3=> ?_)),fun a e1 g e2 e3=> ?_⟩
 ·rcases hv with e | e
  ·exact h.ne g e1 (e▸e2)
  ·rw [e]at e2;cases e2;have:=(h1.bO _ e1).2;omega
 ·have:=hB a e1;have:=(h.bP _ e3.symm).2;omega
 ·have h5:=hB a e1;have h6:=hs.live a e1;rcases e2 with e2 | e2
  ·have:=(h.bO _ e2).2;omega
  ·rcases hv with e | e
   ·rw [e]at e2;have:=(h.bP _ e2).2;omega
   ·rw [e]at e2;cases e2;omega
theorem OrW.openO (h:OrW w H vo vp os ps):∃xs,w.ownsRow H 28 5 vo os.length xs /\
  ∀(x:OrdP) (B:aj) (c:Nat) (B':aj) (c':Nat) (w2:World) (v2:Value),Sl w 1 B x.data.length c (bys x.data)->Sl w 3 B' x.aP.length c' (pcs x.aP) ->
   (∀a,B=aG a->∀g,(vo.ownBlock=aG g\/vp.ownBlock=aG g)->a.block≠g)->(∀a,B'=aG a->∀g,(vo.ownBlock=aG g\/vp.ownBlock=aG g)->a.block≠g) ->
   w2.ownsRow H 28 5 v2 (os.length+1) (xs++ocell x B c B' c')->w.grownBy w2 vo.ownBlock->(v2.ownBlock=vo.ownBlock\/∃g,v2.ownBlock=aG g/\w.heap.size<=g) ->
   OrW w2 H v2 vp (os++ [x]) ps:=by
 obtain⟨xs,hx,hop⟩:=h.o.open_;refine⟨xs,hx,fun x B c B' c' w2 v2 hs hs' hB hB' ho hg hv=> ?_⟩;have o2:=hop x (ocell x B c B' c') w w2 v2 (Below.refl _ _) ⟨B,c,B',c',rfl,hs,hs'⟩ (fun b hb' hl=>by
  obtain⟨a,e1 | e1,rfl⟩:=jW hl
  ·exact hB a e1 a.block hb' rfl
  ·exact hB' a e1 a.block hb' rfl) ho hg hv
 have p2:=(((h.p.wider (N':=fun g=>vo.ownBlock=aG g\/v2.ownBlock=aG g) (fun b hb=>by
  rcases hb with hb | hb
  ·exact .inl hb
  ·rcases hv with e | ⟨g,e,hge⟩
   ·exact .inl (e▸hb)
   ·rw [e]at hb;cases hb;exact .inr hge)).other hg (fun b e1 e2=>h.ne b e1 e2) (fun b e=> .inl e)).wider (N':=fun g=>v2.ownBlock=aG g) (fun b hb=> .inl (.inr hb)))
 refine⟨o2,p2,fun g e1 e2=> ?_⟩;rcases hv with e | ⟨g',e,hge⟩
 ·exact h.ne g (e▸e1) e2
 ·rw [e]at e1;cases e1;have:=(h.bP _ e2).2;omega
end
theorem zk (i:Nat) (h:Code.wp P (.seq (.region i ops b) c) Q a w):Code.wp P (.seq (.region i ops b) c) Q a w:=h
theorem zg {d:Code} (i:Nat) (h:Code.wp P (.seq (.seq (.region i ops b) c) d) Q a w):Code.wp P (.seq (.seq (.region i ops b) c) d) Q a w:=h
theorem zp (i:Nat) (h:Code.wp P (.region i ops b) Q a w):Code.wp P (.region i ops b) Q a w:=h
theorem z22 {P Q:Prop} (h:Hid P->Q) (p:P):Q:=h (Lib.hid p)
theorem z1b (l:List BlobP) (r:RawP) (h:chk (qx l r)=0):(enc (qx l r)).length<=148:=by
 have h3:=uw l r;have hz:=zi h;rw [xT _ hz.1];have:=yP _ hz.2;omega
theorem OrW.tail {H:Nat} {vo vp:Value} {os:List OrdP} {ps:List BlobP} (h:OrW W H vo vp os ps) (o:OrdP) (A:aj) (c:Nat) (A':aj) (c':Nat) (hb:Below H w W) (hH:H<=w.heap.size) (hd:KT o) (hgo:∀o∈os,KT o) (hgp:∀b∈ps,hexC b.dig=0/\b.data.length<=300) (hl:os.length<=k) (hp:ps.length<=k+1) (sa:Sl W 1 A o.data.length c (bys o.data)) (sp:Sl W 3 A' o.aP.length c' (pcs o.aP)) (na:∀a,A=aG a->∀g,(vo.ownBlock=aG g\/vp.ownBlock=aG g)->a.block≠g) (np:∀a,A'=aG a->∀g,(vo.ownBlock=aG g\/vp.ownBlock=aG g)->a.block≠g) :
  ∃xs,Hid (W.ownsRow H 28 5 vo os.length xs)/\Hid (H<=W.heap.size)/\Hid (∀v9 w9,w9.ownsRow H 28 5 v9 (os.length+1) (xs++ocell o A c A' c')->W.grownBy w9 vo.ownBlock->(v9.ownBlock=vo.ownBlock\/∃g,v9.ownBlock=aG g/\W.heap.size<=g)->OrW w9 H v9 vp (os++ [o]) ps/\(∀x∈os++ [o],KT x)/\(∀b∈ps,hexC b.dig=0/\b.data.length<=300)/\(os++ [o]).length<=k+1/\ps.length<=k+1/\Below H w w9):=by
 obtain⟨xs,hx,hop⟩:=h.openO;have hs:=Nat.le_trans hH hb.size;refine⟨xs,Lib.hid hx,Lib.hid hs,Lib.hid fun v9 w9 h1 h2 h3=>⟨hop o A c A' c' w9 v9 sa sp na np h1 h2 h3,fun x hx=> ?_,hgp,by rw [List.length_append];simp only [List.length_cons,List.length_nil];omega,hp,hb.grown h2 hs fun k hk=>(h.bO k hk).1⟩⟩;rcases List.mem_append.1 hx with h | h
 ·exact hgo x h
 ·have:=List.mem_singleton.1 h;subst this;exact hd
theorem z4x (h:(k:Int)=2\/(k:Int)=3\/(k:Int)=4):fOf k=(⟨false,true,false,false⟩,true):=by
 have h:k=2\/k=3\/k=4:=wu;rcases h with rfl | rfl | rfl<;>rfl
theorem z4y (h:(k:Int)=5\/(k:Int)=13):fOf k=(⟨false,true,false,true⟩,true):=by
 have h:k=5\/k=13:=wu;rcases h with rfl | rfl<;>rfl
theorem z4z (h:(k:Int)=6\/(k:Int)=7\/(k:Int)=8\/(k:Int)=14):fOf k=(⟨false,true,false,false⟩,true):=by
 have h:k=6\/k=7\/k=8\/k=14:=wu;rcases h with rfl | rfl | rfl | rfl<;>rfl
theorem Y0 (A:aj) (n c:Nat) (l:List RawP) (many:Nat) (M:Int) (hM:(many:Int)=M) (h20:many<=80) (w:World) (hl:l.length=n) (hc:n<=c) (hm:c<=maxLen) (hok:∀r∈l,RawOk r) (hr:Rd w 4 A n (rcs l)) :
  Calls Tryz.prog 4 #[aA A n c,aB aC M] w fun e w'=>∃v os,e= .returned v/\RwO OrdS 28 w' w.heap.size v os/\(∀o∈os,KT o)/\os.length<=many/\Below w.heap.size w w':=by
 subst hM;have hn63:n<=9223372036854775807:=by unfold maxLen at hm;omega
 have HOK:=sqH hok;have HL:=sqH hl;clear hok hl hm;obtain⟨H,hH⟩:=wY w.heap.size
 have hst0:OrW w H (aA aF 0 0) (aA aF 0 0) [] []:=⟨RwX.nil_ (World.ownsRow_nil _ _ _ _),RwX.nil_ (World.ownsRow_nil _ _ _ _),fun g h=>by cases h⟩
 have hb0:Below H w w:=by rw [hH];exact Below.refl _ _
 have HH:=sqH hH;clear hH;go_enter Tryz.func4,Tryz.ntmps4
 refine wL ?_;intros;go_loopg [5,6,13] n (fun gn vo vp i wr=>∃(k:Nat) (os:List OrdP) (ps:List BlobP),gn=n - k/\i= aB aC k/\k<=n/\k<=many/\OrW wr H vo vp os ps/\(∀o∈os,KT o)/\(∀b∈ps,hexC b.dig=0/\b.data.length<=300)/\os.length<=k/\ps.length<=k/\Below H w wr)
 case atStart=>exact⟨0, [], [],rfl,rfl,wu,wu,hst0,(fun o h=>absurd h ab),(fun b h=>absurd h ab),Nat.le_refl _,Nat.le_refl _,hb0⟩
 case round =>
  clear hst0 hb0;obtain⟨k,os,ps,hgk,rfl,hk,hkm,hst,hgo,hgp,hol,hpl,hbel⟩:=hrel;obtain⟨HGK,HGO,HGP,HOL⟩:=sqJ4 hgk hgo hgp (aH hol hpl);have hol24:os.length<=80:=wu;have hpl24:ps.length<=80:=wu;clear hgk hgo hgp hol hpl;by_cases hlt:k<n
  rotate_left
  ·obtain rfl:k=n:=by omega
   have hlb:decide (k<k)=false:=ab;refine wL ?_;intros;go_ret;exact⟨_,os,rfl,by rw [<-HH.o];exact hst.o.rwo,HGO.o,by have:=HOL.o.1;omega,by rw [<-HH.o];exact hbel⟩
  have hlb:decide (k<n)=true:=decide_eq_true hlt;have hk0:=we k
  have hk1:(k:Int)<(n:Int):=wu;have hkl:k<l.length:=by have:=HL.o;omega
  have hbel':Below w.heap.size w wr:=by rw [<-HH.o];exact hbel
  obtain⟨b,off,rfl,hbw,hcell⟩:=(hr.below hbel').2 wu;have hat:=fun j (hj:j<4)=>Vm l k j hkl hj;have hrok:=HOK.o l[k] (List.getElem_mem hkl);generalize l[k]=r at *
  have c0:=hcell (k*4+0) _ (hat 0 wu);have c1:=hcell (k*4+1) _ (hat 1 wu);have c2:=hcell (k*4+2) _ (hat 2 wu);have c3:=hcell (k*4+3) _ (hat 3 wu);obtain⟨rk,ra,rb,rt⟩:=r;have HR:=sqH hrok;clear hat hcell hrok hkl;rw [Nat.add_zero]at c0;rw [show off+(k*4+1)=off+k*4+1 by omega]at c1;rw [show off+(k*4+2)=off+k*4+2 by omega]at c2;rw [show off+(k*4+3)=off+k*4+3 by omega]at c3;by_cases h12:k<many
  rotate_left
  ·have h12b:decide ((k:Int)≥(many:Int))=true:=decide_eq_true wu;have h12c:decide ((many:Int)<=(k:Int))=true:=decide_eq_true wu;have h12d:decide (many<=k)=true:=decide_eq_true wu;have hba:=ws wr (aE #[aB aC rk,aB aC ra,aB aC rb,aD rt] 51);have hstF:=hst.below hba;have hbelF:=wm hbel' hba
   refine wL ?_;intros;go_ret;exact⟨_,os,rfl,by rw [<-HH.o];exact hstF.o.rwo,HGO.o,by have:=HOL.o.1;omega,hbelF⟩
  have h12b:decide ((k:Int)≥(many:Int))=false:=decide_eq_false wu;have h12c:decide ((many:Int)<=(k:Int))=false:=decide_eq_false wu;have h12d:decide (many<=k)=false:=decide_eq_false wu;have HP14:=sqH (fun w'=>qf rk 14 14 rfl w' HR.o.k0 HR.o.k1 wu wu);have hp14:=yo rk (m:=14) wu;have HP3:=sqH (fun w'=>qf rk 3 3 rfl w' HR.o.k0 HR.o.k1 wu wu);have hR1:=Arr.new wr 51 [aB aC rk,aB aC ra,aB aC rb,aD rt];have hba:=ws wr (aE #[aB aC rk,aB aC ra,aB aC rb,aD rt] 51);have hR1':Arr (wr.alloc (aE #[aB aC rk,aB aC ra,aB aC rb,aD rt] 51)) wr.heap.size 51 [aB aC rk,aB aC ra,aB aC rb,aD rt]:=hR1;have k0:=hR1'.c0;clear hR1
  refine wL ?_;intros;clear c0 c1 c2 c3;have hst1:=hst.below hba;have hbel1:=hbel.trans (hba.mono (by rw [HH.o];exact hbel'.size));have hHr:H<=wr.heap.size:=by rw [HH.o];exact hbel'.size
  have hsw1:wr.heap.size<(wr.alloc (aE #[aB aC rk,aB aC ra,aB aC rb,aD rt] 51)).heap.size:=by rw [World.size_alloc];omega
  have hbO:=hst.bO;have hbP:=hst.bP;generalize wr.alloc (aE #[aB aC rk,aB aC ra,aB aC rb,aD rt] 51)=w1 at *
  generalize wr.heap.size=g6 at *
  clear k0 hst hba hbel hbel' hbw hr;refine(HP14.o w1).mono ?_;rintro e_ _ ⟨rfl,rfl⟩;dsimp only;generalize pk rk 14=q14 at *
  generalize pk rk 3=q3 at *
  obtain⟨kd,hkd⟩:=wY (1+q14:Nat)
  have hw14:IntKind.i64.wrap (1+(q14:Int))=(kd:Int):=by rw [IntWalk.i64_in _ wu];omega
  have hkd1:1<=kd/\kd<=14:=wu;clear hkd hp14;have x0:=hR1'.c0;have hO2:=Arr.new w1 28 [aB aC kd,aB aC 0,aD ⟨#[]⟩,aA aF 0 0,aA aF 0 0];have hba:=ws w1 (aE #[aB aC kd,aB aC 0,aD ⟨#[]⟩,aA aF 0 0,aA aF 0 0] 28);have hR2:=hR1'.alloc (aE #[aB aC kd,aB aC 0,aD ⟨#[]⟩,aA aF 0 0,aA aF 0 0] 28);have hO2':Arr (w1.alloc (aE #[aB aC kd,aB aC 0,aD ⟨#[]⟩,aA aF 0 0,aA aF 0 0] 28)) w1.heap.size 28 [aB aC kd,aB aC 0,aD ⟨#[]⟩,aA aF 0 0,aA aF 0 0]:=hO2;have hR2':Arr (w1.alloc (aE #[aB aC kd,aB aC 0,aD ⟨#[]⟩,aA aF 0 0,aA aF 0 0] 28)) g6 51 [aB aC rk,aB aC ra,aB aC rb,aD rt]:=hR2;have y0:=hR2'.c0;clear hO2 hR2
  refine wL ?_;intros;obtain⟨Ap,cp,rfl,hcp1,hcp2,hRp⟩:=hst1.p.rwo.rows;obtain⟨xsP,hxsP,hopP⟩:=hst1.openP;have hHw1:H<=w1.heap.size:=wu;obtain⟨HOPN,HST1,HR1,HRP,HBE1,HGW,HBO,HBP⟩:=sqJ8 (aH (fun W (h:Below w1.heap.size w1 W)=>zc hxsP h) hopP) (fun W (h:Below w1.heap.size w1 W)=>hst1.below h) (fun W (h:Below w1.heap.size w1 W)=>hR1'.below h) (fun W (h:Below w1.heap.size w1 W)=>hRp.below h) (fun W (h:Below w1.heap.size w1 W)=>hbel1.trans (h.mono hHw1)) (fun W (h:Below w1.heap.size w1 W)=>h.size) (show ∀g,(u5.ownBlock=aG g\/(aA Ap ps.length cp).ownBlock=aG g)->g<w1.heap.size from fun g e=>e.elim (fun e=>(hst1.bO g e).2) (fun e=>(hst1.bP g e).2)) (show ∀g,(aA Ap ps.length cp).ownBlock=aG g->H<=g from fun g e=>(hst1.bP g e).1);have HKY:=sqH (fun W=>JA ra W HR.o.a0 HR.o.a1);have hpt:=fun W (h:Below w1.heap.size w1 W)=>Un Ap cp ps ⟨rk,ra,rb,rt⟩ W wu hcp1 hcp2 (fun b hb=>by have:=(HGP.o b hb).2;omega) (hRp.below h) HR.o;dsimp only at hpt;obtain⟨HPT,HHG,HHW⟩:=sqJ3 hpt hHw1 (show H<=w.heap.size from by rw [HH.o];exact Nat.le_refl _);have hb2':=hba;clear hpt hba hxsP hopP hst1 hbel1 hR1' hRp hHw1 hcp1 hcp2 hbO hbP;generalize w1.alloc (aE #[aB aC kd,aB aC 0,aD ⟨#[]⟩,aA aF 0 0,aA aF 0 0] 28)=w2 at *
  generalize hgO:w1.heap.size=gO at *
  have HgO:=sqH hgO;clear hgO y0 x0 hw14;have HR2:=sqH hR2';clear hR2';refine(HP3.o w2).mono ?_;rintro e_ _ ⟨rfl,rfl⟩;dsimp only;have HDG:=sqH (fun W=>yA aF 0 0 [] W rfl ag wu Rd.nil_);apply z22
  ·intro REST;by_cases h3:q3=0
   rotate_left
   ·have e3:((q3:Int)==0)=false:=by rw [beq_eq_false_iff_ne];omega
    refine wL ?_;intros;refine wZ (HDG.o _) fun w3 hb3=>?_;dsimp only;by_cases hp0:ps.length=0
    ·have e4:decide ((0:Int)<(ps.length:Int))=false:=decide_eq_false wu;have e4':decide (0<ps.length)=false:=decide_eq_false wu;have HP0:=sqH hp0;clear hp0
     refine wM 13 ?_;intros;have hbW:=hb2'.trans (hb3.mono (HGW.o _ hb2'));have hOW:=hO2'.below hb3;have hall:∃bd:ai,(⟨(shaS []).toArray⟩:ByteArray)=⟨bd.toArray⟩/\hexC bd=0:=⟨_,rfl,zE _⟩
     obtain⟨vb29,h29⟩:=wY (Value.bool false)
     obtain⟨vb34,h34⟩:=wY (Value.bool false)
     obtain⟨v31,h31⟩:=wY (aD ⟨(shaS []).toArray⟩)
     obtain⟨S,hS⟩:=wY (⟨(shaS []).toArray⟩:ByteArray)
     obtain⟨kx,hkx⟩:=wY kd
     generalize u30=t30;generalize u35=t35;generalize u36=t36;generalize u37=t37;generalize u38=t38;generalize u39=t39;generalize u40=t40;generalize u41=t41;generalize u42=t42;generalize u43=t43;rw (occs:= .pos [3]) [<-h34];rw (occs:= .pos [2]) [<-h29];rw (occs:= .pos [2]) [<-h31];rw [<-hS]at hall ⊢
     rw [<-hkx]at hOW;have hall2:=aH hbW (aH hOW (aH hall (show 1<=kx/\kx<=14 by omega)));clear h34 h29 h31 hS hkx hall hbW hOW hb3;revert w3 vb29 vb34 v31 S kx t30 t35 t36 t37 t38 t39 t40 t41 t42 t43;exact REST.o
    ·have e4:decide ((0:Int)<(ps.length:Int))=true:=decide_eq_true wu;have e4':decide (0<ps.length)=true:=decide_eq_true wu;have hbW:=hb2'.trans (hb3.mono (HGW.o _ hb2'));have hp:0<ps.length:=wu
     have hj:=yo rb (m:=ps.length) hp;have HPB:=sqH (fun w'=>qf rb ps.length (ps.length:Int) rfl w' HR.o.b0 HR.o.b1 hp wu);have hRw:=HR1.o _ hbW;have x2:=hRw.c2;have hOW:=hO2'.below hb3
     refine wL ?_;intros;refine(HPB.o _).mono ?_;rintro e_ _ ⟨rfl,rfl⟩;dsimp only;generalize pk rb ps.length=j at *
     obtain⟨bq,oq,Bq,cq,hAq,_,d0,_⟩:=(HRP.o _ hbW).blob_at j hj;subst hAq;have hex:=(HGP.o _ (List.getElem_mem hj)).1;have hj0:=we j
     have hj1:(j:Int)<(ps.length:Int):=wu;clear hRw hb3 x2
     refine wM 13 ?_;intros;exact REST.o w3 _ _ _ _ kd _ _ _ _ _ _ _ _ _ _ ⟨hbW,hOW,⟨_,rfl,hex⟩,hkd1⟩
   ·have e3:((q3:Int)==0)=true:=by rw [beq_iff_eq];omega
    have y0:=hO2'.c0;have z0:=hO2'.frozen 0
    refine wL ?_;intros;have hb4:Below gO w1 (w2.setCell ⟨gO,0,aF⟩ (aB aC 1)):=hb2'.setCell (p:=⟨gO,0,aF⟩) ag _;have hO4:Arr (w2.setCell ⟨gO,0,aF⟩ (aB aC 1)) gO 28 [aB aC ((1:Nat):Int),aB aC 0,aD ⟨#[]⟩,aA aF 0 0,aA aF 0 0]:=hO2'.set (k:=0) ab _;generalize w2.setCell ⟨gO,0,aF⟩ (aB aC 1)=w4 at *
    clear y0 z0;refine wZ (HDG.o _) fun w3 hb3=>?_;dsimp only;by_cases hp0:ps.length=0
    ·have e4:decide ((0:Int)<(ps.length:Int))=false:=decide_eq_false wu;have e4':decide (0<ps.length)=false:=decide_eq_false wu;have HP0:=sqH hp0;clear hp0
     refine wM 13 ?_;intros;exact REST.o w3 _ _ _ _ 1 _ _ _ _ _ _ _ _ _ _ ⟨hb4.trans (hb3.mono (HGW.o _ hb4)),hO4.below hb3,⟨_,rfl,zE _⟩,⟨Nat.le_refl 1,aa⟩⟩
    ·have e4:decide ((0:Int)<(ps.length:Int))=true:=decide_eq_true wu;have e4':decide (0<ps.length)=true:=decide_eq_true wu;have hbW:=hb4.trans (hb3.mono (HGW.o _ hb4));have hp:0<ps.length:=wu
     have hj:=yo rb (m:=ps.length) hp;have HPB:=sqH (fun w'=>qf rb ps.length (ps.length:Int) rfl w' HR.o.b0 HR.o.b1 hp wu);have hRw:=HR1.o _ hbW;have x2:=hRw.c2;have hOW:=hO4.below hb3
     refine wL ?_;intros;refine(HPB.o _).mono ?_;rintro e_ _ ⟨rfl,rfl⟩;dsimp only;generalize pk rb ps.length=j at *
     obtain⟨bq,oq,Bq,cq,hAq,_,d0,_⟩:=(HRP.o _ hbW).blob_at j hj;subst hAq;have hex:=(HGP.o _ (List.getElem_mem hj)).1;have hj0:=we j
     have hj1:(j:Int)<(ps.length:Int):=wu;clear hRw hb3 x2
     refine wM 13 ?_;intros;exact REST.o w3 _ _ _ _ 1 _ _ _ _ _ _ _ _ _ _ ⟨hbW,hOW,⟨_,rfl,hex⟩,⟨Nat.le_refl 1,aa⟩⟩
  intro W vb29 vb34 v31 S kx t30 t35 t36 t37 t38 t39 t40 t41 t42 t43 hall;obtain⟨hbW,hOW,hss,hkx⟩:=hall;have HSS:=sqH hss;clear hss hb2' hO2' HP3 HP14 HDG HR2;have hkx':kx=1\/((kx:Int)=2\/(kx:Int)=3\/(kx:Int)=4)\/((kx:Int)=5\/(kx:Int)=13)\/((kx:Int)=6\/(kx:Int)=7\/(kx:Int)=8\/(kx:Int)=14)\/kx=9\/kx=10\/kx=11\/kx=12:=wu;clear hkx hkd1;rcases hkx' with hk | hk | hk | hk | hk | hk | hk | hk
  ·obtain rfl:kx=1:=by omega
   have o0:W.cell? ⟨gO,0,aF⟩=aG (aB aC 1):=hOW.c0;replace hOW:Arr W gO 28 [aB aC 1,aB aC 0,aD ⟨#[]⟩,aA aF 0 0,aA aF 0 0]:=hOW;have hRw:=HR1.o _ hbW;obtain⟨x0,x1,x2,x3⟩:=sqC4 hRw;have HPA3:=sqH (fun w'=>qf ra 3 3 rfl w' HR.o.a0 HR.o.a1 wu wu);have hDL:=K8 ⟨rk,ra,rb,rt⟩ 40;have HD:=z08 ⟨rk,ra,rb,rt⟩ 40 40 rfl wu HR.o W;unfold z59 at HD;replace HD:=sqH HD;generalize z13 ⟨rk,ra,rb,rt⟩ 40=D at *
   refine wL ?_;intros;refine HD.o.mono ?_;rintro e_ w4 ⟨A4,c4,rfl,hz4,hb4⟩;dsimp only;clear o0 x0 x1 x2 x3 hRw HD;have hO4:=hOW.below hb4;have hgW:=HGW.o _ hbW;have hbW4:=hbW.trans (hb4.mono hgW);have z3:=hO4.frozen 3;have y3:=hO4.c3;have hb5:Below gO w1 (w4.setCell ⟨gO,3,aF⟩ (aA A4 D.length c4)):=hbW4.setCell (p:=⟨gO,3,aF⟩) ag _;have hO5:Arr (w4.setCell ⟨gO,3,aF⟩ (aA A4 D.length c4)) gO 28 [aB aC 1,aB aC 0,aD ⟨#[]⟩,aA A4 D.length c4,aA aF 0 0]:=hO4.set (k:=3) ab _;have hz5:=(hz4.sl.1.keep (w':=w4.setCell ⟨gO,3,aF⟩ (aA A4 D.length c4)) (by simp [World.setCell]) (fun b hb ⟨a,e1,e2⟩=>Below.heap_setCell w4 _ _ b (fun e3=>by have:=hz4.sl.2 a e1;have h7:=hOW.lt;have e4:b=gO:=e3;omega)))
   have hz5':=fun a e=>Nat.le_trans hgW (hz4.sl.2 a e);have hRw:=HR1.o _ hb5;have x1:=hRw.c1;clear hO4 hbW4 hz4 hb4 hOW hbW hgW
   refine wL ?_;intros;generalize (w4.setCell ⟨gO,3,aF⟩ (aA A4 D.length c4))=w5 at *
   clear x1 z3 y3;refine(HPA3.o _).mono ?_;rintro e_ _ ⟨rfl,rfl⟩;dsimp only;generalize pk ra 3=qa at *
   by_cases h3:qa=0
   rotate_left
   ·have e3:((qa:Int)==0)=false:=by rw [beq_eq_false_iff_ne];omega
    obtain⟨HSZ,HZB,HOX,HBR,HDL⟩:=sqJ5 hz5 hz5' hO5 hb5 (show D.length<=148 by omega);clear hz5 hz5' hO5 hb5 hDL hRw;have HXP:=sqH (HOPN.o.1 _ HBR.o);obtain⟨HNE,HSB,HLW⟩:=sqJ3 (zf HXP.o HOX.o aa) (show ∀w',Below w5.heap.size w5 w'->w'.cell? ⟨gO,3,aF⟩=aG (aA A4 D.length c4) from fun w' hb=>(HOX.o.below hb).c3) (show gO<=w5.heap.size from HGW.o _ HBR.o)
    refine wL ?_;intros;refine wp_region_held_drew (S:=(fun w'=>w'.cell? ⟨gO,3,aF⟩=aG (aA A4 D.length c4))) ww ?_ (fun hHeld=> ?_)
    ·exact HSB.o _ (Below.refl _ w5).drew
    have hB:=(Below.refl w5.heap.size w5).drew;generalize w5.drew=wn0 at *
    refine wQ 0 ?_;refine wQ 1 ?_;refine wQ 2 ?_;refine wQ 4 ?_;refine wQ 5 ?_;refine wU 3 fun K hK=>?_;go_simp;refine(yA A4 D.length c4 D wn0 rfl HSZ.o.cap (wc HDL) (HSZ.o.below hB).rd).mono ?_;rintro e5 w5 ⟨rfl,hb5⟩;dsimp only;refine wF hK (HSB.o _ (hB.trans (Below.mono (show Below wn0.heap.size wn0 _ from by(first | exact(Below.refl _ _).alloc ag _ | exact hb5 | exact Below.refl _ _)) hB.size))) (Below wn0.heap.size wn0) (by first | exact(Below.refl _ _).alloc ag _ | exact hb5 | exact Below.refl _ _) fun wn1 hHeld hst=> ?_;have hB:=wm hB hst;clear hst;clear hK K
    refine wQ 6 ?_;refine wU 7 fun K hK=>?_;go_simp;refine kn hK (HSB.o _ (hB.trans (Below.mono (show Below wn1.heap.size wn1 _ from by(first | exact(Below.refl _ _).alloc ag _ | exact hb5 | exact Below.refl _ _)) hB.size))) (Below wn1.heap.size wn1) (fun W=>Rd W 4 (aG ⟨wn1.heap.size,0,aF⟩) 1 (zX ⟨shaS D,D,0,false⟩ A4 c4)) (by first | exact(Below.refl _ _).alloc ag _ | exact hb5 | exact Below.refl _ _) (Rd.newN [aD ⟨(shaS D).toArray⟩,aA A4 D.length c4,aB aC 0,.bool false] rfl) fun wn2 hHeld hst hnew=> ?_;have hB:=wm hB hst;have h10:=hnew;clear hst;clear hK K
    try simp only [sqP]
    refine wU 8 fun K hK=>?_;refine Z4 rfl (.tmp 60) (.tmp 67) rfl ue ac (zc HXP.o hB) ac h10 (jH _ _ _) (by show(ps.length+1)*56<=140737488355328;omega) (by have:=hB.size;have:=HLW.o;have:=HHG.o;omega) ?_;intro v8 w8 ho8 hg8 hv8;refine kn hK ?_ (fun W=>OrW W H u5 v8 os (ps++ [⟨shaS D,D,0,false⟩])/\Sl W 1 A4 D.length c4 (bys D)/\(∀a,A4=aG a->∀g,(u5.ownBlock=aG g\/v8.ownBlock=aG g)->a.block≠g)) (fun W=>Arr W gO 28 [aB aC 1,aB aC 0,aD ⟨#[]⟩,aA A4 D.length c4,aA aF 0 0]/\Below H w W) ?_ ?_ (fun wn3 hHeld hF hG=> ?_)
    ·exact hg8.cell (HSB.o _ hB) (fun e=>HNE.o e.symm)
    ·exact HOPN.o.2 ⟨shaS D,D,0,false⟩ A4 c4 wn2 w8 v8 (HBR.o.trans (hB.mono HLW.o)) (HSZ.o.below hB) HZB.o ho8 hg8 hv8
    ·exact⟨(HOX.o.below hB).grown hg8 (fun e=>HNE.o e),(HBE1.o _ (HBR.o.trans (hB.mono HLW.o))).grown hg8 (by have:=hB.size;have:=HLW.o;have:=HHG.o;omega) (fun k hk=>HBP.o k hk)⟩
    clear hK K;refine wQ 9 ?_;refine wpAnyH_done ww ?_ _
    try dsimp only [Exit.then]
    clear hHeld hB h10;obtain⟨hF1,hF2,hF3⟩:=hF;obtain⟨hG1,hG2⟩:=hG;obtain⟨xs9,HX9,HZ9,HP9⟩:=hF1.tail ⟨1,0, [],D, []⟩ A4 c4 aF 0 hG2 HHW.o (xz (k:=1) (f:=⟨false,false,true,false⟩) rfl (fun _=>rfl) (fun _=>rfl) (fun h=>by cases h) (fun _=>rfl) wu (fun h=>by cases h) (wc HDL) rfl) HGO.o (fun b hb=>by
     rcases List.mem_append.1 hb with h | h
     ·exact HGP.o b h
     ·have:=List.mem_singleton.1 h;subst this;exact⟨zE _,by have:=HDL.o;show D.length<=300;omega⟩) HOL.o.1 (by rw [List.length_append];have:=HOL.o.2;simp only [List.length_cons,List.length_nil];omega) hF2 (Sl.nil_ _ _) hF3 (fun a e=>by cases e)
    generalize ps++ [(⟨shaS D,D,0,false⟩:BlobP)]=ps2 at *
    have HOX9:=sqH hG1;clear hF1 hF2 hF3 hG1 hG2;obtain⟨o0,o1,o2,o3,o4⟩:=sqC5 HOX9.o
    refine wL ?_;intros;refine zj rfl (.tmp 119) (.tmp 121) rfl uJ ac HX9.o (us:= [aB aC 1,aB aC 0,aD ⟨#[]⟩,aA A4 D.length c4,aA aF 0 0]) ac rfl (yG ⟨1,0, [],D, []⟩ A4 c4 aF 0) (by show(os.length+1)*80<=140737488355328;omega) HZ9.o ?_;intro v9 w9 ho9 hg9 hv9;have HQ9:=sqH (HP9.o v9 w9 ho9 hg9 hv9);clear o0 o1 o2 o3 o4 ho9 hg9 hv9
    refine wL ?_;intros;go_roundg (n - (k+1))
    case measure=>exact wc HGK
    case rel=>exact⟨k+1,_,_,rfl,by go_num,wu,wu,HQ9.o⟩
   have e3:((qa:Int)==0)=true:=by rw [beq_iff_eq];omega
   obtain⟨x0,x1,x2,x3⟩:=sqC4 hRw
   refine wL ?_;intros;refine(HPT.o _ hb5).mono ?_;rintro e_ w6 ⟨v6,rfl,ho6,hb6⟩;dsimp only;clear x0 x1 x2 x3 hz5 hz5' hDL HPA3 hRw;obtain⟨A6,c6,rfl,hs6,_⟩:=uG ho6;have hpc:=jK HGP.o ⟨rk,ra,rb,rt⟩;have hz:=zi hpc;have HMN:=sqH (Qi A6 (qx ps ⟨rk,ra,rb,rt⟩).length c6 (qx ps ⟨rk,ra,rb,rt⟩) w6 rfl (by have:=uw ps ⟨rk,ra,rb,rt⟩;omega) (fun p hp=>hz.2 p hp) hs6.rd);have hDL:(enc (qx ps ⟨rk,ra,rb,rt⟩)).length<=148:=z1b ps ⟨rk,ra,rb,rt⟩ hpc;generalize enc (qx ps ⟨rk,ra,rb,rt⟩)=D2 at *
   generalize (qx ps ⟨rk,ra,rb,rt⟩).length=n6 at *
   clear ho6 hs6 hz hpc
   refine wL ?_;intros;refine HMN.o.mono ?_;rintro e_ w7 ⟨A7,c7,rfl,hz7,hb7⟩;dsimp only;have hO7:=(hO5.below hb6).below hb7;have hg5:=HGW.o _ hb5;have hbW6:=hb5.trans (hb6.mono hg5);have hg6:=HGW.o _ hbW6;have hbW7:=hbW6.trans (hb7.mono hg6);have z3:=hO7.frozen 3;have y3:=hO7.c3;have hb8:Below gO w1 (w7.setCell ⟨gO,3,aF⟩ (aA A7 D2.length c7)):=hbW7.setCell (p:=⟨gO,3,aF⟩) ag _;have hO8:Arr (w7.setCell ⟨gO,3,aF⟩ (aA A7 D2.length c7)) gO 28 [aB aC 1,aB aC 0,aD ⟨#[]⟩,aA A7 D2.length c7,aA aF 0 0]:=hO7.set (k:=3) ab _;have hz8:=(hz7.sl.1.keep (w':=w7.setCell ⟨gO,3,aF⟩ (aA A7 D2.length c7)) (by simp [World.setCell]) (fun b hb ⟨a,e1,e2⟩=>Below.heap_setCell w7 _ _ b (fun e3=>by have:=hz7.sl.2 a e1;have h7:=(hO5.below hb6).lt;have e4:b=gO:=e3;omega)))
   have hz8':=fun a e=>Nat.le_trans hg6 (hz7.sl.2 a e);clear hO7 hbW6 hbW7 hz7 hb7 hO5 hb5 hb6 hg5 hg6 HMN;obtain⟨HSZ,HZB,HOX,HBR,HDL⟩:=sqJ5 hz8 hz8' hO8 hb8 hDL;clear hz8 hz8' hO8 hb8 hDL;have HXP:=sqH (HOPN.o.1 _ HBR.o);obtain⟨HNE,HSB,HLW⟩:=sqJ3 (zf HXP.o HOX.o aa) (show ∀w',Below (w7.setCell ⟨gO,3,aF⟩ (aA A7 D2.length c7)).heap.size (w7.setCell ⟨gO,3,aF⟩ (aA A7 D2.length c7)) w'->w'.cell? ⟨gO,3,aF⟩=aG (aA A7 D2.length c7) from fun w' hb=>(HOX.o.below hb).c3) (show gO<=(w7.setCell ⟨gO,3,aF⟩ (aA A7 D2.length c7)).heap.size from HGW.o _ HBR.o)
   refine wL ?_;intros;refine wp_region_held_drew (S:=(fun w'=>w'.cell? ⟨gO,3,aF⟩=aG (aA A7 D2.length c7))) ww ?_ (fun hHeld=> ?_)
   ·exact HSB.o _ (Below.refl _ (w7.setCell ⟨gO,3,aF⟩ (aA A7 D2.length c7))).drew
   have hB:=(Below.refl (w7.setCell ⟨gO,3,aF⟩ (aA A7 D2.length c7)).heap.size (w7.setCell ⟨gO,3,aF⟩ (aA A7 D2.length c7))).drew;generalize (w7.setCell ⟨gO,3,aF⟩ (aA A7 D2.length c7)).drew=wn0 at *
   refine wQ 0 ?_;refine wQ 1 ?_;refine wQ 2 ?_;refine wQ 4 ?_;refine wQ 5 ?_;refine wU 3 fun K hK=>?_;go_simp;refine(yA A7 D2.length c7 D2 wn0 rfl HSZ.o.cap (wc HDL) (HSZ.o.below hB).rd).mono ?_;rintro e5 w5 ⟨rfl,hb5⟩;dsimp only;refine wF hK (HSB.o _ (hB.trans (Below.mono (show Below wn0.heap.size wn0 _ from by(first | exact(Below.refl _ _).alloc ag _ | exact hb5 | exact Below.refl _ _)) hB.size))) (Below wn0.heap.size wn0) (by first | exact(Below.refl _ _).alloc ag _ | exact hb5 | exact Below.refl _ _) fun wn1 hHeld hst=> ?_;have hB:=wm hB hst;clear hst;clear hK K
   refine wQ 6 ?_;refine wU 7 fun K hK=>?_;go_simp;refine kn hK (HSB.o _ (hB.trans (Below.mono (show Below wn1.heap.size wn1 _ from by(first | exact(Below.refl _ _).alloc ag _ | exact hb5 | exact Below.refl _ _)) hB.size))) (Below wn1.heap.size wn1) (fun W=>Rd W 4 (aG ⟨wn1.heap.size,0,aF⟩) 1 (zX ⟨shaS D2,D2,0,false⟩ A7 c7)) (by first | exact(Below.refl _ _).alloc ag _ | exact hb5 | exact Below.refl _ _) (Rd.newN [aD ⟨(shaS D2).toArray⟩,aA A7 D2.length c7,aB aC 0,.bool false] rfl) fun wn2 hHeld hst hnew=> ?_;have hB:=wm hB hst;have h10:=hnew;clear hst;clear hK K
   try simp only [sqP]
   refine wU 8 fun K hK=>?_;refine Z4 rfl (.tmp 60) (.tmp 67) rfl ue ac (zc HXP.o hB) ac h10 (jH _ _ _) (by show(ps.length+1)*56<=140737488355328;omega) (by have:=hB.size;have:=HLW.o;have:=HHG.o;omega) ?_;intro v8 w8 ho8 hg8 hv8;refine kn hK ?_ (fun W=>OrW W H u5 v8 os (ps++ [⟨shaS D2,D2,0,false⟩])/\Sl W 1 A7 D2.length c7 (bys D2)/\(∀a,A7=aG a->∀g,(u5.ownBlock=aG g\/v8.ownBlock=aG g)->a.block≠g)) (fun W=>Arr W gO 28 [aB aC 1,aB aC 0,aD ⟨#[]⟩,aA A7 D2.length c7,aA aF 0 0]/\Below H w W) ?_ ?_ (fun wn3 hHeld hF hG=> ?_)
   ·exact hg8.cell (HSB.o _ hB) (fun e=>HNE.o e.symm)
   ·exact HOPN.o.2 ⟨shaS D2,D2,0,false⟩ A7 c7 wn2 w8 v8 (HBR.o.trans (hB.mono HLW.o)) (HSZ.o.below hB) HZB.o ho8 hg8 hv8
   ·exact⟨(HOX.o.below hB).grown hg8 (fun e=>HNE.o e),(HBE1.o _ (HBR.o.trans (hB.mono HLW.o))).grown hg8 (by have:=hB.size;have:=HLW.o;have:=HHG.o;omega) (fun k hk=>HBP.o k hk)⟩
   clear hK K;refine wQ 9 ?_;refine wpAnyH_done ww ?_ _
   try dsimp only [Exit.then]
   clear hHeld hB h10;obtain⟨hF1,hF2,hF3⟩:=hF;obtain⟨hG1,hG2⟩:=hG;obtain⟨xs9,HX9,HZ9,HP9⟩:=hF1.tail ⟨1,0, [],D2, []⟩ A7 c7 aF 0 hG2 HHW.o (xz (k:=1) (f:=⟨false,false,true,false⟩) rfl (fun _=>rfl) (fun _=>rfl) (fun h=>by cases h) (fun _=>rfl) wu (fun h=>by cases h) (wc HDL) rfl) HGO.o (fun b hb=>by
    rcases List.mem_append.1 hb with h | h
    ·exact HGP.o b h
    ·have:=List.mem_singleton.1 h;subst this;exact⟨zE _,by have:=HDL.o;show D2.length<=300;omega⟩) HOL.o.1 (by rw [List.length_append];have:=HOL.o.2;simp only [List.length_cons,List.length_nil];omega) hF2 (Sl.nil_ _ _) hF3 (fun a e=>by cases e)
   generalize ps++ [(⟨shaS D2,D2,0,false⟩:BlobP)]=ps2 at *
   have HOX9:=sqH hG1;clear hF1 hF2 hF3 hG1 hG2;obtain⟨o0,o1,o2,o3,o4⟩:=sqC5 HOX9.o
   refine wL ?_;intros;refine zj rfl (.tmp 119) (.tmp 121) rfl uJ ac HX9.o (us:= [aB aC 1,aB aC 0,aD ⟨#[]⟩,aA A7 D2.length c7,aA aF 0 0]) ac rfl (yG ⟨1,0, [],D2, []⟩ A7 c7 aF 0) (by show(os.length+1)*80<=140737488355328;omega) HZ9.o ?_;intro v9 w9 ho9 hg9 hv9;have HQ9:=sqH (HP9.o v9 w9 ho9 hg9 hv9);clear o0 o1 o2 o3 o4 ho9 hg9 hv9
   refine wL ?_;intros;go_roundg (n - (k+1))
   case measure=>exact wc HGK
   case rel=>exact⟨k+1,_,_,rfl,by go_num,wu,wu,HQ9.o⟩
  ·have HKN:=sqH hk;have o0:W.cell? ⟨gO,0,aF⟩=aG (aB aC kx):=hOW.c0;rcases hk with h | h | h
   all_goals (
    rw [h]at o0;clear h;have z2:=hOW.frozen 2;have y2:=hOW.c2;obtain⟨bd,hSb,hbd⟩:=HSS.o;have HSB_:=sqH hSb;have hb9:Below gO w1 (W.setCell ⟨gO,2,aF⟩ (aD S)):=hbW.setCell (p:=⟨gO,2,aF⟩) ag _;have hox9:Arr (W.setCell ⟨gO,2,aF⟩ (aD S)) gO 28 [aB aC kx,aB aC 0,aD S,aA aF 0 0,aA aF 0 0]:=hOW.set (k:=2) ab _;subst hSb;clear HSB_;obtain⟨xs9,HX9,HZ9,HP9⟩:=(HST1.o _ (hb9)).tail ⟨kx,0,bd, [], []⟩ aF 0 aF 0 (HBE1.o _ (hb9)) HHW.o (xz (k:=kx) (f:=⟨false,true,false,false⟩) (z4x HKN.o) (fun _=>rfl) (fun h=>by cases h) (fun _=>rfl) (fun _=>rfl) wu (fun _=>hbd) ab (rfl) (fun h=>by have:=HKN.o;omega) (fun h=>by have:=HKN.o;omega)) HGO.o HGP.o HOL.o.1 (by have:=HOL.o.2;omega) (Sl.nil_ _ _) (Sl.nil_ _ _) (fun a e=>by cases e) (fun a e=>by cases e);have HOX9:Hid (Arr (W.setCell ⟨gO,2,aF⟩ (aD ⟨bd.toArray⟩)) gO 28 [aB aC kx,aB aC 0,aD ⟨bd.toArray⟩,aA aF 0 0,aA aF 0 0]):=sqH (hox9)
    refine wM 37 ?_;intros;generalize (W.setCell ⟨gO,2,aF⟩ (aD ⟨bd.toArray⟩))=wx at *
    obtain⟨o0,o1,o2,o3,o4⟩:=sqC5 HOX9.o
    refine wL ?_;intros;refine zj rfl (.tmp 119) (.tmp 121) rfl uJ ac HX9.o (us:= [aB aC kx,aB aC 0,aD ⟨bd.toArray⟩,aA aF 0 0,aA aF 0 0]) ac rfl (yG ⟨kx,0,bd, [], []⟩ aF 0 aF 0) (by show(os.length+1)*80<=140737488355328;omega) HZ9.o ?_;intro v9 w9 ho9 hg9 hv9;have HQ9:=sqH (HP9.o v9 w9 ho9 hg9 hv9);clear o0 o1 o2 o3 o4 ho9 hg9 hv9
    refine wL ?_;intros;go_roundg (n - (k+1))
    case measure=>exact wc HGK
    case rel=>exact⟨k+1,_,_,rfl,by go_num,wu,wu,HQ9.o⟩
    skip)
  ·have HKN:=sqH hk;have o0:W.cell? ⟨gO,0,aF⟩=aG (aB aC kx):=hOW.c0;rcases hk with h | h
   all_goals (
    rw [h]at o0;clear h;have HSB:=sqH (show ∀w',Below gO w1 w'->wI w' g6 (aB aC rk) (aB aC ra) (aB aC rb) (aD rt) from fun w' hb=>sqC4 (HR1.o w' hb))
    refine wL ?_;intros;clear o0;refine wp_region_held_drew (S:=(fun w'=>wI w' g6 (aB aC rk) (aB aC ra) (aB aC rb) (aD rt))) ww ?_ (fun hHeld=> ?_)
    ·exact HSB.o _ hbW.drew
    have hB:=hbW.drew;have hOx:=hOW.drew;generalize W.drew=wn0 at *
    refine wQ 0 ?_;refine wQ 1 ?_;refine wQ 3 ?_;refine wQ 4 ?_;refine wpAnyH_ready (rs:= [2]) ww ab ?_;refine AllReadyH.cons (o:=_) rfl (fun K hK=> ?_) ?_
    ·
     go_simp;refine(HKY.o wn0).mono ?_;rintro e5 w5 ⟨rfl,hb5⟩;dsimp only;refine wF hK (HSB.o _ (hB.trans (Below.mono (show Below wn0.heap.size wn0 _ from by(first | exact hb5 | exact hb4 | exact Below.refl _ _)) (by have:=hB.size;have:=HgO.o;omega)))) (Below wn0.heap.size wn0) (by first | exact hb5 | exact hb4 | exact Below.refl _ _) fun wn1 hHeld hst=> ?_;have hB:=hB.trans (hst.mono (by have:=hB.size;have:=HgO.o;omega));have hOx:=hOx.below hst;clear hst;clear hK K
     refine wQ 6 ?_;refine wU 5 fun K hK=>?_;go_simp;refine(HPT.o wn1 hB).mono ?_;rintro e4 wp4 ⟨v4,rfl,ho4,hb4⟩;obtain⟨A4,c4,rfl,_,_⟩:=Rd.of_own' ho4;dsimp only;refine kn hK (HSB.o _ (hB.trans (Below.mono (show Below wn1.heap.size wn1 _ from by(first | exact hb5 | exact hb4 | exact Below.refl _ _)) (by have:=hB.size;have:=HgO.o;omega)))) (Below wn1.heap.size wn1) (fun W=>W.ownsRow gO 85 3 (aA A4 (qx ps ⟨rk,ra,rb,rt⟩).length c4) (qx ps ⟨rk,ra,rb,rt⟩).length (pcs (qx ps ⟨rk,ra,rb,rt⟩))) (by first | exact hb5 | exact hb4 | exact Below.refl _ _) (zb ho4 (by have:=hB.size;have:=HgO.o;omega)) fun wn2 hHeld hst hnew=> ?_;have hB:=hB.trans (hst.mono (by have:=hB.size;have:=HgO.o;omega));have hOx:=hOx.below hst;have hs4:=hnew;clear hst;clear hK K
     try simp only [sqP]
     refine wU 7 fun K hK=>?_;have z2:=hOx.frozen 2;have y2:=hOx.c2;go_simp;clear z2 y2;have hne4:=zf hs4 hOx aa;refine kn hK ?_ (fun W=>Arr W gO 28 [aB aC kx,aB aC 0,aD ⟨(keyS (pk ra 7)).toArray⟩,aA aF 0 0,aA aF 0 0]) (fun W=>Below gO w1 W/\W.ownsRow gO 85 3 (aA A4 (qx ps ⟨rk,ra,rb,rt⟩).length c4) (qx ps ⟨rk,ra,rb,rt⟩).length (pcs (qx ps ⟨rk,ra,rb,rt⟩))) ?_ ?_ (fun wn3 hHeld hF hG=> ?_)
     ·exact HSB.o _ (hB.setCell (p:=⟨gO,2,aF⟩) ag _)
     ·exact hOx.set (k:=2) ab _
     ·exact⟨hB.setCell (p:=⟨gO,2,aF⟩) ag _,zd hs4 hne4⟩
     clear hB hs4 hOx hne4;obtain⟨hB,hs4⟩:=hG;have hOx:=hF;clear hF;clear hK K
     refine wQ 8 ?_;refine wU 9 fun K hK=>?_;have z4:=hOx.frozen 4;have y4:=hOx.c4;go_simp;clear z4 y4;have hne4:=zf hs4 hOx aa;refine kn hK ?_ (fun W=>Arr W gO 28 [aB aC kx,aB aC 0,aD ⟨(keyS (pk ra 7)).toArray⟩,aA aF 0 0,aA A4 (qx ps ⟨rk,ra,rb,rt⟩).length c4]) (fun W=>Below gO w1 W/\W.ownsRow gO 85 3 (aA A4 (qx ps ⟨rk,ra,rb,rt⟩).length c4) (qx ps ⟨rk,ra,rb,rt⟩).length (pcs (qx ps ⟨rk,ra,rb,rt⟩))) ?_ ?_ (fun wn4 hHeld hF hG=> ?_)
     ·exact HSB.o _ (hB.setCell (p:=⟨gO,4,aF⟩) ag _)
     ·exact hOx.set (k:=4) ab _
     ·exact⟨hB.setCell (p:=⟨gO,4,aF⟩) ag _,zd hs4 hne4⟩
     clear hB hs4 hOx hne4;obtain⟨hB,hs4⟩:=hG;have hOx:=hF;clear hF;clear hK K
     try simp only [sqP]
     refine wpAnyH_done ww ?_ _
     try dsimp only [Exit.then]
     clear hHeld;obtain⟨A5,c5,e5,hsl,hll⟩:=uG hs4;cases e5
     obtain⟨xs9,HX9,HZ9,HP9⟩:=(HST1.o _ (hB)).tail ⟨kx,0,keyS (pk ra 7), [],qx ps ⟨rk,ra,rb,rt⟩⟩ aF 0 A4 c4 (HBE1.o _ (hB)) HHW.o (xz (k:=kx) (f:=⟨false,true,false,true⟩) (z4y HKN.o) (fun _=>rfl) (fun h=>by cases h) (fun _=>rfl) (fun h=>by cases h) wu (fun _=>zE _) ab (jK HGP.o _) (fun _=>⟨_,yo _ wu,rfl⟩) (fun h=>by have:=HKN.o;omega)) HGO.o HGP.o HOL.o.1 (by have:=HOL.o.2;omega) (Sl.nil_ _ _) (hsl) (fun a e=>by cases e) (fun a e g hg e2=>by have:=hll a e;have:=HBO.o g hg;omega);have HOX9:Hid (Arr wn4 gO 28 [aB aC kx,aB aC 0,aD ⟨(keyS (pk ra 7)).toArray⟩,aA aF 0 0,aA A4 (qx ps ⟨rk,ra,rb,rt⟩).length c4]):=sqH (hOx);obtain⟨o0,o1,o2,o3,o4⟩:=sqC5 HOX9.o
     refine wL ?_;intros;refine zj rfl (.tmp 119) (.tmp 121) rfl uJ ac HX9.o (us:= [aB aC kx,aB aC 0,aD ⟨(keyS (pk ra 7)).toArray⟩,aA aF 0 0,aA A4 (qx ps ⟨rk,ra,rb,rt⟩).length c4]) ac rfl (yG ⟨kx,0,keyS (pk ra 7), [],qx ps ⟨rk,ra,rb,rt⟩⟩ aF 0 A4 c4) (by show(os.length+1)*80<=140737488355328;omega) HZ9.o ?_;intro v9 w9 ho9 hg9 hv9;have HQ9:=sqH (HP9.o v9 w9 ho9 hg9 hv9);clear o0 o1 o2 o3 o4 ho9 hg9 hv9
     refine wL ?_;intros;go_roundg (n - (k+1))
     case measure=>exact wc HGK
     case rel=>exact⟨k+1,_,_,rfl,by go_num,wu,wu,HQ9.o⟩
    exact AllReadyH.nil)
  ·have HKN:=sqH hk;have o0:W.cell? ⟨gO,0,aF⟩=aG (aB aC kx):=hOW.c0;rcases hk with h | h | h | h
   all_goals (
    rw [h]at o0;clear h;have hRw:=HR1.o _ hbW;obtain⟨x0,x1,x2,x3⟩:=sqC4 hRw
    refine wL ?_;intros;refine wZ (HKY.o _) fun w4 hb4=>?_;dsimp only;clear o0 x0 x1 x2 x3 hRw;have hO4:=hOW.below hb4;have hbW4:=hbW.trans (hb4.mono (HGW.o _ hbW));have z2:=hO4.frozen 2;have y2:=hO4.c2;have hb9:Below gO w1 (w4.setCell ⟨gO,2,aF⟩ (aD ⟨(keyS (pk ra 7)).toArray⟩)):=hbW4.setCell (p:=⟨gO,2,aF⟩) ag _;have hox9:Arr (w4.setCell ⟨gO,2,aF⟩ (aD ⟨(keyS (pk ra 7)).toArray⟩)) gO 28 [aB aC kx,aB aC 0,aD ⟨(keyS (pk ra 7)).toArray⟩,aA aF 0 0,aA aF 0 0]:=hO4.set (k:=2) ab _;obtain⟨xs9,HX9,HZ9,HP9⟩:=(HST1.o _ (hb9)).tail ⟨kx,0,keyS (pk ra 7), [], []⟩ aF 0 aF 0 (HBE1.o _ (hb9)) HHW.o (xz (k:=kx) (f:=⟨false,true,false,false⟩) (z4z HKN.o) (fun _=>rfl) (fun h=>by cases h) (fun _=>rfl) (fun _=>rfl) wu (fun _=>zE _) ab (rfl) (fun _=>⟨_,yo _ wu,rfl⟩) (fun h=>by have:=HKN.o;omega)) HGO.o HGP.o HOL.o.1 (by have:=HOL.o.2;omega) (Sl.nil_ _ _) (Sl.nil_ _ _) (fun a e=>by cases e) (fun a e=>by cases e);have HOX9:Hid (Arr (w4.setCell ⟨gO,2,aF⟩ (aD ⟨(keyS (pk ra 7)).toArray⟩)) gO 28 [aB aC kx,aB aC 0,aD ⟨(keyS (pk ra 7)).toArray⟩,aA aF 0 0,aA aF 0 0]):=sqH (hox9)
    refine wM 37 ?_;intros;generalize (w4.setCell ⟨gO,2,aF⟩ (aD ⟨(keyS (pk ra 7)).toArray⟩))=wx at *
    obtain⟨o0,o1,o2,o3,o4⟩:=sqC5 HOX9.o
    refine wL ?_;intros;refine zj rfl (.tmp 119) (.tmp 121) rfl uJ ac HX9.o (us:= [aB aC kx,aB aC 0,aD ⟨(keyS (pk ra 7)).toArray⟩,aA aF 0 0,aA aF 0 0]) ac rfl (yG ⟨kx,0,keyS (pk ra 7), [], []⟩ aF 0 aF 0) (by show(os.length+1)*80<=140737488355328;omega) HZ9.o ?_;intro v9 w9 ho9 hg9 hv9;have HQ9:=sqH (HP9.o v9 w9 ho9 hg9 hv9);clear o0 o1 o2 o3 o4 ho9 hg9 hv9
    refine wL ?_;intros;go_roundg (n - (k+1))
    case measure=>exact wc HGK
    case rel=>exact⟨k+1,_,_,rfl,by go_num,wu,wu,HQ9.o⟩
    skip)
  ·obtain rfl:kx=9:=by omega
   have o0:W.cell? ⟨gO,0,aF⟩=aG (aB aC 9):=hOW.c0;replace hOW:Arr W gO 28 [aB aC 9,aB aC 0,aD ⟨#[]⟩,aA aF 0 0,aA aF 0 0]:=hOW;have HPN:=sqH (fun w'=>qf ra 300 300 rfl w' HR.o.a0 HR.o.a1 wu wu);have hpn:=yo ra (m:=300) wu;generalize pk ra 300=nb at *
   have hRw:=HR1.o _ hbW;obtain⟨x0,x1,x2,x3⟩:=sqC4 hRw
   refine wL ?_;intros;refine(HPN.o _).mono ?_;rintro e_ _ ⟨rfl,rfl⟩;dsimp only;clear o0 x0 x1 x2 x3 hRw;have z2:=hOW.frozen 1;have y2:=hOW.c1;have hb9:Below gO w1 (W.setCell ⟨gO,1,aF⟩ (aB aC nb)):=hbW.setCell (p:=⟨gO,1,aF⟩) ag _;have hox9:Arr (W.setCell ⟨gO,1,aF⟩ (aB aC nb)) gO 28 [aB aC 9,aB aC nb,aD ⟨#[]⟩,aA aF 0 0,aA aF 0 0]:=hOW.set (k:=1) ab _;obtain⟨xs9,HX9,HZ9,HP9⟩:=(HST1.o _ (hb9)).tail ⟨9,nb, [], [], []⟩ aF 0 aF 0 (HBE1.o _ (hb9)) HHW.o (xz (k:=9) (f:=⟨true,false,false,false⟩) rfl (fun h=>by cases h) (fun _=>rfl) (fun _=>rfl) (fun _=>rfl) wu (fun h=>by cases h) ab (rfl)) HGO.o HGP.o HOL.o.1 (by have:=HOL.o.2;omega) (Sl.nil_ _ _) (Sl.nil_ _ _) (fun a e=>by cases e) (fun a e=>by cases e);have HOX9:Hid (Arr (W.setCell ⟨gO,1,aF⟩ (aB aC nb)) gO 28 [aB aC 9,aB aC nb,aD ⟨#[]⟩,aA aF 0 0,aA aF 0 0]):=sqH (hox9)
   refine wM 37 ?_;intros;generalize (W.setCell ⟨gO,1,aF⟩ (aB aC nb))=wx at *
   obtain⟨o0,o1,o2,o3,o4⟩:=sqC5 HOX9.o
   refine wL ?_;intros;refine zj rfl (.tmp 119) (.tmp 121) rfl uJ ac HX9.o (us:= [aB aC 9,aB aC nb,aD ⟨#[]⟩,aA aF 0 0,aA aF 0 0]) ac rfl (yG ⟨9,nb, [], [], []⟩ aF 0 aF 0) (by show(os.length+1)*80<=140737488355328;omega) HZ9.o ?_;intro v9 w9 ho9 hg9 hv9;have HQ9:=sqH (HP9.o v9 w9 ho9 hg9 hv9);clear o0 o1 o2 o3 o4 ho9 hg9 hv9
   refine wL ?_;intros;go_roundg (n - (k+1))
   case measure=>exact wc HGK
   case rel=>exact⟨k+1,_,_,rfl,by go_num,wu,wu,HQ9.o⟩
  ·obtain rfl:kx=10:=by omega
   have o0:W.cell? ⟨gO,0,aF⟩=aG (aB aC 10):=hOW.c0;replace hOW:Arr W gO 28 [aB aC 10,aB aC 0,aD ⟨#[]⟩,aA aF 0 0,aA aF 0 0]:=hOW;obtain⟨xs9,HX9,HZ9,HP9⟩:=(HST1.o _ (hbW)).tail ⟨10,0, [], [], []⟩ aF 0 aF 0 (HBE1.o _ (hbW)) HHW.o (xz (k:=10) (f:=⟨false,false,false,false⟩) rfl (fun _=>rfl) (fun _=>rfl) (fun _=>rfl) (fun _=>rfl) wu (fun h=>by cases h) ab (rfl)) HGO.o HGP.o HOL.o.1 (by have:=HOL.o.2;omega) (Sl.nil_ _ _) (Sl.nil_ _ _) (fun a e=>by cases e) (fun a e=>by cases e);have HOX9:Hid (Arr W gO 28 [aB aC 10,aB aC 0,aD ⟨#[]⟩,aA aF 0 0,aA aF 0 0]):=sqH (hOW);obtain⟨o0,o1,o2,o3,o4⟩:=sqC5 HOX9.o
   refine wL ?_;intros;refine zj rfl (.tmp 119) (.tmp 121) rfl uJ ac HX9.o (us:= [aB aC 10,aB aC 0,aD ⟨#[]⟩,aA aF 0 0,aA aF 0 0]) ac rfl (yG ⟨10,0, [], [], []⟩ aF 0 aF 0) (by show(os.length+1)*80<=140737488355328;omega) HZ9.o ?_;intro v9 w9 ho9 hg9 hv9;have HQ9:=sqH (HP9.o v9 w9 ho9 hg9 hv9);clear o0 o1 o2 o3 o4 ho9 hg9 hv9
   refine wL ?_;intros;go_roundg (n - (k+1))
   case measure=>exact wc HGK
   case rel=>exact⟨k+1,_,_,rfl,by go_num,wu,wu,HQ9.o⟩
  ·obtain rfl:kx=11:=by omega
   have o0:W.cell? ⟨gO,0,aF⟩=aG (aB aC 11):=hOW.c0;replace hOW:Arr W gO 28 [aB aC 11,aB aC 0,aD ⟨#[]⟩,aA aF 0 0,aA aF 0 0]:=hOW;have HPN:=sqH (fun w'=>qf ra 9 9 rfl w' HR.o.a0 HR.o.a1 wu wu);have hpq:=yo ra (m:=9) wu;generalize pk ra 9=qb at *
   obtain⟨nb,hnb⟩:=wY (1+qb:Nat)
   have hwn:IntKind.i64.wrap (1+(qb:Int))=(nb:Int):=by rw [IntWalk.i64_in _ wu];omega
   have hpn:1<=nb/\nb<=9:=wu;clear hnb hpq;have hRw:=HR1.o _ hbW;obtain⟨x0,x1,x2,x3⟩:=sqC4 hRw
   refine wL ?_;intros;refine(HPN.o _).mono ?_;rintro e_ _ ⟨rfl,rfl⟩;dsimp only;clear o0 x0 x1 x2 x3 hRw;have z2:=hOW.frozen 1;have y2:=hOW.c1;have hb9:Below gO w1 (W.setCell ⟨gO,1,aF⟩ (aB aC nb)):=hbW.setCell (p:=⟨gO,1,aF⟩) ag _;have hox9:Arr (W.setCell ⟨gO,1,aF⟩ (aB aC nb)) gO 28 [aB aC 11,aB aC nb,aD ⟨#[]⟩,aA aF 0 0,aA aF 0 0]:=hOW.set (k:=1) ab _;obtain⟨xs9,HX9,HZ9,HP9⟩:=(HST1.o _ (hb9)).tail ⟨11,nb, [], [], []⟩ aF 0 aF 0 (HBE1.o _ (hb9)) HHW.o (xz (k:=11) (f:=⟨true,false,false,false⟩) rfl (fun h=>by cases h) (fun _=>rfl) (fun _=>rfl) (fun _=>rfl) wu (fun h=>by cases h) ab (rfl)) HGO.o HGP.o HOL.o.1 (by have:=HOL.o.2;omega) (Sl.nil_ _ _) (Sl.nil_ _ _) (fun a e=>by cases e) (fun a e=>by cases e);have HOX9:Hid (Arr (W.setCell ⟨gO,1,aF⟩ (aB aC nb)) gO 28 [aB aC 11,aB aC nb,aD ⟨#[]⟩,aA aF 0 0,aA aF 0 0]):=sqH (hox9)
   refine wM 37 ?_;intros;generalize (W.setCell ⟨gO,1,aF⟩ (aB aC nb))=wx at *
   obtain⟨o0,o1,o2,o3,o4⟩:=sqC5 HOX9.o
   refine wL ?_;intros;refine zj rfl (.tmp 119) (.tmp 121) rfl uJ ac HX9.o (us:= [aB aC 11,aB aC nb,aD ⟨#[]⟩,aA aF 0 0,aA aF 0 0]) ac rfl (yG ⟨11,nb, [], [], []⟩ aF 0 aF 0) (by show(os.length+1)*80<=140737488355328;omega) HZ9.o ?_;intro v9 w9 ho9 hg9 hv9;have HQ9:=sqH (HP9.o v9 w9 ho9 hg9 hv9);clear o0 o1 o2 o3 o4 ho9 hg9 hv9
   refine wL ?_;intros;go_roundg (n - (k+1))
   case measure=>exact wc HGK
   case rel=>exact⟨k+1,_,_,rfl,by go_num,wu,wu,HQ9.o⟩
  ·obtain rfl:kx=12:=by omega
   have o0:W.cell? ⟨gO,0,aF⟩=aG (aB aC 12):=hOW.c0;replace hOW:Arr W gO 28 [aB aC 12,aB aC 0,aD ⟨#[]⟩,aA aF 0 0,aA aF 0 0]:=hOW;have HPB9:=sqH (fun w'=>qf rb 9 9 rfl w' HR.o.b0 HR.o.b1 wu wu);have hpq:=yo rb (m:=9) wu;generalize pk rb 9=qb at *
   obtain⟨nb,hnb⟩:=wY (1+qb:Nat)
   have hwn:IntKind.i64.wrap (1+(qb:Int))=(nb:Int):=by rw [IntWalk.i64_in _ wu];omega
   have hpn:1<=nb/\nb<=9:=wu;clear hnb hpq;have HSB:=sqH (show ∀w',Below gO w1 w'->wI w' g6 (aB aC rk) (aB aC ra) (aB aC rb) (aD rt) from fun w' hb=>sqC4 (HR1.o w' hb))
   refine wL ?_;intros;clear o0;refine wp_region_held_drew (S:=(fun w'=>wI w' g6 (aB aC rk) (aB aC ra) (aB aC rb) (aD rt))) ww ?_ (fun hHeld=> ?_)
   ·exact HSB.o _ hbW.drew
   have hB:=hbW.drew;have hOx:=hOW.drew;generalize W.drew=wn0 at *
   refine wQ 0 ?_;refine wQ 1 ?_;refine wQ 4 ?_;refine wQ 5 ?_;refine wU 2 fun K hK=>?_;go_simp;refine(HPB9.o wn0).mono ?_;rintro e6 wp6 ⟨rfl,rfl⟩;dsimp only;refine wF hK (HSB.o _ (hB.trans (Below.mono (show Below wn0.heap.size wn0 _ from by(first | exact hb5 | exact Below.refl _ _)) (by have:=hB.size;have:=HgO.o;omega)))) (Below wn0.heap.size wn0) (by first | exact hb5 | exact Below.refl _ _) fun wn1 hHeld hst=> ?_;have hB:=hB.trans (hst.mono (by have:=hB.size;have:=HgO.o;omega));have hOx:=hOx.below hst;clear hst;clear hK K
   refine wQ 3 ?_;refine wQ 7 ?_;refine wU 6 fun K hK=>?_;go_simp;refine(HKY.o wn1).mono ?_;rintro e5 w5 ⟨rfl,hb5⟩;dsimp only;refine wF hK (HSB.o _ (hB.trans (Below.mono (show Below wn1.heap.size wn1 _ from by(first | exact hb5 | exact Below.refl _ _)) (by have:=hB.size;have:=HgO.o;omega)))) (Below wn1.heap.size wn1) (by first | exact hb5 | exact Below.refl _ _) fun wn2 hHeld hst=> ?_;have hB:=hB.trans (hst.mono (by have:=hB.size;have:=HgO.o;omega));have hOx:=hOx.below hst;clear hst;clear hK K
   try simp only [sqP]
   refine wU 8 fun K hK=>?_;have z2:=hOx.frozen 1;have y2:=hOx.c1;go_simp;clear z2 y2;refine kn hK ?_ (fun W=>Arr W gO 28 [aB aC 12,aB aC nb,aD ⟨#[]⟩,aA aF 0 0,aA aF 0 0]) (fun W=>Below gO w1 W) ?_ ?_ (fun wn3 hHeld hF hG=> ?_)
   ·exact HSB.o _ (hB.setCell (p:=⟨gO,1,aF⟩) ag _)
   ·exact hOx.set (k:=1) ab _
   ·exact hB.setCell (p:=⟨gO,1,aF⟩) ag _
   clear hB hOx;have hB:=hG;have hOx:=hF;clear hF hG;clear hK K
   refine wQ 9 ?_;refine wU 10 fun K hK=>?_;have z4:=hOx.frozen 2;have y4:=hOx.c2;go_simp;clear z4 y4;refine kn hK ?_ (fun W=>Arr W gO 28 [aB aC 12,aB aC nb,aD ⟨(keyS (pk ra 7)).toArray⟩,aA aF 0 0,aA aF 0 0]) (fun W=>Below gO w1 W) ?_ ?_ (fun wn4 hHeld hF hG=> ?_)
   ·exact HSB.o _ (hB.setCell (p:=⟨gO,2,aF⟩) ag _)
   ·exact hOx.set (k:=2) ab _
   ·exact hB.setCell (p:=⟨gO,2,aF⟩) ag _
   clear hB hOx;have hB:=hG;have hOx:=hF;clear hF hG;clear hK K
   try simp only [sqP]
   refine wpAnyH_done ww ?_ _
   try dsimp only [Exit.then]
   clear hHeld;obtain⟨xs9,HX9,HZ9,HP9⟩:=(HST1.o _ (hB)).tail ⟨12,nb,keyS (pk ra 7), [], []⟩ aF 0 aF 0 (HBE1.o _ (hB)) HHW.o (xz (k:=12) (f:=⟨true,true,false,false⟩) rfl (fun h=>by cases h) (fun h=>by cases h) (fun _=>rfl) (fun _=>rfl) wu (fun _=>zE _) ab (rfl)) HGO.o HGP.o HOL.o.1 (by have:=HOL.o.2;omega) (Sl.nil_ _ _) (Sl.nil_ _ _) (fun a e=>by cases e) (fun a e=>by cases e);have HOX9:Hid (Arr wn4 gO 28 [aB aC 12,aB aC nb,aD ⟨(keyS (pk ra 7)).toArray⟩,aA aF 0 0,aA aF 0 0]):=sqH (hOx);obtain⟨o0,o1,o2,o3,o4⟩:=sqC5 HOX9.o
   refine wL ?_;intros;refine zj rfl (.tmp 119) (.tmp 121) rfl uJ ac HX9.o (us:= [aB aC 12,aB aC nb,aD ⟨(keyS (pk ra 7)).toArray⟩,aA aF 0 0,aA aF 0 0]) ac rfl (yG ⟨12,nb,keyS (pk ra 7), [], []⟩ aF 0 aF 0) (by show(os.length+1)*80<=140737488355328;omega) HZ9.o ?_;intro v9 w9 ho9 hg9 hv9;have HQ9:=sqH (HP9.o v9 w9 ho9 hg9 hv9);clear o0 o1 o2 o3 o4 ho9 hg9 hv9
   refine wL ?_;intros;go_roundg (n - (k+1))
   case measure=>exact wc HGK
   case rel=>exact⟨k+1,_,_,rfl,by go_num,wu,wu,HQ9.o⟩
theorem X1 (A:aj) (n c:Nat) (l:List RawP) (many:Nat) (M:Int) (hM:(many:Int)=M) (h20:many<=80) (w:World) (hl:l.length=n) (hc:n<=c) (hm:c<=maxLen) (hok:∀r∈l,RawOk r) (hr:Rd w 4 A n (rcs l)) :
  Calls Tryz.prog 4 #[aA A n c,aB aC M] w fun e w'=>∃v os,e= .returned v/\RwO OrdS 28 w' w.heap.size v os/\(∀o∈os,GoodD o)/\os.length<=many/\Below w.heap.size w w' :=
 (Y0 A n c l many M hM h20 w hl hc hm hok hr).mono fun e w' ⟨v,os,h1,h2,h3,h4,h5⟩=>⟨v,os,h1,h2,fun o h=>(h3 o h).1,h4,h5⟩
end Go.Proofs.YtcjmjaefcjcomaaGreat
