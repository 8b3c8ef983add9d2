/- Lemmas of the proof. Conditions: as stated. -/
import Derived.Test.YtdbbehfbkiiloaaGreatDoorQS28
import Derived.Lib.ItoaLen
set_option linter.unusedVariables false
set_option linter.unusedSimpArgs false
set_option maxRecDepth 100000
set_option maxHeartbeats 8000000
namespace Go.Proofs.YtdbbehfbkiiloaaGreatDoor
open Go.RowKit Go.Maps
def kR (w:World):Prop:=Lib.TabIs Tryz.prog w "internal/strconv.uint64pow10" .u64 Lib.pow10Tab
theorem kR.below {w w':World} (h:kR w) (hb:Below w.heap.size w w'):kR w':=by
 unfold kR Lib.TabIs World.var? at *
 cases hg:Tryz.prog.globalNamed "internal/strconv.uint64pow10" with
 | none=>simp [hg]at h
 | some g =>
  simp only [hg,Option.bind_some]at h ⊢
  have hlt:g<w.heap.size:=by
   rcases Nat.lt_or_ge g w.heap.size with h' | h'
   ·exact h'
   ·rw [Array.getElem?_eq_none h']at h;simp at h
  rw [hb.block g hlt];exact h
theorem xV (w:World) (k:Nat) (os:Array Obj):Below w.heap.size w (Sort.grow (w.drewN k) os):=by
 refine⟨rfl,rfl,rfl,by simp,fun b hb=> ?_⟩;show((w.heap++os)[b]?)=_;rw [Array.getElem?_append_left (by exact hb)]
theorem xN (n:Int) (h0:0≤n) (h1:n≤1000000) (w:World) (ht:kR w) :
  Calls Tryz.prog 12 #[.int .i64 n] w fun e w'=>∃t:ByteArray,e= .returned (.string t)∧t.size≤21∧Below w.heap.size w w':=by
 refine(Tryz.strconv_Itoa n (by omega) (by omega) w ht).mono ?_;rintro e w' ⟨rfl,k,os,rfl⟩;refine⟨_,rfl,?_,xV w k os⟩;show(Lib.itoa n).toArray.size≤21;rw [List.size_toArray];exact Lib.itoa_length_le n (by omega) (by omega)
theorem zN (a b:ByteArray):(a++b).size=a.size+b.size:=ByteArray.size_append
theorem vB (t:ByteArray) (ht:t.size≤20) (n o:Int) (hn:0≤n) (hn1:n≤1000000) (ho:0≤o) (ho1:o≤1000000) (w:World) (hw:kR w) :
  Calls Tryz.prog 11 #[.string t,.int .i64 n,.int .i64 o] w fun e w'=>∃s r:ByteArray,e= .returned (.string s)∧s=(t++⟨#[32]⟩)++r∧s.size≤100∧Below w.heap.size w w':=by
 have H1:=sqH (xN n hn hn1 w hw);have H2:=sqH (fun W (h:Below w.heap.size w W)=>xN o ho ho1 W (hw.below h));have q1:=fun w'=>run_string_add_sum (P:=Tryz.prog) (w:=w') t ⟨#[32]⟩ (by show t.size+1≤_;omega);obtain⟨T1,hT1⟩:∃X:ByteArray,X=t++⟨#[32]⟩:=⟨_,rfl⟩
 have s1:T1.size=t.size+1:=by rw [hT1];exact zN _ _
 rw [←hT1]at q1;have HT1:=sqH hT1;have HT:=sqH ht;clear hT1 ht hn hn1 ho ho1 hw;go_enter Tryz.func11,Tryz.ntmps11;go_wp2_with fail;refine H1.out.mono ?_;rintro e_ w1 ⟨u1,rfl,hu1,hb1⟩;dsimp only;have q2:=fun w'=>run_string_add_sum (P:=Tryz.prog) (w:=w') T1 u1 (by have:=HT.out;omega);obtain⟨T2,hT2⟩:∃X:ByteArray,X=T1++u1:=⟨_,rfl⟩
 have s2:T2.size=T1.size+u1.size:=by rw [hT2];exact zN _ _
 rw [←hT2]at q2;have HT2:=sqH hT2;clear hT2;have q3:=fun w'=>run_string_add_sum (P:=Tryz.prog) (w:=w') T2 ⟨#[32,111,102,32]⟩ (by show T2.size+4≤_;have:=HT.out;omega);obtain⟨T3,hT3⟩:∃X:ByteArray,X=T2++⟨#[32,111,102,32]⟩:=⟨_,rfl⟩
 have s3:T3.size=T2.size+4:=by rw [hT3];exact zN _ _
 rw [←hT3]at q3;have HT3:=sqH hT3;clear hT3;go_wp2_with fail;refine(H2.out w1 hb1).mono ?_;rintro e_ w2 ⟨u2,rfl,hu2,hb2⟩;dsimp only;have q4:=fun w'=>run_string_add_sum (P:=Tryz.prog) (w:=w') T3 u2 (by have:=HT.out;omega);obtain⟨T4,hT4⟩:∃X:ByteArray,X=T3++u2:=⟨_,rfl⟩
 have s4:T4.size=T3.size+u2.size:=by rw [hT4];exact zN _ _
 rw [←hT4]at q4;have HT4:=sqH hT4;clear hT4;go_wp2_with fail;go_ret;refine⟨T4,u1++⟨#[32,111,102,32]⟩++u2,rfl,?_,by have:=HT.out;omega,hb1.trans (hb2.mono hb1.size)⟩;rw [HT4.out,HT3.out,HT2.out,HT1.out];simp only [ByteArray.append_assoc]
theorem xF {fn:Func} {t u v x y:Tmp} (h:fn.results=#[.tmp t,.tmp u,.tmp v,.tmp x,.tmp y]) (tmps:Array Value) (P:Program) (w:World) :
  (results fn tmps).run P w= .ok (.tuple #[tmps.getD t undef,tmps.getD u undef,tmps.getD v undef,tmps.getD x undef,tmps.getD y undef]) w:=by
 simp [results,h]
theorem vu (X:Option Addr) (cX:Nat) (Y:Option Addr) (dY:Nat) (G:Option Addr) (ng:Nat) (F:Option Addr) (cF:Nat) (s:StoP) (co:ColP) (w:World) (hg:GoodL ⟨s,co, []⟩) (hr:RdLo w ⟨X,cX,Y,dY,G,ng,F,cF⟩ ⟨s,co, []⟩) :
  Calls Tryz.prog 5 #[loV ⟨X,cX,Y,dY,G,ng,F,cF⟩ ⟨s,co, []⟩] w fun e w'=>e= .returned (.tuple #[.int .i64 s.blobs.length,.int .i64 (usd s.blobs:Int),.int .i64 s.ents.length,.int .i64 0,.int .i64 0])∧Below w.heap.size w w':=by
 obtain⟨w0,hw0⟩:∃W,W=w.alloc (.cells #[.slice X s.blobs.length cX,.slice Y s.ents.length dY,.int .i64 s.room,.int .i64 s.clock,.int .i64 co.phase,.slice G co.grey.length ng,.string ⟨co.at_.toArray⟩,.slice F 0 cF] 32):=⟨_,rfl⟩
 have hR:Arr w0 w.heap.size 32 [.slice X s.blobs.length cX,.slice Y s.ents.length dY,.int .i64 s.room,.int .i64 s.clock,.int .i64 co.phase,.slice G co.grey.length ng,.string ⟨co.at_.toArray⟩,.slice F 0 cF]:=by rw [hw0];exact Arr.new w 32 _
 have hb0:Below w.heap.size w w0:=by rw [hw0];exact(Below.refl _ _).alloc (Nat.le_refl _) _
 have HC:=sqH (fun W (h:Below w0.heap.size w0 W)=>KD ⟨X,cX,Y,dY,G,ng,F,cF⟩ ⟨s,co, []⟩ W hg ((hr.below hb0).below h));have HU:=sqH (fun W (h:Below w0.heap.size w0 W)=>xR X cX s.blobs W (by have h1:s.blobs.length≤24:=hg.s.b.len;omega) (by have h1:usd s.blobs≤s.room:=hg.s.used;have h2:s.room≤4000:=hg.s.room;omega) (((hr.below hb0).below h).s.b));have HSB:=sqH (fun W (h:Below w0.heap.size w0 W)=>(⟨(hR.below h).cell (k:=0) rfl,(hR.below h).cell (k:=1) rfl⟩:W.cell? ⟨w.heap.size,0,none⟩=some (.slice X s.blobs.length cX)∧W.cell? ⟨w.heap.size,1,none⟩=some (.slice Y s.ents.length dY)));obtain⟨x0,x1,x2,x3,x4,x5,x6,x7⟩:=sqC8 hR;have HR:=sqH hR;have HW0:=sqH hw0;have HB0:=sqH hb0;clear hw0 hb0 hR hg hr;show Calls Tryz.prog 5 #[.agg #[.slice X s.blobs.length cX,.slice Y s.ents.length dY,.int .i64 s.room,.int .i64 s.clock,.int .i64 co.phase,.slice G co.grey.length ng,.string ⟨co.at_.toArray⟩,.slice F 0 cF]] w _;go_enter Tryz.func5,Tryz.ntmps5;generalize usd s.blobs=ud at *
 go_wp2_with fail;rw [←HW0.out];clear HW0;go_wp2_with fail;refine(HC.out w0 (Below.refl _ _)).mono ?_;rintro e_ w1 ⟨rfl,hb1⟩;dsimp only;clear x0 x1 x2 x3 x4 x5 x6 x7;have x7:=(HR.out.below hb1).cell (k:=7) rfl;go_wp2_with fail;go_loopg [8,19] 0 (fun gn v u wr=>v= .int .i64 0∧u= .int .i64 0∧wr=w1)
 case atStart=>exact⟨rfl,rfl,rfl⟩
 case round =>
  obtain⟨rfl,rfl,rfl⟩:=hrel;go_wp2_with fail;refine wp_region_held_drew (S:=(fun w'=>w'.cell? ⟨w.heap.size,0,none⟩=some (.slice X s.blobs.length cX)∧w'.cell? ⟨w.heap.size,1,none⟩=some (.slice Y s.ents.length dY))) (by kernel_rfl) ?_ (fun hHeld=> ?_)
  ·exact HSB.out _ hb1.drew
  have hB:=hb1.drew;generalize wr.drew=wn0 at *
  refine sqTH 0 ?_;try simp only [sqP]
  refine sqTH 1 ?_;try simp only [sqP]
  refine sqTH 2 ?_;try simp only [sqP]
  refine sqTH 3 ?_;try simp only [sqP]
  refine sqTH 4 ?_;try simp only [sqP]
  refine sqTH 5 ?_;try simp only [sqP]
  refine sqTH 6 ?_;try simp only [sqP]
  refine sqTH 8 ?_;try simp only [sqP]
  refine sqTH 9 ?_;try simp only [sqP]
  refine sqTH 10 ?_;try simp only [sqP]
  refine sqTH 11 ?_;try simp only [sqP]
  refine sqTH 12 ?_;try simp only [sqP]
  refine wpAnyH_ready (rs:= [7]) (by kernel_rfl) (by simp) ?_;refine AllReadyH.cons (o:=_) rfl (fun K hK=> ?_) ?_
  ·
   go_simp;refine(HU.out wn0 hB).mono ?_;rintro e5 w5 ⟨rfl,hb5⟩;dsimp only;refine qi hK ?_ (Below wn0.heap.size wn0) (fun W=>True) ?_ ?_ (fun wn1 hHeld hst hnew=> ?_)
   ·(exact HSB.out _ (hB.trans (hb5.mono hB.size)))
   ·(exact hb5)
   ·(trivial)
   have hB:=hB.trans (hst.mono hB.size);clear hst;clear hK K
   try simp only [sqP]
   refine sqTH 13 ?_;try simp only [sqP]
   refine sqTH 14 ?_;try simp only [sqP]
   refine sqTH 15 ?_;try simp only [sqP]
   refine sqTH 16 ?_;try simp only [sqP]
   refine sqTH 17 ?_;try simp only [sqP]
   refine wpAnyH_done (by kernel_rfl) ?_ _
   try dsimp only [Exit.then]
   clear hHeld;have hBz:=HB0.out.trans (hB.mono HB0.out.size);clear hB;go_wp2_with fail
   (try simp only [Exit.inBlock,Exit.then])
   refine bodyPost_ret (xF rfl _ _ _) rfl ?_;exact⟨rfl,hBz⟩
  exact AllReadyH.nil
theorem Y7 (w:World):(Instr.index 49 (.agg #[.string ⟨#[105,100,108,101]⟩,.string ⟨#[109,97,114,107,105,110,103]⟩,.string ⟨#[115,119,101,101,112]⟩]) (.int .i64 0)).run Tryz.prog w= .ok (.string ⟨#[105,100,108,101]⟩) w:=by kernel_rfl
theorem ZF (X:Option Addr) (cX:Nat) (Y:Option Addr) (dY:Nat) (G:Option Addr) (ng:Nat) (F:Option Addr) (cF:Nat) (s:StoP) (w:World) (hg:GoodL ⟨s,coZ, []⟩) (hr:RdLo w ⟨X,cX,Y,dY,G,ng,F,cF⟩ ⟨s,coZ, []⟩) (ht:kR w) :
  Calls Tryz.prog 6 #[loV ⟨X,cX,Y,dY,G,ng,F,cF⟩ ⟨s,coZ, []⟩] w fun e w'=>∃(g:Nat) (t r:ByteArray) (L:List Value),e= .returned (.tuple #[.slice (some ⟨g,0,none⟩) 5 5,.int .i64 0])∧t=((⟨#[98,108,111,98,115]⟩:ByteArray)++⟨#[32]⟩)++r∧Arr w' g 9 (.string t::L)∧Below w.heap.size w w':=by
 have hz:coZ.at_= []:=rfl;obtain⟨w0,hw0⟩:∃W,W=w.alloc (.cells #[.slice X s.blobs.length cX,.slice Y s.ents.length dY,.int .i64 s.room,.int .i64 s.clock,.int .i64 0,.slice G 0 ng,.string ⟨#[]⟩,.slice F 0 cF] 32):=⟨_,rfl⟩
 have hR:Arr w0 w.heap.size 32 [.slice X s.blobs.length cX,.slice Y s.ents.length dY,.int .i64 s.room,.int .i64 s.clock,.int .i64 0,.slice G 0 ng,.string ⟨#[]⟩,.slice F 0 cF]:=by rw [hw0];exact Arr.new w 32 _
 have hb0:Below w.heap.size w w0:=by rw [hw0];exact(Below.refl _ _).alloc (Nat.le_refl _) _
 have hus:usd s.blobs≤s.room:=hg.s.used;have hrm:s.room≤4000:=hg.s.room;have hbl:s.blobs.length≤24:=hg.s.b.len;have hel:s.ents.length≤10:=hg.s.e.len;have HC:=sqH (fun W (h:Below w0.heap.size w0 W)=>vu X cX Y dY G ng F cF s coZ W hg ((hr.below hb0).below h));have ht0:=ht.below hb0;have HS1:=sqH (fun W (h:Below w0.heap.size w0 W)=>vB ⟨#[98,108,111,98,115]⟩ (by decide) (s.blobs.length:Int) 24 (by omega) (by omega) (by omega) (by omega) W (ht0.below h));have HS2:=sqH (fun W (h:Below w0.heap.size w0 W)=>vB ⟨#[98,121,116,101,115]⟩ (by decide) (usd s.blobs:Int) (s.room:Int) (by omega) (by omega) (by omega) (by omega) W (ht0.below h));have HS3:=sqH (fun W (h:Below w0.heap.size w0 W)=>vB ⟨#[101,110,116,114,105,101,115]⟩ (by decide) (s.ents.length:Int) 10 (by omega) (by omega) (by omega) (by omega) W (ht0.below h));have HS4:=sqH (fun W (h:Below w0.heap.size w0 W)=>vB ⟨#[102,108,105,103,104,116,115]⟩ (by decide) 0 6 (by omega) (by omega) (by omega) (by omega) W (ht0.below h));have HI:=sqH (fun W (h:Below w0.heap.size w0 W)=>xN 0 (by omega) (by omega) W (ht0.below h));have HSB:=sqH (fun W (h:Below w0.heap.size w0 W)=>(⟨(hR.below h).cell (k:=2) rfl,(hR.below h).cell (k:=5) rfl,(hR.below h).cell (k:=7) rfl⟩:W.cell? ⟨w.heap.size,2,none⟩=some (.int .i64 s.room)∧W.cell? ⟨w.heap.size,5,none⟩=some (.slice G 0 ng)∧W.cell? ⟨w.heap.size,7,none⟩=some (.slice F 0 cF)));obtain⟨x0,x1,x2,x3,x4,x5,x6,x7⟩:=sqC8 hR;have HR:=sqH hR;have HW0:=sqH hw0;have HB0:=sqH hb0;clear hw0 hb0 hR hg hr ht ht0 hz hus hrm hbl hel;have q22:=fun w'=>run_string_add_sum (P:=Tryz.prog) (w:=w') ⟨#[99,111,108,108,101,99,116,111,114,32]⟩ ⟨#[105,100,108,101]⟩ (by decide);obtain⟨T22,hT22⟩:∃X:ByteArray,X=(⟨#[99,111,108,108,101,99,116,111,114,32]⟩:ByteArray)++⟨#[105,100,108,101]⟩:=⟨_,rfl⟩
 have s22:T22.size=14:=by rw [hT22];rfl
 rw [←hT22]at q22;clear hT22;have q23:=fun w'=>run_string_add_sum (P:=Tryz.prog) (w:=w') T22 ⟨#[32]⟩ (by show T22.size+1≤_;omega);obtain⟨T23,hT23⟩:∃X:ByteArray,X=T22++⟨#[32]⟩:=⟨_,rfl⟩
 have s23:T23.size=T22.size+1:=by rw [hT23];exact zN _ _
 rw [←hT23]at q23;clear hT23;show Calls Tryz.prog 6 #[.agg #[.slice X s.blobs.length cX,.slice Y s.ents.length dY,.int .i64 s.room,.int .i64 s.clock,.int .i64 0,.slice G 0 ng,.string ⟨#[]⟩,.slice F 0 cF]] w _;go_enter Tryz.func6,Tryz.ntmps6;generalize usd s.blobs=ud at *
 go_wp2_with fail;rw [←HW0.out];clear HW0;go_wp2_with fail;refine(HC.out w0 (Below.refl _ _)).mono ?_;rintro e_ w1 ⟨rfl,hb1⟩;dsimp only;clear x0 x1 x2 x3 x4 x5 x6 x7;have x4:=(HR.out.below hb1).cell (k:=4) rfl;have qix:=Y7;go_wp2_with fail;refine wp_region_held_drew (S:=(fun w'=>w'.cell? ⟨w.heap.size,2,none⟩=some (.int .i64 s.room)∧w'.cell? ⟨w.heap.size,5,none⟩=some (.slice G 0 ng)∧w'.cell? ⟨w.heap.size,7,none⟩=some (.slice F 0 cF))) (by kernel_rfl) ?_ (fun hHeld=> ?_)
 ·exact HSB.out _ hb1.drew
 have hB:=hb1.drew;generalize w1.drew=wn0 at *
 refine sqTH 0 ?_;try simp only [sqP]
 refine sqTH 1 ?_;try simp only [sqP]
 refine sqTH 3 ?_;try simp only [sqP]
 refine sqTH 4 ?_;try simp only [sqP]
 refine sqTH 5 ?_;try simp only [sqP]
 refine sqTH 6 ?_;try simp only [sqP]
 refine sqTH 7 ?_;try simp only [sqP]
 refine sqTH 9 ?_;try simp only [sqP]
 refine sqTH 10 ?_;try simp only [sqP]
 refine sqTH 12 ?_;try simp only [sqP]
 refine sqTH 13 ?_;try simp only [sqP]
 refine sqTH 14 ?_;try simp only [sqP]
 refine sqTH 15 ?_;try simp only [sqP]
 refine sqTH 18 ?_;try simp only [sqP]
 refine sqTH 21 ?_;try simp only [sqP]
 refine sqTH 22 ?_;try simp only [sqP]
 refine sqTH 23 ?_;try simp only [sqP]
 refine sqTH 24 ?_;try simp only [sqP]
 refine sqTH 25 ?_;try simp only [sqP]
 refine sqTH 26 ?_;try simp only [sqP]
 refine sqTH 27 ?_;try simp only [sqP]
 refine wpAnyH_ready (rs:= [2]) (by kernel_rfl) (by simp) ?_;refine AllReadyH.cons (o:=_) rfl (fun K hK=> ?_) ?_
 ·
  go_simp;refine(HS1.out wn0 hB).mono ?_;rintro e5 w5 ⟨s2,r2,rfl,hs2,hz2,hb5⟩;dsimp only;have HS2X:=sqH hs2;clear hs2;refine qi hK ?_ (Below wn0.heap.size wn0) (fun W=>True) ?_ ?_ (fun wn1 hHeld hst hnew=> ?_)
  ·(exact HSB.out _ (hB.trans (Below.mono (show Below wn0.heap.size wn0 _ from by(first | exact(Below.refl _ _).alloc (Nat.le_refl _) _ | exact hb5)) hB.size)))
  ·(first | exact(Below.refl _ _).alloc (Nat.le_refl _) _ | exact hb5)
  ·(trivial)
  have hB:=hB.trans (hst.mono hB.size);clear hst;clear hK K
  try simp only [sqP]
  refine wpAnyH_ready (rs:= [8]) (by kernel_rfl) (by simp) ?_;refine AllReadyH.cons (o:=_) rfl (fun K hK=> ?_) ?_
  ·
   go_simp;refine(HS2.out wn1 hB).mono ?_;rintro e5 w5 ⟨s8,r8,rfl,hs8,hz8,hb5⟩;dsimp only;have HS8X:=sqH hs8;clear hs8;refine qi hK ?_ (Below wn1.heap.size wn1) (fun W=>True) ?_ ?_ (fun wn2 hHeld hst hnew=> ?_)
   ·(exact HSB.out _ (hB.trans (Below.mono (show Below wn1.heap.size wn1 _ from by(first | exact(Below.refl _ _).alloc (Nat.le_refl _) _ | exact hb5)) hB.size)))
   ·(first | exact(Below.refl _ _).alloc (Nat.le_refl _) _ | exact hb5)
   ·(trivial)
   have hB:=hB.trans (hst.mono hB.size);clear hst;clear hK K
   try simp only [sqP]
   refine wpAnyH_ready (rs:= [11]) (by kernel_rfl) (by simp) ?_;refine AllReadyH.cons (o:=_) rfl (fun K hK=> ?_) ?_
   ·
    go_simp;refine(HS3.out wn2 hB).mono ?_;rintro e5 w5 ⟨s11,r11,rfl,hs11,hz11,hb5⟩;dsimp only;have HS11X:=sqH hs11;clear hs11;refine qi hK ?_ (Below wn2.heap.size wn2) (fun W=>True) ?_ ?_ (fun wn3 hHeld hst hnew=> ?_)
    ·(exact HSB.out _ (hB.trans (Below.mono (show Below wn2.heap.size wn2 _ from by(first | exact(Below.refl _ _).alloc (Nat.le_refl _) _ | exact hb5)) hB.size)))
    ·(first | exact(Below.refl _ _).alloc (Nat.le_refl _) _ | exact hb5)
    ·(trivial)
    have hB:=hB.trans (hst.mono hB.size);clear hst;clear hK K
    try simp only [sqP]
    refine wpAnyH_ready (rs:= [16]) (by kernel_rfl) (by simp) ?_;refine AllReadyH.cons (o:=_) rfl (fun K hK=> ?_) ?_
    ·
     go_simp;refine(HS4.out wn3 hB).mono ?_;rintro e5 w5 ⟨s16,r16,rfl,hs16,hz16,hb5⟩;dsimp only;have HS16X:=sqH hs16;clear hs16;refine qi hK ?_ (Below wn3.heap.size wn3) (fun W=>True) ?_ ?_ (fun wn4 hHeld hst hnew=> ?_)
     ·(exact HSB.out _ (hB.trans (Below.mono (show Below wn3.heap.size wn3 _ from by(first | exact(Below.refl _ _).alloc (Nat.le_refl _) _ | exact hb5)) hB.size)))
     ·(first | exact(Below.refl _ _).alloc (Nat.le_refl _) _ | exact hb5)
     ·(trivial)
     have hB:=hB.trans (hst.mono hB.size);have q17:=fun w'=>run_string_add_sum (P:=Tryz.prog) (w:=w') s16 (⟨#[44,32,119,97,105,116,105,110,103,32]⟩:ByteArray) (by show s16.size+10≤_;omega);obtain⟨T17,hT17⟩:∃X:ByteArray,X=s16++(⟨#[44,32,119,97,105,116,105,110,103,32]⟩:ByteArray):=⟨_,rfl⟩
     have s17z:T17.size=s16.size+10:=by rw [hT17];exact zN _ _
     rw [←hT17]at q17;clear hT17;clear hst;clear hK K
     try simp only [sqP]
     refine sqTH 17 ?_;try simp only [sqP]
     refine wpAnyH_ready (rs:= [19]) (by kernel_rfl) (by simp) ?_;refine AllReadyH.cons (o:=_) rfl (fun K hK=> ?_) ?_
     ·
      go_simp;refine(HI.out wn4 hB).mono ?_;rintro e5 w5 ⟨u19,rfl,hz19,hb5⟩;dsimp only;refine qi hK ?_ (Below wn4.heap.size wn4) (fun W=>True) ?_ ?_ (fun wn5 hHeld hst hnew=> ?_)
      ·(exact HSB.out _ (hB.trans (Below.mono (show Below wn4.heap.size wn4 _ from by(first | exact(Below.refl _ _).alloc (Nat.le_refl _) _ | exact hb5)) hB.size)))
      ·(first | exact(Below.refl _ _).alloc (Nat.le_refl _) _ | exact hb5)
      ·(trivial)
      have hB:=hB.trans (hst.mono hB.size);have q20:=fun w'=>run_string_add_sum (P:=Tryz.prog) (w:=w') T17 u19 (by show T17.size+u19.size≤_;omega);obtain⟨T20,hT20⟩:∃X:ByteArray,X=T17++u19:=⟨_,rfl⟩
      have s20z:T20.size=T17.size+u19.size:=by rw [hT20];exact zN _ _
      rw [←hT20]at q20;clear hT20;clear hst;clear hK K
      try simp only [sqP]
      refine sqTH 20 ?_;try simp only [sqP]
      refine wpAnyH_ready (rs:= [28]) (by kernel_rfl) (by simp) ?_;refine AllReadyH.cons (o:=_) rfl (fun K hK=> ?_) ?_
      ·
       go_simp;refine(HI.out wn5 hB).mono ?_;rintro e5 w5 ⟨u28,rfl,hz28,hb5⟩;dsimp only;refine qi hK ?_ (Below wn5.heap.size wn5) (fun W=>True) ?_ ?_ (fun wn6 hHeld hst hnew=> ?_)
       ·(exact HSB.out _ (hB.trans (Below.mono (show Below wn5.heap.size wn5 _ from by(first | exact(Below.refl _ _).alloc (Nat.le_refl _) _ | exact hb5)) hB.size)))
       ·(first | exact(Below.refl _ _).alloc (Nat.le_refl _) _ | exact hb5)
       ·(trivial)
       have hB:=hB.trans (hst.mono hB.size);have q29:=fun w'=>run_string_add_sum (P:=Tryz.prog) (w:=w') T23 u28 (by show T23.size+u28.size≤_;omega);obtain⟨T29,hT29⟩:∃X:ByteArray,X=T23++u28:=⟨_,rfl⟩
       have s29z:T29.size=T23.size+u28.size:=by rw [hT29];exact zN _ _
       rw [←hT29]at q29;clear hT29;clear hst;clear hK K
       try simp only [sqP]
       refine sqTH 29 ?_;try simp only [sqP]
       refine wpAnyH_ready (rs:= [30]) (by kernel_rfl) (by simp) ?_;refine AllReadyH.cons (o:=_) rfl (fun K hK=> ?_) ?_
       ·
        go_simp;refine qi hK ?_ (Below wn6.heap.size wn6) (fun W=>∃L,Arr W wn6.heap.size 9 (.string s2::L)) ?_ ?_ (fun wn7 hHeld hst hnew=> ?_)
        ·(exact HSB.out _ (hB.trans (Below.mono (show Below wn6.heap.size wn6 _ from by(first | exact(Below.refl _ _).alloc (Nat.le_refl _) _ | exact hb5)) hB.size)))
        ·(first | exact(Below.refl _ _).alloc (Nat.le_refl _) _ | exact hb5)
        ·(exact⟨_,Arr.new _ _ _⟩)
        have hB:=hB.trans (hst.mono hB.size);obtain⟨L30,h30⟩:=hnew;clear hst;clear hK K
        try simp only [sqP]
        refine sqTH 31 ?_;try simp only [sqP]
        refine sqTH 32 ?_;try simp only [sqP]
        refine wpAnyH_done (by kernel_rfl) ?_ _
        try dsimp only [Exit.then]
        clear hHeld;have hBz:=HB0.out.trans (hB.mono HB0.out.size);clear hB;go_wp2_with fail;go_ret2;exact⟨_,s2,r2,L30,rfl,HS2X.out,h30,hBz⟩
       exact AllReadyH.nil
      exact AllReadyH.nil
     exact AllReadyH.nil
    exact AllReadyH.nil
   exact AllReadyH.nil
  exact AllReadyH.nil
 exact AllReadyH.nil
theorem jw {t r:ByteArray} (h:t=((⟨#[98,108,111,98,115]⟩:ByteArray)++⟨#[32]⟩)++r):Lib.hasPrefix t.data.toList (⟨#[98,108,111,98,115,32]⟩:ByteArray).data.toList=true:=by
 subst h;rw [ByteArray.data_append,ByteArray.data_append];simp [Lib.hasPrefix,List.isPrefixOf]
theorem kh (A:Option Addr) (n c:Nat) (l:List RawP) (w:World) (hl:l.length=n) (hc:n≤c) (hm:c≤maxLen) (hok:∀r∈l,RawOk r) (hr:Rd w 4 A n (rcs l)) (ht:kR w) :
  Calls Tryz.prog 3 #[.slice A n c] w fun e w'=>e= .returned (.bool true)∧Below w.heap.size w w':=by
 have HLF:=sqH (QS A n c l w hl hc hm hok hr);have hgd:=Q2 l;have HT:=sqH (fun W (h:Below w.heap.size w W)=>ht.below h);unfold lof at HLF hgd;generalize sto l=s at *
 have HLG:Hid (Calls Tryz.prog 4 #[.slice A n c] w fun e w'=>∃X cX Y dY G ng F cF,e= .returned (.agg #[.slice X s.blobs.length cX,.slice Y s.ents.length dY,.int .i64 s.room,.int .i64 s.clock,.int .i64 0,.slice G 0 ng,.string ⟨#[]⟩,.slice F 0 cF])∧RdLo w' ⟨X,cX,Y,dY,G,ng,F,cF⟩ ⟨s,coZ, []⟩∧Below w.heap.size w w'):=sqH (HLF.out.mono (fun e w' h=>by
  obtain⟨⟨X,cX,Y,dY,G,ng,F,cF⟩,rfl,h1,h2⟩:=h;exact⟨X,cX,Y,dY,G,ng,F,cF,rfl,h1,h2⟩))
 have HCN:Hid (∀X cX Y dY G ng F cF W,RdLo W ⟨X,cX,Y,dY,G,ng,F,cF⟩ ⟨s,coZ, []⟩→Calls Tryz.prog 5 #[.agg #[.slice X s.blobs.length cX,.slice Y s.ents.length dY,.int .i64 s.room,.int .i64 s.clock,.int .i64 0,.slice G 0 ng,.string ⟨#[]⟩,.slice F 0 cF]] W fun e w'=>e= .returned (.tuple #[.int .i64 s.blobs.length,.int .i64 (usd s.blobs:Int),.int .i64 s.ents.length,.int .i64 0,.int .i64 0])∧Below W.heap.size W w'):=sqH (fun X cX Y dY G ng F cF W h=>vu X cX Y dY G ng F cF s coZ W hgd h);have HLN:Hid (∀X cX Y dY G ng F cF W,RdLo W ⟨X,cX,Y,dY,G,ng,F,cF⟩ ⟨s,coZ, []⟩→kR W→Calls Tryz.prog 6 #[.agg #[.slice X s.blobs.length cX,.slice Y s.ents.length dY,.int .i64 s.room,.int .i64 s.clock,.int .i64 0,.slice G 0 ng,.string ⟨#[]⟩,.slice F 0 cF]] W fun e w'=>∃(g:Nat) (t r:ByteArray) (L:List Value),e= .returned (.tuple #[.slice (some ⟨g,0,none⟩) 5 5,.int .i64 0])∧t=((⟨#[98,108,111,98,115]⟩:ByteArray)++⟨#[32]⟩)++r∧Arr w' g 9 (.string t::L)∧Below W.heap.size W w'):=sqH (fun X cX Y dY G ng F cF W h h'=>ZF X cX Y dY G ng F cF s W hgd h h');have hus:usd s.blobs≤s.room:=hgd.s.used;have hrm:s.room≤4000:=hgd.s.room;have hbl:s.blobs.length≤24:=hgd.s.b.len;have HUS:Hid (∀X cX W,Rw BlobS W X s.blobs→Calls Tryz.prog 7 #[.slice X s.blobs.length cX] W fun e w'=>e= .returned (.int .i64 (usd s.blobs:Int))∧Below W.heap.size W w'):=sqH (fun X cX W h=>xR X cX s.blobs W (by omega) (by omega) h);generalize usd s.blobs=ud at *
 clear hok hl hr hgd HLF hus hrm hbl ht;go_enter Tryz.func3,Tryz.ntmps3;go_wp2_with fail;refine HLG.out.mono ?_;rintro e_ w1 ⟨X,cX,Y,dY,G,ng,F,cF,rfl,hrd1,hb1⟩;dsimp only;obtain⟨w2,hw2⟩:∃W,W=w1.alloc (.cells #[.slice X s.blobs.length cX,.slice Y s.ents.length dY,.int .i64 s.room,.int .i64 s.clock,.int .i64 0,.slice G 0 ng,.string ⟨#[]⟩,.slice F 0 cF] 32):=⟨_,rfl⟩
 obtain⟨g2,hg2⟩:∃g,g=w1.heap.size:=⟨_,rfl⟩
 have hR2:Arr w2 g2 32 [.slice X s.blobs.length cX,.slice Y s.ents.length dY,.int .i64 s.room,.int .i64 s.clock,.int .i64 0,.slice G 0 ng,.string ⟨#[]⟩,.slice F 0 cF]:=by rw [hw2,hg2];exact Arr.new w1 32 _
 have hb12:Below w1.heap.size w1 w2:=by rw [hw2];exact(Below.refl _ _).alloc (Nat.le_refl _) _
 have HRD:=sqH (hrd1.below hb12);have HR2:=sqH hR2;have HW2:=sqH hw2;have HG2:=sqH hg2;have HB2:=sqH (hb1.trans (hb12.mono hb1.size));clear hrd1 hb1 hb12 hw2 hg2 hR2 HLG
 repeat' ((fail_if_success (with_reducible refine jm 2 ?_));(fail_if_success (with_reducible refine jn 2 ?_));(fail_if_success (with_reducible refine jo 2 ?_));(fail_if_success (with_reducible refine jp 2 ?_));(fail_if_success (with_reducible refine jq 2 ?_));(fail_if_success (with_reducible refine jr 2 ?_));(fail_if_success at_builtin);(fail_if_success at_make);(first | go_values | go_skip | go_guarded | go_step | go_upon | go_back))
 rw [←HW2.out,←HG2.out];clear HW2 HG2;have HC1:=sqH (HCN.out X cX Y dY G ng F cF w2 HRD.out);obtain⟨x0,x1,x2,x3,x4,x5,x6,x7⟩:=sqC8 HR2.out;clear HCN;go_wp2_with fail;clear x0 x1 x2 x3 x4 x5 x6 x7;refine HC1.out.mono ?_;rintro e_ w3 ⟨rfl,hb3⟩;dsimp only;clear HC1;have HC2:=sqH (HLN.out X cX Y dY G ng F cF w3 (HRD.out.below hb3) (HT.out w3 (HB2.out.trans (hb3.mono HB2.out.size))));have hR3:=HR2.out.below hb3;obtain⟨x0,x1,x2,x3,x4,x5,x6,x7⟩:=sqC8 hR3;have HB3:=sqH hb3;clear HLN HT hR3 hb3;go_wp2_with fail;clear x0 x1 x2 x3 x4 x5 x6 x7;refine HC2.out.mono ?_;rintro e_ w4 ⟨g5,t,r,L,rfl,htx,hA4,hb4⟩;dsimp only;have HPX:=sqH (fun W=>Tryz.strings_HasPrefix t ⟨#[98,108,111,98,115,32]⟩ W);have HTX:=sqH (jw htx);have HA4:=sqH hA4;have HB4:=sqH (HB3.out.trans (hb4.mono HB3.out.size));clear htx hA4 hb4 HC2 HB3;have HU:=sqH (HUS.out X cX w4 ((HRD.out.below HB4.out).s.b));have hR4:=HR2.out.below HB4.out;obtain⟨x0,x1⟩:=sqC2 hR4;clear hR4 HUS;go_wp2_with fail;refine HU.out.mono ?_;rintro e_ w5 ⟨rfl,hb5⟩;dsimp only;obtain⟨x0,x1⟩:=sqC2 ((HR2.out.below HB4.out).below hb5);have y0:=(HA4.out.below hb5).cell (k:=0) rfl;have HB5:=sqH ((HB2.out.trans (HB4.out.mono HB2.out.size)).trans (hb5.mono (Nat.le_trans HB2.out.size HB4.out.size)));clear hb5 HU;go_wp2_with fail;refine(HPX.out w5).mono ?_;rintro e_ w_ ⟨rfl,rfl⟩;dsimp only;rw [HTX.out];go_wp2_with fail;go_ret;exact⟨rfl,HB5.out⟩
end Go.Proofs.YtdbbehfbkiiloaaGreatDoor
