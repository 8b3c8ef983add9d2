/- Lemmas, as stated. -/
import Derived.Test.YtaboknhfiijipaaGreatQO14
set_option linter.unusedVariables false
set_option linter.unusedSimpArgs false
set_option maxRecDepth 100000
set_option maxHeartbeats 4000000
open Go.Proofs.Tryz
open Go.Proofs.Tryz renaming prog->zZZ
open Go.Value renaming slice->aA,int->aB,string->aD
open Go.IntKind renaming i64->aC
open Option renaming none->aF
namespace Go.Proofs.YtaboknhfiijipaaGreat
open Go.RowKit
theorem z0c (q:Nat) (k:Int) (h:k=0\/k=1\/k=2) (w:World):(Instr.index 271 (.agg #[aB aC 0,aB aC 0,aB aC 0,aB aC q]) (aB aC k)).run zZZ w= .ok (aB aC 0) w:=by
 rcases h with rfl | rfl | rfl<;>kernel_rfl
theorem z3n (q:Nat) (w:World):(Instr.index 271 (.agg #[aB aC 0,aB aC 0,aB aC 0,aB aC q]) (aB aC 3)).run zZZ w= .ok (aB aC q) w:=by kernel_rfl
theorem ZX (A:aj) (c:Nat) (B:aj) (d:Nat) (s:StoP) (key:ai) (ps:List PartP) (PA:aj) (pc q:Nat) (w:World) (hg:GoodS s) (hr:RdSt w A c B d s) (hk:hexC key=0) (hpz:chk ps=0) (hhv:qK s.aI ps=q) (hq:q≠0) (hP:Sl w 3 PA ps.length pc (pcs ps)) :
  Calls zZZ 169 #[.agg #[aA A s.aI.length c,aA B s.aJ.length d,aB aC s.aL,aB aC s.aK],aD ⟨key.toArray⟩,aA PA ps.length pc] w fun e w'=>e= .returned (.tuple #[.agg #[aA aF 0 0,aA aF 0 0,aB aC 0,aB aC 0],aB aC q])/\Below w.heap.size w w':=by
 have hlb:s.aI.length<=24:=hg.b.len;have hq0:((q:Int) != 0)=true:=by rw [bne_iff_ne];omega
 have HHX:=sqH hhv;clear hhv hq;obtain⟨w0,hw0,hS,hR,hb0⟩:=qG w 34 [aA A s.aI.length c,aA B s.aJ.length d,aB aC s.aL,aB aC s.aK] [aA aF 0 0,aA aF 0 0,aB aC 0,aB aC 0];have hr0:=hr.below hb0;have hP0:=hP.below hb0;obtain⟨H,hH⟩:=wY w.heap.size
 have HCK:=sqH (fun W (h:Below w0.heap.size w0 W)=>zF A c B d s W hg (hr0.below h));have hkl:=qN hk;have HKX:=sqH (show ∀W,Below w0.heap.size w0 W->Calls zZZ 89 #[aD ⟨key.toArray⟩] W fun e w'=>e= .returned (aB aC 0)/\Below W.heap.size W w' from fun W _=>by
  have:=kA ⟨key.toArray⟩ W (by show(key.toArray).size<=_;rw [List.size_toArray];omega);rw [show(⟨key.toArray⟩:ByteArray).data.toList=key from rfl,hk]at this;exact this)
 have HPC:=sqH (show ∀W,Below w0.heap.size w0 W->Calls zZZ 101 #[aA PA ps.length pc] W fun e w'=>e= .returned (aB aC 0)/\Below W.heap.size W w' from fun W h=>by
  have:=xf PA ps.length pc ps W rfl hP0.cap (by have:=(zk hpz).1;omega) (vE hpz) (hP0.below h).rd
  rwa [hpz]at this)
 have hpl8:=(zk hpz).1;obtain⟨HHV,HGX,HPL,HQL⟩:=sqJ4 (fun W (h:Below w0.heap.size w0 W)=>ZR A c s.aI PA pc ps W wu wu (hr0.b.below h) (hP0.below h).rd) hg (show ∀b∈s.aI,b.data.length<=1000000 from fun b hb=>by have:=(hg.b.one b hb).2.1;omega) (show ∀x∈s.aJ,x.aP.length<=1000000 from fun x hx=>by have:=(zk (hg.e.one x hx).2.1).1;omega);have HSB:=sqH (show ∀W,Below w0.heap.size w0 W->wI W H (aA A s.aI.length c) (aA B s.aJ.length d) (aB aC s.aL) (aB aC s.aK) from fun W h=>by
  rw [hH];exact sqC4 (hS.below h))
 have HKK:=sqH hk;have HPZ:=sqH hpz;rw [<-hH]at hS hR hb0 ⊢
 have hHl:H<w0.heap.size:=hS.lt;have hHr:H+1<w0.heap.size:=hR.lt;obtain⟨sk,hsk⟩:=wY (⟨key.toArray⟩:ByteArray)
 rw [<-hsk]at HKX ⊢
 have HSK:=sqH hsk;clear hg hr hk hP hpz hsk;go_enter func169,ntmps169;go_wp2_with fail;rw [<-hw0,<-hH];have HH:=sqH hH;clear hw0 hH;rw [HHX.o]at HHV;refine wp_region_held_drew (S:=(fun w'=>wI w' H (aA A s.aI.length c) (aA B s.aJ.length d) (aB aC s.aL) (aB aC s.aK))) ww ?_ (fun hHeld=> ?_)
 ·exact HSB.o _ (Below.refl _ w0).drew
 have hB:=(Below.refl w0.heap.size w0).drew;generalize w0.drew=wn0 at *
 refine wQ 0 ?_;refine wQ 2 ?_;refine wQ 4 ?_;refine wQ 6 ?_;refine wQ 7 ?_;refine wQ 8 ?_;refine wQ 11 ?_;refine wU 1 fun K hK=>?_;go_simp;refine(HCK.o wn0 hB).mono ?_;rintro e5 w5 ⟨rfl,hb5⟩;dsimp only;refine wF hK (HSB.o _ (wm hB hb5)) (Below wn0.heap.size wn0) hb5 fun wn1 hHeld hst=> ?_;have hB:=wm hB hst;clear hst;clear hK K
 try simp only [sqP]
 refine wU 3 fun K hK=>?_;go_simp;refine(HKX.o wn1 hB).mono ?_;rintro e5 w5 ⟨rfl,hb5⟩;dsimp only;refine wF hK (HSB.o _ (wm hB hb5)) (Below wn1.heap.size wn1) hb5 fun wn2 hHeld hst=> ?_;have hB:=wm hB hst;clear hst;clear hK K
 try simp only [sqP]
 refine wU 5 fun K hK=>?_;go_simp;refine(HPC.o wn2 hB).mono ?_;rintro e5 w5 ⟨rfl,hb5⟩;dsimp only;refine wF hK (HSB.o _ (wm hB hb5)) (Below wn2.heap.size wn2) hb5 fun wn3 hHeld hst=> ?_;have hB:=wm hB hst;clear hst;clear hK K
 try simp only [sqP]
 refine wU 9 fun K hK=>?_;go_simp;refine(HHV.o wn3 hB).mono ?_;rintro e5 w5 ⟨rfl,hb5⟩;dsimp only;refine wF hK (HSB.o _ (wm hB hb5)) (Below wn3.heap.size wn3) hb5 fun wn4 hHeld hst=> ?_;have hB:=wm hB hst;clear hst;clear hK K
 refine wQ 10 ?_;refine wpAnyH_done ww ?_ _;dsimp only [Exit.then];clear hHeld;generalize wn4=w1 at *
 go_wp2_with fail;go_loopg [25] 4 (fun gn i wr=>∃j:Int,i= aB aC j/\(j=0\/j=1\/j=2\/j=3)/\gn=(4 - j).toNat/\wr=w1)
 case atStart=>exact⟨0,rfl,wu,rfl,rfl⟩
 case round =>
  obtain⟨j,rfl,hj,hgn,hwr⟩:=hrel;subst hwr;have ix0:=z0c q 0 wu wr;have ix1:=z0c q 1 wu wr;have ix2:=z0c q 2 wu wr;have ix3:=z3n q wr;rcases hj with rfl | rfl | rfl | rfl
  ·go_wp2_with fail;go_roundg 3
   case measure=>omega
   case rel=>exact⟨1,rfl,wu,rfl,rfl⟩
  ·go_wp2_with fail;go_roundg 2
   case measure=>omega
   case rel=>exact⟨2,rfl,wu,rfl,rfl⟩
  ·go_wp2_with fail;go_roundg 1
   case measure=>omega
   case rel=>exact⟨3,rfl,wu,rfl,rfl⟩
  ·clear hgn;have hR1:=hR.below hB;have hb:=hb0.trans (hB.mono (Nat.le_of_lt hHl));clear hR;have hR:=hR1;clear hR1;obtain⟨f0,f1,f2,f3⟩:=sqF4 hR;obtain⟨y0,y1,y2,y3⟩:=sqC4 hR;have hfin:=hR.all4 (aA aF 0 0) (aA aF 0 0) (aB aC 0) (aB aC 0);have hbF:=(((hb.setCell (p:=⟨H+1,0,aF⟩) ae (aA aF 0 0)).setCell (p:=⟨H+1,1,aF⟩) ae (aA aF 0 0)).setCell (p:=⟨H+1,2,aF⟩) ae (aB aC 0)).setCell (p:=⟨H+1,3,aF⟩) ae (aB aC 0);clear hR hb;go_wp2_with fail;refine bodyPost_ret (zI rfl _ _ (H+1) _ _ _ _ ac hfin underlying34 rfl ww) rfl ?_;exact⟨rfl,hbF⟩
theorem Ki (A:aj) (c:Nat) (B:aj) (d:Nat) (s:StoP) (key:ai) (up:Bool) (w:World) (hg:GoodS s) (hr:RdSt w A c B d s) (hn:∀b∈s.aI,b.dig≠key) :
  Calls zZZ 148 #[.agg #[aA A s.aI.length c,aA B s.aJ.length d,aB aC s.aL,aB aC s.aK],aD ⟨key.toArray⟩,.bool up] w fun e w'=>e= .returned (.tuple #[.agg #[aA aF 0 0,aA aF 0 0,aB aC 0,aB aC 0],aB aC 5])/\Below w.heap.size w w':=by
 have hlb:s.aI.length<=24:=hg.b.len;have hle:s.aJ.length<=10:=hg.e.len;have HFX:=sqH (show s.aI.findIdx? (fun x=>x.dig==key)=aF by rw [List.findIdx?_eq_none_iff];intro x hx;simp [hn x hx]);obtain⟨sk,hsk⟩:=wY (⟨key.toArray⟩:ByteArray)
 rw [<-hsk];have HSK:=sqH hsk;clear hn hsk;obtain⟨w0,hw0,hS,hR,hb0⟩:=qG w 34 [aA A s.aI.length c,aA B s.aJ.length d,aB aC s.aL,aB aC s.aK] [aA aF 0 0,aA aF 0 0,aB aC 0,aB aC 0];have hr0:=hr.below hb0;obtain⟨H,hH⟩:=wY w.heap.size
 have HCK:=sqH (zF A c B d s w0 hg hr0);rw [<-hH]at hS hR hb0 ⊢
 have hHl:H<w0.heap.size:=hS.lt;have hHr:H+1<w0.heap.size:=hR.lt;obtain⟨x0,x1,x2,x3⟩:=sqC4 hS;rw [hw0,hH]at x0 x1 x2 x3;obtain⟨HPL,HQL,HG⟩:=sqJ3 (show ∀b∈s.aI,b.data.length<=1000000 from fun b hb=>by have:=(hg.b.one b hb).2.1;omega) (show ∀x∈s.aJ,x.aP.length<=1000000 from fun x hx=>by have:=(zk (hg.e.one x hx).2.1).1;omega) hg;clear hg hr;go_enter func148,ntmps148;go_wp2_with fail;rw [<-hw0,<-hH];have HH:=sqH hH;clear hw0 hH x0 x1 x2 x3;refine wZ HCK.o fun w1 hb1=>?_;dsimp only;have hr1:=hr0.below hb1;have hS1:=hS.below hb1;have y0:=hS1.c0;have HFN:=ko A c s.aI key w1 wu hr1.b;rw [HFX.o,xl,<-HSK.o]at HFN;have HFN:=sqH HFN;clear hr0 hS;go_wp2_with fail;clear y0;refine wZ HFN.o fun w2 hb2=>?_;dsimp only;have hc2:=wm hb1 hb2;have hb:=hb0.trans (hc2.mono (Nat.le_of_lt hHl));have hR2:=hR.below hc2;clear hR;have hR:=hR2;clear hR2 hr1 hS1 hb1 hb2 hc2;obtain⟨f0,f1,f2,f3⟩:=sqF4 hR;obtain⟨y0,y1,y2,y3⟩:=sqC4 hR;have hfin:=hR.all4 (aA aF 0 0) (aA aF 0 0) (aB aC 0) (aB aC 0);have hbF:=(((hb.setCell (p:=⟨H+1,0,aF⟩) ae (aA aF 0 0)).setCell (p:=⟨H+1,1,aF⟩) ae (aA aF 0 0)).setCell (p:=⟨H+1,2,aF⟩) ae (aB aC 0)).setCell (p:=⟨H+1,3,aF⟩) ae (aB aC 0);clear hR hb;go_wp2_with fail;refine bodyPost_ret (zI rfl _ _ (H+1) _ _ _ _ ac hfin underlying34 rfl ww) rfl ?_;exact⟨rfl,hbF⟩
theorem Kj (A:aj) (c:Nat) (B:aj) (d:Nat) (s:StoP) (key:ai) (up:Bool) (w:World) (hg:GoodS s) (hr:RdSt w A c B d s) (hn:∀b∈s.aJ,b.key≠key) :
  Calls zZZ 118 #[.agg #[aA A s.aI.length c,aA B s.aJ.length d,aB aC s.aL,aB aC s.aK],aD ⟨key.toArray⟩,.bool up] w fun e w'=>e= .returned (.tuple #[.agg #[aA aF 0 0,aA aF 0 0,aB aC 0,aB aC 0],aB aC 5])/\Below w.heap.size w w':=by
 have hlb:s.aI.length<=24:=hg.b.len;have hle:s.aJ.length<=10:=hg.e.len;have HFX:=sqH (show s.aJ.findIdx? (fun x=>x.key==key)=aF by rw [List.findIdx?_eq_none_iff];intro x hx;simp [hn x hx]);obtain⟨sk,hsk⟩:=wY (⟨key.toArray⟩:ByteArray)
 rw [<-hsk];have HSK:=sqH hsk;clear hn hsk;obtain⟨w0,hw0,hS,hR,hb0⟩:=qG w 34 [aA A s.aI.length c,aA B s.aJ.length d,aB aC s.aL,aB aC s.aK] [aA aF 0 0,aA aF 0 0,aB aC 0,aB aC 0];have hr0:=hr.below hb0;obtain⟨H,hH⟩:=wY w.heap.size
 have HCK:=sqH (zF A c B d s w0 hg hr0);rw [<-hH]at hS hR hb0 ⊢
 have hHl:H<w0.heap.size:=hS.lt;have hHr:H+1<w0.heap.size:=hR.lt;obtain⟨x0,x1,x2,x3⟩:=sqC4 hS;rw [hw0,hH]at x0 x1 x2 x3;obtain⟨HPL,HQL,HG⟩:=sqJ3 (show ∀b∈s.aI,b.data.length<=1000000 from fun b hb=>by have:=(hg.b.one b hb).2.1;omega) (show ∀x∈s.aJ,x.aP.length<=1000000 from fun x hx=>by have:=(zk (hg.e.one x hx).2.1).1;omega) hg;clear hg hr;go_enter func118,ntmps118;go_wp2_with fail;rw [<-hw0,<-hH];have HH:=sqH hH;clear hw0 hH x0 x1 x2 x3;refine wZ HCK.o fun w1 hb1=>?_;dsimp only;have hr1:=hr0.below hb1;have hS1:=hS.below hb1;have y0:=hS1.c1;have HFN:=kE B d s.aJ key w1 wu hr1.e;rw [HFX.o,xl,<-HSK.o]at HFN;have HFN:=sqH HFN;clear hr0 hS;go_wp2_with fail;clear y0;refine wZ HFN.o fun w2 hb2=>?_;dsimp only;have hc2:=wm hb1 hb2;have hb:=hb0.trans (hc2.mono (Nat.le_of_lt hHl));have hR2:=hR.below hc2;clear hR;have hR:=hR2;clear hR2 hr1 hS1 hb1 hb2 hc2;obtain⟨f0,f1,f2,f3⟩:=sqF4 hR;obtain⟨y0,y1,y2,y3⟩:=sqC4 hR;have hfin:=hR.all4 (aA aF 0 0) (aA aF 0 0) (aB aC 0) (aB aC 0);have hbF:=(((hb.setCell (p:=⟨H+1,0,aF⟩) ae (aA aF 0 0)).setCell (p:=⟨H+1,1,aF⟩) ae (aA aF 0 0)).setCell (p:=⟨H+1,2,aF⟩) ae (aB aC 0)).setCell (p:=⟨H+1,3,aF⟩) ae (aB aC 0);clear hR hb;go_wp2_with fail;refine bodyPost_ret (zI rfl _ _ (H+1) _ _ _ _ ac hfin underlying34 rfl ww) rfl ?_;exact⟨rfl,hbF⟩
theorem jK {P:Program} {fn:Func} {p u z:Tmp} {ty:TypeId} (h:fn.results=#[.cell p ty,.tmp u,.tmp z]) (tmps:Array Value) (w:World) (g:Nat) (t:TypeId) (cs:Array Value) (fr:Nat×Nat) (d:TypeDesc)
  (hp:tmps.getD p undef= .pointer (some ⟨g,0,aF⟩)) (hg:w.heap[g]?=some (.cells cs t fr))
  (hu:P.underlying ty=some d) (hd:(match d with | .struct _ | .array _ _=>true | _=>false)=true) (hi:(P.info? ty).map (·.size)=some cs.size) :
  (results fn tmps).run P w= .ok (.tuple #[.agg cs,tmps.getD u undef,tmps.getD z undef]) w:=zz h tmps w g t cs fr d hp hg hu hd hi
theorem Ye (A:aj) (c:Nat) (B:aj) (d:Nat) (s:StoP) (key:ai) (w:World) (hg:GoodS s) (hr:RdSt w A c B d s) (hn:∀b∈s.aJ,b.key≠key) :
  Calls zZZ 117 #[.agg #[aA A s.aI.length c,aA B s.aJ.length d,aB aC s.aL,aB aC s.aK],aD ⟨key.toArray⟩] w fun e w'=>e= .returned (.tuple #[.agg #[aA aF 0 0,aA aF 0 0,aB aC 0,aB aC 0],aA aF 0 0,aB aC 5])/\Below w.heap.size w w':=by
 have hlb:s.aI.length<=24:=hg.b.len;have hle:s.aJ.length<=10:=hg.e.len;have HFX:=sqH (show s.aJ.findIdx? (fun x=>x.key==key)=aF by rw [List.findIdx?_eq_none_iff];intro x hx;simp [hn x hx]);obtain⟨sk,hsk⟩:=wY (⟨key.toArray⟩:ByteArray)
 rw [<-hsk];have HSK:=sqH hsk;clear hn hsk;obtain⟨w0,hw0,hS,hR,hb0⟩:=qG w 34 [aA A s.aI.length c,aA B s.aJ.length d,aB aC s.aL,aB aC s.aK] [aA aF 0 0,aA aF 0 0,aB aC 0,aB aC 0];have hr0:=hr.below hb0;obtain⟨H,hH⟩:=wY w.heap.size
 have HCK:=sqH (zF A c B d s w0 hg hr0);rw [<-hH]at hS hR hb0 ⊢
 have hHl:H<w0.heap.size:=hS.lt;have hHr:H+1<w0.heap.size:=hR.lt;obtain⟨x0,x1,x2,x3⟩:=sqC4 hS;rw [hw0,hH]at x0 x1 x2 x3;obtain⟨HPL,HQL,HG⟩:=sqJ3 (show ∀b∈s.aI,b.data.length<=1000000 from fun b hb=>by have:=(hg.b.one b hb).2.1;omega) (show ∀x∈s.aJ,x.aP.length<=1000000 from fun x hx=>by have:=(zk (hg.e.one x hx).2.1).1;omega) hg;clear hg hr;go_enter func117,ntmps117;go_wp2_with fail;rw [<-hw0,<-hH];have HH:=sqH hH;clear hw0 hH x0 x1 x2 x3;refine wZ HCK.o fun w1 hb1=>?_;dsimp only;have hr1:=hr0.below hb1;have hS1:=hS.below hb1;have y0:=hS1.c1;have HFN:=kE B d s.aJ key w1 wu hr1.e;rw [HFX.o,xl,<-HSK.o]at HFN;have HFN:=sqH HFN;clear hr0 hS;go_wp2_with fail;clear y0;refine wZ HFN.o fun w2 hb2=>?_;dsimp only;have hc2:=wm hb1 hb2;have hb:=hb0.trans (hc2.mono (Nat.le_of_lt hHl));have hR2:=hR.below hc2;clear hR;have hR:=hR2;clear hR2 hr1 hS1 hb1 hb2 hc2;obtain⟨f0,f1,f2,f3⟩:=sqF4 hR;obtain⟨y0,y1,y2,y3⟩:=sqC4 hR;have hfin:=hR.all4 (aA aF 0 0) (aA aF 0 0) (aB aC 0) (aB aC 0);have hbF:=(((hb.setCell (p:=⟨H+1,0,aF⟩) ae (aA aF 0 0)).setCell (p:=⟨H+1,1,aF⟩) ae (aA aF 0 0)).setCell (p:=⟨H+1,2,aF⟩) ae (aB aC 0)).setCell (p:=⟨H+1,3,aF⟩) ae (aB aC 0);clear hR hb;go_wp2_with fail;refine bodyPost_ret (jK rfl _ _ (H+1) _ _ _ _ ac hfin underlying34 rfl ww) rfl ?_;exact⟨rfl,hbF⟩
theorem JA (n:Nat) (up:Bool) (w:World) (h:if up then n=5 else n=0):Calls zZZ 152 #[aB aC n,.bool up] w fun e w'=>e= .returned (.tuple #[aB aC 0,aB aC (if up then 7 else 11)])/\w'=w:=by
 cases up with
 | true =>
  have h':n=5:=h;subst h';have HC2:=sqH (xg 5 wu wu w);rw [show((5:Nat):Int)=5 from rfl];clear h;go_enter func152,ntmps152;go_wp2_with fail;refine HC2.o.mono ?_;rintro e_ _ ⟨rfl,rfl⟩;dsimp only;go_wp2_with fail;go_ret2;exact⟨rfl,rfl⟩
 | false =>
  have h':n=0:=h;subst h';have HC2:=sqH (xg 0 wu wu w);rw [show((0:Nat):Int)=0 from rfl];clear h;go_enter func152,ntmps152;go_wp2_with fail;refine HC2.o.mono ?_;rintro e_ _ ⟨rfl,rfl⟩;dsimp only;go_wp2_with fail;go_ret2;exact⟨rfl,rfl⟩
def noE (up:Bool):Nat:=if up then 7 else 11
theorem Xw (up:Bool):((noE up:Int) != 0)=true:=by cases up<;>rfl
theorem Qr (n:Nat) (up:Bool) (w:World) (h:if up then n=5 else n=0):Calls zZZ 152 #[aB aC n,.bool up] w fun e w'=>e= .returned (.tuple #[aB aC 0,aB aC (noE up:Int)])/\w'=w :=
 (JA n up w h).mono fun e w' ⟨h1,h2⟩=>⟨by rw [h1];cases up<;>rfl,h2⟩
theorem Vv (A:aj) (c:Nat) (B:aj) (d:Nat) (s:StoP) (key:ai) (up:Bool) (i:Nat) (w:World) (hg:GoodS s) (hr:RdSt w A c B d s) (hi:i<s.aI.length) (hk:s.aI[i].dig=key) (hmv:if up then s.aI[i].aQ=5 else s.aI[i].aQ=0) :
  Calls zZZ 148 #[.agg #[aA A s.aI.length c,aA B s.aJ.length d,aB aC s.aL,aB aC s.aK],aD ⟨key.toArray⟩,.bool up] w fun e w'=>e= .returned (.tuple #[.agg #[aA aF 0 0,aA aF 0 0,aB aC 0,aB aC 0],aB aC (noE up:Int)])/\Below w.heap.size w w':=by
 have hlb:s.aI.length<=24:=hg.b.len;have hle:s.aJ.length<=10:=hg.e.len;have HFX:=sqH (z21 hg.b.ris hi hk);obtain⟨p,hp⟩:=wY (s.aI[i].aQ)
 rw [<-hp]at hmv;have HPI:=sqH hp.symm;have HMV:=sqH (fun W=>Qr p up W hmv);have hne:=Xw up;generalize noE up=q at *
 obtain⟨sk,hsk⟩:=wY (⟨key.toArray⟩:ByteArray)
 rw [<-hsk];have HSK:=sqH hsk;clear hk hsk hp hmv;obtain⟨w0,hw0,hS,hR,hb0⟩:=qG w 34 [aA A s.aI.length c,aA B s.aJ.length d,aB aC s.aL,aB aC s.aK] [aA aF 0 0,aA aF 0 0,aB aC 0,aB aC 0];have hr0:=hr.below hb0;obtain⟨H,hH⟩:=wY w.heap.size
 have HCK:=sqH (zF A c B d s w0 hg hr0);rw [<-hH]at hS hR hb0 ⊢
 have hHl:H<w0.heap.size:=hS.lt;have hHr:H+1<w0.heap.size:=hR.lt;obtain⟨x0,x1,x2,x3⟩:=sqC4 hS;rw [hw0,hH]at x0 x1 x2 x3;obtain⟨HPL,HQL,HG⟩:=sqJ3 (show ∀b∈s.aI,b.data.length<=1000000 from fun b hb=>by have:=(hg.b.one b hb).2.1;omega) (show ∀x∈s.aJ,x.aP.length<=1000000 from fun x hx=>by have:=(zk (hg.e.one x hx).2.1).1;omega) hg;clear hg hr;go_enter func148,ntmps148;go_wp2_with fail;rw [<-hw0,<-hH];have HH:=sqH hH;clear hw0 hH x0 x1 x2 x3;refine wZ HCK.o fun w1 hb1=>?_;dsimp only;have hr1:=hr0.below hb1;have hS1:=hS.below hb1;have y0:=hS1.c0;have HFN:=ko A c s.aI key w1 wu hr1.b;rw [HFX.o,xl,<-HSK.o]at HFN;have HFN:=sqH HFN;clear hr0 hS;go_wp2_with fail;clear y0;refine wZ HFN.o fun w2 hb2=>?_;dsimp only;have hc2:=wm hb1 hb2;have hr2:=hr1.below hb2;have hS2:=hS1.below hb2;obtain⟨b,off,XB,xc,e1,hbb,d0,d1,d2,d3,_⟩:=hr2.b.blob_at i hi;have hi0:=we i
 have hi1:(i:Int)<(s.aI.length:Int):=wu;have y0:=hS2.c0;rw [HPI.o]at d2;rw [e1]at y0;clear hr1 hS1 hb1 hb2 d0 d1 d3;go_wp2_with fail;clear y0 d2;refine wZ (HMV.o w2) fun wq hwq=>?_;dsimp only;replace hwq:=hwq.symm;subst hwq;have hb:=hb0.trans (hc2.mono (Nat.le_of_lt hHl));have hR2:=hR.below hc2;clear hR;have hR:=hR2;clear hR2 hr2 hS2 hc2 e1;obtain⟨f0,f1,f2,f3⟩:=sqF4 hR;obtain⟨y0,y1,y2,y3⟩:=sqC4 hR;have hfin:=hR.all4 (aA aF 0 0) (aA aF 0 0) (aB aC 0) (aB aC 0);have hbF:=(((hb.setCell (p:=⟨H+1,0,aF⟩) ae (aA aF 0 0)).setCell (p:=⟨H+1,1,aF⟩) ae (aA aF 0 0)).setCell (p:=⟨H+1,2,aF⟩) ae (aB aC 0)).setCell (p:=⟨H+1,3,aF⟩) ae (aB aC 0);clear hR hb;go_wp2_with fail;refine bodyPost_ret (zI rfl _ _ (H+1) _ _ _ _ ac hfin underlying34 rfl ww) rfl ?_;exact⟨rfl,hbF⟩
theorem Vx (A:aj) (c:Nat) (B:aj) (d:Nat) (s:StoP) (key:ai) (up:Bool) (i:Nat) (w:World) (hg:GoodS s) (hr:RdSt w A c B d s) (hi:i<s.aJ.length) (hk:s.aJ[i].key=key) (hmv:if up then s.aJ[i].aQ=5 else s.aJ[i].aQ=0) :
  Calls zZZ 118 #[.agg #[aA A s.aI.length c,aA B s.aJ.length d,aB aC s.aL,aB aC s.aK],aD ⟨key.toArray⟩,.bool up] w fun e w'=>e= .returned (.tuple #[.agg #[aA aF 0 0,aA aF 0 0,aB aC 0,aB aC 0],aB aC (noE up:Int)])/\Below w.heap.size w w':=by
 have hlb:s.aI.length<=24:=hg.b.len;have hle:s.aJ.length<=10:=hg.e.len;have HFX:=sqH (z04 hg.e.ris hi hk);obtain⟨p,hp⟩:=wY (s.aJ[i].aQ)
 rw [<-hp]at hmv;have HPI:=sqH hp.symm;have HMV:=sqH (fun W=>Qr p up W hmv);have hne:=Xw up;generalize noE up=q at *
 obtain⟨sk,hsk⟩:=wY (⟨key.toArray⟩:ByteArray)
 rw [<-hsk];have HSK:=sqH hsk;clear hk hsk hp hmv;obtain⟨w0,hw0,hS,hR,hb0⟩:=qG w 34 [aA A s.aI.length c,aA B s.aJ.length d,aB aC s.aL,aB aC s.aK] [aA aF 0 0,aA aF 0 0,aB aC 0,aB aC 0];have hr0:=hr.below hb0;obtain⟨H,hH⟩:=wY w.heap.size
 have HCK:=sqH (zF A c B d s w0 hg hr0);rw [<-hH]at hS hR hb0 ⊢
 have hHl:H<w0.heap.size:=hS.lt;have hHr:H+1<w0.heap.size:=hR.lt;obtain⟨x0,x1,x2,x3⟩:=sqC4 hS;rw [hw0,hH]at x0 x1 x2 x3;obtain⟨HPL,HQL,HG⟩:=sqJ3 (show ∀b∈s.aI,b.data.length<=1000000 from fun b hb=>by have:=(hg.b.one b hb).2.1;omega) (show ∀x∈s.aJ,x.aP.length<=1000000 from fun x hx=>by have:=(zk (hg.e.one x hx).2.1).1;omega) hg;clear hg hr;go_enter func118,ntmps118;go_wp2_with fail;rw [<-hw0,<-hH];have HH:=sqH hH;clear hw0 hH x0 x1 x2 x3;refine wZ HCK.o fun w1 hb1=>?_;dsimp only;have hr1:=hr0.below hb1;have hS1:=hS.below hb1;have y0:=hS1.c1;have HFN:=kE B d s.aJ key w1 wu hr1.e;rw [HFX.o,xl,<-HSK.o]at HFN;have HFN:=sqH HFN;clear hr0 hS;go_wp2_with fail;clear y0;refine wZ HFN.o fun w2 hb2=>?_;dsimp only;have hc2:=wm hb1 hb2;have hr2:=hr1.below hb2;have hS2:=hS1.below hb2;obtain⟨b,off,XB,xc,e1,hbb,d0,d1,d2,d3,_⟩:=hr2.e.ent_at i hi;have hi0:=we i
 have hi1:(i:Int)<(s.aJ.length:Int):=wu;have y0:=hS2.c1;rw [HPI.o]at d2;rw [e1]at y0;clear hr1 hS1 hb1 hb2 d0 d1 d3;go_wp2_with fail;clear y0 d2;refine wZ (HMV.o w2) fun wq hwq=>?_;dsimp only;replace hwq:=hwq.symm;subst hwq;have hb:=hb0.trans (hc2.mono (Nat.le_of_lt hHl));have hR2:=hR.below hc2;clear hR;have hR:=hR2;clear hR2 hr2 hS2 hc2 e1;obtain⟨f0,f1,f2,f3⟩:=sqF4 hR;obtain⟨y0,y1,y2,y3⟩:=sqC4 hR;have hfin:=hR.all4 (aA aF 0 0) (aA aF 0 0) (aB aC 0) (aB aC 0);have hbF:=(((hb.setCell (p:=⟨H+1,0,aF⟩) ae (aA aF 0 0)).setCell (p:=⟨H+1,1,aF⟩) ae (aA aF 0 0)).setCell (p:=⟨H+1,2,aF⟩) ae (aB aC 0)).setCell (p:=⟨H+1,3,aF⟩) ae (aB aC 0);clear hR hb;go_wp2_with fail;refine bodyPost_ret (zI rfl _ _ (H+1) _ _ _ _ ac hfin underlying34 rfl ww) rfl ?_;exact⟨rfl,hbF⟩
structure Fits (s:StoP) (D:ai):Prop where
 g:GoodS s
 d:D.length<=300
 l:s.aI.length<24\/(s.aI.findIdx? (fun b=>b.dig==shaS D)).isSome=true
 u:usd (putB s.aI D)<=s.aL
theorem Fits.good {s:StoP} {D:ai} (h:Fits s D):GoodS (zH s D):=by
 rcases h.l with h1 | h1
 ·exact KK h.g h.d h1 h.u
 ·obtain⟨i,hi⟩:=Option.isSome_iff_exists.1 h1;have:zH s D=s:=by unfold zH putB;rw [hi]
  rw [this];exact h.g
theorem ZW (A:aj) (c:Nat) (B:aj) (d:Nat) (s:StoP) (D:ai) (DA:aj) (dc:Nat) (w:World) (hf:Fits s D) (hr:RdSt w A c B d s) (hD:Sl w 1 DA D.length dc (bys D)) :
  Calls zZZ 146 #[.agg #[aA A s.aI.length c,aA B s.aJ.length d,aB aC s.aL,aB aC s.aK],aA DA D.length dc] w fun e w' =>
   ∃A' c' B' d',e= .returned (.tuple #[.agg #[aA A' (zH s D).aI.length c',aA B' (zH s D).aJ.length d',aB aC s.aL,aB aC s.aK],aD ⟨(shaS D).toArray⟩,aB aC 0])/\OwSt w' w.heap.size (aA A' (zH s D).aI.length c') (aA B' (zH s D).aJ.length d') (zH s D) (fun b=>b<w.heap.size)/\Below w.heap.size w w' :=
 (Kp A c B d s D DA dc w hf.g hr hf.d hf.l hf.u hD).mono fun e w' ⟨v1,v2,h1,h2,h3⟩=>by
  obtain⟨A',c',B',d',e1,e2,_⟩:=h2.rows
  subst e1 e2
  exact⟨A',c',B',d',h1,h2,h3⟩
theorem VF (A:aj) (c:Nat) (B:aj) (d:Nat) (s x:StoP) (key:ai) (ps:List PartP) (PA:aj) (pc:Nat) (w:World) (hg:GoodS s) (hr:RdSt w A c B d s) (hk:hexC key=0) (hpz:chk ps=0) (hhv:qK s.aI ps=0) (hclk:s.aK<1099511627776) (hlen:s.aJ.length<10) (hP:Sl w 3 PA ps.length pc (pcs ps)) (hx:x=xy s key ps) :
  Calls zZZ 169 #[.agg #[aA A s.aI.length c,aA B s.aJ.length d,aB aC s.aL,aB aC s.aK],aD ⟨key.toArray⟩,aA PA ps.length pc] w fun e w' =>
   ∃A' c' B' d',e= .returned (.tuple #[.agg #[aA A' x.aI.length c',aA B' x.aJ.length d',aB aC x.aL,aB aC x.aK],aB aC 0])/\OwSt w' w.heap.size (aA A' x.aI.length c') (aA B' x.aJ.length d') x (fun b=>b<w.heap.size)/\Below w.heap.size w w':=by
 subst hx;refine(JE A c B d s key ps PA pc w hg hr hk hpz hhv hclk hlen hP).mono fun e w' ⟨v1,v2,h1,h2,h3⟩=> ?_;obtain⟨A',c',B',d',e1,e2,_⟩:=h2.rows;subst e1 e2;exact⟨A',c',B',d',h1,h2,h3⟩
theorem Vt (A:aj) (c:Nat) (B:aj) (d:Nat) (s y:StoP) (key:ai) (ps:List PartP) (i:Nat) (w:World) (hg:GoodS s) (hr:RdSt w A c B d s) (hi:i<s.aJ.length) (hk:s.aJ[i].key=key) (hps:s.aJ[i].aP=ps) (hclk:s.aK<1099511627776) (hy:y=kv s i s.aJ[i]) :
  Calls zZZ 117 #[.agg #[aA A s.aI.length c,aA B s.aJ.length d,aB aC s.aL,aB aC s.aK],aD ⟨key.toArray⟩] w fun e w' =>
   ∃A' c' B' d' A5 c5,e= .returned (.tuple #[.agg #[aA A' y.aI.length c',aA B' y.aJ.length d',aB aC y.aL,aB aC y.aK],aA A5 ps.length c5,aB aC 0])/\OwSt w' w.heap.size (aA A' y.aI.length c') (aA B' y.aJ.length d') y (fun b=>b<w.heap.size)/\w'.ownsRow w.heap.size 85 3 (aA A5 ps.length c5) ps.length (pcs ps)/\Below w.heap.size w w':=by
 subst hy;subst hps;refine(Yf A c B d s key i w hg hr hi hk hclk).mono fun e w' ⟨v1,v2,v3,h1,h2,h4,h3⟩=> ?_;obtain⟨A',c',B',d',e1,e2,_⟩:=h2.rows;obtain⟨A5,c5,e5,_,_⟩:=vN h4;subst e1 e2 e5;exact⟨A',c',B',d',A5,c5,h1,h2,h4,h3⟩
end Go.Proofs.YtaboknhfiijipaaGreat
