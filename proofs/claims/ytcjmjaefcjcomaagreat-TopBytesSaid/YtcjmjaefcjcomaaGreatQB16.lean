/- Lemmas, as stated. -/
import Derived.Test.YtcjmjaefcjcomaaGreatQB15
set_option linter.unusedVariables false
set_option linter.unusedSimpArgs false
set_option maxRecDepth 100000
set_option maxHeartbeats 16000000
open Go.Proofs.Tryz
open Go.Proofs.Tryz renaming prog->zZZ
open Go.Value renaming slice->aA,int->aB,string->aD
open Go.IntKind renaming i64->aC
open Option renaming none->aF,some->aG
open And renaming intro->aH
namespace Go.Proofs.YtcjmjaefcjcomaaGreat
open Go.RowKit
variable {c:ColP} {l:List BlobP} {m n:Nat} {s:StoP} {D:ai}
theorem z1k (q:Nat) (k:Int) (h:k=0\/k=1\/k=2) (w:World):(Instr.index 243 (.agg #[aB aC 0,aB aC 0,aB aC 0,aB aC q]) (aB aC k)).run zZZ w= .ok (aB aC 0) w:=by
 rcases h with rfl | rfl | rfl<;>kernel_rfl
theorem z54 (q:Nat) (w:World):(Instr.index 243 (.agg #[aB aC 0,aB aC 0,aB aC 0,aB aC q]) (aB aC 3)).run zZZ w= .ok (aB aC q) w:=by kernel_rfl
theorem Qm (A:aj) (c:Nat) (B:aj) (d:Nat) (s:StoP) (key:ai) (ps:List PartP) (PA:aj) (pc q:Nat) (w:World) (hg:GoodS s) (hr:RdSt w A c B d s) (hk:hexC key=0) (hpz:chk ps=0) (hhv:qK s.aI ps=q) (hq:q≠0) (hP:Sl w 3 PA ps.length pc (pcs ps)) :
  Calls zZZ 126 #[.agg #[aA A s.aI.length c,aA B s.aJ.length d,aB aC s.aL,aB aC s.aK],aD ⟨key.toArray⟩,aA PA ps.length pc] w fun e w'=>e= .returned (.tuple #[.agg #[aA aF 0 0,aA aF 0 0,aB aC 0,aB aC 0],aB aC q])/\Below w.heap.size w w':=by
 have hlb:s.aI.length<=24:=hg.b.len;have hq0:((q:Int) != 0)=true:=by rw [bne_iff_ne];omega
 have HHX:=sqH hhv;clear hhv hq;obtain⟨w0,hw0,hS,hR,hb0⟩:=zW w 38 [aA A s.aI.length c,aA B s.aJ.length d,aB aC s.aL,aB aC s.aK] [aA aF 0 0,aA aF 0 0,aB aC 0,aB aC 0];have hr0:=hr.below hb0;have hP0:=hP.below hb0;obtain⟨H,hH⟩:=wY w.heap.size
 have HCK:=sqH (fun W (h:Below w0.heap.size w0 W)=>zD A c B d s W hg (hr0.below h));have hkl:=qQ hk;have HKX:=sqH (show ∀W,Below w0.heap.size w0 W->Calls zZZ 39 #[aD ⟨key.toArray⟩] W fun e w'=>e= .returned (aB aC 0)/\Below W.heap.size W w' from fun W _=>by
  have:=kG ⟨key.toArray⟩ W (by show(key.toArray).size<=_;rw [List.size_toArray];omega);rw [show(⟨key.toArray⟩:ByteArray).data.toList=key from rfl,hk]at this;exact this)
 have HPC:=sqH (show ∀W,Below w0.heap.size w0 W->Calls zZZ 40 #[aA PA ps.length pc] W fun e w'=>e= .returned (aB aC 0)/\Below W.heap.size W w' from fun W h=>by
  have:=yK PA ps.length pc ps W rfl hP0.cap (by have:=(zi hpz).1;omega) (vL hpz) (hP0.below h).rd
  rwa [hpz]at this)
 have hpl8:=(zi hpz).1;obtain⟨HHV,HGX,HPL,HQL⟩:=sqJ4 (fun W (h:Below w0.heap.size w0 W)=>Qf A c s.aI PA pc ps W wu wu (hr0.b.below h) (hP0.below h).rd) hg (show ∀b∈s.aI,b.data.length<=1000000 from fun b hb=>by have:=(hg.b.one b hb).2.1;omega) (show ∀x∈s.aJ,x.aP.length<=1000000 from fun x hx=>by have:=(zi (hg.e.one x hx).2.1).1;omega);have HSB:=sqH (show ∀W,Below w0.heap.size w0 W->wI W H (aA A s.aI.length c) (aA B s.aJ.length d) (aB aC s.aL) (aB aC s.aK) from fun W h=>by
  rw [hH];exact sqC4 (hS.below h))
 have HKK:=sqH hk;have HPZ:=sqH hpz;rw [<-hH]at hS hR hb0 ⊢
 have hHl:H<w0.heap.size:=hS.lt;have hHr:H+1<w0.heap.size:=hR.lt;obtain⟨sk,hsk⟩:=wY (⟨key.toArray⟩:ByteArray)
 rw [<-hsk]at HKX ⊢
 have HSK:=sqH hsk;clear hg hr hk hP hpz hsk;go_enter func126,ntmps126;go_wp2_with fail;rw [<-hw0,<-hH];have HH:=sqH hH;clear hw0 hH;rw [HHX.o]at HHV;refine wp_region_held_drew (S:=(fun w'=>wI w' H (aA A s.aI.length c) (aA B s.aJ.length d) (aB aC s.aL) (aB aC s.aK))) ww ?_ (fun hHeld=> ?_)
 ·exact HSB.o _ (Below.refl _ w0).drew
 have hB:=(Below.refl w0.heap.size w0).drew;generalize w0.drew=wn0 at *
 refine wQ 0 ?_;refine wQ 2 ?_;refine wQ 4 ?_;refine wQ 6 ?_;refine wQ 7 ?_;refine wQ 8 ?_;refine wQ 11 ?_;refine wU 1 fun K hK=>?_;go_simp;refine(HCK.o wn0 hB).mono ?_;rintro e5 w5 ⟨rfl,hb5⟩;dsimp only;refine wF hK (HSB.o _ (wm hB hb5)) (Below wn0.heap.size wn0) hb5 fun wn1 hHeld hst=> ?_;have hB:=wm hB hst;clear hst;clear hK K
 try simp only [sqP]
 refine wU 3 fun K hK=>?_;go_simp;refine(HKX.o wn1 hB).mono ?_;rintro e5 w5 ⟨rfl,hb5⟩;dsimp only;refine wF hK (HSB.o _ (wm hB hb5)) (Below wn1.heap.size wn1) hb5 fun wn2 hHeld hst=> ?_;have hB:=wm hB hst;clear hst;clear hK K
 try simp only [sqP]
 refine wU 5 fun K hK=>?_;go_simp;refine(HPC.o wn2 hB).mono ?_;rintro e5 w5 ⟨rfl,hb5⟩;dsimp only;refine wF hK (HSB.o _ (wm hB hb5)) (Below wn2.heap.size wn2) hb5 fun wn3 hHeld hst=> ?_;have hB:=wm hB hst;clear hst;clear hK K
 try simp only [sqP]
 refine wU 9 fun K hK=>?_;go_simp;refine(HHV.o wn3 hB).mono ?_;rintro e5 w5 ⟨rfl,hb5⟩;dsimp only;refine wF hK (HSB.o _ (wm hB hb5)) (Below wn3.heap.size wn3) hb5 fun wn4 hHeld hst=> ?_;have hB:=wm hB hst;clear hst;clear hK K
 refine wQ 10 ?_;refine wpAnyH_done ww ?_ _;dsimp only [Exit.then];clear hHeld;generalize wn4=w1 at *
 go_wp2_with fail;go_loopg [25] 4 (fun gn i wr=>∃j:Int,i= aB aC j/\(j=0\/j=1\/j=2\/j=3)/\gn=(4 - j).toNat/\wr=w1)
 case atStart=>exact⟨0,rfl,wu,rfl,rfl⟩
 case round =>
  obtain⟨j,rfl,hj,hgn,hwr⟩:=hrel;subst hwr;have ix0:=z1k q 0 wu wr;have ix1:=z1k q 1 wu wr;have ix2:=z1k q 2 wu wr;have ix3:=z54 q wr;rcases hj with rfl | rfl | rfl | rfl
  ·go_wp2_with fail;go_roundg 3
   case measure=>omega
   case rel=>exact⟨1,rfl,wu,rfl,rfl⟩
  ·go_wp2_with fail;go_roundg 2
   case measure=>omega
   case rel=>exact⟨2,rfl,wu,rfl,rfl⟩
  ·go_wp2_with fail;go_roundg 1
   case measure=>omega
   case rel=>exact⟨3,rfl,wu,rfl,rfl⟩
  ·clear hgn;have hR1:=hR.below hB;have hb:=hb0.trans (hB.mono (Nat.le_of_lt hHl));clear hR;have hR:=hR1;clear hR1;obtain⟨f0,f1,f2,f3⟩:=sqF4 hR;obtain⟨y0,y1,y2,y3⟩:=sqC4 hR;have hfin:=hR.all4 (aA aF 0 0) (aA aF 0 0) (aB aC 0) (aB aC 0);have hbF:=(((hb.setCell (p:=⟨H+1,0,aF⟩) ae (aA aF 0 0)).setCell (p:=⟨H+1,1,aF⟩) ae (aA aF 0 0)).setCell (p:=⟨H+1,2,aF⟩) ae (aB aC 0)).setCell (p:=⟨H+1,3,aF⟩) ae (aB aC 0);clear hR hb;go_wp2_with fail;refine bodyPost_ret (zK rfl _ _ (H+1) _ _ _ _ ac hfin underlying38 rfl ww) rfl ?_;exact⟨rfl,hbF⟩
theorem KU (A:aj) (c:Nat) (B:aj) (d:Nat) (s:StoP) (key:ai) (up:Bool) (w:World) (hg:GoodS s) (hr:RdSt w A c B d s) (hn:∀b∈s.aI,b.dig≠key) :
  Calls zZZ 87 #[.agg #[aA A s.aI.length c,aA B s.aJ.length d,aB aC s.aL,aB aC s.aK],aD ⟨key.toArray⟩,.bool up] w fun e w'=>e= .returned (.tuple #[.agg #[aA aF 0 0,aA aF 0 0,aB aC 0,aB aC 0],aB aC 5])/\Below w.heap.size w w':=by
 have hlb:s.aI.length<=24:=hg.b.len;have hle:s.aJ.length<=10:=hg.e.len;have HFX:=sqH (show s.aI.findIdx? (fun x=>x.dig==key)=aF by rw [List.findIdx?_eq_none_iff];intro x hx;simp [hn x hx]);obtain⟨sk,hsk⟩:=wY (⟨key.toArray⟩:ByteArray)
 rw [<-hsk];have HSK:=sqH hsk;clear hn hsk;obtain⟨w0,hw0,hS,hR,hb0⟩:=zW w 38 [aA A s.aI.length c,aA B s.aJ.length d,aB aC s.aL,aB aC s.aK] [aA aF 0 0,aA aF 0 0,aB aC 0,aB aC 0];have hr0:=hr.below hb0;obtain⟨H,hH⟩:=wY w.heap.size
 have HCK:=sqH (zD A c B d s w0 hg hr0);rw [<-hH]at hS hR hb0 ⊢
 have hHl:H<w0.heap.size:=hS.lt;have hHr:H+1<w0.heap.size:=hR.lt;obtain⟨x0,x1,x2,x3⟩:=sqC4 hS;rw [hw0,hH]at x0 x1 x2 x3;obtain⟨HPL,HQL,HG⟩:=sqJ3 (show ∀b∈s.aI,b.data.length<=1000000 from fun b hb=>by have:=(hg.b.one b hb).2.1;omega) (show ∀x∈s.aJ,x.aP.length<=1000000 from fun x hx=>by have:=(zi (hg.e.one x hx).2.1).1;omega) hg;clear hg hr;go_enter func87,ntmps87;go_wp2_with fail;rw [<-hw0,<-hH];have HH:=sqH hH;clear hw0 hH x0 x1 x2 x3;refine wZ HCK.o fun w1 hb1=>?_;dsimp only;have hr1:=hr0.below hb1;have hS1:=hS.below hb1;have y0:=hS1.c0;have HFN:=ky A c s.aI key w1 wu hr1.b;rw [HFX.o,xx,<-HSK.o]at HFN;have HFN:=sqH HFN;clear hr0 hS;go_wp2_with fail;clear y0;refine wZ HFN.o fun w2 hb2=>?_;dsimp only;have hc2:=wm hb1 hb2;have hb:=hb0.trans (hc2.mono (Nat.le_of_lt hHl));have hR2:=hR.below hc2;clear hR;have hR:=hR2;clear hR2 hr1 hS1 hb1 hb2 hc2;obtain⟨f0,f1,f2,f3⟩:=sqF4 hR;obtain⟨y0,y1,y2,y3⟩:=sqC4 hR;have hfin:=hR.all4 (aA aF 0 0) (aA aF 0 0) (aB aC 0) (aB aC 0);have hbF:=(((hb.setCell (p:=⟨H+1,0,aF⟩) ae (aA aF 0 0)).setCell (p:=⟨H+1,1,aF⟩) ae (aA aF 0 0)).setCell (p:=⟨H+1,2,aF⟩) ae (aB aC 0)).setCell (p:=⟨H+1,3,aF⟩) ae (aB aC 0);clear hR hb;go_wp2_with fail;refine bodyPost_ret (zK rfl _ _ (H+1) _ _ _ _ ac hfin underlying38 rfl ww) rfl ?_;exact⟨rfl,hbF⟩
theorem KV (A:aj) (c:Nat) (B:aj) (d:Nat) (s:StoP) (key:ai) (up:Bool) (w:World) (hg:GoodS s) (hr:RdSt w A c B d s) (hn:∀b∈s.aJ,b.key≠key) :
  Calls zZZ 69 #[.agg #[aA A s.aI.length c,aA B s.aJ.length d,aB aC s.aL,aB aC s.aK],aD ⟨key.toArray⟩,.bool up] w fun e w'=>e= .returned (.tuple #[.agg #[aA aF 0 0,aA aF 0 0,aB aC 0,aB aC 0],aB aC 5])/\Below w.heap.size w w':=by
 have hlb:s.aI.length<=24:=hg.b.len;have hle:s.aJ.length<=10:=hg.e.len;have HFX:=sqH (show s.aJ.findIdx? (fun x=>x.key==key)=aF by rw [List.findIdx?_eq_none_iff];intro x hx;simp [hn x hx]);obtain⟨sk,hsk⟩:=wY (⟨key.toArray⟩:ByteArray)
 rw [<-hsk];have HSK:=sqH hsk;clear hn hsk;obtain⟨w0,hw0,hS,hR,hb0⟩:=zW w 38 [aA A s.aI.length c,aA B s.aJ.length d,aB aC s.aL,aB aC s.aK] [aA aF 0 0,aA aF 0 0,aB aC 0,aB aC 0];have hr0:=hr.below hb0;obtain⟨H,hH⟩:=wY w.heap.size
 have HCK:=sqH (zD A c B d s w0 hg hr0);rw [<-hH]at hS hR hb0 ⊢
 have hHl:H<w0.heap.size:=hS.lt;have hHr:H+1<w0.heap.size:=hR.lt;obtain⟨x0,x1,x2,x3⟩:=sqC4 hS;rw [hw0,hH]at x0 x1 x2 x3;obtain⟨HPL,HQL,HG⟩:=sqJ3 (show ∀b∈s.aI,b.data.length<=1000000 from fun b hb=>by have:=(hg.b.one b hb).2.1;omega) (show ∀x∈s.aJ,x.aP.length<=1000000 from fun x hx=>by have:=(zi (hg.e.one x hx).2.1).1;omega) hg;clear hg hr;go_enter func69,ntmps69;go_wp2_with fail;rw [<-hw0,<-hH];have HH:=sqH hH;clear hw0 hH x0 x1 x2 x3;refine wZ HCK.o fun w1 hb1=>?_;dsimp only;have hr1:=hr0.below hb1;have hS1:=hS.below hb1;have y0:=hS1.c1;have HFN:=kN B d s.aJ key w1 wu hr1.e;rw [HFX.o,xx,<-HSK.o]at HFN;have HFN:=sqH HFN;clear hr0 hS;go_wp2_with fail;clear y0;refine wZ HFN.o fun w2 hb2=>?_;dsimp only;have hc2:=wm hb1 hb2;have hb:=hb0.trans (hc2.mono (Nat.le_of_lt hHl));have hR2:=hR.below hc2;clear hR;have hR:=hR2;clear hR2 hr1 hS1 hb1 hb2 hc2;obtain⟨f0,f1,f2,f3⟩:=sqF4 hR;obtain⟨y0,y1,y2,y3⟩:=sqC4 hR;have hfin:=hR.all4 (aA aF 0 0) (aA aF 0 0) (aB aC 0) (aB aC 0);have hbF:=(((hb.setCell (p:=⟨H+1,0,aF⟩) ae (aA aF 0 0)).setCell (p:=⟨H+1,1,aF⟩) ae (aA aF 0 0)).setCell (p:=⟨H+1,2,aF⟩) ae (aB aC 0)).setCell (p:=⟨H+1,3,aF⟩) ae (aB aC 0);clear hR hb;go_wp2_with fail;refine bodyPost_ret (zK rfl _ _ (H+1) _ _ _ _ ac hfin underlying38 rfl ww) rfl ?_;exact⟨rfl,hbF⟩
theorem jZ {P:Program} {fn:Func} {p u z:Tmp} {ty:TypeId} (h:fn.results=#[.cell p ty,.tmp u,.tmp z]) (tmps:Array Value) (w:World) (g:Nat) (t:TypeId) (cs:Array Value) (fr:Nat×Nat) (d:TypeDesc)
  (hp:tmps.getD p undef= .pointer (some ⟨g,0,aF⟩)) (hg:w.heap[g]?=some (.cells cs t fr))
  (hu:P.underlying ty=some d) (hd:(match d with | .struct _ | .array _ _=>true | _=>false)=true) (hi:(P.info? ty).map (·.size)=some cs.size) :
  (results fn tmps).run P w= .ok (.tuple #[.agg cs,tmps.getD u undef,tmps.getD z undef]) w:=zz h tmps w g t cs fr d hp hg hu hd hi
theorem YO (A:aj) (c:Nat) (B:aj) (d:Nat) (s:StoP) (key:ai) (w:World) (hg:GoodS s) (hr:RdSt w A c B d s) (hn:∀b∈s.aJ,b.key≠key) :
  Calls zZZ 68 #[.agg #[aA A s.aI.length c,aA B s.aJ.length d,aB aC s.aL,aB aC s.aK],aD ⟨key.toArray⟩] w fun e w'=>e= .returned (.tuple #[.agg #[aA aF 0 0,aA aF 0 0,aB aC 0,aB aC 0],aA aF 0 0,aB aC 5])/\Below w.heap.size w w':=by
 have hlb:s.aI.length<=24:=hg.b.len;have hle:s.aJ.length<=10:=hg.e.len;have HFX:=sqH (show s.aJ.findIdx? (fun x=>x.key==key)=aF by rw [List.findIdx?_eq_none_iff];intro x hx;simp [hn x hx]);obtain⟨sk,hsk⟩:=wY (⟨key.toArray⟩:ByteArray)
 rw [<-hsk];have HSK:=sqH hsk;clear hn hsk;obtain⟨w0,hw0,hS,hR,hb0⟩:=zW w 38 [aA A s.aI.length c,aA B s.aJ.length d,aB aC s.aL,aB aC s.aK] [aA aF 0 0,aA aF 0 0,aB aC 0,aB aC 0];have hr0:=hr.below hb0;obtain⟨H,hH⟩:=wY w.heap.size
 have HCK:=sqH (zD A c B d s w0 hg hr0);rw [<-hH]at hS hR hb0 ⊢
 have hHl:H<w0.heap.size:=hS.lt;have hHr:H+1<w0.heap.size:=hR.lt;obtain⟨x0,x1,x2,x3⟩:=sqC4 hS;rw [hw0,hH]at x0 x1 x2 x3;obtain⟨HPL,HQL,HG⟩:=sqJ3 (show ∀b∈s.aI,b.data.length<=1000000 from fun b hb=>by have:=(hg.b.one b hb).2.1;omega) (show ∀x∈s.aJ,x.aP.length<=1000000 from fun x hx=>by have:=(zi (hg.e.one x hx).2.1).1;omega) hg;clear hg hr;go_enter func68,ntmps68;go_wp2_with fail;rw [<-hw0,<-hH];have HH:=sqH hH;clear hw0 hH x0 x1 x2 x3;refine wZ HCK.o fun w1 hb1=>?_;dsimp only;have hr1:=hr0.below hb1;have hS1:=hS.below hb1;have y0:=hS1.c1;have HFN:=kN B d s.aJ key w1 wu hr1.e;rw [HFX.o,xx,<-HSK.o]at HFN;have HFN:=sqH HFN;clear hr0 hS;go_wp2_with fail;clear y0;refine wZ HFN.o fun w2 hb2=>?_;dsimp only;have hc2:=wm hb1 hb2;have hb:=hb0.trans (hc2.mono (Nat.le_of_lt hHl));have hR2:=hR.below hc2;clear hR;have hR:=hR2;clear hR2 hr1 hS1 hb1 hb2 hc2;obtain⟨f0,f1,f2,f3⟩:=sqF4 hR;obtain⟨y0,y1,y2,y3⟩:=sqC4 hR;have hfin:=hR.all4 (aA aF 0 0) (aA aF 0 0) (aB aC 0) (aB aC 0);have hbF:=(((hb.setCell (p:=⟨H+1,0,aF⟩) ae (aA aF 0 0)).setCell (p:=⟨H+1,1,aF⟩) ae (aA aF 0 0)).setCell (p:=⟨H+1,2,aF⟩) ae (aB aC 0)).setCell (p:=⟨H+1,3,aF⟩) ae (aB aC 0);clear hR hb;go_wp2_with fail;refine bodyPost_ret (jZ rfl _ _ (H+1) _ _ _ _ ac hfin underlying38 rfl ww) rfl ?_;exact⟨rfl,hbF⟩
theorem z0i (n:Nat) (up:Bool) (w:World) (h:if up then n=5 else n=0):Calls zZZ 96 #[aB aC n,.bool up] w fun e w'=>e= .returned (.tuple #[aB aC 0,aB aC (if up then 7 else 11)])/\w'=w:=by
 cases up with
 | true =>
  have h':n=5:=h;subst h';have HC2:=sqH (xr 5 wu wu w);rw [show((5:Nat):Int)=5 from rfl];clear h;go_enter func96,ntmps96;go_wp2_with fail;refine HC2.o.mono ?_;rintro e_ _ ⟨rfl,rfl⟩;dsimp only;go_wp2_with fail;go_ret2;exact⟨rfl,rfl⟩
 | false =>
  have h':n=0:=h;subst h';have HC2:=sqH (xr 0 wu wu w);rw [show((0:Nat):Int)=0 from rfl];clear h;go_enter func96,ntmps96;go_wp2_with fail;refine HC2.o.mono ?_;rintro e_ _ ⟨rfl,rfl⟩;dsimp only;go_wp2_with fail;go_ret2;exact⟨rfl,rfl⟩
def noE (up:Bool):Nat:=if up then 7 else 11
theorem V8 (up:Bool):((noE up:Int) != 0)=true:=by cases up<;>rfl
theorem QW (n:Nat) (up:Bool) (w:World) (h:if up then n=5 else n=0):Calls zZZ 96 #[aB aC n,.bool up] w fun e w'=>e= .returned (.tuple #[aB aC 0,aB aC (noE up:Int)])/\w'=w :=
 (z0i n up w h).mono fun e w' ⟨h1,h2⟩=>⟨by rw [h1];cases up<;>rfl,h2⟩
theorem Ue (A:aj) (c:Nat) (B:aj) (d:Nat) (s:StoP) (key:ai) (up:Bool) (i:Nat) (w:World) (hg:GoodS s) (hr:RdSt w A c B d s) (hi:i<s.aI.length) (hk:s.aI[i].dig=key) (hmv:if up then s.aI[i].aQ=5 else s.aI[i].aQ=0) :
  Calls zZZ 87 #[.agg #[aA A s.aI.length c,aA B s.aJ.length d,aB aC s.aL,aB aC s.aK],aD ⟨key.toArray⟩,.bool up] w fun e w'=>e= .returned (.tuple #[.agg #[aA aF 0 0,aA aF 0 0,aB aC 0,aB aC 0],aB aC (noE up:Int)])/\Below w.heap.size w w':=by
 have hlb:s.aI.length<=24:=hg.b.len;have hle:s.aJ.length<=10:=hg.e.len;have HFX:=sqH (z3g hg.b.ris hi hk);obtain⟨p,hp⟩:=wY (s.aI[i].aQ)
 rw [<-hp]at hmv;have HPI:=sqH hp.symm;have HMV:=sqH (fun W=>QW p up W hmv);have hne:=V8 up;generalize noE up=q at *
 obtain⟨sk,hsk⟩:=wY (⟨key.toArray⟩:ByteArray)
 rw [<-hsk];have HSK:=sqH hsk;clear hk hsk hp hmv;obtain⟨w0,hw0,hS,hR,hb0⟩:=zW w 38 [aA A s.aI.length c,aA B s.aJ.length d,aB aC s.aL,aB aC s.aK] [aA aF 0 0,aA aF 0 0,aB aC 0,aB aC 0];have hr0:=hr.below hb0;obtain⟨H,hH⟩:=wY w.heap.size
 have HCK:=sqH (zD A c B d s w0 hg hr0);rw [<-hH]at hS hR hb0 ⊢
 have hHl:H<w0.heap.size:=hS.lt;have hHr:H+1<w0.heap.size:=hR.lt;obtain⟨x0,x1,x2,x3⟩:=sqC4 hS;rw [hw0,hH]at x0 x1 x2 x3;obtain⟨HPL,HQL,HG⟩:=sqJ3 (show ∀b∈s.aI,b.data.length<=1000000 from fun b hb=>by have:=(hg.b.one b hb).2.1;omega) (show ∀x∈s.aJ,x.aP.length<=1000000 from fun x hx=>by have:=(zi (hg.e.one x hx).2.1).1;omega) hg;clear hg hr;go_enter func87,ntmps87;go_wp2_with fail;rw [<-hw0,<-hH];have HH:=sqH hH;clear hw0 hH x0 x1 x2 x3;refine wZ HCK.o fun w1 hb1=>?_;dsimp only;have hr1:=hr0.below hb1;have hS1:=hS.below hb1;have y0:=hS1.c0;have HFN:=ky A c s.aI key w1 wu hr1.b;rw [HFX.o,xx,<-HSK.o]at HFN;have HFN:=sqH HFN;clear hr0 hS;go_wp2_with fail;clear y0;refine wZ HFN.o fun w2 hb2=>?_;dsimp only;have hc2:=wm hb1 hb2;have hr2:=hr1.below hb2;have hS2:=hS1.below hb2;obtain⟨b,off,XB,xc,e1,hbb,d0,d1,d2,d3,_⟩:=hr2.b.blob_at i hi;have hi0:=we i
 have hi1:(i:Int)<(s.aI.length:Int):=wu;have y0:=hS2.c0;rw [HPI.o]at d2;rw [e1]at y0;clear hr1 hS1 hb1 hb2 d0 d1 d3;go_wp2_with fail;clear y0 d2;refine wZ (HMV.o w2) fun wq hwq=>?_;dsimp only;replace hwq:=hwq.symm;subst hwq;have hb:=hb0.trans (hc2.mono (Nat.le_of_lt hHl));have hR2:=hR.below hc2;clear hR;have hR:=hR2;clear hR2 hr2 hS2 hc2 e1;obtain⟨f0,f1,f2,f3⟩:=sqF4 hR;obtain⟨y0,y1,y2,y3⟩:=sqC4 hR;have hfin:=hR.all4 (aA aF 0 0) (aA aF 0 0) (aB aC 0) (aB aC 0);have hbF:=(((hb.setCell (p:=⟨H+1,0,aF⟩) ae (aA aF 0 0)).setCell (p:=⟨H+1,1,aF⟩) ae (aA aF 0 0)).setCell (p:=⟨H+1,2,aF⟩) ae (aB aC 0)).setCell (p:=⟨H+1,3,aF⟩) ae (aB aC 0);clear hR hb;go_wp2_with fail;refine bodyPost_ret (zK rfl _ _ (H+1) _ _ _ _ ac hfin underlying38 rfl ww) rfl ?_;exact⟨rfl,hbF⟩
theorem Ug (A:aj) (c:Nat) (B:aj) (d:Nat) (s:StoP) (key:ai) (up:Bool) (i:Nat) (w:World) (hg:GoodS s) (hr:RdSt w A c B d s) (hi:i<s.aJ.length) (hk:s.aJ[i].key=key) (hmv:if up then s.aJ[i].aQ=5 else s.aJ[i].aQ=0) :
  Calls zZZ 69 #[.agg #[aA A s.aI.length c,aA B s.aJ.length d,aB aC s.aL,aB aC s.aK],aD ⟨key.toArray⟩,.bool up] w fun e w'=>e= .returned (.tuple #[.agg #[aA aF 0 0,aA aF 0 0,aB aC 0,aB aC 0],aB aC (noE up:Int)])/\Below w.heap.size w w':=by
 have hlb:s.aI.length<=24:=hg.b.len;have hle:s.aJ.length<=10:=hg.e.len;have HFX:=sqH (z1e hg.e.ris hi hk);obtain⟨p,hp⟩:=wY (s.aJ[i].aQ)
 rw [<-hp]at hmv;have HPI:=sqH hp.symm;have HMV:=sqH (fun W=>QW p up W hmv);have hne:=V8 up;generalize noE up=q at *
 obtain⟨sk,hsk⟩:=wY (⟨key.toArray⟩:ByteArray)
 rw [<-hsk];have HSK:=sqH hsk;clear hk hsk hp hmv;obtain⟨w0,hw0,hS,hR,hb0⟩:=zW w 38 [aA A s.aI.length c,aA B s.aJ.length d,aB aC s.aL,aB aC s.aK] [aA aF 0 0,aA aF 0 0,aB aC 0,aB aC 0];have hr0:=hr.below hb0;obtain⟨H,hH⟩:=wY w.heap.size
 have HCK:=sqH (zD A c B d s w0 hg hr0);rw [<-hH]at hS hR hb0 ⊢
 have hHl:H<w0.heap.size:=hS.lt;have hHr:H+1<w0.heap.size:=hR.lt;obtain⟨x0,x1,x2,x3⟩:=sqC4 hS;rw [hw0,hH]at x0 x1 x2 x3;obtain⟨HPL,HQL,HG⟩:=sqJ3 (show ∀b∈s.aI,b.data.length<=1000000 from fun b hb=>by have:=(hg.b.one b hb).2.1;omega) (show ∀x∈s.aJ,x.aP.length<=1000000 from fun x hx=>by have:=(zi (hg.e.one x hx).2.1).1;omega) hg;clear hg hr;go_enter func69,ntmps69;go_wp2_with fail;rw [<-hw0,<-hH];have HH:=sqH hH;clear hw0 hH x0 x1 x2 x3;refine wZ HCK.o fun w1 hb1=>?_;dsimp only;have hr1:=hr0.below hb1;have hS1:=hS.below hb1;have y0:=hS1.c1;have HFN:=kN B d s.aJ key w1 wu hr1.e;rw [HFX.o,xx,<-HSK.o]at HFN;have HFN:=sqH HFN;clear hr0 hS;go_wp2_with fail;clear y0;refine wZ HFN.o fun w2 hb2=>?_;dsimp only;have hc2:=wm hb1 hb2;have hr2:=hr1.below hb2;have hS2:=hS1.below hb2;obtain⟨b,off,XB,xc,e1,hbb,d0,d1,d2,d3,_⟩:=hr2.e.ent_at i hi;have hi0:=we i
 have hi1:(i:Int)<(s.aJ.length:Int):=wu;have y0:=hS2.c1;rw [HPI.o]at d2;rw [e1]at y0;clear hr1 hS1 hb1 hb2 d0 d1 d3;go_wp2_with fail;clear y0 d2;refine wZ (HMV.o w2) fun wq hwq=>?_;dsimp only;replace hwq:=hwq.symm;subst hwq;have hb:=hb0.trans (hc2.mono (Nat.le_of_lt hHl));have hR2:=hR.below hc2;clear hR;have hR:=hR2;clear hR2 hr2 hS2 hc2 e1;obtain⟨f0,f1,f2,f3⟩:=sqF4 hR;obtain⟨y0,y1,y2,y3⟩:=sqC4 hR;have hfin:=hR.all4 (aA aF 0 0) (aA aF 0 0) (aB aC 0) (aB aC 0);have hbF:=(((hb.setCell (p:=⟨H+1,0,aF⟩) ae (aA aF 0 0)).setCell (p:=⟨H+1,1,aF⟩) ae (aA aF 0 0)).setCell (p:=⟨H+1,2,aF⟩) ae (aB aC 0)).setCell (p:=⟨H+1,3,aF⟩) ae (aB aC 0);clear hR hb;go_wp2_with fail;refine bodyPost_ret (zK rfl _ _ (H+1) _ _ _ _ ac hfin underlying38 rfl ww) rfl ?_;exact⟨rfl,hbF⟩
structure Fits (s:StoP) (D:ai):Prop where
 g:GoodS s
 d:D.length<=300
 l:s.aI.length<24\/(s.aI.findIdx? (fun b=>b.dig==shaS D)).isSome=true
 u:usd (putB s.aI D)<=s.aL
theorem Fits.good (h:Fits s D):GoodS (zJ s D):=by
 rcases h.l with h1 | h1
 ·exact Yp h.g h.d h1 h.u
 ·obtain⟨i,hi⟩:=Option.isSome_iff_exists.1 h1;have:zJ s D=s:=by unfold zJ putB;rw [hi]
  rw [this];exact h.g
theorem Ql (A:aj) (c:Nat) (B:aj) (d:Nat) (s:StoP) (D:ai) (DA:aj) (dc:Nat) (w:World) (hf:Fits s D) (hr:RdSt w A c B d s) (hD:Sl w 1 DA D.length dc (bys D)) :
  Calls zZZ 83 #[.agg #[aA A s.aI.length c,aA B s.aJ.length d,aB aC s.aL,aB aC s.aK],aA DA D.length dc] w fun e w' =>
   ∃A' c' B' d',e= .returned (.tuple #[.agg #[aA A' (zJ s D).aI.length c',aA B' (zJ s D).aJ.length d',aB aC s.aL,aB aC s.aK],aD ⟨(shaS D).toArray⟩,aB aC 0])/\OwSt w' w.heap.size (aA A' (zJ s D).aI.length c') (aA B' (zJ s D).aJ.length d') (zJ s D) (fun b=>b<w.heap.size)/\Below w.heap.size w w' :=
 (Y1 A c B d s D DA dc w hf.g hr hf.d hf.l hf.u hD).mono fun e w' ⟨v1,v2,h1,h2,h3⟩=>by
  obtain⟨A',c',B',d',e1,e2,_⟩:=h2.rows
  subst e1 e2
  exact⟨A',c',B',d',h1,h2,h3⟩
theorem Uo (A:aj) (c:Nat) (B:aj) (d:Nat) (s x:StoP) (key:ai) (ps:List PartP) (PA:aj) (pc:Nat) (w:World) (hg:GoodS s) (hr:RdSt w A c B d s) (hk:hexC key=0) (hpz:chk ps=0) (hhv:qK s.aI ps=0) (hclk:s.aK<1099511627776) (hlen:s.aJ.length<10) (hP:Sl w 3 PA ps.length pc (pcs ps)) (hx:x=xF s key ps) :
  Calls zZZ 126 #[.agg #[aA A s.aI.length c,aA B s.aJ.length d,aB aC s.aL,aB aC s.aK],aD ⟨key.toArray⟩,aA PA ps.length pc] w fun e w' =>
   ∃A' c' B' d',e= .returned (.tuple #[.agg #[aA A' x.aI.length c',aA B' x.aJ.length d',aB aC x.aL,aB aC x.aK],aB aC 0])/\OwSt w' w.heap.size (aA A' x.aI.length c') (aA B' x.aJ.length d') x (fun b=>b<w.heap.size)/\Below w.heap.size w w':=by
 subst hx;refine(z0o A c B d s key ps PA pc w hg hr hk hpz hhv hclk hlen hP).mono fun e w' ⟨v1,v2,h1,h2,h3⟩=> ?_;obtain⟨A',c',B',d',e1,e2,_⟩:=h2.rows;subst e1 e2;exact⟨A',c',B',d',h1,h2,h3⟩
theorem Uc (A:aj) (c:Nat) (B:aj) (d:Nat) (s y:StoP) (key:ai) (ps:List PartP) (i:Nat) (w:World) (hg:GoodS s) (hr:RdSt w A c B d s) (hi:i<s.aJ.length) (hk:s.aJ[i].key=key) (hps:s.aJ[i].aP=ps) (hclk:s.aK<1099511627776) (hy:y=kD s i s.aJ[i]) :
  Calls zZZ 68 #[.agg #[aA A s.aI.length c,aA B s.aJ.length d,aB aC s.aL,aB aC s.aK],aD ⟨key.toArray⟩] w fun e w' =>
   ∃A' c' B' d' A5 c5,e= .returned (.tuple #[.agg #[aA A' y.aI.length c',aA B' y.aJ.length d',aB aC y.aL,aB aC y.aK],aA A5 ps.length c5,aB aC 0])/\OwSt w' w.heap.size (aA A' y.aI.length c') (aA B' y.aJ.length d') y (fun b=>b<w.heap.size)/\w'.ownsRow w.heap.size 85 3 (aA A5 ps.length c5) ps.length (pcs ps)/\Below w.heap.size w w':=by
 subst hy;subst hps;refine(YP A c B d s key i w hg hr hi hk hclk).mono fun e w' ⟨v1,v2,v3,h1,h2,h4,h3⟩=> ?_;obtain⟨A',c',B',d',e1,e2,_⟩:=h2.rows;obtain⟨A5,c5,e5,_,_⟩:=uG h4;subst e1 e2 e5;exact⟨A',c',B',d',A5,c5,h1,h2,h4,h3⟩
structure Bsy (m:Nat) (s:StoP) (c:ColP):Prop where
 g:GoodS s
 gc:GoodC s c
 gr:8*unm s.aI+c.aM.length<=296+9*m
 k7:∀x∈s.aJ,∃j,j<7/\x.key=keyS j
 ck:s.aK<=24+m
theorem Bsy.e7 (h:Bsy m s c):s.aJ.length<=7:=by
 have h1:=Yj (ks:=s.aJ.map (·.key)) (by
  have:Rises (s.aJ.map (·.key)):=h.g.e.ris.map;exact this.nodup) (fun k hk=>by
  obtain⟨x,hx,rfl⟩:=List.mem_map.1 hk;exact h.k7 x hx)
 rwa [List.length_map]at h1
theorem Bsy.up (h:Bsy m s c) (hn:m<=n):Bsy n s c:=⟨h.g,h.gc,by have:=h.gr;omega,h.k7,by have:=h.ck;omega⟩
theorem z45 (hg:GoodS s):unm s.aI<=24:=Nat.le_trans (z47 _) hg.b.len
theorem z3u (hg:GoodS s):(rts s).length<=104:=by
 have h4:=vM s.aJ (fun x hx=>(zi (hg.e.one x hx).2.1).1);have h5:=Z0 s.aI;have h6:(rts s).length=(ux s.aJ).length+(uF s.aI).length:=List.length_append;have:=hg.b.len;have:=hg.e.len;omega
theorem Bsy.begin (h:Bsy m s c):Bsy m (Xm s) (UC s):=by
 refine⟨K3 h.g,Xn h.g,?_,h.k7,h.ck⟩;have h1:unm (Xm s).aI<=24:=z45 (K3 h.g);have h3:(UC s).aM.length<=(rts s).length:=QL _;have:=z3u h.g;omega
theorem QD {b:BlobP} (h:b∈putB l D):b∈l\/b=⟨shaS D,D,0,false⟩:=by
 unfold putB at h;cases hf:l.findIdx? (fun b=>b.dig==shaS D) with
 | none =>
  rw [hf]at h;rcases List.mem_cons.1 ((q7 _ _).mem_iff.1 h) with h | h
  ·exact .inr h
  ·exact .inl h
 | some i=>rw [hf]at h;exact .inl h
theorem uL {p:BlobP->Bool} (l:List BlobP) (D:ai):((putB l D).filter p).length<=(l.filter p).length+1:=by
 unfold putB;cases hf:l.findIdx? (fun b=>b.dig==shaS D) with
 | none =>
  show((srt _ _).filter p).length<=_;rw [((q7 _ _).filter p).length_eq,List.filter_cons];split
  ·simp
  ·omega
 | some i=>show(l.filter p).length<=_;omega
theorem Bsy.put (h:Bsy m s c) (hf:Fits s D):Bsy (m+1) (zH (zJ s D) c [shaS D]).1 (zH (zJ s D) c [shaS D]).2:=by
 have ht:GoodS (zJ s D):=hf.good;have hsub:∀b∈s.aI,b∈(zJ s D).aI:=fun b hb=>Kp hb;refine⟨uo c _ ht,xV h.gc h.g.b.ris ht.b.ris (fun d hd=> ?_) (fun x hx=> ?_) (fun x hx=> ?_) (fun x=> ?_) (fun x hx=> ?_),?_,?_,?_⟩
 ·rw [List.mem_singleton.1 hd];exact zE _
 ·left;rcases List.mem_append.1 hx with h1 | h1
  ·exact List.mem_append_left _ h1
  ·obtain⟨b,hb,rfl⟩:=List.mem_map.1 h1;obtain⟨h2,h3⟩:=List.mem_filter.1 hb;rcases QD h2 with h4 | h4
   ·exact List.mem_append_right _ (List.mem_map.2 ⟨b,List.mem_filter.2 ⟨h4,h3⟩,rfl⟩)
   ·subst h4;simp at h3
 ·obtain⟨b,hb,rfl⟩:=hx;rcases QD hb with h4 | h4
  ·exact .inl ⟨b,h4,rfl⟩
  ·subst h4;exact .inr (List.mem_singleton.2 rfl)
 ·rw [qD,qD];constructor
  ·rintro⟨b,hb,hm,e⟩;rcases QD hb with h4 | h4
   ·exact⟨b,h4,hm,e⟩
   ·subst h4;cases hm
  ·rintro⟨b,hb,hm,e⟩;exact⟨b,hsub b hb,hm,e⟩
 ·exact(vJ ht.b.ris h.g.b.ris hsub hx).symm
 ·have h1:=uq (zJ s D) c [shaS D];have h2:unm (zJ s D).aI<=unm s.aI+1:=uL s.aI D;have h3:=h.gr;simp only [List.length_singleton]at h1;omega
 ·rw [kI];exact h.k7
 ·rw [kI];have:=h.ck;show s.aK<=_;omega
theorem jY {l:List EntP} {x y:EntP} (h:y∈xl l x):y∈l\/(y.key=x.key/\y.aP=x.aP):=by
 unfold xl at h;cases hf:l.findIdx? (fun y=>y.key==x.key) with
 | none =>
  rw [hf]at h;rcases List.mem_cons.1 ((q7 _ _).mem_iff.1 h) with h | h
  ·subst h;exact .inr ⟨rfl,rfl⟩
  ·exact .inl h
 | some i =>
  rw [hf]at h;rcases List.mem_or_eq_of_mem_set h with h | h
  ·exact .inl h
  ·subst h;exact .inr ⟨rfl,rfl⟩
theorem Bsy.pute {K:ai} {ps:List PartP} (h:Bsy m s c) (hK:∃j,j<7/\K=keyS j) (hp:chk ps=0) (hh:qK s.aI ps=0) (hc:s.aK<1099511627776):Bsy (m+1) (zH (xF s K ps) c (ps.map (·.dig))).1 (zH (xF s K ps) c (ps.map (·.dig))).2:=by
 have hKx:hexC K=0:=by obtain⟨j,_,rfl⟩:=hK;exact zE _
 have ht:GoodS (xF s K ps):=ja h.g hKx hp (yF hh) hc (by have:=h.e7;omega);refine⟨uo c _ ht,xV h.gc h.g.b.ris ht.b.ris (fun d hd=> ?_) (fun x hx=> ?_) (fun x hx=> .inl hx) (fun x=>Iff.rfl) (fun x hx=>rfl),?_,?_,?_⟩
 ·obtain⟨p,hpm,rfl⟩:=List.mem_map.1 hd;exact((zi hp).2 p hpm).2.1
 ·rcases List.mem_append.1 hx with h1 | h1
  ·obtain⟨y,hy,h2⟩:=List.mem_flatMap.1 h1;rcases jY hy with h3 | ⟨_,h3⟩
   ·exact .inl (List.mem_append_left _ (List.mem_flatMap.2 ⟨y,h3,h2⟩))
   ·rw [h3]at h2;exact .inr h2
  ·exact .inl (List.mem_append_right _ h1)
 ·have h1:=uq (xF s K ps) c (ps.map (·.dig));have h2:unm (xF s K ps).aI=unm s.aI:=rfl;have h3:=h.gr;have h4:=(zi hp).1;rw [List.length_map]at h1;omega
 ·rw [kI];intro x hx;rcases jY (show x∈xl s.aJ _ from hx) with h3 | ⟨h3,_⟩
  ·exact h.k7 x h3
  ·rw [h3];exact hK
 ·rw [kI];have:=h.ck;show s.aK+1<=_;omega
theorem Bsy.hold {i:Nat} (h:Bsy m s c) (hi:i<s.aI.length) (hn:n<=5):Bsy (m+1) (zH (kg s i s.aI[i] n) c [s.aI[i].dig]).1 (zH (kg s i s.aI[i] n) c [s.aI[i].dig]).2:=by
 have ht:GoodS (kg s i s.aI[i] n):=un h.g hi hn;have hmem:∀b∈(kg s i s.aI[i] n).aI,∃a∈s.aI,a.dig=b.dig/\a.data=b.data/\a.mark=b.mark/\(a.aQ=b.aQ\/b.dig=s.aI[i].dig):=fun b hb=>by
  rcases List.mem_or_eq_of_mem_set hb with h1 | h1
  ·exact⟨b,h1,rfl,rfl,rfl,.inl rfl⟩
  ·subst h1;exact⟨_,List.getElem_mem hi,rfl,rfl,rfl,.inr rfl⟩
 have hmem2:∀a∈s.aI,∃b∈(kg s i s.aI[i] n).aI,b.dig=a.dig/\b.data=a.data/\b.mark=a.mark:=fun a ha=>by
  obtain⟨j,hj,rfl⟩:=List.mem_iff_getElem.1 ha;by_cases hij:i=j
  ·subst hij;exact⟨_,List.mem_iff_getElem.2 ⟨i,by show i<(s.aI.set i _).length;rw [List.length_set];exact hi,rfl⟩,by simp [kg],by simp [kg],by simp [kg]⟩
  ·have hjl:j<(s.aI.set i { s.aI[i] with aQ:=n }).length:=by rw [List.length_set];exact hj
   exact⟨s.aI[j],List.mem_iff_getElem.2 ⟨j,hjl,by show(s.aI.set i { s.aI[i] with aQ:=n })[j]'hjl=_;rw [List.getElem_set_ne hij]⟩,rfl,rfl,rfl⟩
 refine⟨uo c _ ht,xV h.gc h.g.b.ris ht.b.ris (fun d hd=> ?_) (fun x hx=> ?_) (fun x hx=> ?_) (fun x=> ?_) (fun x hx=> ?_),?_,?_,?_⟩
 ·rw [List.mem_singleton.1 hd,(h.g.b.one _ (List.getElem_mem hi)).1];exact zE _
 ·rcases List.mem_append.1 hx with h1 | h1
  ·exact .inl (List.mem_append_left _ h1)
  ·obtain⟨b,hb,rfl⟩:=List.mem_map.1 h1;obtain⟨h2,h3⟩:=List.mem_filter.1 hb;obtain⟨a,ha,e1,_,_,e4⟩:=hmem b h2;rcases e4 with e4 | e4
   ·exact .inl (List.mem_append_right _ (List.mem_map.2 ⟨a,List.mem_filter.2 ⟨ha,by rw [e4];exact h3⟩,e1⟩))
   ·exact .inr (List.mem_singleton.2 e4)
 ·obtain⟨b,hb,rfl⟩:=hx;obtain⟨a,ha,e1,_⟩:=hmem b hb;exact .inl ⟨a,ha,e1⟩
 ·rw [qD,qD];constructor
  ·rintro⟨b,hb,hm,rfl⟩;obtain⟨a,ha,e1,_,e3,_⟩:=hmem b hb;exact⟨a,ha,by rw [e3];exact hm,e1⟩
  ·rintro⟨a,ha,hm,rfl⟩;obtain⟨b,hb,e1,_,e3⟩:=hmem2 a ha;exact⟨b,hb,by rw [e3];exact hm,e1⟩
 ·obtain⟨a,ha,rfl⟩:=hx;obtain⟨b,hb,e1,e2,_⟩:=hmem2 a ha;rw [<-e1,xC ht.b.ris hb,e1,xC h.g.b.ris ha,e2]
 ·have h1:=uq (kg s i s.aI[i] n) c [s.aI[i].dig];have h2:unm (kg s i s.aI[i] n).aI<=24:=z45 ht;have h5:unm (kg s i s.aI[i] n).aI<=unm s.aI+1:=by
   unfold unm kg;have:∀(l:List BlobP) (k:Nat) (y:BlobP) (p:BlobP->Bool),((l.set k y).filter p).length<=(l.filter p).length+1:=fun l=>by
    induction l with
    | nil=>intro k y p;simp
    | cons a l ih =>
     intro k y p;cases k with
     | zero=>rw [List.set_cons_zero,List.filter_cons,List.filter_cons];split<;>split<;>first | omega | (simp only [List.length_cons];omega)
     | succ k=>rw [List.set_cons_succ,List.filter_cons,List.filter_cons];have:=ih k y p;split<;>first | omega | (simp only [List.length_cons];omega)
   exact this _ _ _ _
  have h3:=h.gr;simp only [List.length_singleton]at h1;omega
 ·rw [kI];exact h.k7
 ·rw [kI];have:=h.ck;show s.aK<=_;omega
open Go.Maps
theorem z21 {P Q:Prop} (h:Hid P->Q) (p:P):Q:=h (Lib.hid p)
theorem OwSt.mixC {w7 w8:World} {base:Nat} {v1 v1' v2:Value} {N:am} (h:OwSt w7 base v1 v2 s N) (hN:∀b,N b->b<w7.heap.size) (hv:RwX BlobS 55 w8 w7.heap.size v1' l (fun b=>b<w7.heap.size)) (hbs:base<=w7.heap.size) (hbl:Below w7.heap.size w7 w8):OwSt w8 base v1' v2 { s with aI:=l } N:=by
 have h1:∀g,v1'.ownBlock=aG g->w7.heap.size<=g:=fun g e=>(hv.rwo.blk e).1;have h2:∀g,v2.ownBlock=aG g->g<w7.heap.size:=fun g e=>(h.e.rwo.blk e).2;refine⟨RwX.wider (hv.lower hbs) (N':=fun g=>N g\/v2.ownBlock=aG g) fun b hb=> .inl ?_,RwX.below (RwX.wider h.e (N':=fun g=>N g\/v1'.ownBlock=aG g) fun b hb=> ?_) hbl,fun g e1 e2=> ?_⟩
 ·rcases hb with hb | hb
  ·exact hN b hb
  ·exact h2 b hb
 ·rcases hb with hb | hb
  ·exact .inl (.inl hb)
  ·exact .inr (h1 b hb)
 ·have:=h1 g e1;have:=h2 g e2;omega
theorem Qh (A:aj) (c:Nat) (B:aj) (d:Nat) (s:StoP) (Ag:aj) (ng:Nat) (cp:ColP) (D:aj) (nd:Nat) (ds:List ai) (b0:Nat) (N:am) (w:World) (hg:GoodS s) (ho:OwSt w b0 (aA A s.aI.length c) (aA B s.aJ.length d) s N) (hb0:b0<=w.heap.size) (hN:∀b,N b->b<w.heap.size) (hgl:cp.aM.length<=2000) (hph:cp.aN<=2) (hc:RdC w Ag ng cp) (hdn:ds.length<=nd) (hds:ds.length<=1000) (hD:Rd w 1 D ds.length (strs ds)) :
  Calls Tryz.prog 84 #[.agg #[aA A s.aI.length c,aA B s.aJ.length d,aB aC s.aL,aB aC s.aK],coV (aA Ag cp.aM.length ng) cp,aA D ds.length nd] w fun e w' =>
   ∃v1 v3,e= .returned (.tuple #[stV v1 (aA B s.aJ.length d) s,coV v3 (zH s cp ds).2])/\OwSt w' b0 v1 (aA B s.aJ.length d) (zH s cp ds).1 N/\w'.ownsRow w.heap.size 9 1 v3 (zH s cp ds).2.aM.length (strs (zH s cp ds).2.aM)/\Below w.heap.size w w':=by
 have hlb:s.aI.length<=24:=hg.b.len;have HKP0:=sqH (show zH s cp ds=zH s cp ds from rfl);obtain⟨aN,aM,at_⟩:=cp;simp only at hgl hph;obtain⟨w0,hw0,hS,hC,hR,hQ,hbx⟩:=ql w 38 41 [aA A s.aI.length c,aA B s.aJ.length d,aB aC s.aL,aB aC s.aK] [aB aC aN,aA Ag aM.length ng,aD ⟨at_.toArray⟩] [aA aF 0 0,aA aF 0 0,aB aC 0,aB aC 0] [aB aC 0,aA aF 0 0,aD ⟨#[]⟩];have hc0:=hc.below hbx;obtain⟨H,hH⟩:=wY w.heap.size
 have how:OwSt w b0 (aA A s.aI.length c) (aA B s.aJ.length d) s (fun b=>N b\/H<=b/\b<w0.heap.size):=ho.wider fun b hb=>hb.imp id (fun h=>wu);have ho0:=how.below hbx;have hD0:=hD.below hbx;generalize hats:(⟨at_.toArray⟩:ByteArray)=ats at *
 rw [<-hH]at hS hC hR hQ hbx hb0 hN ⊢
 have HN:=sqH hN;clear hN;have hHl:H+1+1+1<w0.heap.size:=hQ.lt;obtain⟨HO0,HSX,HSB,HRG⟩:=sqJ4 ho0 (show ∀W,Below w0.heap.size w0 W->Arr W H 38 [aA A s.aI.length c,aA B s.aJ.length d,aB aC s.aL,aB aC s.aK]/\Arr W (H+1) 41 [aB aC aN,aA Ag aM.length ng,aD ats]/\Arr W (H+2) 38 [aA aF 0 0,aA aF 0 0,aB aC 0,aB aC 0]/\Arr W (H+3) 41 [aB aC 0,aA aF 0 0,aD ⟨#[]⟩]/\Rd W 1 D ds.length (strs ds) from fun W h=>⟨hS.below h,hC.below h,hR.below h,hQ.below h,hD0.below h⟩) (show ∀W,Below w0.heap.size w0 W->wH W (H+1) (aB aC aN) (aA Ag aM.length ng) (aD ats) from fun W h=>sqC3 (hC.below h)) (show ∀W,Below w0.heap.size w0 W->Rd W 1 Ag aM.length (strs aM) from fun W h=>(hc0.below h).rd);have hgcap:aM.length<=ng:=hc0.cap;have HBX:=sqH hbx;have HG:=sqH hg;clear hg ho how ho0 hc hc0 hD hD0 hS hC hR hQ hbx;go_enter func84,ntmps84;go_wp2_with fail;rw [<-hw0,<-hH];have HH:=sqH hH;have HATS:=sqH hats;clear hw0 hH hats;apply z21;intro REST;refine wp_region_held_drew (S:=(fun w'=>wH w' (H+1) (aB aC aN) (aA Ag aM.length ng) (aD ats))) ww ?_ (fun hHeld=> ?_)
 ·exact HSB.o _ (Below.refl _ w0).drew
 have hB:=(Below.refl w0.heap.size w0).drew;generalize w0.drew=wn0 at *
 refine wQ 0 ?_;refine wQ 1 ?_;refine wQ 2 ?_;refine wQ 3 ?_;refine wQ 5 ?_;refine wQ 6 ?_;refine wpAnyH_ready (rs:= [4,8]) ww ab ?_;refine AllReadyH.cons (o:=_) rfl (fun K hK=> ?_) ?_
 ·
  go_simp;refine(kS Ag ng aM wn0 wu (HRG.o _ hB)).mono ?_;rintro e5 w5 ⟨v5,rfl,ho5,hb5⟩;obtain⟨A5,c5,rfl, -, -⟩:=Rd.of_own' ho5;dsimp only;refine kn hK (HSB.o _ (hB.trans (Below.mono (show Below wn0.heap.size wn0 _ from by(first | exact(Below.refl _ _).alloc ag _ | exact hb5)) hB.size))) (Below wn0.heap.size wn0) (fun W=>W.ownsRow w0.heap.size 9 1 (aA A5 aM.length c5) aM.length (strs aM)) (by first | exact(Below.refl _ _).alloc ag _ | exact hb5) (zb ho5 hB.size) fun wn1 hHeld hst hnew=> ?_;replace hB:=wm hB hst;have hl:=hnew;clear hnew ho5 hb5;clear hst;clear hK K
  refine wQ 7 ?_;refine wU 8 fun K hK=>?_;go_simp;refine kn hK (HSB.o _ (hB.trans (Below.mono (show Below wn1.heap.size wn1 _ from by(first | exact(Below.refl _ _).alloc ag _ | exact hb5)) hB.size))) (Below wn1.heap.size wn1) (fun W=>Arr W wn1.heap.size 41 [aB aC 0,aA aF 0 0,aD ⟨#[]⟩]/\w0.heap.size<=wn1.heap.size) (by first | exact(Below.refl _ _).alloc ag _ | exact hb5) ⟨Arr.new _ _ _,hB.size⟩ fun wn2 hHeld hst hnew=> ?_;replace hB:=wm hB hst;replace hl:=zc hl hst;obtain⟨h8,hl8⟩:=hnew;obtain⟨g8,hg8⟩:=wY wn1.heap.size
  rw [<-hg8]at h8 hl8 ⊢
  clear hg8;clear hst;clear hK K
  try simp only [sqP]
  refine wU 9 fun K hK=>?_;obtain⟨z0,z1,z2⟩:=sqC3 h8;obtain⟨f0,f1,f2⟩:=sqF3 h8;go_simp;clear z0 z1 z2 f0 f1 f2;have hn8:=zf hl h8 aa;refine kn hK ?_ (fun W=>Arr W g8 41 [aB aC aN,aA A5 aM.length c5,aD ats]) (fun W=>Below w0.heap.size w0 W/\W.ownsRow w0.heap.size 9 1 (aA A5 aM.length c5) aM.length (strs aM)) ?_ ?_ (fun wn3 hHeld hF hG=> ?_)
  ·exact HSB.o _ (((hB.setCell (p:=⟨g8,0,aF⟩) hl8 _).setCell (p:=⟨g8,1,aF⟩) hl8 _).setCell (p:=⟨g8,2,aF⟩) hl8 _)
  ·exact h8.all3 _ _ _
  ·exact⟨((hB.setCell (p:=⟨g8,0,aF⟩) hl8 _).setCell (p:=⟨g8,1,aF⟩) hl8 _).setCell (p:=⟨g8,2,aF⟩) hl8 _,kz hl hn8 _ _ _⟩
  clear hB h8 hl hn8;clear hK K
  try simp only [sqP]
  refine wpAnyH_done ww ?_ _;dsimp only [Exit.then];clear hHeld;obtain⟨hB,hl⟩:=hG;have hall:=aH hB (aH hl (aH hF hl8));clear hB hl hF hl8;generalize wn3=wz at hall ⊢
  revert hall;revert wz;revert c5;revert A5;revert g8;exact REST.o
 refine AllReadyH.cons (o:=_) rfl (fun K hK=> ?_) ?_
 ·
  go_simp;refine kn hK (HSB.o _ (hB.trans (Below.mono (show Below wn0.heap.size wn0 _ from by(first | exact(Below.refl _ _).alloc ag _ | exact hb5)) hB.size))) (Below wn0.heap.size wn0) (fun W=>Arr W wn0.heap.size 41 [aB aC 0,aA aF 0 0,aD ⟨#[]⟩]/\w0.heap.size<=wn0.heap.size) (by first | exact(Below.refl _ _).alloc ag _ | exact hb5) ⟨Arr.new _ _ _,hB.size⟩ fun wn4 hHeld hst hnew=> ?_;replace hB:=wm hB hst;obtain⟨h8,hl8⟩:=hnew;obtain⟨g8,hg8⟩:=wY wn0.heap.size
  rw [<-hg8]at h8 hl8 ⊢
  clear hg8;clear hst;clear hK K
  try simp only [sqP]
  refine wU 4 fun K hK=>?_;go_simp;refine(kS Ag ng aM wn4 wu (HRG.o _ hB)).mono ?_;rintro e5 w5 ⟨v5,rfl,ho5,hb5⟩;obtain⟨A5,c5,rfl, -, -⟩:=Rd.of_own' ho5;dsimp only;refine kn hK (HSB.o _ (hB.trans (Below.mono (show Below wn4.heap.size wn4 _ from by(first | exact(Below.refl _ _).alloc ag _ | exact hb5)) hB.size))) (Below wn4.heap.size wn4) (fun W=>W.ownsRow w0.heap.size 9 1 (aA A5 aM.length c5) aM.length (strs aM)) (by first | exact(Below.refl _ _).alloc ag _ | exact hb5) (zb ho5 hB.size) fun wn5 hHeld hst hnew=> ?_;replace hB:=wm hB hst;replace h8:=h8.below hst;have hl:=hnew;clear hnew ho5 hb5;clear hst;clear hK K
  refine wQ 7 ?_;refine wU 9 fun K hK=>?_;obtain⟨z0,z1,z2⟩:=sqC3 h8;obtain⟨f0,f1,f2⟩:=sqF3 h8;go_simp;clear z0 z1 z2 f0 f1 f2;have hn8:=zf hl h8 aa;refine kn hK ?_ (fun W=>Arr W g8 41 [aB aC aN,aA A5 aM.length c5,aD ats]) (fun W=>Below w0.heap.size w0 W/\W.ownsRow w0.heap.size 9 1 (aA A5 aM.length c5) aM.length (strs aM)) ?_ ?_ (fun wn6 hHeld hF hG=> ?_)
  ·exact HSB.o _ (((hB.setCell (p:=⟨g8,0,aF⟩) hl8 _).setCell (p:=⟨g8,1,aF⟩) hl8 _).setCell (p:=⟨g8,2,aF⟩) hl8 _)
  ·exact h8.all3 _ _ _
  ·exact⟨((hB.setCell (p:=⟨g8,0,aF⟩) hl8 _).setCell (p:=⟨g8,1,aF⟩) hl8 _).setCell (p:=⟨g8,2,aF⟩) hl8 _,kz hl hn8 _ _ _⟩
  clear hB h8 hl hn8;clear hK K
  try simp only [sqP]
  refine wpAnyH_done ww ?_ _;dsimp only [Exit.then];clear hHeld;obtain⟨hB,hl⟩:=hG;exact REST.o g8 A5 c5 wn6 ⟨hB,hl,hF,hl8⟩
 exact AllReadyH.nil;intro g8 A5 c5 wz hall;obtain⟨hB,hl,h8,hl8⟩:=hall;have h3:aN=0\/aN=1\/aN=2:=wu;obtain⟨hS,hC,hR,hQ,hD⟩:=HSX.o _ hB;have ho:=HO0.o.below hB;have hwz:=hB.size;have hbz:=hB;have hB:=HBX.o.trans (hB.mono (show H<=w0.heap.size by omega));have y0:=hC.c0;rcases h3 with h3 | h3 | h3
 ·have HKP:=sqH (show zH s ⟨aN,aM,at_⟩ ds=(s,⟨aN,aM,at_⟩) from UV h3);have g1:((aN:Int)==1)=false:=by rw [h3];rfl
  have g2:((aN:Int)==2)=false:=by rw [h3];rfl
  clear hC hD HKP0 h3
  refine wL ?_;intros;clear y0 g1 g2;have hHg:H+2≠H+3:=wu;obtain⟨HF1,HF2,HF3,HF4,HF5⟩:=sqJ5 (qV (g:=H+2) (h:=H+3) (u0:=(aA A s.aI.length c)) (u1:= aA B s.aJ.length d) (u2:= aB aC s.aL) (u3:= aB aC s.aK) (x0:= aB aC aN) (x1:=(aA A5 aM.length c5)) (x2:= aD ats) hR hHg) (qW (g:=H+2) (h:=H+3) (u0:=(aA A s.aI.length c)) (u1:= aA B s.aJ.length d) (u2:= aB aC s.aL) (u3:= aB aC s.aK) (x0:= aB aC aN) (x1:=(aA A5 aM.length c5)) (x2:= aD ats) hQ hHg) (qE (g:=H+2) (h:=H+3) (u0:=(aA A s.aI.length c)) (u1:= aA B s.aJ.length d) (u2:= aB aC s.aL) (u3:= aB aC s.aK) (x0:= aB aC aN) (x1:=(aA A5 aM.length c5)) (x2:= aD ats) ho (.inr ⟨wu,wu⟩) (.inr ⟨wu,wu⟩) (ho.nb hR aa aa).1 (ho.nb hR aa aa).2 (ho.nb hQ aa aa).1 (ho.nb hQ aa aa).2) (qS (g:=H+2) (h:=H+3) (u0:=(aA A s.aI.length c)) (u1:= aA B s.aJ.length d) (u2:= aB aC s.aL) (u3:= aB aC s.aK) (x0:= aB aC aN) (x1:=(aA A5 aM.length c5)) (x2:= aD ats) hl (zf hl hR aa) (zf hl hQ aa)) (zL (g:=H+2) (h:=H+3) (u0:=(aA A s.aI.length c)) (u1:= aA B s.aJ.length d) (u2:= aB aC s.aL) (u3:= aB aC s.aK) (x0:= aB aC aN) (x1:=(aA A5 aM.length c5)) (x2:= aD ats) hB wu wu);obtain⟨f0,f1,f2,f3⟩:=sqF4 hR;obtain⟨y0,y1,y2,y3⟩:=sqC4 hR;obtain⟨e0,e1,e2⟩:=sqF3 hQ;obtain⟨x0,x1,x2⟩:=sqC3 hQ;obtain⟨s0,s1,s2,s3⟩:=sqC4 hS;obtain⟨t0,t1,t2⟩:=sqC3 h8;have n1:¬(H=H+2):=wu;have n2:¬(g8=H+2):=wu;have n3:¬(H=H+3):=wu;clear hR hQ ho hl hB hS h8
  refine wL ?_;intros;go_region
  all_goals (try dsimp only [Exit.then])
  go_wp2_with fail;refine bodyPost_ret (kJ rfl _ _ (H+2) (H+3) _ _ _ _ _ _ _ _ ac (Arr.drew HF1.o) underlying38 rfl ww ac (Arr.drew HF2.o) underlying41 rfl ww) rfl ?_;have e9:=HATS.o;subst e9;rw [HKP.o];exact⟨_,_,rfl,HF3.o.drewX.mono (fun b hb=> .inl hb),zb HF4.o.drew wu,HF5.o.drew⟩
 ·have HKP:=sqH (show zH s ⟨aN,aM,at_⟩ ds=(s,⟨aN,uni (aM++ds),at_⟩) from by rw [z3k h3,h3]);have g1:((aN:Int)==1)=true:=by rw [h3];rfl
  have y1:=hC.c1;have hrg:Rd wz 1 Ag aM.length (strs aM):=HRG.o _ hbz;have HAD:=sqH (Jy Ag D ng nd aM ds wz hgcap hdn wu wu hrg hD);have ho1:=(HO0.o.wider (N':=fun b=>N b\/H<=b) (fun b hb=>by
   rcases hb with hb | hb
   ·exact .inl (.inl hb)
   ·by_cases h:b<w0.heap.size
    ·exact .inl (.inr ⟨hb,h⟩)
    ·exact .inr wu)).below hbz
  obtain⟨H8,HHS,HHR,HHQ,HO1,HBZ⟩:=sqJ6 h8 hS hR hQ ho1 hB;clear hC hD HKP0 h3 hrg ho1 ho hl h8 hS hR hQ hB;go_wp2_with fail;clear y0 y1 g1;refine HAD.o.mono ?_;rintro e_ w5 ⟨v5,N5,rfl,hN5, -,ho5,hb5⟩;dsimp only;obtain rfl:=hN5.uni (L:=aM++ds) (fun x=>List.mem_append.symm);obtain⟨A6,c6,rfl, -, -⟩:=Rd.of_own' ho5;have h8:=H8.o.below hb5;have hz1:=h8.c1;have hf1:=h8.frozen 1;have h8':=h8.set (k:=1) ab (aA A6 (uni (aM++ds)).length c6);simp only [List.set_cons_succ,List.set_cons_zero]at h8';have hn8:=zf ho5 h8 aa;have hne:=(HO1.o.below hb5).nb h8 aa aa;have ho':=((HO1.o.below hb5).setX (g:=g8) (k:=1) (.inr wu) hne.1 hne.2 (aA A6 (uni (aM++ds)).length c6)).mono (N':=fun b=>N b\/H<=b/\b<w0.heap.size) (fun b hb=>hb.imp id And.left);have hl':=zd (k:=1) (u:= aA A6 (uni (aM++ds)).length c6) ho5 hn8;have hS':=(HHS.o.below hb5).other (k:=1) (g':=g8) wu (aA A6 (uni (aM++ds)).length c6);have hR':=(HHR.o.below hb5).other (k:=1) (g':=g8) wu (aA A6 (uni (aM++ds)).length c6);have hQ':=(HHQ.o.below hb5).other (k:=1) (g':=g8) wu (aA A6 (uni (aM++ds)).length c6);have hB':=(HBZ.o.trans (hb5.mono (show H<=wz.heap.size by omega))).setCell (p:=⟨g8,1,aF⟩) ae (aA A6 (uni (aM++ds)).length c6);have HX:=sqH (aH ho' (aH hl' (aH hS' (aH hR' (aH hQ' (aH hB' h8'))))));clear ho' hl' hS' hR' hQ' hB' h8' hn8 hne h8 ho5 hb5 hN5;generalize uni (aM++ds)=U at *
  refine wL ?_;intros;clear hz1 hf1;obtain⟨ho,hl,hS,hR,hQ,hB,h8⟩:=HX.o;clear HX;have hHg:H+2≠H+3:=wu;obtain⟨HF1,HF2,HF3,HF4,HF5⟩:=sqJ5 (qV (g:=H+2) (h:=H+3) (u0:=(aA A s.aI.length c)) (u1:= aA B s.aJ.length d) (u2:= aB aC s.aL) (u3:= aB aC s.aK) (x0:= aB aC aN) (x1:=(aA A6 U.length c6)) (x2:= aD ats) hR hHg) (qW (g:=H+2) (h:=H+3) (u0:=(aA A s.aI.length c)) (u1:= aA B s.aJ.length d) (u2:= aB aC s.aL) (u3:= aB aC s.aK) (x0:= aB aC aN) (x1:=(aA A6 U.length c6)) (x2:= aD ats) hQ hHg) (qE (g:=H+2) (h:=H+3) (u0:=(aA A s.aI.length c)) (u1:= aA B s.aJ.length d) (u2:= aB aC s.aL) (u3:= aB aC s.aK) (x0:= aB aC aN) (x1:=(aA A6 U.length c6)) (x2:= aD ats) ho (.inr ⟨wu,wu⟩) (.inr ⟨wu,wu⟩) (ho.nb hR aa aa).1 (ho.nb hR aa aa).2 (ho.nb hQ aa aa).1 (ho.nb hQ aa aa).2) (qS (g:=H+2) (h:=H+3) (u0:=(aA A s.aI.length c)) (u1:= aA B s.aJ.length d) (u2:= aB aC s.aL) (u3:= aB aC s.aK) (x0:= aB aC aN) (x1:=(aA A6 U.length c6)) (x2:= aD ats) hl (zf hl hR aa) (zf hl hQ aa)) (zL (g:=H+2) (h:=H+3) (u0:=(aA A s.aI.length c)) (u1:= aA B s.aJ.length d) (u2:= aB aC s.aL) (u3:= aB aC s.aK) (x0:= aB aC aN) (x1:=(aA A6 U.length c6)) (x2:= aD ats) hB wu wu);obtain⟨f0,f1,f2,f3⟩:=sqF4 hR;obtain⟨y0,y1,y2,y3⟩:=sqC4 hR;obtain⟨e0,e1,e2⟩:=sqF3 hQ;obtain⟨x0,x1,x2⟩:=sqC3 hQ;obtain⟨s0,s1,s2,s3⟩:=sqC4 hS;obtain⟨t0,t1,t2⟩:=sqC3 h8;have n1:¬(H=H+2):=wu;have n2:¬(g8=H+2):=wu;have n3:¬(H=H+3):=wu;clear hR hQ ho hl hB hS h8
  refine wL ?_;intros;go_region
  all_goals (try dsimp only [Exit.then])
  go_wp2_with fail;refine bodyPost_ret (kJ rfl _ _ (H+2) (H+3) _ _ _ _ _ _ _ _ ac (Arr.drew HF1.o) underlying38 rfl ww ac (Arr.drew HF2.o) underlying41 rfl ww) rfl ?_;have e9:=HATS.o;subst e9;rw [HKP.o];exact⟨_,_,rfl,HF3.o.drewX.mono (fun b hb=> .inl hb),zb HF4.o.drew wu,HF5.o.drew⟩
 ·have HKP:=sqH (show zH s ⟨aN,aM,at_⟩ ds=({ s with aI:=q9 s.aI (Kr s.aI ds) },⟨aN,aM,at_⟩) from z3l h3);have g1:((aN:Int)==1)=false:=by rw [h3];rfl
  have g2:((aN:Int)==2)=true:=by rw [h3];rfl
  have x0:=hS.c0;obtain⟨_,_,_,_,e1,e2,hrd⟩:=ho.rows;cases e1;cases e2
  obtain⟨HMA,H8,HHS,HHR,HHQ,HO1,HLL,HBZ⟩:=sqJ8 (z0h A D c nd s.aI ds wz wu hrd.bc hrd.bm HG.o.b.ris (fun b hb=>by have:=(HG.o.b.one b hb).2.1;omega) (fun x hx=>by rw [(HG.o.b.one x hx).1];have:=qQ (zE x.data);omega) hrd.b wu hD) h8 hS hR hQ ho hl hB;have hH2:H<wz.heap.size:=hS.lt;clear hC hD HKP0 h3 hrd ho hl h8 hS hR hQ hB;go_wp2_with fail;clear y0 x0 g1 g2;refine HMA.o.mono ?_;rintro e_ w5 ⟨g5,L5,rfl,hL5,hx5,hb5⟩;dsimp only;obtain rfl:=hL5.uniq (Ji HG.o.b.ris ds);have hS5:=HHS.o.below hb5;have hz0:=hS5.c0;have hf0:=hS5.frozen 0;have ho5:=HO1.o.mixC (fun b hb=>by
   rcases hb with hb | hb
   ·have:=HN.o b hb;omega
   ·omega) hx5 wu hb5
  have hne:=ho5.nb hS5 aa aa;have ho':=ho5.setX (g:=H) (k:=0) (.inr ⟨Nat.le_refl _,wu⟩) hne.1 hne.2 (aA (aG ⟨g5,0,aF⟩) s.aI.length s.aI.length);have hl5:=zc HLL.o hb5;have hl':=zd (k:=0) (u:= aA (aG ⟨g5,0,aF⟩) s.aI.length s.aI.length) hl5 (zf hl5 hS5 aa);have hS':=hS5.set (k:=0) ab (aA (aG ⟨g5,0,aF⟩) s.aI.length s.aI.length);simp only [List.set_cons_zero]at hS';have h8':=(H8.o.below hb5).other (k:=0) (g':=H) wu (aA (aG ⟨g5,0,aF⟩) s.aI.length s.aI.length);have hR':=(HHR.o.below hb5).other (k:=0) (g':=H) wu (aA (aG ⟨g5,0,aF⟩) s.aI.length s.aI.length);have hQ':=(HHQ.o.below hb5).other (k:=0) (g':=H) wu (aA (aG ⟨g5,0,aF⟩) s.aI.length s.aI.length);have hB':=(HBZ.o.trans (hb5.mono (show H<=wz.heap.size by omega))).setCell (p:=⟨H,0,aF⟩) ae (aA (aG ⟨g5,0,aF⟩) s.aI.length s.aI.length);have HX:=sqH (aH ho' (aH hl' (aH hS' (aH hR' (aH hQ' (aH hB' h8'))))));clear ho' hl' hS' hR' hQ' hB' h8' hne ho5 hl5 hb5 hL5 hx5 hS5;generalize q9 s.aI (Kr s.aI ds)=mk at *
  refine wL ?_;intros;clear hz0 hf0;obtain⟨ho,hl,hS,hR,hQ,hB,h8⟩:=HX.o;clear HX;have hHg:H+2≠H+3:=wu;obtain⟨HF1,HF2,HF3,HF4,HF5⟩:=sqJ5 (qV (g:=H+2) (h:=H+3) (u0:=(aA (aG ⟨g5,0,aF⟩) s.aI.length s.aI.length)) (u1:= aA B s.aJ.length d) (u2:= aB aC s.aL) (u3:= aB aC s.aK) (x0:= aB aC aN) (x1:=(aA A5 aM.length c5)) (x2:= aD ats) hR hHg) (qW (g:=H+2) (h:=H+3) (u0:=(aA (aG ⟨g5,0,aF⟩) s.aI.length s.aI.length)) (u1:= aA B s.aJ.length d) (u2:= aB aC s.aL) (u3:= aB aC s.aK) (x0:= aB aC aN) (x1:=(aA A5 aM.length c5)) (x2:= aD ats) hQ hHg) (qE (g:=H+2) (h:=H+3) (u0:=(aA (aG ⟨g5,0,aF⟩) s.aI.length s.aI.length)) (u1:= aA B s.aJ.length d) (u2:= aB aC s.aL) (u3:= aB aC s.aK) (x0:= aB aC aN) (x1:=(aA A5 aM.length c5)) (x2:= aD ats) ho (.inr ⟨wu,wu⟩) (.inr ⟨wu,wu⟩) (ho.nb hR aa aa).1 (ho.nb hR aa aa).2 (ho.nb hQ aa aa).1 (ho.nb hQ aa aa).2) (qS (g:=H+2) (h:=H+3) (u0:=(aA (aG ⟨g5,0,aF⟩) s.aI.length s.aI.length)) (u1:= aA B s.aJ.length d) (u2:= aB aC s.aL) (u3:= aB aC s.aK) (x0:= aB aC aN) (x1:=(aA A5 aM.length c5)) (x2:= aD ats) hl (zf hl hR aa) (zf hl hQ aa)) (zL (g:=H+2) (h:=H+3) (u0:=(aA (aG ⟨g5,0,aF⟩) s.aI.length s.aI.length)) (u1:= aA B s.aJ.length d) (u2:= aB aC s.aL) (u3:= aB aC s.aK) (x0:= aB aC aN) (x1:=(aA A5 aM.length c5)) (x2:= aD ats) hB wu wu);obtain⟨f0,f1,f2,f3⟩:=sqF4 hR;obtain⟨y0,y1,y2,y3⟩:=sqC4 hR;obtain⟨e0,e1,e2⟩:=sqF3 hQ;obtain⟨x0,x1,x2⟩:=sqC3 hQ;obtain⟨s0,s1,s2,s3⟩:=sqC4 hS;obtain⟨t0,t1,t2⟩:=sqC3 h8;have n1:¬(H=H+2):=wu;have n2:¬(g8=H+2):=wu;have n3:¬(H=H+3):=wu;clear hR hQ ho hl hB hS h8
  refine wL ?_;intros;go_region
  all_goals (try dsimp only [Exit.then])
  go_wp2_with fail;refine bodyPost_ret (kJ rfl _ _ (H+2) (H+3) _ _ _ _ _ _ _ _ ac (Arr.drew HF1.o) underlying38 rfl ww ac (Arr.drew HF2.o) underlying41 rfl ww) rfl ?_;have e9:=HATS.o;subst e9;rw [HKP.o];exact⟨_,_,rfl,HF3.o.drewX.mono (fun b hb=> .inl hb),zb HF4.o.drew wu,HF5.o.drew⟩
theorem z0d (A:aj) (c:Nat) (x:List PartP) (w:World) (hx8:x.length<=1000) (hr:Rd w 3 A x.length (pcs x)) :
  Calls Tryz.prog 127 #[aA A x.length c] w fun e w'=>∃v,e= .returned v/\w'.ownsRow w.heap.size 9 1 v (x.map (·.dig)).length (strs (x.map (·.dig)))/\Below w.heap.size w w':=by
 have HR2:=sqH hr;clear hr;go_enter func127,ntmps127;go_wp2_with fail;go_loopg [3,8,5] x.length (fun gn v i u wr=>∃k:Nat,gn=x.length - k/\i= aB aC k/\k<=x.length/\wr.ownsRow w.heap.size 9 1 v k (dcs (x.take k))/\Below w.heap.size w wr)
 case atStart=>exact⟨0,rfl,rfl,wu,World.ownsRow_nil _ _ _ _,Below.refl _ _⟩
 case round =>
  obtain⟨k,hgk,rfl,hk,ho,hbl⟩:=hrel;have HGK:=sqH hgk;clear hgk;by_cases hlt:k<x.length
  ·have hstep:=K9 x k hlt;have hat:=fun j (hj:j<3)=>yu x k j hlt hj;obtain⟨b,off,rfl,hbw',hcell⟩:=(HR2.o.below hbl).2 wu;have c0:=hcell (k*3+0) _ (hat 0 wu);have c1:=hcell (k*3+1) _ (hat 1 wu);have c2:=hcell (k*3+2) _ (hat 2 wu);rw [Nat.add_zero]at c0;rw [show off+(k*3+1)=off+k*3+1 by omega]at c1;rw [show off+(k*3+2)=off+k*3+2 by omega]at c2
   try dsimp only [yn,List.getElem?_cons_zero,List.getElem?_cons_succ]at c0 c1 c2
   generalize (⟨x[k].name.toArray⟩:ByteArray)=s' at *
   generalize (⟨x[k].dig.toArray⟩:ByteArray)=t' at *
   generalize (x[k].size:Int)=z' at *
   have HST:=sqH hstep;have hk0:=we k
   have hk1:(k:Int)<(x.length:Int):=wu;have hcc:decide (k<x.length)=true:=decide_eq_true hlt;clear hstep hat hcell
   refine wL ?_;intros;have hbl':=hbl.alloc hbl.size (.cells #[aD s',aD t',aB aC z'] 85);have ho':=ho.alloc (.cells #[aD s',aD t',aB aC z'] 85);have hs1:(wr.alloc (.cells #[aD s',aD t',aB aC z'] 85)).heap.size=wr.heap.size+1:=World.size_alloc _ _;generalize wr.alloc (.cells #[aD s',aD t',aB aC z'] 85)=wb at *
   rw [<-hs1];clear hs1 ho hbl c0 c1 c2;refine zj rfl (.tmp 12) (.tmp 15) rfl z3e ac ho' (us:= [aD t']) (m:=1) ac rfl (by intro u hu;simp at hu;subst hu;rfl) wu hbl'.size ?_;intro v5 w5 ho5 hg5 hv5;rw [<-HST.o]at ho5;have hbl5:=zh hbl' ho' ag hg5;go_wp2_with fail;go_roundg (x.length - (k+1))
   case measure=>exact wc HGK
   case rel=>exact⟨k+1,rfl,by go_num,wu,ho5,hbl5⟩
  ·obtain rfl:k=x.length:=by omega
   have hcc:decide (x.length<x.length)=false:=ab;rw [List.take_length,vG]at ho;have hml:(x.map (·.dig)).length=x.length:=List.length_map _;have HML:=sqH hml;clear hml;go_wp2_with fail;go_ret;exact⟨_,rfl,by rw [HML.o];exact ho,hbl⟩
end Go.Proofs.YtcjmjaefcjcomaaGreat
