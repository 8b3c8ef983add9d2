/- Lemmas, as stated. -/
import Derived.Test.YtaboknhfiijipaaGreatQT14
set_option linter.unusedVariables false
set_option linter.unusedSimpArgs false
set_option maxRecDepth 100000
set_option maxHeartbeats 4000000
open Go.Proofs.Tryz
open Go.Proofs.Tryz renaming prog->zZZ
open Go.Value renaming slice->ax,int->ay,string->aA
open Go.IntKind renaming i64->az
open Option renaming none->aC
namespace Go.Proofs.YtaboknhfiijipaaGreat
open Go.RowKit
theorem JX (q:Nat) (k:Int) (h:k=0\/k=1\/k=2) (w:World):(Instr.index 271 (.agg #[ay az 0,ay az 0,ay az 0,ay az q]) (ay az k)).run zZZ w= .ok (ay az 0) w:=by
 rcases h with rfl | rfl | rfl<;>kernel_rfl
theorem z30 (q:Nat) (w:World):(Instr.index 271 (.agg #[ay az 0,ay az 0,ay az 0,ay az q]) (ay az 3)).run zZZ w= .ok (ay az q) w:=by kernel_rfl
theorem ZX (A:af) (c:Nat) (B:af) (d:Nat) (s:StoP) (key:ae) (ps:List PartP) (PA:af) (pc q:Nat) (w:World) (hg:GoodS s) (hr:RdSt w A c B d s) (hk:hexC key=0) (hpz:chk ps=0) (hhv:qA s.aF ps=q) (hq:q≠0) (hP:Sl w 3 PA ps.length pc (pcs ps)) :
  Calls zZZ 169 #[.agg #[ax A s.aF.length c,ax B s.aG.length d,ay az s.aI,ay az s.aH],aA ⟨key.toArray⟩,ax PA ps.length pc] w fun e w'=>e= .returned (.tuple #[.agg #[ax aC 0 0,ax aC 0 0,ay az 0,ay az 0],ay az q])/\Below w.heap.size w w':=by
 have hlb:s.aF.length<=24:=hg.b.len;have hq0:((q:Int) != 0)=true:=by rw [bne_iff_ne];omega
 have HHX:=sqH hhv;clear hhv hq;obtain⟨w0,hw0,hS,hR,hb0⟩:=qE w 34 [ax A s.aF.length c,ax B s.aG.length d,ay az s.aI,ay az s.aH] [ax aC 0 0,ax aC 0 0,ay az 0,ay az 0];have hr0:=hr.below hb0;have hP0:=hP.below hb0;obtain⟨H,hH⟩:=wV w.heap.size
 have HCK:=sqH (fun W (h:Below w0.heap.size w0 W)=>zF A c B d s W hg (hr0.below h));have hkl:=qJ hk;have HKX:=sqH (show ∀W,Below w0.heap.size w0 W->Calls zZZ 89 #[aA ⟨key.toArray⟩] W fun e w'=>e= .returned (ay az 0)/\Below W.heap.size W w' from fun W _=>by
  have:=ky ⟨key.toArray⟩ W (by show(key.toArray).size<=_;rw [List.size_toArray];omega);rw [show(⟨key.toArray⟩:ByteArray).data.toList=key from rfl,hk]at this;exact this)
 have HPC:=sqH (show ∀W,Below w0.heap.size w0 W->Calls zZZ 101 #[ax PA ps.length pc] W fun e w'=>e= .returned (ay az 0)/\Below W.heap.size W w' from fun W h=>by
  have:=x8 PA ps.length pc ps W rfl hP0.cap (by have:=(zk hpz).1;omega) (vy hpz) (hP0.below h).rd
  rwa [hpz]at this)
 have hpl8:=(zk hpz).1;obtain⟨HHV,HGX,HPL,HQL⟩:=sqJ4 (fun W (h:Below w0.heap.size w0 W)=>ZR A c s.aF PA pc ps W wm wm (hr0.b.below h) (hP0.below h).rd) hg (show ∀b∈s.aF,b.data.length<=1000000 from fun b hb=>by have:=(hg.b.one b hb).2.1;omega) (show ∀x∈s.aG,x.aM.length<=1000000 from fun x hx=>by have:=(zk (hg.e.one x hx).2.1).1;omega);have HSB:=sqH (show ∀W,Below w0.heap.size w0 W->wD W H (ax A s.aF.length c) (ax B s.aG.length d) (ay az s.aI) (ay az s.aH) from fun W h=>by
  rw [hH];exact sqC4 (hS.below h))
 have HKK:=sqH hk;have HPZ:=sqH hpz;rw [<-hH]at hS hR hb0 ⊢
 have hHl:H<w0.heap.size:=hS.lt;have hHr:H+1<w0.heap.size:=hR.lt;obtain⟨sk,hsk⟩:=wV (⟨key.toArray⟩:ByteArray)
 rw [<-hsk]at HKX ⊢
 have HSK:=sqH hsk;clear hg hr hk hP hpz hsk;go_enter func169,ntmps169;go_wp2_with fail;rw [<-hw0,<-hH];have HH:=sqH hH;clear hw0 hH;rw [HHX.o]at HHV;refine wp_region_held_drew (S:=(fun w'=>wD w' H (ax A s.aF.length c) (ax B s.aG.length d) (ay az s.aI) (ay az s.aH))) wo ?_ (fun hHeld=> ?_)
 ·exact HSB.o _ (Below.refl _ w0).drew
 have hB:=(Below.refl w0.heap.size w0).drew;generalize w0.drew=wn0 at *
 refine wM 0 ?_;refine wM 2 ?_;refine wM 4 ?_;refine wM 6 ?_;refine wM 7 ?_;refine wM 8 ?_;refine wM 11 ?_;refine wQ 1 fun K hK=>?_;go_simp;refine(HCK.o wn0 hB).mono ?_;rintro e5 w5 ⟨rfl,hb5⟩;dsimp only;refine qZ hK ?_ (Below wn0.heap.size wn0) (fun W=>True) ?_ ?_ (fun wn1 hHeld hst hnew=> ?_)
 ·(exact HSB.o _ (wh hB hb5))
 ·(exact hb5)
 ·(trivial)
 have hB:=wh hB hst;clear hst;clear hK K
 try simp only [sqP]
 refine wQ 3 fun K hK=>?_;go_simp;refine(HKX.o wn1 hB).mono ?_;rintro e5 w5 ⟨rfl,hb5⟩;dsimp only;refine qZ hK ?_ (Below wn1.heap.size wn1) (fun W=>True) ?_ ?_ (fun wn2 hHeld hst hnew=> ?_)
 ·(exact HSB.o _ (wh hB hb5))
 ·(exact hb5)
 ·(trivial)
 have hB:=wh hB hst;clear hst;clear hK K
 try simp only [sqP]
 refine wQ 5 fun K hK=>?_;go_simp;refine(HPC.o wn2 hB).mono ?_;rintro e5 w5 ⟨rfl,hb5⟩;dsimp only;refine qZ hK ?_ (Below wn2.heap.size wn2) (fun W=>True) ?_ ?_ (fun wn3 hHeld hst hnew=> ?_)
 ·(exact HSB.o _ (wh hB hb5))
 ·(exact hb5)
 ·(trivial)
 have hB:=wh hB hst;clear hst;clear hK K
 try simp only [sqP]
 refine wQ 9 fun K hK=>?_;go_simp;refine(HHV.o wn3 hB).mono ?_;rintro e5 w5 ⟨rfl,hb5⟩;dsimp only;refine qZ hK ?_ (Below wn3.heap.size wn3) (fun W=>True) ?_ ?_ (fun wn4 hHeld hst hnew=> ?_)
 ·(exact HSB.o _ (wh hB hb5))
 ·(exact hb5)
 ·(trivial)
 have hB:=wh hB hst;clear hst;clear hK K
 refine wM 10 ?_;refine wpAnyH_done wo ?_ _;dsimp only [Exit.then];clear hHeld;generalize wn4=w1 at *
 go_wp2_with fail;go_loopg [25] 4 (fun gn i wr=>∃j:Int,i= ay az j/\(j=0\/j=1\/j=2\/j=3)/\gn=(4 - j).toNat/\wr=w1)
 case atStart=>exact⟨0,rfl,wm,rfl,rfl⟩
 case round =>
  obtain⟨j,rfl,hj,hgn,hwr⟩:=hrel;subst hwr;have ix0:=JX q 0 wm wr;have ix1:=JX q 1 wm wr;have ix2:=JX q 2 wm wr;have ix3:=z30 q wr;rcases hj with rfl | rfl | rfl | rfl
  ·go_wp2_with fail;go_roundg 3
   case measure=>omega
   case rel=>exact⟨1,rfl,wm,rfl,rfl⟩
  ·go_wp2_with fail;go_roundg 2
   case measure=>omega
   case rel=>exact⟨2,rfl,wm,rfl,rfl⟩
  ·go_wp2_with fail;go_roundg 1
   case measure=>omega
   case rel=>exact⟨3,rfl,wm,rfl,rfl⟩
  ·clear hgn;have hR1:=hR.below hB;have hb:=hb0.trans (hB.mono (Nat.le_of_lt hHl));clear hR;have hR:=hR1;clear hR1;obtain⟨f0,f1,f2,f3⟩:=sqF4 hR;obtain⟨y0,y1,y2,y3⟩:=sqC4 hR;have hfin:=hR.all4 (ax aC 0 0) (ax aC 0 0) (ay az 0) (ay az 0);have hbF:=(((hb.setCell (p:=⟨H+1,0,aC⟩) aa (ax aC 0 0)).setCell (p:=⟨H+1,1,aC⟩) aa (ax aC 0 0)).setCell (p:=⟨H+1,2,aC⟩) aa (ay az 0)).setCell (p:=⟨H+1,3,aC⟩) aa (ay az 0);clear hR hb;go_wp2_with fail;refine bodyPost_ret (zJ rfl _ _ (H+1) _ _ _ _ ww hfin underlying34 rfl wo) rfl ?_;exact⟨rfl,hbF⟩
theorem Ki (A:af) (c:Nat) (B:af) (d:Nat) (s:StoP) (key:ae) (up:Bool) (w:World) (hg:GoodS s) (hr:RdSt w A c B d s) (hn:∀b∈s.aF,b.dig≠key) :
  Calls zZZ 148 #[.agg #[ax A s.aF.length c,ax B s.aG.length d,ay az s.aI,ay az s.aH],aA ⟨key.toArray⟩,.bool up] w fun e w'=>e= .returned (.tuple #[.agg #[ax aC 0 0,ax aC 0 0,ay az 0,ay az 0],ay az 5])/\Below w.heap.size w w':=by
 have hlb:s.aF.length<=24:=hg.b.len;have hle:s.aG.length<=10:=hg.e.len;have HFX:=sqH (show s.aF.findIdx? (fun x=>x.dig==key)=aC by rw [List.findIdx?_eq_none_iff];intro x hx;simp [hn x hx]);obtain⟨sk,hsk⟩:=wV (⟨key.toArray⟩:ByteArray)
 rw [<-hsk];have HSK:=sqH hsk;clear hn hsk;obtain⟨w0,hw0,hS,hR,hb0⟩:=qE w 34 [ax A s.aF.length c,ax B s.aG.length d,ay az s.aI,ay az s.aH] [ax aC 0 0,ax aC 0 0,ay az 0,ay az 0];have hr0:=hr.below hb0;obtain⟨H,hH⟩:=wV w.heap.size
 have HCK:=sqH (zF A c B d s w0 hg hr0);rw [<-hH]at hS hR hb0 ⊢
 have hHl:H<w0.heap.size:=hS.lt;have hHr:H+1<w0.heap.size:=hR.lt;obtain⟨x0,x1,x2,x3⟩:=sqC4 hS;rw [hw0,hH]at x0 x1 x2 x3;obtain⟨HPL,HQL,HG⟩:=sqJ3 (show ∀b∈s.aF,b.data.length<=1000000 from fun b hb=>by have:=(hg.b.one b hb).2.1;omega) (show ∀x∈s.aG,x.aM.length<=1000000 from fun x hx=>by have:=(zk (hg.e.one x hx).2.1).1;omega) hg;clear hg hr;go_enter func148,ntmps148;go_wp2_with fail;rw [<-hw0,<-hH];have HH:=sqH hH;clear hw0 hH x0 x1 x2 x3;refine wW HCK.o fun w1 hb1=>?_;dsimp only;have hr1:=hr0.below hb1;have hS1:=hS.below hb1;have y0:=hS1.c0;have HFN:=km A c s.aF key w1 wm hr1.b;rw [HFX.o,xf,<-HSK.o]at HFN;have HFN:=sqH HFN;clear hr0 hS;go_wp2_with fail;clear y0;refine wW HFN.o fun w2 hb2=>?_;dsimp only;have hc2:=wh hb1 hb2;have hb:=hb0.trans (hc2.mono (Nat.le_of_lt hHl));have hR2:=hR.below hc2;clear hR;have hR:=hR2;clear hR2 hr1 hS1 hb1 hb2 hc2;obtain⟨f0,f1,f2,f3⟩:=sqF4 hR;obtain⟨y0,y1,y2,y3⟩:=sqC4 hR;have hfin:=hR.all4 (ax aC 0 0) (ax aC 0 0) (ay az 0) (ay az 0);have hbF:=(((hb.setCell (p:=⟨H+1,0,aC⟩) aa (ax aC 0 0)).setCell (p:=⟨H+1,1,aC⟩) aa (ax aC 0 0)).setCell (p:=⟨H+1,2,aC⟩) aa (ay az 0)).setCell (p:=⟨H+1,3,aC⟩) aa (ay az 0);clear hR hb;go_wp2_with fail;refine bodyPost_ret (zJ rfl _ _ (H+1) _ _ _ _ ww hfin underlying34 rfl wo) rfl ?_;exact⟨rfl,hbF⟩
theorem Kj (A:af) (c:Nat) (B:af) (d:Nat) (s:StoP) (key:ae) (up:Bool) (w:World) (hg:GoodS s) (hr:RdSt w A c B d s) (hn:∀b∈s.aG,b.key≠key) :
  Calls zZZ 118 #[.agg #[ax A s.aF.length c,ax B s.aG.length d,ay az s.aI,ay az s.aH],aA ⟨key.toArray⟩,.bool up] w fun e w'=>e= .returned (.tuple #[.agg #[ax aC 0 0,ax aC 0 0,ay az 0,ay az 0],ay az 5])/\Below w.heap.size w w':=by
 have hlb:s.aF.length<=24:=hg.b.len;have hle:s.aG.length<=10:=hg.e.len;have HFX:=sqH (show s.aG.findIdx? (fun x=>x.key==key)=aC by rw [List.findIdx?_eq_none_iff];intro x hx;simp [hn x hx]);obtain⟨sk,hsk⟩:=wV (⟨key.toArray⟩:ByteArray)
 rw [<-hsk];have HSK:=sqH hsk;clear hn hsk;obtain⟨w0,hw0,hS,hR,hb0⟩:=qE w 34 [ax A s.aF.length c,ax B s.aG.length d,ay az s.aI,ay az s.aH] [ax aC 0 0,ax aC 0 0,ay az 0,ay az 0];have hr0:=hr.below hb0;obtain⟨H,hH⟩:=wV w.heap.size
 have HCK:=sqH (zF A c B d s w0 hg hr0);rw [<-hH]at hS hR hb0 ⊢
 have hHl:H<w0.heap.size:=hS.lt;have hHr:H+1<w0.heap.size:=hR.lt;obtain⟨x0,x1,x2,x3⟩:=sqC4 hS;rw [hw0,hH]at x0 x1 x2 x3;obtain⟨HPL,HQL,HG⟩:=sqJ3 (show ∀b∈s.aF,b.data.length<=1000000 from fun b hb=>by have:=(hg.b.one b hb).2.1;omega) (show ∀x∈s.aG,x.aM.length<=1000000 from fun x hx=>by have:=(zk (hg.e.one x hx).2.1).1;omega) hg;clear hg hr;go_enter func118,ntmps118;go_wp2_with fail;rw [<-hw0,<-hH];have HH:=sqH hH;clear hw0 hH x0 x1 x2 x3;refine wW HCK.o fun w1 hb1=>?_;dsimp only;have hr1:=hr0.below hb1;have hS1:=hS.below hb1;have y0:=hS1.c1;have HFN:=kD B d s.aG key w1 wm hr1.e;rw [HFX.o,xf,<-HSK.o]at HFN;have HFN:=sqH HFN;clear hr0 hS;go_wp2_with fail;clear y0;refine wW HFN.o fun w2 hb2=>?_;dsimp only;have hc2:=wh hb1 hb2;have hb:=hb0.trans (hc2.mono (Nat.le_of_lt hHl));have hR2:=hR.below hc2;clear hR;have hR:=hR2;clear hR2 hr1 hS1 hb1 hb2 hc2;obtain⟨f0,f1,f2,f3⟩:=sqF4 hR;obtain⟨y0,y1,y2,y3⟩:=sqC4 hR;have hfin:=hR.all4 (ax aC 0 0) (ax aC 0 0) (ay az 0) (ay az 0);have hbF:=(((hb.setCell (p:=⟨H+1,0,aC⟩) aa (ax aC 0 0)).setCell (p:=⟨H+1,1,aC⟩) aa (ax aC 0 0)).setCell (p:=⟨H+1,2,aC⟩) aa (ay az 0)).setCell (p:=⟨H+1,3,aC⟩) aa (ay az 0);clear hR hb;go_wp2_with fail;refine bodyPost_ret (zJ rfl _ _ (H+1) _ _ _ _ ww hfin underlying34 rfl wo) rfl ?_;exact⟨rfl,hbF⟩
theorem jF {P:Program} {fn:Func} {p u z:Tmp} {ty:TypeId} (h:fn.results=#[.cell p ty,.tmp u,.tmp z]) (tmps:Array Value) (w:World) (g:Nat) (t:TypeId) (cs:Array Value) (fr:Nat×Nat) (d:TypeDesc)
  (hp:tmps.getD p undef= .pointer (some ⟨g,0,aC⟩)) (hg:w.heap[g]?=some (.cells cs t fr))
  (hu:P.underlying ty=some d) (hd:(match d with | .struct _ | .array _ _=>true | _=>false)=true) (hi:(P.info? ty).map (·.size)=some cs.size) :
  (results fn tmps).run P w= .ok (.tuple #[.agg cs,tmps.getD u undef,tmps.getD z undef]) w:=zA h tmps w g t cs fr d hp hg hu hd hi
theorem Yb (A:af) (c:Nat) (B:af) (d:Nat) (s:StoP) (key:ae) (w:World) (hg:GoodS s) (hr:RdSt w A c B d s) (hn:∀b∈s.aG,b.key≠key) :
  Calls zZZ 117 #[.agg #[ax A s.aF.length c,ax B s.aG.length d,ay az s.aI,ay az s.aH],aA ⟨key.toArray⟩] w fun e w'=>e= .returned (.tuple #[.agg #[ax aC 0 0,ax aC 0 0,ay az 0,ay az 0],ax aC 0 0,ay az 5])/\Below w.heap.size w w':=by
 have hlb:s.aF.length<=24:=hg.b.len;have hle:s.aG.length<=10:=hg.e.len;have HFX:=sqH (show s.aG.findIdx? (fun x=>x.key==key)=aC by rw [List.findIdx?_eq_none_iff];intro x hx;simp [hn x hx]);obtain⟨sk,hsk⟩:=wV (⟨key.toArray⟩:ByteArray)
 rw [<-hsk];have HSK:=sqH hsk;clear hn hsk;obtain⟨w0,hw0,hS,hR,hb0⟩:=qE w 34 [ax A s.aF.length c,ax B s.aG.length d,ay az s.aI,ay az s.aH] [ax aC 0 0,ax aC 0 0,ay az 0,ay az 0];have hr0:=hr.below hb0;obtain⟨H,hH⟩:=wV w.heap.size
 have HCK:=sqH (zF A c B d s w0 hg hr0);rw [<-hH]at hS hR hb0 ⊢
 have hHl:H<w0.heap.size:=hS.lt;have hHr:H+1<w0.heap.size:=hR.lt;obtain⟨x0,x1,x2,x3⟩:=sqC4 hS;rw [hw0,hH]at x0 x1 x2 x3;obtain⟨HPL,HQL,HG⟩:=sqJ3 (show ∀b∈s.aF,b.data.length<=1000000 from fun b hb=>by have:=(hg.b.one b hb).2.1;omega) (show ∀x∈s.aG,x.aM.length<=1000000 from fun x hx=>by have:=(zk (hg.e.one x hx).2.1).1;omega) hg;clear hg hr;go_enter func117,ntmps117;go_wp2_with fail;rw [<-hw0,<-hH];have HH:=sqH hH;clear hw0 hH x0 x1 x2 x3;refine wW HCK.o fun w1 hb1=>?_;dsimp only;have hr1:=hr0.below hb1;have hS1:=hS.below hb1;have y0:=hS1.c1;have HFN:=kD B d s.aG key w1 wm hr1.e;rw [HFX.o,xf,<-HSK.o]at HFN;have HFN:=sqH HFN;clear hr0 hS;go_wp2_with fail;clear y0;refine wW HFN.o fun w2 hb2=>?_;dsimp only;have hc2:=wh hb1 hb2;have hb:=hb0.trans (hc2.mono (Nat.le_of_lt hHl));have hR2:=hR.below hc2;clear hR;have hR:=hR2;clear hR2 hr1 hS1 hb1 hb2 hc2;obtain⟨f0,f1,f2,f3⟩:=sqF4 hR;obtain⟨y0,y1,y2,y3⟩:=sqC4 hR;have hfin:=hR.all4 (ax aC 0 0) (ax aC 0 0) (ay az 0) (ay az 0);have hbF:=(((hb.setCell (p:=⟨H+1,0,aC⟩) aa (ax aC 0 0)).setCell (p:=⟨H+1,1,aC⟩) aa (ax aC 0 0)).setCell (p:=⟨H+1,2,aC⟩) aa (ay az 0)).setCell (p:=⟨H+1,3,aC⟩) aa (ay az 0);clear hR hb;go_wp2_with fail;refine bodyPost_ret (jF rfl _ _ (H+1) _ _ _ _ ww hfin underlying34 rfl wo) rfl ?_;exact⟨rfl,hbF⟩
theorem Jn (n:Nat) (up:Bool) (w:World) (h:if up then n=5 else n=0):Calls zZZ 152 #[ay az n,.bool up] w fun e w'=>e= .returned (.tuple #[ay az 0,ay az (if up then 7 else 11)])/\w'=w:=by
 cases up with
 | true =>
  have h':n=5:=h;subst h';have HC2:=sqH (x9 5 wm wm w);rw [show((5:Nat):Int)=5 from rfl];clear h;go_enter func152,ntmps152;go_wp2_with fail;refine HC2.o.mono ?_;rintro e_ _ ⟨rfl,rfl⟩;dsimp only;go_wp2_with fail;go_ret2;exact⟨rfl,rfl⟩
 | false =>
  have h':n=0:=h;subst h';have HC2:=sqH (x9 0 wm wm w);rw [show((0:Nat):Int)=0 from rfl];clear h;go_enter func152,ntmps152;go_wp2_with fail;refine HC2.o.mono ?_;rintro e_ _ ⟨rfl,rfl⟩;dsimp only;go_wp2_with fail;go_ret2;exact⟨rfl,rfl⟩
def noE (up:Bool):Nat:=if up then 7 else 11
theorem Xs (up:Bool):((noE up:Int) != 0)=true:=by cases up<;>rfl
theorem Qq (n:Nat) (up:Bool) (w:World) (h:if up then n=5 else n=0):Calls zZZ 152 #[ay az n,.bool up] w fun e w'=>e= .returned (.tuple #[ay az 0,ay az (noE up:Int)])/\w'=w :=
 (Jn n up w h).mono fun e w' ⟨h1,h2⟩=>⟨by rw [h1];cases up<;>rfl,h2⟩
theorem Vq (A:af) (c:Nat) (B:af) (d:Nat) (s:StoP) (key:ae) (up:Bool) (i:Nat) (w:World) (hg:GoodS s) (hr:RdSt w A c B d s) (hi:i<s.aF.length) (hk:s.aF[i].dig=key) (hmv:if up then s.aF[i].aN=5 else s.aF[i].aN=0) :
  Calls zZZ 148 #[.agg #[ax A s.aF.length c,ax B s.aG.length d,ay az s.aI,ay az s.aH],aA ⟨key.toArray⟩,.bool up] w fun e w'=>e= .returned (.tuple #[.agg #[ax aC 0 0,ax aC 0 0,ay az 0,ay az 0],ay az (noE up:Int)])/\Below w.heap.size w w':=by
 have hlb:s.aF.length<=24:=hg.b.len;have hle:s.aG.length<=10:=hg.e.len;have HFX:=sqH (z1i hg.b.ris hi hk);obtain⟨p,hp⟩:=wV (s.aF[i].aN)
 rw [<-hp]at hmv;have HPI:=sqH hp.symm;have HMV:=sqH (fun W=>Qq p up W hmv);have hne:=Xs up;generalize noE up=q at *
 obtain⟨sk,hsk⟩:=wV (⟨key.toArray⟩:ByteArray)
 rw [<-hsk];have HSK:=sqH hsk;clear hk hsk hp hmv;obtain⟨w0,hw0,hS,hR,hb0⟩:=qE w 34 [ax A s.aF.length c,ax B s.aG.length d,ay az s.aI,ay az s.aH] [ax aC 0 0,ax aC 0 0,ay az 0,ay az 0];have hr0:=hr.below hb0;obtain⟨H,hH⟩:=wV w.heap.size
 have HCK:=sqH (zF A c B d s w0 hg hr0);rw [<-hH]at hS hR hb0 ⊢
 have hHl:H<w0.heap.size:=hS.lt;have hHr:H+1<w0.heap.size:=hR.lt;obtain⟨x0,x1,x2,x3⟩:=sqC4 hS;rw [hw0,hH]at x0 x1 x2 x3;obtain⟨HPL,HQL,HG⟩:=sqJ3 (show ∀b∈s.aF,b.data.length<=1000000 from fun b hb=>by have:=(hg.b.one b hb).2.1;omega) (show ∀x∈s.aG,x.aM.length<=1000000 from fun x hx=>by have:=(zk (hg.e.one x hx).2.1).1;omega) hg;clear hg hr;go_enter func148,ntmps148;go_wp2_with fail;rw [<-hw0,<-hH];have HH:=sqH hH;clear hw0 hH x0 x1 x2 x3;refine wW HCK.o fun w1 hb1=>?_;dsimp only;have hr1:=hr0.below hb1;have hS1:=hS.below hb1;have y0:=hS1.c0;have HFN:=km A c s.aF key w1 wm hr1.b;rw [HFX.o,xf,<-HSK.o]at HFN;have HFN:=sqH HFN;clear hr0 hS;go_wp2_with fail;clear y0;refine wW HFN.o fun w2 hb2=>?_;dsimp only;have hc2:=wh hb1 hb2;have hr2:=hr1.below hb2;have hS2:=hS1.below hb2;obtain⟨b,off,XB,xc,e1,hbb,d0,d1,d2,d3,_⟩:=hr2.b.blob_at i hi;have hi0:=wY i
 have hi1:(i:Int)<(s.aF.length:Int):=wm;have y0:=hS2.c0;rw [HPI.o]at d2;rw [e1]at y0;clear hr1 hS1 hb1 hb2 d0 d1 d3;go_wp2_with fail;clear y0 d2;refine wW (HMV.o w2) fun wq hwq=>?_;dsimp only;replace hwq:=hwq.symm;subst hwq;have hb:=hb0.trans (hc2.mono (Nat.le_of_lt hHl));have hR2:=hR.below hc2;clear hR;have hR:=hR2;clear hR2 hr2 hS2 hc2 e1;obtain⟨f0,f1,f2,f3⟩:=sqF4 hR;obtain⟨y0,y1,y2,y3⟩:=sqC4 hR;have hfin:=hR.all4 (ax aC 0 0) (ax aC 0 0) (ay az 0) (ay az 0);have hbF:=(((hb.setCell (p:=⟨H+1,0,aC⟩) aa (ax aC 0 0)).setCell (p:=⟨H+1,1,aC⟩) aa (ax aC 0 0)).setCell (p:=⟨H+1,2,aC⟩) aa (ay az 0)).setCell (p:=⟨H+1,3,aC⟩) aa (ay az 0);clear hR hb;go_wp2_with fail;refine bodyPost_ret (zJ rfl _ _ (H+1) _ _ _ _ ww hfin underlying34 rfl wo) rfl ?_;exact⟨rfl,hbF⟩
theorem Vs (A:af) (c:Nat) (B:af) (d:Nat) (s:StoP) (key:ae) (up:Bool) (i:Nat) (w:World) (hg:GoodS s) (hr:RdSt w A c B d s) (hi:i<s.aG.length) (hk:s.aG[i].key=key) (hmv:if up then s.aG[i].aN=5 else s.aG[i].aN=0) :
  Calls zZZ 118 #[.agg #[ax A s.aF.length c,ax B s.aG.length d,ay az s.aI,ay az s.aH],aA ⟨key.toArray⟩,.bool up] w fun e w'=>e= .returned (.tuple #[.agg #[ax aC 0 0,ax aC 0 0,ay az 0,ay az 0],ay az (noE up:Int)])/\Below w.heap.size w w':=by
 have hlb:s.aF.length<=24:=hg.b.len;have hle:s.aG.length<=10:=hg.e.len;have HFX:=sqH (JR hg.e.ris hi hk);obtain⟨p,hp⟩:=wV (s.aG[i].aN)
 rw [<-hp]at hmv;have HPI:=sqH hp.symm;have HMV:=sqH (fun W=>Qq p up W hmv);have hne:=Xs up;generalize noE up=q at *
 obtain⟨sk,hsk⟩:=wV (⟨key.toArray⟩:ByteArray)
 rw [<-hsk];have HSK:=sqH hsk;clear hk hsk hp hmv;obtain⟨w0,hw0,hS,hR,hb0⟩:=qE w 34 [ax A s.aF.length c,ax B s.aG.length d,ay az s.aI,ay az s.aH] [ax aC 0 0,ax aC 0 0,ay az 0,ay az 0];have hr0:=hr.below hb0;obtain⟨H,hH⟩:=wV w.heap.size
 have HCK:=sqH (zF A c B d s w0 hg hr0);rw [<-hH]at hS hR hb0 ⊢
 have hHl:H<w0.heap.size:=hS.lt;have hHr:H+1<w0.heap.size:=hR.lt;obtain⟨x0,x1,x2,x3⟩:=sqC4 hS;rw [hw0,hH]at x0 x1 x2 x3;obtain⟨HPL,HQL,HG⟩:=sqJ3 (show ∀b∈s.aF,b.data.length<=1000000 from fun b hb=>by have:=(hg.b.one b hb).2.1;omega) (show ∀x∈s.aG,x.aM.length<=1000000 from fun x hx=>by have:=(zk (hg.e.one x hx).2.1).1;omega) hg;clear hg hr;go_enter func118,ntmps118;go_wp2_with fail;rw [<-hw0,<-hH];have HH:=sqH hH;clear hw0 hH x0 x1 x2 x3;refine wW HCK.o fun w1 hb1=>?_;dsimp only;have hr1:=hr0.below hb1;have hS1:=hS.below hb1;have y0:=hS1.c1;have HFN:=kD B d s.aG key w1 wm hr1.e;rw [HFX.o,xf,<-HSK.o]at HFN;have HFN:=sqH HFN;clear hr0 hS;go_wp2_with fail;clear y0;refine wW HFN.o fun w2 hb2=>?_;dsimp only;have hc2:=wh hb1 hb2;have hr2:=hr1.below hb2;have hS2:=hS1.below hb2;obtain⟨b,off,XB,xc,e1,hbb,d0,d1,d2,d3,_⟩:=hr2.e.ent_at i hi;have hi0:=wY i
 have hi1:(i:Int)<(s.aG.length:Int):=wm;have y0:=hS2.c1;rw [HPI.o]at d2;rw [e1]at y0;clear hr1 hS1 hb1 hb2 d0 d1 d3;go_wp2_with fail;clear y0 d2;refine wW (HMV.o w2) fun wq hwq=>?_;dsimp only;replace hwq:=hwq.symm;subst hwq;have hb:=hb0.trans (hc2.mono (Nat.le_of_lt hHl));have hR2:=hR.below hc2;clear hR;have hR:=hR2;clear hR2 hr2 hS2 hc2 e1;obtain⟨f0,f1,f2,f3⟩:=sqF4 hR;obtain⟨y0,y1,y2,y3⟩:=sqC4 hR;have hfin:=hR.all4 (ax aC 0 0) (ax aC 0 0) (ay az 0) (ay az 0);have hbF:=(((hb.setCell (p:=⟨H+1,0,aC⟩) aa (ax aC 0 0)).setCell (p:=⟨H+1,1,aC⟩) aa (ax aC 0 0)).setCell (p:=⟨H+1,2,aC⟩) aa (ay az 0)).setCell (p:=⟨H+1,3,aC⟩) aa (ay az 0);clear hR hb;go_wp2_with fail;refine bodyPost_ret (zJ rfl _ _ (H+1) _ _ _ _ ww hfin underlying34 rfl wo) rfl ?_;exact⟨rfl,hbF⟩
structure Fits (s:StoP) (D:ae):Prop where
 g:GoodS s
 d:D.length<=300
 l:s.aF.length<24\/(s.aF.findIdx? (fun b=>b.dig==shaS D)).isSome=true
 u:usd (putB s.aF D)<=s.aI
theorem Fits.good {s:StoP} {D:ae} (h:Fits s D):GoodS (zI s D):=by
 rcases h.l with h1 | h1
 ·exact KI h.g h.d h1 h.u
 ·obtain⟨i,hi⟩:=Option.isSome_iff_exists.1 h1;have:zI s D=s:=by unfold zI putB;rw [hi]
  rw [this];exact h.g
theorem ZW (A:af) (c:Nat) (B:af) (d:Nat) (s:StoP) (D:ae) (DA:af) (dc:Nat) (w:World) (hf:Fits s D) (hr:RdSt w A c B d s) (hD:Sl w 1 DA D.length dc (bys D)) :
  Calls zZZ 146 #[.agg #[ax A s.aF.length c,ax B s.aG.length d,ay az s.aI,ay az s.aH],ax DA D.length dc] w fun e w' =>
   ∃A' c' B' d',e= .returned (.tuple #[.agg #[ax A' (zI s D).aF.length c',ax B' (zI s D).aG.length d',ay az s.aI,ay az s.aH],aA ⟨(shaS D).toArray⟩,ay az 0])/\OwSt w' w.heap.size (ax A' (zI s D).aF.length c') (ax B' (zI s D).aG.length d') (zI s D) (fun b=>b<w.heap.size)/\Below w.heap.size w w' :=
 (Kp A c B d s D DA dc w hf.g hr hf.d hf.l hf.u hD).mono fun e w' ⟨v1,v2,h1,h2,h3⟩=>by
  obtain⟨A',c',B',d',e1,e2,_⟩:=h2.rows
  subst e1 e2
  exact⟨A',c',B',d',h1,h2,h3⟩
theorem VA (A:af) (c:Nat) (B:af) (d:Nat) (s x:StoP) (key:ae) (ps:List PartP) (PA:af) (pc:Nat) (w:World) (hg:GoodS s) (hr:RdSt w A c B d s) (hk:hexC key=0) (hpz:chk ps=0) (hhv:qA s.aF ps=0) (hclk:s.aH<1099511627776) (hlen:s.aG.length<10) (hP:Sl w 3 PA ps.length pc (pcs ps)) (hx:x=xo s key ps) :
  Calls zZZ 169 #[.agg #[ax A s.aF.length c,ax B s.aG.length d,ay az s.aI,ay az s.aH],aA ⟨key.toArray⟩,ax PA ps.length pc] w fun e w' =>
   ∃A' c' B' d',e= .returned (.tuple #[.agg #[ax A' x.aF.length c',ax B' x.aG.length d',ay az x.aI,ay az x.aH],ay az 0])/\OwSt w' w.heap.size (ax A' x.aF.length c') (ax B' x.aG.length d') x (fun b=>b<w.heap.size)/\Below w.heap.size w w':=by
 subst hx;refine(Jr A c B d s key ps PA pc w hg hr hk hpz hhv hclk hlen hP).mono fun e w' ⟨v1,v2,h1,h2,h3⟩=> ?_;obtain⟨A',c',B',d',e1,e2,_⟩:=h2.rows;subst e1 e2;exact⟨A',c',B',d',h1,h2,h3⟩
theorem Vo (A:af) (c:Nat) (B:af) (d:Nat) (s y:StoP) (key:ae) (ps:List PartP) (i:Nat) (w:World) (hg:GoodS s) (hr:RdSt w A c B d s) (hi:i<s.aG.length) (hk:s.aG[i].key=key) (hps:s.aG[i].aM=ps) (hclk:s.aH<1099511627776) (hy:y=kr s i s.aG[i]) :
  Calls zZZ 117 #[.agg #[ax A s.aF.length c,ax B s.aG.length d,ay az s.aI,ay az s.aH],aA ⟨key.toArray⟩] w fun e w' =>
   ∃A' c' B' d' A5 c5,e= .returned (.tuple #[.agg #[ax A' y.aF.length c',ax B' y.aG.length d',ay az y.aI,ay az y.aH],ax A5 ps.length c5,ay az 0])/\OwSt w' w.heap.size (ax A' y.aF.length c') (ax B' y.aG.length d') y (fun b=>b<w.heap.size)/\w'.ownsRow w.heap.size 85 3 (ax A5 ps.length c5) ps.length (pcs ps)/\Below w.heap.size w w':=by
 subst hy;subst hps;refine(Yc A c B d s key i w hg hr hi hk hclk).mono fun e w' ⟨v1,v2,v3,h1,h2,h4,h3⟩=> ?_;obtain⟨A',c',B',d',e1,e2,_⟩:=h2.rows;obtain⟨A5,c5,e5,_,_⟩:=vI h4;subst e1 e2 e5;exact⟨A',c',B',d',A5,c5,h1,h2,h4,h3⟩
end Go.Proofs.YtaboknhfiijipaaGreat
