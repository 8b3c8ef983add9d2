/- Lemmas, as stated. -/
import Derived.Test.YtcjndgldjhmbgaaGreatQE19
set_option linter.unusedVariables false
set_option linter.unusedSimpArgs false
set_option maxRecDepth 100000
set_option maxHeartbeats 4000000
open Go.Proofs.Tryz
open Go.Proofs.Tryz renaming prog->zZZ
open Go.Value renaming slice->aw,int->ax,string->az
open Go.IntKind renaming i64->ay
open Option renaming none->aB
namespace Go.Proofs.YtcjndgldjhmbgaaGreat
open Go.RowKit
theorem z15 (q:Nat) (k:Int) (h:k=0\/k=1\/k=2) (w:World):(Instr.index 276 (.agg #[ax ay 0,ax ay 0,ax ay 0,ax ay q]) (ax ay k)).run zZZ w= .ok (ax ay 0) w:=by
 rcases h with rfl | rfl | rfl<;>kernel_rfl
theorem z4a (q:Nat) (w:World):(Instr.index 276 (.agg #[ax ay 0,ax ay 0,ax ay 0,ax ay q]) (ax ay 3)).run zZZ w= .ok (ax ay q) w:=by kernel_rfl
theorem Qk (A:ae) (c:Nat) (B:ae) (d:Nat) (s:StoP) (key:ac) (ps:List PartP) (PA:ae) (pc q:Nat) (w:World) (hg:GoodS s) (hr:RdSt w A c B d s) (hk:hexC key=0) (hpz:chk ps=0) (hhv:qQ s.aE ps=q) (hq:q≠0) (hP:Sl w 3 PA ps.length pc (pcs ps)) :
  Calls zZZ 180 #[.agg #[aw A s.aE.length c,aw B s.aF.length d,ax ay s.aH,ax ay s.aG],az ⟨key.toArray⟩,aw PA ps.length pc] w fun e w'=>e= .returned (.tuple #[.agg #[aw aB 0 0,aw aB 0 0,ax ay 0,ax ay 0],ax ay q])/\Below w.heap.size w w':=by
 have hlb:s.aE.length<=24:=hg.b.len;have hq0:((q:Int) != 0)=true:=by rw [bne_iff_ne];omega
 have HHX:=sqH hhv;clear hhv hq;obtain⟨w0,hw0,hS,hR,hb0⟩:=zT w 27 [aw A s.aE.length c,aw B s.aF.length d,ax ay s.aH,ax ay s.aG] [aw aB 0 0,aw aB 0 0,ax ay 0,ax ay 0];have hr0:=hr.below hb0;have hP0:=hP.below hb0;obtain⟨H,hH⟩:=wU w.heap.size
 have HCK:=sqH (fun W (h:Below w0.heap.size w0 W)=>zF A c B d s W hg (hr0.below h));have hkl:=qK hk;have HKX:=sqH (show ∀W,Below w0.heap.size w0 W->Calls zZZ 90 #[az ⟨key.toArray⟩] W fun e w'=>e= .returned (ax ay 0)/\Below W.heap.size W w' from fun W _=>by
  have:=kC ⟨key.toArray⟩ W (by show(key.toArray).size<=_;rw [List.size_toArray];omega);rw [show(⟨key.toArray⟩:ByteArray).data.toList=key from rfl,hk]at this;exact this)
 have HPC:=sqH (show ∀W,Below w0.heap.size w0 W->Calls zZZ 113 #[aw PA ps.length pc] W fun e w'=>e= .returned (ax ay 0)/\Below W.heap.size W w' from fun W h=>by
  have:=xd PA ps.length pc ps W rfl hP0.cap (by have:=(zk hpz).1;omega) (vJ hpz) (hP0.below h).rd
  rwa [hpz]at this)
 have hpl8:=(zk hpz).1;obtain⟨HHV,HGX,HPL,HQL⟩:=sqJ4 (fun W (h:Below w0.heap.size w0 W)=>Qe A c s.aE PA pc ps W wj wj (hr0.b.below h) (hP0.below h).rd) hg (show ∀b∈s.aE,b.data.length<=1000000 from fun b hb=>by have:=(hg.b.one b hb).2.1;omega) (show ∀x∈s.aF,x.parts.length<=1000000 from fun x hx=>by have:=(zk (hg.e.one x hx).2.1).1;omega);have HSB:=sqH (show ∀W,Below w0.heap.size w0 W->wD W H (aw A s.aE.length c) (aw B s.aF.length d) (ax ay s.aH) (ax ay s.aG) from fun W h=>by
  rw [hH];exact sqC4 (hS.below h))
 have HKK:=sqH hk;have HPZ:=sqH hpz;rw [<-hH]at hS hR hb0 ⊢
 have hHl:H<w0.heap.size:=hS.lt;have hHr:H+1<w0.heap.size:=hR.lt;obtain⟨sk,hsk⟩:=wU (⟨key.toArray⟩:ByteArray)
 rw [<-hsk]at HKX ⊢
 have HSK:=sqH hsk;clear hg hr hk hP hpz hsk;go_enter func180,ntmps180;go_wp2_with fail;rw [<-hw0,<-hH];have HH:=sqH hH;clear hw0 hH;rw [HHX.o]at HHV;refine wp_region_held_drew (S:=(fun w'=>wD w' H (aw A s.aE.length c) (aw B s.aF.length d) (ax ay s.aH) (ax ay s.aG))) wm ?_ (fun hHeld=> ?_)
 ·exact HSB.o _ (Below.refl _ w0).drew
 have hB:=(Below.refl w0.heap.size w0).drew;generalize w0.drew=wn0 at *
 refine wM 0 ?_;refine wM 2 ?_;refine wM 4 ?_;refine wM 6 ?_;refine wM 7 ?_;refine wM 8 ?_;refine wM 11 ?_;refine wQ 1 fun K hK=>?_;go_simp;refine(HCK.o wn0 hB).mono ?_;rintro e5 w5 ⟨rfl,hb5⟩;dsimp only;refine k8 hK ?_ (Below wn0.heap.size wn0) (fun W=>True) ?_ ?_ (fun wn1 hHeld hst hnew=> ?_)
 ·(exact HSB.o _ (wg hB hb5))
 ·(exact hb5)
 ·(trivial)
 have hB:=wg hB hst;clear hst;clear hK K
 try simp only [sqP]
 refine wQ 3 fun K hK=>?_;go_simp;refine(HKX.o wn1 hB).mono ?_;rintro e5 w5 ⟨rfl,hb5⟩;dsimp only;refine k8 hK ?_ (Below wn1.heap.size wn1) (fun W=>True) ?_ ?_ (fun wn2 hHeld hst hnew=> ?_)
 ·(exact HSB.o _ (wg hB hb5))
 ·(exact hb5)
 ·(trivial)
 have hB:=wg hB hst;clear hst;clear hK K
 try simp only [sqP]
 refine wQ 5 fun K hK=>?_;go_simp;refine(HPC.o wn2 hB).mono ?_;rintro e5 w5 ⟨rfl,hb5⟩;dsimp only;refine k8 hK ?_ (Below wn2.heap.size wn2) (fun W=>True) ?_ ?_ (fun wn3 hHeld hst hnew=> ?_)
 ·(exact HSB.o _ (wg hB hb5))
 ·(exact hb5)
 ·(trivial)
 have hB:=wg hB hst;clear hst;clear hK K
 try simp only [sqP]
 refine wQ 9 fun K hK=>?_;go_simp;refine(HHV.o wn3 hB).mono ?_;rintro e5 w5 ⟨rfl,hb5⟩;dsimp only;refine k8 hK ?_ (Below wn3.heap.size wn3) (fun W=>True) ?_ ?_ (fun wn4 hHeld hst hnew=> ?_)
 ·(exact HSB.o _ (wg hB hb5))
 ·(exact hb5)
 ·(trivial)
 have hB:=wg hB hst;clear hst;clear hK K
 refine wM 10 ?_;refine wpAnyH_done wm ?_ _;dsimp only [Exit.then];clear hHeld;generalize wn4=w1 at *
 go_wp2_with fail;go_loopg [25] 4 (fun gn i wr=>∃j:Int,i= ax ay j/\(j=0\/j=1\/j=2\/j=3)/\gn=(4 - j).toNat/\wr=w1)
 case atStart=>exact⟨0,rfl,wj,rfl,rfl⟩
 case round =>
  obtain⟨j,rfl,hj,hgn,hwr⟩:=hrel;subst hwr;have ix0:=z15 q 0 wj wr;have ix1:=z15 q 1 wj wr;have ix2:=z15 q 2 wj wr;have ix3:=z4a q wr;rcases hj with rfl | rfl | rfl | rfl
  ·go_wp2_with fail;go_roundg 3
   case measure=>omega
   case rel=>exact⟨1,rfl,wj,rfl,rfl⟩
  ·go_wp2_with fail;go_roundg 2
   case measure=>omega
   case rel=>exact⟨2,rfl,wj,rfl,rfl⟩
  ·go_wp2_with fail;go_roundg 1
   case measure=>omega
   case rel=>exact⟨3,rfl,wj,rfl,rfl⟩
  ·clear hgn;have hR1:=hR.below hB;have hb:=hb0.trans (hB.mono (Nat.le_of_lt hHl));clear hR;have hR:=hR1;clear hR1;obtain⟨f0,f1,f2,f3⟩:=sqF4 hR;obtain⟨y0,y1,y2,y3⟩:=sqC4 hR;have hfin:=hR.all4 (aw aB 0 0) (aw aB 0 0) (ax ay 0) (ax ay 0);have hbF:=(((hb.setCell (p:=⟨H+1,0,aB⟩) ww (aw aB 0 0)).setCell (p:=⟨H+1,1,aB⟩) ww (aw aB 0 0)).setCell (p:=⟨H+1,2,aB⟩) ww (ax ay 0)).setCell (p:=⟨H+1,3,aB⟩) ww (ax ay 0);clear hR hb;go_wp2_with fail;refine bodyPost_ret (zI rfl _ _ (H+1) _ _ _ _ wu hfin underlying27 rfl wm) rfl ?_;exact⟨rfl,hbF⟩
theorem KM (A:ae) (c:Nat) (B:ae) (d:Nat) (s:StoP) (key:ac) (up:Bool) (w:World) (hg:GoodS s) (hr:RdSt w A c B d s) (hn:∀b∈s.aE,b.dig≠key) :
  Calls zZZ 160 #[.agg #[aw A s.aE.length c,aw B s.aF.length d,ax ay s.aH,ax ay s.aG],az ⟨key.toArray⟩,.bool up] w fun e w'=>e= .returned (.tuple #[.agg #[aw aB 0 0,aw aB 0 0,ax ay 0,ax ay 0],ax ay 5])/\Below w.heap.size w w':=by
 have hlb:s.aE.length<=24:=hg.b.len;have hle:s.aF.length<=10:=hg.e.len;have HFX:=sqH (show s.aE.findIdx? (fun x=>x.dig==key)=aB by rw [List.findIdx?_eq_none_iff];intro x hx;simp [hn x hx]);obtain⟨sk,hsk⟩:=wU (⟨key.toArray⟩:ByteArray)
 rw [<-hsk];have HSK:=sqH hsk;clear hn hsk;obtain⟨w0,hw0,hS,hR,hb0⟩:=zT w 27 [aw A s.aE.length c,aw B s.aF.length d,ax ay s.aH,ax ay s.aG] [aw aB 0 0,aw aB 0 0,ax ay 0,ax ay 0];have hr0:=hr.below hb0;obtain⟨H,hH⟩:=wU w.heap.size
 have HCK:=sqH (zF A c B d s w0 hg hr0);rw [<-hH]at hS hR hb0 ⊢
 have hHl:H<w0.heap.size:=hS.lt;have hHr:H+1<w0.heap.size:=hR.lt;obtain⟨x0,x1,x2,x3⟩:=sqC4 hS;rw [hw0,hH]at x0 x1 x2 x3;obtain⟨HPL,HQL,HG⟩:=sqJ3 (show ∀b∈s.aE,b.data.length<=1000000 from fun b hb=>by have:=(hg.b.one b hb).2.1;omega) (show ∀x∈s.aF,x.parts.length<=1000000 from fun x hx=>by have:=(zk (hg.e.one x hx).2.1).1;omega) hg;clear hg hr;go_enter func160,ntmps160;go_wp2_with fail;rw [<-hw0,<-hH];have HH:=sqH hH;clear hw0 hH x0 x1 x2 x3;refine wV HCK.o fun w1 hb1=>?_;dsimp only;have hr1:=hr0.below hb1;have hS1:=hS.below hb1;have y0:=hS1.c0;have HFN:=kr A c s.aE key w1 wj hr1.b;rw [HFX.o,xn,<-HSK.o]at HFN;have HFN:=sqH HFN;clear hr0 hS;go_wp2_with fail;clear y0;refine wV HFN.o fun w2 hb2=>?_;dsimp only;have hc2:=wg hb1 hb2;have hb:=hb0.trans (hc2.mono (Nat.le_of_lt hHl));have hR2:=hR.below hc2;clear hR;have hR:=hR2;clear hR2 hr1 hS1 hb1 hb2 hc2;obtain⟨f0,f1,f2,f3⟩:=sqF4 hR;obtain⟨y0,y1,y2,y3⟩:=sqC4 hR;have hfin:=hR.all4 (aw aB 0 0) (aw aB 0 0) (ax ay 0) (ax ay 0);have hbF:=(((hb.setCell (p:=⟨H+1,0,aB⟩) ww (aw aB 0 0)).setCell (p:=⟨H+1,1,aB⟩) ww (aw aB 0 0)).setCell (p:=⟨H+1,2,aB⟩) ww (ax ay 0)).setCell (p:=⟨H+1,3,aB⟩) ww (ax ay 0);clear hR hb;go_wp2_with fail;refine bodyPost_ret (zI rfl _ _ (H+1) _ _ _ _ wu hfin underlying27 rfl wm) rfl ?_;exact⟨rfl,hbF⟩
theorem KN (A:ae) (c:Nat) (B:ae) (d:Nat) (s:StoP) (key:ac) (up:Bool) (w:World) (hg:GoodS s) (hr:RdSt w A c B d s) (hn:∀b∈s.aF,b.key≠key) :
  Calls zZZ 129 #[.agg #[aw A s.aE.length c,aw B s.aF.length d,ax ay s.aH,ax ay s.aG],az ⟨key.toArray⟩,.bool up] w fun e w'=>e= .returned (.tuple #[.agg #[aw aB 0 0,aw aB 0 0,ax ay 0,ax ay 0],ax ay 5])/\Below w.heap.size w w':=by
 have hlb:s.aE.length<=24:=hg.b.len;have hle:s.aF.length<=10:=hg.e.len;have HFX:=sqH (show s.aF.findIdx? (fun x=>x.key==key)=aB by rw [List.findIdx?_eq_none_iff];intro x hx;simp [hn x hx]);obtain⟨sk,hsk⟩:=wU (⟨key.toArray⟩:ByteArray)
 rw [<-hsk];have HSK:=sqH hsk;clear hn hsk;obtain⟨w0,hw0,hS,hR,hb0⟩:=zT w 27 [aw A s.aE.length c,aw B s.aF.length d,ax ay s.aH,ax ay s.aG] [aw aB 0 0,aw aB 0 0,ax ay 0,ax ay 0];have hr0:=hr.below hb0;obtain⟨H,hH⟩:=wU w.heap.size
 have HCK:=sqH (zF A c B d s w0 hg hr0);rw [<-hH]at hS hR hb0 ⊢
 have hHl:H<w0.heap.size:=hS.lt;have hHr:H+1<w0.heap.size:=hR.lt;obtain⟨x0,x1,x2,x3⟩:=sqC4 hS;rw [hw0,hH]at x0 x1 x2 x3;obtain⟨HPL,HQL,HG⟩:=sqJ3 (show ∀b∈s.aE,b.data.length<=1000000 from fun b hb=>by have:=(hg.b.one b hb).2.1;omega) (show ∀x∈s.aF,x.parts.length<=1000000 from fun x hx=>by have:=(zk (hg.e.one x hx).2.1).1;omega) hg;clear hg hr;go_enter func129,ntmps129;go_wp2_with fail;rw [<-hw0,<-hH];have HH:=sqH hH;clear hw0 hH x0 x1 x2 x3;refine wV HCK.o fun w1 hb1=>?_;dsimp only;have hr1:=hr0.below hb1;have hS1:=hS.below hb1;have y0:=hS1.c1;have HFN:=kG B d s.aF key w1 wj hr1.e;rw [HFX.o,xn,<-HSK.o]at HFN;have HFN:=sqH HFN;clear hr0 hS;go_wp2_with fail;clear y0;refine wV HFN.o fun w2 hb2=>?_;dsimp only;have hc2:=wg hb1 hb2;have hb:=hb0.trans (hc2.mono (Nat.le_of_lt hHl));have hR2:=hR.below hc2;clear hR;have hR:=hR2;clear hR2 hr1 hS1 hb1 hb2 hc2;obtain⟨f0,f1,f2,f3⟩:=sqF4 hR;obtain⟨y0,y1,y2,y3⟩:=sqC4 hR;have hfin:=hR.all4 (aw aB 0 0) (aw aB 0 0) (ax ay 0) (ax ay 0);have hbF:=(((hb.setCell (p:=⟨H+1,0,aB⟩) ww (aw aB 0 0)).setCell (p:=⟨H+1,1,aB⟩) ww (aw aB 0 0)).setCell (p:=⟨H+1,2,aB⟩) ww (ax ay 0)).setCell (p:=⟨H+1,3,aB⟩) ww (ax ay 0);clear hR hb;go_wp2_with fail;refine bodyPost_ret (zI rfl _ _ (H+1) _ _ _ _ wu hfin underlying27 rfl wm) rfl ?_;exact⟨rfl,hbF⟩
theorem Z2 {P:Program} {fn:Func} {p u z:Tmp} {ty:TypeId} (h:fn.results=#[.cell p ty,.tmp u,.tmp z]) (tmps:Array Value) (w:World) (g:Nat) (t:TypeId) (cs:Array Value) (fr:Nat×Nat) (d:TypeDesc)
  (hp:tmps.getD p undef= .pointer (some ⟨g,0,aB⟩)) (hg:w.heap[g]?=some (.cells cs t fr))
  (hu:P.underlying ty=some d) (hd:(match d with | .struct _ | .array _ _=>true | _=>false)=true) (hi:(P.info? ty).map (·.size)=some cs.size) :
  (results fn tmps).run P w= .ok (.tuple #[.agg cs,tmps.getD u undef,tmps.getD z undef]) w:=zz h tmps w g t cs fr d hp hg hu hd hi
theorem YH (A:ae) (c:Nat) (B:ae) (d:Nat) (s:StoP) (key:ac) (w:World) (hg:GoodS s) (hr:RdSt w A c B d s) (hn:∀b∈s.aF,b.key≠key) :
  Calls zZZ 128 #[.agg #[aw A s.aE.length c,aw B s.aF.length d,ax ay s.aH,ax ay s.aG],az ⟨key.toArray⟩] w fun e w'=>e= .returned (.tuple #[.agg #[aw aB 0 0,aw aB 0 0,ax ay 0,ax ay 0],aw aB 0 0,ax ay 5])/\Below w.heap.size w w':=by
 have hlb:s.aE.length<=24:=hg.b.len;have hle:s.aF.length<=10:=hg.e.len;have HFX:=sqH (show s.aF.findIdx? (fun x=>x.key==key)=aB by rw [List.findIdx?_eq_none_iff];intro x hx;simp [hn x hx]);obtain⟨sk,hsk⟩:=wU (⟨key.toArray⟩:ByteArray)
 rw [<-hsk];have HSK:=sqH hsk;clear hn hsk;obtain⟨w0,hw0,hS,hR,hb0⟩:=zT w 27 [aw A s.aE.length c,aw B s.aF.length d,ax ay s.aH,ax ay s.aG] [aw aB 0 0,aw aB 0 0,ax ay 0,ax ay 0];have hr0:=hr.below hb0;obtain⟨H,hH⟩:=wU w.heap.size
 have HCK:=sqH (zF A c B d s w0 hg hr0);rw [<-hH]at hS hR hb0 ⊢
 have hHl:H<w0.heap.size:=hS.lt;have hHr:H+1<w0.heap.size:=hR.lt;obtain⟨x0,x1,x2,x3⟩:=sqC4 hS;rw [hw0,hH]at x0 x1 x2 x3;obtain⟨HPL,HQL,HG⟩:=sqJ3 (show ∀b∈s.aE,b.data.length<=1000000 from fun b hb=>by have:=(hg.b.one b hb).2.1;omega) (show ∀x∈s.aF,x.parts.length<=1000000 from fun x hx=>by have:=(zk (hg.e.one x hx).2.1).1;omega) hg;clear hg hr;go_enter func128,ntmps128;go_wp2_with fail;rw [<-hw0,<-hH];have HH:=sqH hH;clear hw0 hH x0 x1 x2 x3;refine wV HCK.o fun w1 hb1=>?_;dsimp only;have hr1:=hr0.below hb1;have hS1:=hS.below hb1;have y0:=hS1.c1;have HFN:=kG B d s.aF key w1 wj hr1.e;rw [HFX.o,xn,<-HSK.o]at HFN;have HFN:=sqH HFN;clear hr0 hS;go_wp2_with fail;clear y0;refine wV HFN.o fun w2 hb2=>?_;dsimp only;have hc2:=wg hb1 hb2;have hb:=hb0.trans (hc2.mono (Nat.le_of_lt hHl));have hR2:=hR.below hc2;clear hR;have hR:=hR2;clear hR2 hr1 hS1 hb1 hb2 hc2;obtain⟨f0,f1,f2,f3⟩:=sqF4 hR;obtain⟨y0,y1,y2,y3⟩:=sqC4 hR;have hfin:=hR.all4 (aw aB 0 0) (aw aB 0 0) (ax ay 0) (ax ay 0);have hbF:=(((hb.setCell (p:=⟨H+1,0,aB⟩) ww (aw aB 0 0)).setCell (p:=⟨H+1,1,aB⟩) ww (aw aB 0 0)).setCell (p:=⟨H+1,2,aB⟩) ww (ax ay 0)).setCell (p:=⟨H+1,3,aB⟩) ww (ax ay 0);clear hR hb;go_wp2_with fail;refine bodyPost_ret (Z2 rfl _ _ (H+1) _ _ _ _ wu hfin underlying27 rfl wm) rfl ?_;exact⟨rfl,hbF⟩
theorem z03 (n:Nat) (up:Bool) (w:World) (h:if up then n=5 else n=0):Calls zZZ 164 #[ax ay n,.bool up] w fun e w'=>e= .returned (.tuple #[ax ay 0,ax ay (if up then 7 else 11)])/\w'=w:=by
 cases up with
 | true =>
  have h':n=5:=h;subst h';have HC2:=sqH (xf 5 wj wj w);rw [show((5:Nat):Int)=5 from rfl];clear h;go_enter func164,ntmps164;go_wp2_with fail;refine HC2.o.mono ?_;rintro e_ _ ⟨rfl,rfl⟩;dsimp only;go_wp2_with fail;go_ret2;exact⟨rfl,rfl⟩
 | false =>
  have h':n=0:=h;subst h';have HC2:=sqH (xf 0 wj wj w);rw [show((0:Nat):Int)=0 from rfl];clear h;go_enter func164,ntmps164;go_wp2_with fail;refine HC2.o.mono ?_;rintro e_ _ ⟨rfl,rfl⟩;dsimp only;go_wp2_with fail;go_ret2;exact⟨rfl,rfl⟩
def noE (up:Bool):Nat:=if up then 7 else 11
theorem XZ (up:Bool):((noE up:Int) != 0)=true:=by cases up<;>rfl
theorem QT (n:Nat) (up:Bool) (w:World) (h:if up then n=5 else n=0):Calls zZZ 164 #[ax ay n,.bool up] w fun e w'=>e= .returned (.tuple #[ax ay 0,ax ay (noE up:Int)])/\w'=w :=
 (z03 n up w h).mono fun e w' ⟨h1,h2⟩=>⟨by rw [h1];cases up<;>rfl,h2⟩
theorem U2 (A:ae) (c:Nat) (B:ae) (d:Nat) (s:StoP) (key:ac) (up:Bool) (i:Nat) (w:World) (hg:GoodS s) (hr:RdSt w A c B d s) (hi:i<s.aE.length) (hk:s.aE[i].dig=key) (hmv:if up then s.aE[i].pins=5 else s.aE[i].pins=0) :
  Calls zZZ 160 #[.agg #[aw A s.aE.length c,aw B s.aF.length d,ax ay s.aH,ax ay s.aG],az ⟨key.toArray⟩,.bool up] w fun e w'=>e= .returned (.tuple #[.agg #[aw aB 0 0,aw aB 0 0,ax ay 0,ax ay 0],ax ay (noE up:Int)])/\Below w.heap.size w w':=by
 have hlb:s.aE.length<=24:=hg.b.len;have hle:s.aF.length<=10:=hg.e.len;have HFX:=sqH (z2v hg.b.ris hi hk);obtain⟨p,hp⟩:=wU (s.aE[i].pins)
 rw [<-hp]at hmv;have HPI:=sqH hp.symm;have HMV:=sqH (fun W=>QT p up W hmv);have hne:=XZ up;generalize noE up=q at *
 obtain⟨sk,hsk⟩:=wU (⟨key.toArray⟩:ByteArray)
 rw [<-hsk];have HSK:=sqH hsk;clear hk hsk hp hmv;obtain⟨w0,hw0,hS,hR,hb0⟩:=zT w 27 [aw A s.aE.length c,aw B s.aF.length d,ax ay s.aH,ax ay s.aG] [aw aB 0 0,aw aB 0 0,ax ay 0,ax ay 0];have hr0:=hr.below hb0;obtain⟨H,hH⟩:=wU w.heap.size
 have HCK:=sqH (zF A c B d s w0 hg hr0);rw [<-hH]at hS hR hb0 ⊢
 have hHl:H<w0.heap.size:=hS.lt;have hHr:H+1<w0.heap.size:=hR.lt;obtain⟨x0,x1,x2,x3⟩:=sqC4 hS;rw [hw0,hH]at x0 x1 x2 x3;obtain⟨HPL,HQL,HG⟩:=sqJ3 (show ∀b∈s.aE,b.data.length<=1000000 from fun b hb=>by have:=(hg.b.one b hb).2.1;omega) (show ∀x∈s.aF,x.parts.length<=1000000 from fun x hx=>by have:=(zk (hg.e.one x hx).2.1).1;omega) hg;clear hg hr;go_enter func160,ntmps160;go_wp2_with fail;rw [<-hw0,<-hH];have HH:=sqH hH;clear hw0 hH x0 x1 x2 x3;refine wV HCK.o fun w1 hb1=>?_;dsimp only;have hr1:=hr0.below hb1;have hS1:=hS.below hb1;have y0:=hS1.c0;have HFN:=kr A c s.aE key w1 wj hr1.b;rw [HFX.o,xn,<-HSK.o]at HFN;have HFN:=sqH HFN;clear hr0 hS;go_wp2_with fail;clear y0;refine wV HFN.o fun w2 hb2=>?_;dsimp only;have hc2:=wg hb1 hb2;have hr2:=hr1.below hb2;have hS2:=hS1.below hb2;obtain⟨b,off,XB,xc,e1,hbb,d0,d1,d2,d3,_⟩:=hr2.b.blob_at i hi;have hi0:=wX i
 have hi1:(i:Int)<(s.aE.length:Int):=wj
 have y0:=hS2.c0;rw [HPI.o]at d2;rw [e1]at y0;clear hr1 hS1 hb1 hb2 d0 d1 d3;go_wp2_with fail;clear y0 d2;refine wV (HMV.o w2) fun wq hwq=>?_;dsimp only;replace hwq:=hwq.symm;subst hwq;have hb:=hb0.trans (hc2.mono (Nat.le_of_lt hHl));have hR2:=hR.below hc2;clear hR;have hR:=hR2;clear hR2 hr2 hS2 hc2 e1;obtain⟨f0,f1,f2,f3⟩:=sqF4 hR;obtain⟨y0,y1,y2,y3⟩:=sqC4 hR;have hfin:=hR.all4 (aw aB 0 0) (aw aB 0 0) (ax ay 0) (ax ay 0);have hbF:=(((hb.setCell (p:=⟨H+1,0,aB⟩) ww (aw aB 0 0)).setCell (p:=⟨H+1,1,aB⟩) ww (aw aB 0 0)).setCell (p:=⟨H+1,2,aB⟩) ww (ax ay 0)).setCell (p:=⟨H+1,3,aB⟩) ww (ax ay 0);clear hR hb;go_wp2_with fail;refine bodyPost_ret (zI rfl _ _ (H+1) _ _ _ _ wu hfin underlying27 rfl wm) rfl ?_;exact⟨rfl,hbF⟩
theorem U4 (A:ae) (c:Nat) (B:ae) (d:Nat) (s:StoP) (key:ac) (up:Bool) (i:Nat) (w:World) (hg:GoodS s) (hr:RdSt w A c B d s) (hi:i<s.aF.length) (hk:s.aF[i].key=key) (hmv:if up then s.aF[i].pins=5 else s.aF[i].pins=0) :
  Calls zZZ 129 #[.agg #[aw A s.aE.length c,aw B s.aF.length d,ax ay s.aH,ax ay s.aG],az ⟨key.toArray⟩,.bool up] w fun e w'=>e= .returned (.tuple #[.agg #[aw aB 0 0,aw aB 0 0,ax ay 0,ax ay 0],ax ay (noE up:Int)])/\Below w.heap.size w w':=by
 have hlb:s.aE.length<=24:=hg.b.len;have hle:s.aF.length<=10:=hg.e.len;have HFX:=sqH (z0y hg.e.ris hi hk);obtain⟨p,hp⟩:=wU (s.aF[i].pins)
 rw [<-hp]at hmv;have HPI:=sqH hp.symm;have HMV:=sqH (fun W=>QT p up W hmv);have hne:=XZ up;generalize noE up=q at *
 obtain⟨sk,hsk⟩:=wU (⟨key.toArray⟩:ByteArray)
 rw [<-hsk];have HSK:=sqH hsk;clear hk hsk hp hmv;obtain⟨w0,hw0,hS,hR,hb0⟩:=zT w 27 [aw A s.aE.length c,aw B s.aF.length d,ax ay s.aH,ax ay s.aG] [aw aB 0 0,aw aB 0 0,ax ay 0,ax ay 0];have hr0:=hr.below hb0;obtain⟨H,hH⟩:=wU w.heap.size
 have HCK:=sqH (zF A c B d s w0 hg hr0);rw [<-hH]at hS hR hb0 ⊢
 have hHl:H<w0.heap.size:=hS.lt;have hHr:H+1<w0.heap.size:=hR.lt;obtain⟨x0,x1,x2,x3⟩:=sqC4 hS;rw [hw0,hH]at x0 x1 x2 x3;obtain⟨HPL,HQL,HG⟩:=sqJ3 (show ∀b∈s.aE,b.data.length<=1000000 from fun b hb=>by have:=(hg.b.one b hb).2.1;omega) (show ∀x∈s.aF,x.parts.length<=1000000 from fun x hx=>by have:=(zk (hg.e.one x hx).2.1).1;omega) hg;clear hg hr;go_enter func129,ntmps129;go_wp2_with fail;rw [<-hw0,<-hH];have HH:=sqH hH;clear hw0 hH x0 x1 x2 x3;refine wV HCK.o fun w1 hb1=>?_;dsimp only;have hr1:=hr0.below hb1;have hS1:=hS.below hb1;have y0:=hS1.c1;have HFN:=kG B d s.aF key w1 wj hr1.e;rw [HFX.o,xn,<-HSK.o]at HFN;have HFN:=sqH HFN;clear hr0 hS;go_wp2_with fail;clear y0;refine wV HFN.o fun w2 hb2=>?_;dsimp only;have hc2:=wg hb1 hb2;have hr2:=hr1.below hb2;have hS2:=hS1.below hb2;obtain⟨b,off,XB,xc,e1,hbb,d0,d1,d2,d3,_⟩:=hr2.e.ent_at i hi;have hi0:=wX i
 have hi1:(i:Int)<(s.aF.length:Int):=wj
 have y0:=hS2.c1;rw [HPI.o]at d2;rw [e1]at y0;clear hr1 hS1 hb1 hb2 d0 d1 d3;go_wp2_with fail;clear y0 d2;refine wV (HMV.o w2) fun wq hwq=>?_;dsimp only;replace hwq:=hwq.symm;subst hwq;have hb:=hb0.trans (hc2.mono (Nat.le_of_lt hHl));have hR2:=hR.below hc2;clear hR;have hR:=hR2;clear hR2 hr2 hS2 hc2 e1;obtain⟨f0,f1,f2,f3⟩:=sqF4 hR;obtain⟨y0,y1,y2,y3⟩:=sqC4 hR;have hfin:=hR.all4 (aw aB 0 0) (aw aB 0 0) (ax ay 0) (ax ay 0);have hbF:=(((hb.setCell (p:=⟨H+1,0,aB⟩) ww (aw aB 0 0)).setCell (p:=⟨H+1,1,aB⟩) ww (aw aB 0 0)).setCell (p:=⟨H+1,2,aB⟩) ww (ax ay 0)).setCell (p:=⟨H+1,3,aB⟩) ww (ax ay 0);clear hR hb;go_wp2_with fail;refine bodyPost_ret (zI rfl _ _ (H+1) _ _ _ _ wu hfin underlying27 rfl wm) rfl ?_;exact⟨rfl,hbF⟩
structure Fits (s:StoP) (D:ac):Prop where
 g:GoodS s
 d:D.length<=300
 l:s.aE.length<24\/(s.aE.findIdx? (fun b=>b.dig==shaS D)).isSome=true
 u:usd (putB s.aE D)<=s.aH
theorem Fits.good {s:StoP} {D:ac} (h:Fits s D):GoodS (zH s D):=by
 rcases h.l with h1 | h1
 ·exact Yh h.g h.d h1 h.u
 ·obtain⟨i,hi⟩:=Option.isSome_iff_exists.1 h1;have:zH s D=s:=by unfold zH putB;rw [hi]
  rw [this];exact h.g
theorem Qj (A:ae) (c:Nat) (B:ae) (d:Nat) (s:StoP) (D:ac) (DA:ae) (dc:Nat) (w:World) (hf:Fits s D) (hr:RdSt w A c B d s) (hD:Sl w 1 DA D.length dc (bys D)) :
  Calls zZZ 158 #[.agg #[aw A s.aE.length c,aw B s.aF.length d,ax ay s.aH,ax ay s.aG],aw DA D.length dc] w fun e w' =>
   ∃A' c' B' d',e= .returned (.tuple #[.agg #[aw A' (zH s D).aE.length c',aw B' (zH s D).aF.length d',ax ay s.aH,ax ay s.aG],az ⟨(shaS D).toArray⟩,ax ay 0])/\OwSt w' w.heap.size (aw A' (zH s D).aE.length c') (aw B' (zH s D).aF.length d') (zH s D) (fun b=>b<w.heap.size)/\Below w.heap.size w w' :=
 (KT A c B d s D DA dc w hf.g hr hf.d hf.l hf.u hD).mono fun e w' ⟨v1,v2,h1,h2,h3⟩=>by
  obtain⟨A',c',B',d',e1,e2,_⟩:=h2.rows
  subst e1 e2
  exact⟨A',c',B',d',h1,h2,h3⟩
theorem Ud (A:ae) (c:Nat) (B:ae) (d:Nat) (s x:StoP) (key:ac) (ps:List PartP) (PA:ae) (pc:Nat) (w:World) (hg:GoodS s) (hr:RdSt w A c B d s) (hk:hexC key=0) (hpz:chk ps=0) (hhv:qQ s.aE ps=0) (hclk:s.aG<1099511627776) (hlen:s.aF.length<10) (hP:Sl w 3 PA ps.length pc (pcs ps)) (hx:x=vu s key ps) :
  Calls zZZ 180 #[.agg #[aw A s.aE.length c,aw B s.aF.length d,ax ay s.aH,ax ay s.aG],az ⟨key.toArray⟩,aw PA ps.length pc] w fun e w' =>
   ∃A' c' B' d',e= .returned (.tuple #[.agg #[aw A' x.aE.length c',aw B' x.aF.length d',ax ay x.aH,ax ay x.aG],ax ay 0])/\OwSt w' w.heap.size (aw A' x.aE.length c') (aw B' x.aF.length d') x (fun b=>b<w.heap.size)/\Below w.heap.size w w':=by
 subst hx;refine(z07 A c B d s key ps PA pc w hg hr hk hpz hhv hclk hlen hP).mono fun e w' ⟨v1,v2,h1,h2,h3⟩=> ?_;obtain⟨A',c',B',d',e1,e2,_⟩:=h2.rows;subst e1 e2;exact⟨A',c',B',d',h1,h2,h3⟩
theorem U0 (A:ae) (c:Nat) (B:ae) (d:Nat) (s y:StoP) (key:ac) (ps:List PartP) (i:Nat) (w:World) (hg:GoodS s) (hr:RdSt w A c B d s) (hi:i<s.aF.length) (hk:s.aF[i].key=key) (hps:s.aF[i].parts=ps) (hclk:s.aG<1099511627776) (hy:y=kz s i s.aF[i]) :
  Calls zZZ 128 #[.agg #[aw A s.aE.length c,aw B s.aF.length d,ax ay s.aH,ax ay s.aG],az ⟨key.toArray⟩] w fun e w' =>
   ∃A' c' B' d' A5 c5,e= .returned (.tuple #[.agg #[aw A' y.aE.length c',aw B' y.aF.length d',ax ay y.aH,ax ay y.aG],aw A5 ps.length c5,ax ay 0])/\OwSt w' w.heap.size (aw A' y.aE.length c') (aw B' y.aF.length d') y (fun b=>b<w.heap.size)/\w'.ownsRow w.heap.size 51 3 (aw A5 ps.length c5) ps.length (pcs ps)/\Below w.heap.size w w':=by
 subst hy;subst hps;refine(YI A c B d s key i w hg hr hi hk hclk).mono fun e w' ⟨v1,v2,v3,h1,h2,h4,h3⟩=> ?_;obtain⟨A',c',B',d',e1,e2,_⟩:=h2.rows;obtain⟨A5,c5,e5,_,_⟩:=vT h4;subst e1 e2 e5;exact⟨A',c',B',d',A5,c5,h1,h2,h4,h3⟩
end Go.Proofs.YtcjndgldjhmbgaaGreat
