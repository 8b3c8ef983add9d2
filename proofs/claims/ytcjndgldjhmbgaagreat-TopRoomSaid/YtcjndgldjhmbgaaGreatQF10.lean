/- Lemmas, as stated. -/
import Derived.Maps.GroupsBeside
import Derived.Test.YtcjndgldjhmbgaaGreatQF09
set_option linter.unusedVariables false
set_option linter.unusedSimpArgs false
set_option maxRecDepth 100000
set_option maxHeartbeats 16000000
open Go.Proofs.Tryz
open Go.Proofs.Tryz renaming prog->zZZ
open Go.Value renaming slice->aw,int->ax,string->az
open Go.IntKind renaming i64->ay
open Option renaming none->aB,some->aC
open And renaming intro->aD
namespace Go.Proofs.YtcjndgldjhmbgaaGreat
open Go.RowKit
variable {c:ColP} {x y:EntP} {p:FlP} {n:Int} {es:List EntP} {fs:List FlP} {ps:List PartP} {l:LoP} {base cap g i m:Nat} {s:StoP} {e:TypeId} {v:Value} {w w':World} {D k k' key:ac} {xs:af}
theorem z1g (q:Nat) (k:Int) (h:k=0\/k=1\/k=2) (w:World):(Instr.index 276 (.agg #[ax ay 0,ax ay 0,ax ay 0,ax ay q]) (ax ay k)).run zZZ w= .ok (ax ay 0) w:=by
 rcases h with rfl | rfl | rfl<;>kernel_rfl
theorem z4r (q:Nat) (w:World):(Instr.index 276 (.agg #[ax ay 0,ax ay 0,ax ay 0,ax ay q]) (ax ay 3)).run zZZ w= .ok (ax ay q) w:=by kernel_rfl
theorem Qp (A:ae) (c:Nat) (B:ae) (d:Nat) (s:StoP) (key:ac) (ps:List PartP) (PA:ae) (pc q:Nat) (w:World) (hg:GoodS s) (hr:RdSt w A c B d s) (hk:hexC key=0) (hpz:chk ps=0) (hhv:qL s.aE ps=q) (hq:q≠0) (hP:Sl w 3 PA ps.length pc (pcs ps)) :
  Calls zZZ 180 #[.agg #[aw A s.aE.length c,aw B s.aF.length d,ax ay s.aH,ax ay s.aG],az ⟨key.toArray⟩,aw PA ps.length pc] w fun e w'=>e= .returned (.tuple #[.agg #[aw aB 0 0,aw aB 0 0,ax ay 0,ax ay 0],ax ay q])/\Below w.heap.size w w':=by
 have hlb:s.aE.length<=24:=hg.b.len;have hq0:((q:Int) != 0)=true:=by rw [bne_iff_ne];omega
 have HHX:=sqH hhv;clear hhv hq;obtain⟨w0,hw0,hS,hR,hb0⟩:=zY w 27 [aw A s.aE.length c,aw B s.aF.length d,ax ay s.aH,ax ay s.aG] [aw aB 0 0,aw aB 0 0,ax ay 0,ax ay 0];have hr0:=hr.below hb0;have hP0:=hP.below hb0;obtain⟨H,hH⟩:=wU w.heap.size
 have HCK:=sqH (fun W (h:Below w0.heap.size w0 W)=>zF A c B d s W hg (hr0.below h));have hkl:=qO hk;have HKX:=sqH (show ∀W,Below w0.heap.size w0 W->Calls zZZ 90 #[az ⟨key.toArray⟩] W fun e w'=>e= .returned (ax ay 0)/\Below W.heap.size W w' from fun W _=>by
  have:=kC ⟨key.toArray⟩ W (by show(key.toArray).size<=_;rw [List.size_toArray];omega);rw [show(⟨key.toArray⟩:ByteArray).data.toList=key from rfl,hk]at this;exact this)
 have HPC:=sqH (show ∀W,Below w0.heap.size w0 W->Calls zZZ 113 #[aw PA ps.length pc] W fun e w'=>e= .returned (ax ay 0)/\Below W.heap.size W w' from fun W h=>by
  have:=xg PA ps.length pc ps W rfl hP0.cap (by have:=(zk hpz).1;omega) (vI hpz) (hP0.below h).rd
  rwa [hpz]at this)
 have hpl8:=(zk hpz).1;obtain⟨HHV,HGX,HPL,HQL⟩:=sqJ4 (fun W (h:Below w0.heap.size w0 W)=>Qj A c s.aE PA pc ps W wj wj (hr0.b.below h) (hP0.below h).rd) hg (show ∀b∈s.aE,b.data.length<=1000000 from fun b hb=>by have:=(hg.b.one b hb).2.1;omega) (show ∀x∈s.aF,x.aL.length<=1000000 from fun x hx=>by have:=(zk (hg.e.one x hx).2.1).1;omega);have HSB:=sqH (show ∀W,Below w0.heap.size w0 W->wD W H (aw A s.aE.length c) (aw B s.aF.length d) (ax ay s.aH) (ax ay s.aG) from fun W h=>by
  rw [hH];exact sqC4 (hS.below h))
 have HKK:=sqH hk;have HPZ:=sqH hpz;rw [<-hH]at hS hR hb0 ⊢
 have hHl:H<w0.heap.size:=hS.lt;have hHr:H+1<w0.heap.size:=hR.lt;obtain⟨sk,hsk⟩:=wU (⟨key.toArray⟩:ByteArray)
 rw [<-hsk]at HKX ⊢
 have HSK:=sqH hsk;clear hg hr hk hP hpz hsk;go_enter func180,ntmps180;go_wp2_with fail;rw [<-hw0,<-hH];have HH:=sqH hH;clear hw0 hH;rw [HHX.o]at HHV;refine wp_region_held_drew (S:=(fun w'=>wD w' H (aw A s.aE.length c) (aw B s.aF.length d) (ax ay s.aH) (ax ay s.aG))) wm ?_ (fun hHeld=> ?_)
 ·exact HSB.o _ (Below.refl _ w0).drew
 have hB:=(Below.refl w0.heap.size w0).drew;generalize w0.drew=wn0 at *
 refine wM 0 ?_;refine wM 2 ?_;refine wM 4 ?_;refine wM 6 ?_;refine wM 7 ?_;refine wM 8 ?_;refine wM 11 ?_;refine wQ 1 fun K hK=>?_;go_simp;refine(HCK.o wn0 hB).mono ?_;rintro e5 w5 ⟨rfl,hb5⟩;dsimp only;refine ka hK ?_ (Below wn0.heap.size wn0) (fun W=>True) ?_ ?_ (fun wn1 hHeld hst hnew=> ?_)
 ·(exact HSB.o _ (wg hB hb5))
 ·(exact hb5)
 ·(trivial)
 have hB:=wg hB hst;clear hst;clear hK K
 try simp only [sqP]
 refine wQ 3 fun K hK=>?_;go_simp;refine(HKX.o wn1 hB).mono ?_;rintro e5 w5 ⟨rfl,hb5⟩;dsimp only;refine ka hK ?_ (Below wn1.heap.size wn1) (fun W=>True) ?_ ?_ (fun wn2 hHeld hst hnew=> ?_)
 ·(exact HSB.o _ (wg hB hb5))
 ·(exact hb5)
 ·(trivial)
 have hB:=wg hB hst;clear hst;clear hK K
 try simp only [sqP]
 refine wQ 5 fun K hK=>?_;go_simp;refine(HPC.o wn2 hB).mono ?_;rintro e5 w5 ⟨rfl,hb5⟩;dsimp only;refine ka hK ?_ (Below wn2.heap.size wn2) (fun W=>True) ?_ ?_ (fun wn3 hHeld hst hnew=> ?_)
 ·(exact HSB.o _ (wg hB hb5))
 ·(exact hb5)
 ·(trivial)
 have hB:=wg hB hst;clear hst;clear hK K
 try simp only [sqP]
 refine wQ 9 fun K hK=>?_;go_simp;refine(HHV.o wn3 hB).mono ?_;rintro e5 w5 ⟨rfl,hb5⟩;dsimp only;refine ka hK ?_ (Below wn3.heap.size wn3) (fun W=>True) ?_ ?_ (fun wn4 hHeld hst hnew=> ?_)
 ·(exact HSB.o _ (wg hB hb5))
 ·(exact hb5)
 ·(trivial)
 have hB:=wg hB hst;clear hst;clear hK K
 refine wM 10 ?_;refine wpAnyH_done wm ?_ _;dsimp only [Exit.then];clear hHeld;generalize wn4=w1 at *
 go_wp2_with fail;go_loopg [25] 4 (fun gn i wr=>∃j:Int,i= ax ay j/\(j=0\/j=1\/j=2\/j=3)/\gn=(4 - j).toNat/\wr=w1)
 case atStart=>exact⟨0,rfl,wj,rfl,rfl⟩
 case round =>
  obtain⟨j,rfl,hj,hgn,hwr⟩:=hrel;subst hwr;have ix0:=z1g q 0 wj wr;have ix1:=z1g q 1 wj wr;have ix2:=z1g q 2 wj wr;have ix3:=z4r q wr;rcases hj with rfl | rfl | rfl | rfl
  ·go_wp2_with fail;go_roundg 3
   case measure=>omega
   case rel=>exact⟨1,rfl,wj,rfl,rfl⟩
  ·go_wp2_with fail;go_roundg 2
   case measure=>omega
   case rel=>exact⟨2,rfl,wj,rfl,rfl⟩
  ·go_wp2_with fail;go_roundg 1
   case measure=>omega
   case rel=>exact⟨3,rfl,wj,rfl,rfl⟩
  ·clear hgn;have hR1:=hR.below hB;have hb:=hb0.trans (hB.mono (Nat.le_of_lt hHl));clear hR;have hR:=hR1;clear hR1;obtain⟨f0,f1,f2,f3⟩:=sqF4 hR;obtain⟨y0,y1,y2,y3⟩:=sqC4 hR;have hfin:=hR.all4 (aw aB 0 0) (aw aB 0 0) (ax ay 0) (ax ay 0);have hbF:=(((hb.setCell (p:=⟨H+1,0,aB⟩) ww (aw aB 0 0)).setCell (p:=⟨H+1,1,aB⟩) ww (aw aB 0 0)).setCell (p:=⟨H+1,2,aB⟩) ww (ax ay 0)).setCell (p:=⟨H+1,3,aB⟩) ww (ax ay 0);clear hR hb;go_wp2_with fail;refine bodyPost_ret (zI rfl _ _ (H+1) _ _ _ _ wu hfin underlying27 rfl wm) rfl ?_;exact⟨rfl,hbF⟩
theorem KU (A:ae) (c:Nat) (B:ae) (d:Nat) (s:StoP) (key:ac) (up:Bool) (w:World) (hg:GoodS s) (hr:RdSt w A c B d s) (hn:∀b∈s.aE,b.dig≠key) :
  Calls zZZ 160 #[.agg #[aw A s.aE.length c,aw B s.aF.length d,ax ay s.aH,ax ay s.aG],az ⟨key.toArray⟩,.bool up] w fun e w'=>e= .returned (.tuple #[.agg #[aw aB 0 0,aw aB 0 0,ax ay 0,ax ay 0],ax ay 5])/\Below w.heap.size w w':=by
 have hlb:s.aE.length<=24:=hg.b.len;have hle:s.aF.length<=10:=hg.e.len;have HFX:=sqH (show s.aE.findIdx? (fun x=>x.dig==key)=aB by rw [List.findIdx?_eq_none_iff];intro x hx;simp [hn x hx]);obtain⟨sk,hsk⟩:=wU (⟨key.toArray⟩:ByteArray)
 rw [<-hsk];have HSK:=sqH hsk;clear hn hsk;obtain⟨w0,hw0,hS,hR,hb0⟩:=zY w 27 [aw A s.aE.length c,aw B s.aF.length d,ax ay s.aH,ax ay s.aG] [aw aB 0 0,aw aB 0 0,ax ay 0,ax ay 0];have hr0:=hr.below hb0;obtain⟨H,hH⟩:=wU w.heap.size
 have HCK:=sqH (zF A c B d s w0 hg hr0);rw [<-hH]at hS hR hb0 ⊢
 have hHl:H<w0.heap.size:=hS.lt;have hHr:H+1<w0.heap.size:=hR.lt;obtain⟨x0,x1,x2,x3⟩:=sqC4 hS;rw [hw0,hH]at x0 x1 x2 x3;obtain⟨HPL,HQL,HG⟩:=sqJ3 (show ∀b∈s.aE,b.data.length<=1000000 from fun b hb=>by have:=(hg.b.one b hb).2.1;omega) (show ∀x∈s.aF,x.aL.length<=1000000 from fun x hx=>by have:=(zk (hg.e.one x hx).2.1).1;omega) hg;clear hg hr;go_enter func160,ntmps160;go_wp2_with fail;rw [<-hw0,<-hH];have HH:=sqH hH;clear hw0 hH x0 x1 x2 x3;refine wV HCK.o fun w1 hb1=>?_;dsimp only;have hr1:=hr0.below hb1;have hS1:=hS.below hb1;have y0:=hS1.c0;have HFN:=ku A c s.aE key w1 wj hr1.b;rw [HFX.o,xn,<-HSK.o]at HFN;have HFN:=sqH HFN;clear hr0 hS;go_wp2_with fail;clear y0;refine wV HFN.o fun w2 hb2=>?_;dsimp only;have hc2:=wg hb1 hb2;have hb:=hb0.trans (hc2.mono (Nat.le_of_lt hHl));have hR2:=hR.below hc2;clear hR;have hR:=hR2;clear hR2 hr1 hS1 hb1 hb2 hc2;obtain⟨f0,f1,f2,f3⟩:=sqF4 hR;obtain⟨y0,y1,y2,y3⟩:=sqC4 hR;have hfin:=hR.all4 (aw aB 0 0) (aw aB 0 0) (ax ay 0) (ax ay 0);have hbF:=(((hb.setCell (p:=⟨H+1,0,aB⟩) ww (aw aB 0 0)).setCell (p:=⟨H+1,1,aB⟩) ww (aw aB 0 0)).setCell (p:=⟨H+1,2,aB⟩) ww (ax ay 0)).setCell (p:=⟨H+1,3,aB⟩) ww (ax ay 0);clear hR hb;go_wp2_with fail;refine bodyPost_ret (zI rfl _ _ (H+1) _ _ _ _ wu hfin underlying27 rfl wm) rfl ?_;exact⟨rfl,hbF⟩
theorem KV (A:ae) (c:Nat) (B:ae) (d:Nat) (s:StoP) (key:ac) (up:Bool) (w:World) (hg:GoodS s) (hr:RdSt w A c B d s) (hn:∀b∈s.aF,b.key≠key) :
  Calls zZZ 129 #[.agg #[aw A s.aE.length c,aw B s.aF.length d,ax ay s.aH,ax ay s.aG],az ⟨key.toArray⟩,.bool up] w fun e w'=>e= .returned (.tuple #[.agg #[aw aB 0 0,aw aB 0 0,ax ay 0,ax ay 0],ax ay 5])/\Below w.heap.size w w':=by
 have hlb:s.aE.length<=24:=hg.b.len;have hle:s.aF.length<=10:=hg.e.len;have HFX:=sqH (show s.aF.findIdx? (fun x=>x.key==key)=aB by rw [List.findIdx?_eq_none_iff];intro x hx;simp [hn x hx]);obtain⟨sk,hsk⟩:=wU (⟨key.toArray⟩:ByteArray)
 rw [<-hsk];have HSK:=sqH hsk;clear hn hsk;obtain⟨w0,hw0,hS,hR,hb0⟩:=zY w 27 [aw A s.aE.length c,aw B s.aF.length d,ax ay s.aH,ax ay s.aG] [aw aB 0 0,aw aB 0 0,ax ay 0,ax ay 0];have hr0:=hr.below hb0;obtain⟨H,hH⟩:=wU w.heap.size
 have HCK:=sqH (zF A c B d s w0 hg hr0);rw [<-hH]at hS hR hb0 ⊢
 have hHl:H<w0.heap.size:=hS.lt;have hHr:H+1<w0.heap.size:=hR.lt;obtain⟨x0,x1,x2,x3⟩:=sqC4 hS;rw [hw0,hH]at x0 x1 x2 x3;obtain⟨HPL,HQL,HG⟩:=sqJ3 (show ∀b∈s.aE,b.data.length<=1000000 from fun b hb=>by have:=(hg.b.one b hb).2.1;omega) (show ∀x∈s.aF,x.aL.length<=1000000 from fun x hx=>by have:=(zk (hg.e.one x hx).2.1).1;omega) hg;clear hg hr;go_enter func129,ntmps129;go_wp2_with fail;rw [<-hw0,<-hH];have HH:=sqH hH;clear hw0 hH x0 x1 x2 x3;refine wV HCK.o fun w1 hb1=>?_;dsimp only;have hr1:=hr0.below hb1;have hS1:=hS.below hb1;have y0:=hS1.c1;have HFN:=kI B d s.aF key w1 wj hr1.e;rw [HFX.o,xn,<-HSK.o]at HFN;have HFN:=sqH HFN;clear hr0 hS;go_wp2_with fail;clear y0;refine wV HFN.o fun w2 hb2=>?_;dsimp only;have hc2:=wg hb1 hb2;have hb:=hb0.trans (hc2.mono (Nat.le_of_lt hHl));have hR2:=hR.below hc2;clear hR;have hR:=hR2;clear hR2 hr1 hS1 hb1 hb2 hc2;obtain⟨f0,f1,f2,f3⟩:=sqF4 hR;obtain⟨y0,y1,y2,y3⟩:=sqC4 hR;have hfin:=hR.all4 (aw aB 0 0) (aw aB 0 0) (ax ay 0) (ax ay 0);have hbF:=(((hb.setCell (p:=⟨H+1,0,aB⟩) ww (aw aB 0 0)).setCell (p:=⟨H+1,1,aB⟩) ww (aw aB 0 0)).setCell (p:=⟨H+1,2,aB⟩) ww (ax ay 0)).setCell (p:=⟨H+1,3,aB⟩) ww (ax ay 0);clear hR hb;go_wp2_with fail;refine bodyPost_ret (zI rfl _ _ (H+1) _ _ _ _ wu hfin underlying27 rfl wm) rfl ?_;exact⟨rfl,hbF⟩
theorem Z1 {P:Program} {fn:Func} {p u z:Tmp} {ty:TypeId} (h:fn.results=#[.cell p ty,.tmp u,.tmp z]) (tmps:Array Value) (w:World) (g:Nat) (t:TypeId) (cs:Array Value) (fr:Nat×Nat) (d:TypeDesc)
  (hp:tmps.getD p undef= .pointer (some ⟨g,0,aB⟩)) (hg:w.heap[g]?=some (.cells cs t fr))
  (hu:P.underlying ty=some d) (hd:(match d with | .struct _ | .array _ _=>true | _=>false)=true) (hi:(P.info? ty).map (·.size)=some cs.size) :
  (results fn tmps).run P w= .ok (.tuple #[.agg cs,tmps.getD u undef,tmps.getD z undef]) w:=zA h tmps w g t cs fr d hp hg hu hd hi
theorem YR (A:ae) (c:Nat) (B:ae) (d:Nat) (s:StoP) (key:ac) (w:World) (hg:GoodS s) (hr:RdSt w A c B d s) (hn:∀b∈s.aF,b.key≠key) :
  Calls zZZ 128 #[.agg #[aw A s.aE.length c,aw B s.aF.length d,ax ay s.aH,ax ay s.aG],az ⟨key.toArray⟩] w fun e w'=>e= .returned (.tuple #[.agg #[aw aB 0 0,aw aB 0 0,ax ay 0,ax ay 0],aw aB 0 0,ax ay 5])/\Below w.heap.size w w':=by
 have hlb:s.aE.length<=24:=hg.b.len;have hle:s.aF.length<=10:=hg.e.len;have HFX:=sqH (show s.aF.findIdx? (fun x=>x.key==key)=aB by rw [List.findIdx?_eq_none_iff];intro x hx;simp [hn x hx]);obtain⟨sk,hsk⟩:=wU (⟨key.toArray⟩:ByteArray)
 rw [<-hsk];have HSK:=sqH hsk;clear hn hsk;obtain⟨w0,hw0,hS,hR,hb0⟩:=zY w 27 [aw A s.aE.length c,aw B s.aF.length d,ax ay s.aH,ax ay s.aG] [aw aB 0 0,aw aB 0 0,ax ay 0,ax ay 0];have hr0:=hr.below hb0;obtain⟨H,hH⟩:=wU w.heap.size
 have HCK:=sqH (zF A c B d s w0 hg hr0);rw [<-hH]at hS hR hb0 ⊢
 have hHl:H<w0.heap.size:=hS.lt;have hHr:H+1<w0.heap.size:=hR.lt;obtain⟨x0,x1,x2,x3⟩:=sqC4 hS;rw [hw0,hH]at x0 x1 x2 x3;obtain⟨HPL,HQL,HG⟩:=sqJ3 (show ∀b∈s.aE,b.data.length<=1000000 from fun b hb=>by have:=(hg.b.one b hb).2.1;omega) (show ∀x∈s.aF,x.aL.length<=1000000 from fun x hx=>by have:=(zk (hg.e.one x hx).2.1).1;omega) hg;clear hg hr;go_enter func128,ntmps128;go_wp2_with fail;rw [<-hw0,<-hH];have HH:=sqH hH;clear hw0 hH x0 x1 x2 x3;refine wV HCK.o fun w1 hb1=>?_;dsimp only;have hr1:=hr0.below hb1;have hS1:=hS.below hb1;have y0:=hS1.c1;have HFN:=kI B d s.aF key w1 wj hr1.e;rw [HFX.o,xn,<-HSK.o]at HFN;have HFN:=sqH HFN;clear hr0 hS;go_wp2_with fail;clear y0;refine wV HFN.o fun w2 hb2=>?_;dsimp only;have hc2:=wg hb1 hb2;have hb:=hb0.trans (hc2.mono (Nat.le_of_lt hHl));have hR2:=hR.below hc2;clear hR;have hR:=hR2;clear hR2 hr1 hS1 hb1 hb2 hc2;obtain⟨f0,f1,f2,f3⟩:=sqF4 hR;obtain⟨y0,y1,y2,y3⟩:=sqC4 hR;have hfin:=hR.all4 (aw aB 0 0) (aw aB 0 0) (ax ay 0) (ax ay 0);have hbF:=(((hb.setCell (p:=⟨H+1,0,aB⟩) ww (aw aB 0 0)).setCell (p:=⟨H+1,1,aB⟩) ww (aw aB 0 0)).setCell (p:=⟨H+1,2,aB⟩) ww (ax ay 0)).setCell (p:=⟨H+1,3,aB⟩) ww (ax ay 0);clear hR hb;go_wp2_with fail;refine bodyPost_ret (Z1 rfl _ _ (H+1) _ _ _ _ wu hfin underlying27 rfl wm) rfl ?_;exact⟨rfl,hbF⟩
theorem z0e (n:Nat) (up:Bool) (w:World) (h:if up then n=5 else n=0):Calls zZZ 164 #[ax ay n,.bool up] w fun e w'=>e= .returned (.tuple #[ax ay 0,ax ay (if up then 7 else 11)])/\w'=w:=by
 cases up with
 | true =>
  have h':n=5:=h;subst h';have HC2:=sqH (xh 5 wj wj w);rw [show((5:Nat):Int)=5 from rfl];clear h;go_enter func164,ntmps164;go_wp2_with fail;refine HC2.o.mono ?_;rintro e_ _ ⟨rfl,rfl⟩;dsimp only;go_wp2_with fail;go_ret2;exact⟨rfl,rfl⟩
 | false =>
  have h':n=0:=h;subst h';have HC2:=sqH (xh 0 wj wj w);rw [show((0:Nat):Int)=0 from rfl];clear h;go_enter func164,ntmps164;go_wp2_with fail;refine HC2.o.mono ?_;rintro e_ _ ⟨rfl,rfl⟩;dsimp only;go_wp2_with fail;go_ret2;exact⟨rfl,rfl⟩
def noE (up:Bool):Nat:=if up then 7 else 11
theorem Va (up:Bool):((noE up:Int) != 0)=true:=by cases up<;>rfl
theorem QY (n:Nat) (up:Bool) (w:World) (h:if up then n=5 else n=0):Calls zZZ 164 #[ax ay n,.bool up] w fun e w'=>e= .returned (.tuple #[ax ay 0,ax ay (noE up:Int)])/\w'=w :=
 (z0e n up w h).mono fun e w' ⟨h1,h2⟩=>⟨by rw [h1];cases up<;>rfl,h2⟩
theorem Uf (A:ae) (c:Nat) (B:ae) (d:Nat) (s:StoP) (key:ac) (up:Bool) (i:Nat) (w:World) (hg:GoodS s) (hr:RdSt w A c B d s) (hi:i<s.aE.length) (hk:s.aE[i].dig=key) (hmv:if up then s.aE[i].aM=5 else s.aE[i].aM=0) :
  Calls zZZ 160 #[.agg #[aw A s.aE.length c,aw B s.aF.length d,ax ay s.aH,ax ay s.aG],az ⟨key.toArray⟩,.bool up] w fun e w'=>e= .returned (.tuple #[.agg #[aw aB 0 0,aw aB 0 0,ax ay 0,ax ay 0],ax ay (noE up:Int)])/\Below w.heap.size w w':=by
 have hlb:s.aE.length<=24:=hg.b.len;have hle:s.aF.length<=10:=hg.e.len;have HFX:=sqH (z3d hg.b.ris hi hk);obtain⟨p,hp⟩:=wU (s.aE[i].aM)
 rw [<-hp]at hmv;have HPI:=sqH hp.symm;have HMV:=sqH (fun W=>QY p up W hmv);have hne:=Va up;generalize noE up=q at *
 obtain⟨sk,hsk⟩:=wU (⟨key.toArray⟩:ByteArray)
 rw [<-hsk];have HSK:=sqH hsk;clear hk hsk hp hmv;obtain⟨w0,hw0,hS,hR,hb0⟩:=zY w 27 [aw A s.aE.length c,aw B s.aF.length d,ax ay s.aH,ax ay s.aG] [aw aB 0 0,aw aB 0 0,ax ay 0,ax ay 0];have hr0:=hr.below hb0;obtain⟨H,hH⟩:=wU w.heap.size
 have HCK:=sqH (zF A c B d s w0 hg hr0);rw [<-hH]at hS hR hb0 ⊢
 have hHl:H<w0.heap.size:=hS.lt;have hHr:H+1<w0.heap.size:=hR.lt;obtain⟨x0,x1,x2,x3⟩:=sqC4 hS;rw [hw0,hH]at x0 x1 x2 x3;obtain⟨HPL,HQL,HG⟩:=sqJ3 (show ∀b∈s.aE,b.data.length<=1000000 from fun b hb=>by have:=(hg.b.one b hb).2.1;omega) (show ∀x∈s.aF,x.aL.length<=1000000 from fun x hx=>by have:=(zk (hg.e.one x hx).2.1).1;omega) hg;clear hg hr;go_enter func160,ntmps160;go_wp2_with fail;rw [<-hw0,<-hH];have HH:=sqH hH;clear hw0 hH x0 x1 x2 x3;refine wV HCK.o fun w1 hb1=>?_;dsimp only;have hr1:=hr0.below hb1;have hS1:=hS.below hb1;have y0:=hS1.c0;have HFN:=ku A c s.aE key w1 wj hr1.b;rw [HFX.o,xn,<-HSK.o]at HFN;have HFN:=sqH HFN;clear hr0 hS;go_wp2_with fail;clear y0;refine wV HFN.o fun w2 hb2=>?_;dsimp only;have hc2:=wg hb1 hb2;have hr2:=hr1.below hb2;have hS2:=hS1.below hb2;obtain⟨b,off,XB,xc,e1,hbb,d0,d1,d2,d3,_⟩:=hr2.b.blob_at i hi;have hi0:=wX i
 have hi1:(i:Int)<(s.aE.length:Int):=wj;have y0:=hS2.c0;rw [HPI.o]at d2;rw [e1]at y0;clear hr1 hS1 hb1 hb2 d0 d1 d3;go_wp2_with fail;clear y0 d2;refine wV (HMV.o w2) fun wq hwq=>?_;dsimp only;replace hwq:=hwq.symm;subst hwq;have hb:=hb0.trans (hc2.mono (Nat.le_of_lt hHl));have hR2:=hR.below hc2;clear hR;have hR:=hR2;clear hR2 hr2 hS2 hc2 e1;obtain⟨f0,f1,f2,f3⟩:=sqF4 hR;obtain⟨y0,y1,y2,y3⟩:=sqC4 hR;have hfin:=hR.all4 (aw aB 0 0) (aw aB 0 0) (ax ay 0) (ax ay 0);have hbF:=(((hb.setCell (p:=⟨H+1,0,aB⟩) ww (aw aB 0 0)).setCell (p:=⟨H+1,1,aB⟩) ww (aw aB 0 0)).setCell (p:=⟨H+1,2,aB⟩) ww (ax ay 0)).setCell (p:=⟨H+1,3,aB⟩) ww (ax ay 0);clear hR hb;go_wp2_with fail;refine bodyPost_ret (zI rfl _ _ (H+1) _ _ _ _ wu hfin underlying27 rfl wm) rfl ?_;exact⟨rfl,hbF⟩
theorem Uh (A:ae) (c:Nat) (B:ae) (d:Nat) (s:StoP) (key:ac) (up:Bool) (i:Nat) (w:World) (hg:GoodS s) (hr:RdSt w A c B d s) (hi:i<s.aF.length) (hk:s.aF[i].key=key) (hmv:if up then s.aF[i].aM=5 else s.aF[i].aM=0) :
  Calls zZZ 129 #[.agg #[aw A s.aE.length c,aw B s.aF.length d,ax ay s.aH,ax ay s.aG],az ⟨key.toArray⟩,.bool up] w fun e w'=>e= .returned (.tuple #[.agg #[aw aB 0 0,aw aB 0 0,ax ay 0,ax ay 0],ax ay (noE up:Int)])/\Below w.heap.size w w':=by
 have hlb:s.aE.length<=24:=hg.b.len;have hle:s.aF.length<=10:=hg.e.len;have HFX:=sqH (z19 hg.e.ris hi hk);obtain⟨p,hp⟩:=wU (s.aF[i].aM)
 rw [<-hp]at hmv;have HPI:=sqH hp.symm;have HMV:=sqH (fun W=>QY p up W hmv);have hne:=Va up;generalize noE up=q at *
 obtain⟨sk,hsk⟩:=wU (⟨key.toArray⟩:ByteArray)
 rw [<-hsk];have HSK:=sqH hsk;clear hk hsk hp hmv;obtain⟨w0,hw0,hS,hR,hb0⟩:=zY w 27 [aw A s.aE.length c,aw B s.aF.length d,ax ay s.aH,ax ay s.aG] [aw aB 0 0,aw aB 0 0,ax ay 0,ax ay 0];have hr0:=hr.below hb0;obtain⟨H,hH⟩:=wU w.heap.size
 have HCK:=sqH (zF A c B d s w0 hg hr0);rw [<-hH]at hS hR hb0 ⊢
 have hHl:H<w0.heap.size:=hS.lt;have hHr:H+1<w0.heap.size:=hR.lt;obtain⟨x0,x1,x2,x3⟩:=sqC4 hS;rw [hw0,hH]at x0 x1 x2 x3;obtain⟨HPL,HQL,HG⟩:=sqJ3 (show ∀b∈s.aE,b.data.length<=1000000 from fun b hb=>by have:=(hg.b.one b hb).2.1;omega) (show ∀x∈s.aF,x.aL.length<=1000000 from fun x hx=>by have:=(zk (hg.e.one x hx).2.1).1;omega) hg;clear hg hr;go_enter func129,ntmps129;go_wp2_with fail;rw [<-hw0,<-hH];have HH:=sqH hH;clear hw0 hH x0 x1 x2 x3;refine wV HCK.o fun w1 hb1=>?_;dsimp only;have hr1:=hr0.below hb1;have hS1:=hS.below hb1;have y0:=hS1.c1;have HFN:=kI B d s.aF key w1 wj hr1.e;rw [HFX.o,xn,<-HSK.o]at HFN;have HFN:=sqH HFN;clear hr0 hS;go_wp2_with fail;clear y0;refine wV HFN.o fun w2 hb2=>?_;dsimp only;have hc2:=wg hb1 hb2;have hr2:=hr1.below hb2;have hS2:=hS1.below hb2;obtain⟨b,off,XB,xc,e1,hbb,d0,d1,d2,d3,_⟩:=hr2.e.ent_at i hi;have hi0:=wX i
 have hi1:(i:Int)<(s.aF.length:Int):=wj;have y0:=hS2.c1;rw [HPI.o]at d2;rw [e1]at y0;clear hr1 hS1 hb1 hb2 d0 d1 d3;go_wp2_with fail;clear y0 d2;refine wV (HMV.o w2) fun wq hwq=>?_;dsimp only;replace hwq:=hwq.symm;subst hwq;have hb:=hb0.trans (hc2.mono (Nat.le_of_lt hHl));have hR2:=hR.below hc2;clear hR;have hR:=hR2;clear hR2 hr2 hS2 hc2 e1;obtain⟨f0,f1,f2,f3⟩:=sqF4 hR;obtain⟨y0,y1,y2,y3⟩:=sqC4 hR;have hfin:=hR.all4 (aw aB 0 0) (aw aB 0 0) (ax ay 0) (ax ay 0);have hbF:=(((hb.setCell (p:=⟨H+1,0,aB⟩) ww (aw aB 0 0)).setCell (p:=⟨H+1,1,aB⟩) ww (aw aB 0 0)).setCell (p:=⟨H+1,2,aB⟩) ww (ax ay 0)).setCell (p:=⟨H+1,3,aB⟩) ww (ax ay 0);clear hR hb;go_wp2_with fail;refine bodyPost_ret (zI rfl _ _ (H+1) _ _ _ _ wu hfin underlying27 rfl wm) rfl ?_;exact⟨rfl,hbF⟩
structure Fits (s:StoP) (D:ac):Prop where
 g:GoodS s
 d:D.length<=300
 l:s.aE.length<24\/(s.aE.findIdx? (fun b=>b.dig==shaS D)).isSome=true
 u:usd (putB s.aE D)<=s.aH
theorem Fits.good (h:Fits s D):GoodS (zH s D):=by
 rcases h.l with h1 | h1
 ·exact Yp h.g h.d h1 h.u
 ·obtain⟨i,hi⟩:=Option.isSome_iff_exists.1 h1;have:zH s D=s:=by unfold zH putB;rw [hi]
  rw [this];exact h.g
theorem Qo (A:ae) (c:Nat) (B:ae) (d:Nat) (s:StoP) (D:ac) (DA:ae) (dc:Nat) (w:World) (hf:Fits s D) (hr:RdSt w A c B d s) (hD:Sl w 1 DA D.length dc (bys D)) :
  Calls zZZ 158 #[.agg #[aw A s.aE.length c,aw B s.aF.length d,ax ay s.aH,ax ay s.aG],aw DA D.length dc] w fun e w' =>
   ∃A' c' B' d',e= .returned (.tuple #[.agg #[aw A' (zH s D).aE.length c',aw B' (zH s D).aF.length d',ax ay s.aH,ax ay s.aG],az ⟨(shaS D).toArray⟩,ax ay 0])/\OwSt w' w.heap.size (aw A' (zH s D).aE.length c') (aw B' (zH s D).aF.length d') (zH s D) (fun b=>b<w.heap.size)/\Below w.heap.size w w' :=
 (Y0 A c B d s D DA dc w hf.g hr hf.d hf.l hf.u hD).mono fun e w' ⟨v1,v2,h1,h2,h3⟩=>by
  obtain⟨A',c',B',d',e1,e2,_⟩:=h2.rows
  subst e1 e2
  exact⟨A',c',B',d',h1,h2,h3⟩
theorem Up (A:ae) (c:Nat) (B:ae) (d:Nat) (s x:StoP) (key:ac) (ps:List PartP) (PA:ae) (pc:Nat) (w:World) (hg:GoodS s) (hr:RdSt w A c B d s) (hk:hexC key=0) (hpz:chk ps=0) (hhv:qL s.aE ps=0) (hclk:s.aG<1099511627776) (hlen:s.aF.length<10) (hP:Sl w 3 PA ps.length pc (pcs ps)) (hx:x=xw s key ps) :
  Calls zZZ 180 #[.agg #[aw A s.aE.length c,aw B s.aF.length d,ax ay s.aH,ax ay s.aG],az ⟨key.toArray⟩,aw PA ps.length pc] w fun e w' =>
   ∃A' c' B' d',e= .returned (.tuple #[.agg #[aw A' x.aE.length c',aw B' x.aF.length d',ax ay x.aH,ax ay x.aG],ax ay 0])/\OwSt w' w.heap.size (aw A' x.aE.length c') (aw B' x.aF.length d') x (fun b=>b<w.heap.size)/\Below w.heap.size w w':=by
 subst hx;refine(z0j A c B d s key ps PA pc w hg hr hk hpz hhv hclk hlen hP).mono fun e w' ⟨v1,v2,h1,h2,h3⟩=> ?_;obtain⟨A',c',B',d',e1,e2,_⟩:=h2.rows;subst e1 e2;exact⟨A',c',B',d',h1,h2,h3⟩
theorem Ud (A:ae) (c:Nat) (B:ae) (d:Nat) (s y:StoP) (key:ac) (ps:List PartP) (i:Nat) (w:World) (hg:GoodS s) (hr:RdSt w A c B d s) (hi:i<s.aF.length) (hk:s.aF[i].key=key) (hps:s.aF[i].aL=ps) (hclk:s.aG<1099511627776) (hy:y=kz s i s.aF[i]) :
  Calls zZZ 128 #[.agg #[aw A s.aE.length c,aw B s.aF.length d,ax ay s.aH,ax ay s.aG],az ⟨key.toArray⟩] w fun e w' =>
   ∃A' c' B' d' A5 c5,e= .returned (.tuple #[.agg #[aw A' y.aE.length c',aw B' y.aF.length d',ax ay y.aH,ax ay y.aG],aw A5 ps.length c5,ax ay 0])/\OwSt w' w.heap.size (aw A' y.aE.length c') (aw B' y.aF.length d') y (fun b=>b<w.heap.size)/\w'.ownsRow w.heap.size 51 3 (aw A5 ps.length c5) ps.length (pcs ps)/\Below w.heap.size w w':=by
 subst hy;subst hps;refine(YS A c B d s key i w hg hr hi hk hclk).mono fun e w' ⟨v1,v2,v3,h1,h2,h4,h3⟩=> ?_;obtain⟨A',c',B',d',e1,e2,_⟩:=h2.rows;obtain⟨A5,c5,e5,_,_⟩:=vQ h4;subst e1 e2 e5;exact⟨A',c',B',d',A5,c5,h1,h2,h4,h3⟩
structure Bsy (m:Nat) (s:StoP) (c:ColP):Prop where
 g:GoodS s
 gc:GoodC s c
 gr:8*unm s.aE+c.aI.length<=296+9*m
 k7:∀x∈s.aF,∃j,j<7/\x.key=keyS j
 ck:s.aG<=24+m
theorem Bsy.e7 (h:Bsy m s c):s.aF.length<=7:=by
 have h1:=Yj (ks:=s.aF.map (·.key)) (by
  have:Rises (s.aF.map (·.key)):=h.g.e.ris.map;exact this.nodup) (fun k hk=>by
  obtain⟨x,hx,rfl⟩:=List.mem_map.1 hk;exact h.k7 x hx)
 rwa [List.length_map]at h1
theorem Bsy.up {n:Nat} (h:Bsy m s c) (hn:m<=n):Bsy n s c:=⟨h.g,h.gc,by have:=h.gr;omega,h.k7,by have:=h.ck;omega⟩
theorem z3y (hg:GoodS s):unm s.aE<=24:=Nat.le_trans (z3z _) hg.b.len
theorem z3p (hg:GoodS s):(rts s).length<=104:=by
 have h4:=vJ s.aF (fun x hx=>(zk (hg.e.one x hx).2.1).1);have h5:=Z2 s.aE;have h6:(rts s).length=(ux s.aF).length+(uH s.aE).length:=List.length_append;have:=hg.b.len;have:=hg.e.len;omega
theorem Bsy.begin (h:Bsy m s c):Bsy m (Xo s) (UE s):=by
 refine⟨K4 h.g,Xp h.g,?_,h.k7,h.ck⟩;have h1:unm (Xo s).aE<=24:=z3y (K4 h.g);have h3:(UE s).aI.length<=(rts s).length:=QN _;have:=z3p h.g;omega
theorem QH {l:List BlobP} {b:BlobP} (h:b∈putB l D):b∈l\/b=⟨shaS D,D,0,false⟩:=by
 unfold putB at h;cases hf:l.findIdx? (fun b=>b.dig==shaS D) with
 | none =>
  rw [hf]at h;rcases List.mem_cons.1 ((q9 _ _).mem_iff.1 h) with h | h
  ·exact .inr h
  ·exact .inl h
 | some i=>rw [hf]at h;exact .inl h
theorem uL {p:BlobP->Bool} (l:List BlobP) (D:ac):((putB l D).filter p).length<=(l.filter p).length+1:=by
 unfold putB;cases hf:l.findIdx? (fun b=>b.dig==shaS D) with
 | none =>
  show((srt _ _).filter p).length<=_;rw [((q9 _ _).filter p).length_eq,List.filter_cons];split
  ·simp
  ·omega
 | some i=>show(l.filter p).length<=_;omega
theorem Bsy.put (h:Bsy m s c) (hf:Fits s D):Bsy (m+1) (zG (zH s D) c [shaS D]).1 (zG (zH s D) c [shaS D]).2:=by
 have ht:GoodS (zH s D):=hf.good;have hsub:∀b∈s.aE,b∈(zH s D).aE:=fun b hb=>Ks hb;refine⟨uo c _ ht,xO h.gc h.g.b.ris ht.b.ris (fun d hd=> ?_) (fun x hx=> ?_) (fun x hx=> ?_) (fun x=> ?_) (fun x hx=> ?_),?_,?_,?_⟩
 ·rw [List.mem_singleton.1 hd];exact zq _
 ·left;rcases List.mem_append.1 hx with h1 | h1
  ·exact List.mem_append_left _ h1
  ·obtain⟨b,hb,rfl⟩:=List.mem_map.1 h1;obtain⟨h2,h3⟩:=List.mem_filter.1 hb;rcases QH h2 with h4 | h4
   ·exact List.mem_append_right _ (List.mem_map.2 ⟨b,List.mem_filter.2 ⟨h4,h3⟩,rfl⟩)
   ·subst h4;simp at h3
 ·obtain⟨b,hb,rfl⟩:=hx;rcases QH hb with h4 | h4
  ·exact .inl ⟨b,h4,rfl⟩
  ·subst h4;exact .inr (List.mem_singleton.2 rfl)
 ·rw [qD,qD];constructor
  ·rintro⟨b,hb,hm,e⟩;rcases QH hb with h4 | h4
   ·exact⟨b,h4,hm,e⟩
   ·subst h4;cases hm
  ·rintro⟨b,hb,hm,e⟩;exact⟨b,hsub b hb,hm,e⟩
 ·exact(vG ht.b.ris h.g.b.ris hsub hx).symm
 ·have h1:=uq (zH s D) c [shaS D];have h2:unm (zH s D).aE<=unm s.aE+1:=uL s.aE D;have h3:=h.gr;simp only [List.length_singleton]at h1;omega
 ·rw [kD];exact h.k7
 ·rw [kD];have:=h.ck;show s.aG<=_;omega
theorem Z0 {l:List EntP} (h:y∈x9 l x):y∈l\/(y.key=x.key/\y.aL=x.aL):=by
 unfold x9 at h;cases hf:l.findIdx? (fun y=>y.key==x.key) with
 | none =>
  rw [hf]at h;rcases List.mem_cons.1 ((q9 _ _).mem_iff.1 h) with h | h
  ·subst h;exact .inr ⟨rfl,rfl⟩
  ·exact .inl h
 | some i =>
  rw [hf]at h;rcases List.mem_or_eq_of_mem_set h with h | h
  ·exact .inl h
  ·subst h;exact .inr ⟨rfl,rfl⟩
theorem Bsy.pute {K:ac} (h:Bsy m s c) (hK:∃j,j<7/\K=keyS j) (hp:chk ps=0) (hh:qL s.aE ps=0) (hc:s.aG<1099511627776):Bsy (m+1) (zG (xw s K ps) c (ps.map (·.dig))).1 (zG (xw s K ps) c (ps.map (·.dig))).2:=by
 have hKx:hexC K=0:=by obtain⟨j,_,rfl⟩:=hK;exact zq _
 have ht:GoodS (xw s K ps):=jc h.g hKx hp (yD hh) hc (by have:=h.e7;omega);refine⟨uo c _ ht,xO h.gc h.g.b.ris ht.b.ris (fun d hd=> ?_) (fun x hx=> ?_) (fun x hx=> .inl hx) (fun x=>Iff.rfl) (fun x hx=>rfl),?_,?_,?_⟩
 ·obtain⟨p,hpm,rfl⟩:=List.mem_map.1 hd;exact((zk hp).2 p hpm).2.1
 ·rcases List.mem_append.1 hx with h1 | h1
  ·obtain⟨y,hy,h2⟩:=List.mem_flatMap.1 h1;rcases Z0 hy with h3 | ⟨_,h3⟩
   ·exact .inl (List.mem_append_left _ (List.mem_flatMap.2 ⟨y,h3,h2⟩))
   ·rw [h3]at h2;exact .inr h2
  ·exact .inl (List.mem_append_right _ h1)
 ·have h1:=uq (xw s K ps) c (ps.map (·.dig));have h2:unm (xw s K ps).aE=unm s.aE:=rfl;have h3:=h.gr;have h4:=(zk hp).1;rw [List.length_map]at h1;omega
 ·rw [kD];intro x hx;rcases Z0 (show x∈x9 s.aF _ from hx) with h3 | ⟨h3,_⟩
  ·exact h.k7 x h3
  ·rw [h3];exact hK
 ·rw [kD];have:=h.ck;show s.aG+1<=_;omega
theorem Bsy.hold {n:Nat} (h:Bsy m s c) (hi:i<s.aE.length) (hn:n<=5):Bsy (m+1) (zG (kg s i s.aE[i] n) c [s.aE[i].dig]).1 (zG (kg s i s.aE[i] n) c [s.aE[i].dig]).2:=by
 have ht:GoodS (kg s i s.aE[i] n):=un h.g hi hn;have hmem:∀b∈(kg s i s.aE[i] n).aE,∃a∈s.aE,a.dig=b.dig/\a.data=b.data/\a.mark=b.mark/\(a.aM=b.aM\/b.dig=s.aE[i].dig):=fun b hb=>by
  rcases List.mem_or_eq_of_mem_set hb with h1 | h1
  ·exact⟨b,h1,rfl,rfl,rfl,.inl rfl⟩
  ·subst h1;exact⟨_,List.getElem_mem hi,rfl,rfl,rfl,.inr rfl⟩
 have hmem2:∀a∈s.aE,∃b∈(kg s i s.aE[i] n).aE,b.dig=a.dig/\b.data=a.data/\b.mark=a.mark:=fun a ha=>by
  obtain⟨j,hj,rfl⟩:=List.mem_iff_getElem.1 ha;by_cases hij:i=j
  ·subst hij;exact⟨_,List.mem_iff_getElem.2 ⟨i,by show i<(s.aE.set i _).length;rw [List.length_set];exact hi,rfl⟩,by simp [kg],by simp [kg],by simp [kg]⟩
  ·have hjl:j<(s.aE.set i { s.aE[i] with aM:=n }).length:=by rw [List.length_set];exact hj
   exact⟨s.aE[j],List.mem_iff_getElem.2 ⟨j,hjl,by show(s.aE.set i { s.aE[i] with aM:=n })[j]'hjl=_;rw [List.getElem_set_ne hij]⟩,rfl,rfl,rfl⟩
 refine⟨uo c _ ht,xO h.gc h.g.b.ris ht.b.ris (fun d hd=> ?_) (fun x hx=> ?_) (fun x hx=> ?_) (fun x=> ?_) (fun x hx=> ?_),?_,?_,?_⟩
 ·rw [List.mem_singleton.1 hd,(h.g.b.one _ (List.getElem_mem hi)).1];exact zq _
 ·rcases List.mem_append.1 hx with h1 | h1
  ·exact .inl (List.mem_append_left _ h1)
  ·obtain⟨b,hb,rfl⟩:=List.mem_map.1 h1;obtain⟨h2,h3⟩:=List.mem_filter.1 hb;obtain⟨a,ha,e1,_,_,e4⟩:=hmem b h2;rcases e4 with e4 | e4
   ·exact .inl (List.mem_append_right _ (List.mem_map.2 ⟨a,List.mem_filter.2 ⟨ha,by rw [e4];exact h3⟩,e1⟩))
   ·exact .inr (List.mem_singleton.2 e4)
 ·obtain⟨b,hb,rfl⟩:=hx;obtain⟨a,ha,e1,_⟩:=hmem b hb;exact .inl ⟨a,ha,e1⟩
 ·rw [qD,qD];constructor
  ·rintro⟨b,hb,hm,rfl⟩;obtain⟨a,ha,e1,_,e3,_⟩:=hmem b hb;exact⟨a,ha,by rw [e3];exact hm,e1⟩
  ·rintro⟨a,ha,hm,rfl⟩;obtain⟨b,hb,e1,_,e3⟩:=hmem2 a ha;exact⟨b,hb,by rw [e3];exact hm,e1⟩
 ·obtain⟨a,ha,rfl⟩:=hx;obtain⟨b,hb,e1,e2,_⟩:=hmem2 a ha;rw [<-e1,xr ht.b.ris hb,e1,xr h.g.b.ris ha,e2]
 ·have h1:=uq (kg s i s.aE[i] n) c [s.aE[i].dig];have h2:unm (kg s i s.aE[i] n).aE<=24:=z3y ht;have h5:unm (kg s i s.aE[i] n).aE<=unm s.aE+1:=by
   unfold unm kg;have:∀(l:List BlobP) (k:Nat) (y:BlobP) (p:BlobP->Bool),((l.set k y).filter p).length<=(l.filter p).length+1:=fun l=>by
    induction l with
    | nil=>intro k y p;simp
    | cons a l ih =>
     intro k y p;cases k with
     | zero=>rw [List.set_cons_zero,List.filter_cons,List.filter_cons];split<;>split<;>first | omega | (simp only [List.length_cons];omega)
     | succ k=>rw [List.set_cons_succ,List.filter_cons,List.filter_cons];have:=ih k y p;split<;>first | omega | (simp only [List.length_cons];omega)
   exact this _ _ _ _
  have h3:=h.gr;simp only [List.length_singleton]at h1;omega
 ·rw [kD];exact h.k7
 ·rw [kD];have:=h.ck;show s.aG<=_;omega
open Go.Maps
theorem z1u {P Q:Prop} (h:Hid P->Q) (p:P):Q:=h (Lib.hid p)
theorem OwSt.mixC {w7 w8:World} {v1 v1' v2:Value} {N:ai} {l:List BlobP} (h:OwSt w7 base v1 v2 s N) (hN:∀b,N b->b<w7.heap.size) (hv:RwX BlobS 88 w8 w7.heap.size v1' l (fun b=>b<w7.heap.size)) (hbs:base<=w7.heap.size) (hbl:Below w7.heap.size w7 w8):OwSt w8 base v1' v2 { s with aE:=l } N:=by
 have h1:∀g,v1'.ownBlock=aC g->w7.heap.size<=g:=fun g e=>(hv.rwo.blk e).1;have h2:∀g,v2.ownBlock=aC g->g<w7.heap.size:=fun g e=>(h.e.rwo.blk e).2;refine⟨RwX.wider (hv.lower hbs) (N':=fun g=>N g\/v2.ownBlock=aC g) fun b hb=> .inl ?_,RwX.below (RwX.wider h.e (N':=fun g=>N g\/v1'.ownBlock=aC g) fun b hb=> ?_) hbl,fun g e1 e2=> ?_⟩
 ·rcases hb with hb | hb
  ·exact hN b hb
  ·exact h2 b hb
 ·rcases hb with hb | hb
  ·exact .inl (.inl hb)
  ·exact .inr (h1 b hb)
 ·have:=h1 g e1;have:=h2 g e2;omega
theorem Ql (A:ae) (c:Nat) (B:ae) (d:Nat) (s:StoP) (Ag:ae) (ng:Nat) (cp:ColP) (D:ae) (nd:Nat) (ds:List ac) (b0:Nat) (N:ai) (w:World) (hg:GoodS s) (ho:OwSt w b0 (aw A s.aE.length c) (aw B s.aF.length d) s N) (hb0:b0<=w.heap.size) (hN:∀b,N b->b<w.heap.size) (hgl:cp.aI.length<=2000) (hph:cp.aJ<=2) (hc:RdC w Ag ng cp) (hdn:ds.length<=nd) (hds:ds.length<=1000) (hD:Rd w 1 D ds.length (strs ds)) :
  Calls Tryz.prog 159 #[.agg #[aw A s.aE.length c,aw B s.aF.length d,ax ay s.aH,ax ay s.aG],coV (aw Ag cp.aI.length ng) cp,aw D ds.length nd] w fun e w' =>
   ∃v1 v3,e= .returned (.tuple #[stV v1 (aw B s.aF.length d) s,coV v3 (zG s cp ds).2])/\OwSt w' b0 v1 (aw B s.aF.length d) (zG s cp ds).1 N/\w'.ownsRow w.heap.size 9 1 v3 (zG s cp ds).2.aI.length (strs (zG s cp ds).2.aI)/\Below w.heap.size w w':=by
 have hlb:s.aE.length<=24:=hg.b.len;have HKP0:=sqH (show zG s cp ds=zG s cp ds from rfl);obtain⟨aJ,aI,at_⟩:=cp;simp only at hgl hph;obtain⟨w0,hw0,hS,hC,hR,hQ,hbx⟩:=qo w 27 30 [aw A s.aE.length c,aw B s.aF.length d,ax ay s.aH,ax ay s.aG] [ax ay aJ,aw Ag aI.length ng,az ⟨at_.toArray⟩] [aw aB 0 0,aw aB 0 0,ax ay 0,ax ay 0] [ax ay 0,aw aB 0 0,az ⟨#[]⟩];have hc0:=hc.below hbx;obtain⟨H,hH⟩:=wU w.heap.size
 have how:OwSt w b0 (aw A s.aE.length c) (aw B s.aF.length d) s (fun b=>N b\/H<=b/\b<w0.heap.size):=ho.wider fun b hb=>hb.imp id (fun h=>wj);have ho0:=how.below hbx;have hD0:=hD.below hbx;generalize hats:(⟨at_.toArray⟩:ByteArray)=ats at *
 rw [<-hH]at hS hC hR hQ hbx hb0 hN ⊢
 have HN:=sqH hN;clear hN;have hHl:H+1+1+1<w0.heap.size:=hQ.lt;obtain⟨HO0,HSX,HSB,HRG⟩:=sqJ4 ho0 (show ∀W,Below w0.heap.size w0 W->Arr W H 27 [aw A s.aE.length c,aw B s.aF.length d,ax ay s.aH,ax ay s.aG]/\Arr W (H+1) 30 [ax ay aJ,aw Ag aI.length ng,az ats]/\Arr W (H+2) 27 [aw aB 0 0,aw aB 0 0,ax ay 0,ax ay 0]/\Arr W (H+3) 30 [ax ay 0,aw aB 0 0,az ⟨#[]⟩]/\Rd W 1 D ds.length (strs ds) from fun W h=>⟨hS.below h,hC.below h,hR.below h,hQ.below h,hD0.below h⟩) (show ∀W,Below w0.heap.size w0 W->wC W (H+1) (ax ay aJ) (aw Ag aI.length ng) (az ats) from fun W h=>sqC3 (hC.below h)) (show ∀W,Below w0.heap.size w0 W->Rd W 1 Ag aI.length (strs aI) from fun W h=>(hc0.below h).rd);have hgcap:aI.length<=ng:=hc0.cap;have HBX:=sqH hbx;have HG:=sqH hg;clear hg ho how ho0 hc hc0 hD hD0 hS hC hR hQ hbx;go_enter func159,ntmps159;go_wp2_with fail;rw [<-hw0,<-hH];have HH:=sqH hH;have HATS:=sqH hats;clear hw0 hH hats;apply z1u;intro REST;refine wp_region_held_drew (S:=(fun w'=>wC w' (H+1) (ax ay aJ) (aw Ag aI.length ng) (az ats))) wm ?_ (fun hHeld=> ?_)
 ·exact HSB.o _ (Below.refl _ w0).drew
 have hB:=(Below.refl w0.heap.size w0).drew;generalize w0.drew=wn0 at *
 refine wM 0 ?_;refine wM 1 ?_;refine wM 2 ?_;refine wM 3 ?_;refine wM 5 ?_;refine wM 6 ?_;refine wpAnyH_ready (rs:= [4,8]) wm ws ?_;refine AllReadyH.cons (o:=_) rfl (fun K hK=> ?_) ?_
 ·
  go_simp;refine(kO Ag ng aI wn0 wj (HRG.o _ hB)).mono ?_;rintro e5 w5 ⟨v5,rfl,ho5,hb5⟩;obtain⟨A5,c5,rfl, -, -⟩:=Rd.of_own' ho5;dsimp only;refine ka hK ?_ (Below wn0.heap.size wn0) (fun W=>W.ownsRow w0.heap.size 9 1 (aw A5 aI.length c5) aI.length (strs aI)) ?_ ?_ (fun wn1 hHeld hst hnew=> ?_)
  ·(exact HSB.o _ (hB.trans (Below.mono (show Below wn0.heap.size wn0 _ from by(first | exact(Below.refl _ _).alloc ab _ | exact hb5)) hB.size)))
  ·(first | exact(Below.refl _ _).alloc ab _ | exact hb5)
  ·(exact zb ho5 hB.size)
  replace hB:=wg hB hst;have hl:=hnew;clear hnew ho5 hb5;clear hst;clear hK K
  refine wM 7 ?_;refine wQ 8 fun K hK=>?_;go_simp;refine ka hK ?_ (Below wn1.heap.size wn1) (fun W=>Arr W wn1.heap.size 30 [ax ay 0,aw aB 0 0,az ⟨#[]⟩]/\w0.heap.size<=wn1.heap.size) ?_ ?_ (fun wn2 hHeld hst hnew=> ?_)
  ·(exact HSB.o _ (hB.trans (Below.mono (show Below wn1.heap.size wn1 _ from by(first | exact(Below.refl _ _).alloc ab _ | exact hb5)) hB.size)))
  ·(first | exact(Below.refl _ _).alloc ab _ | exact hb5)
  ·(exact⟨Arr.new _ _ _,hB.size⟩)
  replace hB:=wg hB hst;replace hl:=zc hl hst;obtain⟨h8,hl8⟩:=hnew;obtain⟨g8,hg8⟩:=wU wn1.heap.size
  rw [<-hg8]at h8 hl8 ⊢
  clear hg8;clear hst;clear hK K
  try simp only [sqP]
  refine wQ 9 fun K hK=>?_;obtain⟨z0,z1,z2⟩:=sqC3 h8;obtain⟨f0,f1,f2⟩:=sqF3 h8;go_simp;clear z0 z1 z2 f0 f1 f2;have hn8:=zf hl h8 wo;refine ka hK ?_ (fun W=>Arr W g8 30 [ax ay aJ,aw A5 aI.length c5,az ats]) (fun W=>Below w0.heap.size w0 W/\W.ownsRow w0.heap.size 9 1 (aw A5 aI.length c5) aI.length (strs aI)) ?_ ?_ (fun wn3 hHeld hF hG=> ?_)
  ·exact HSB.o _ (((hB.setCell (p:=⟨g8,0,aB⟩) hl8 _).setCell (p:=⟨g8,1,aB⟩) hl8 _).setCell (p:=⟨g8,2,aB⟩) hl8 _)
  ·exact h8.all3 _ _ _
  ·exact⟨((hB.setCell (p:=⟨g8,0,aB⟩) hl8 _).setCell (p:=⟨g8,1,aB⟩) hl8 _).setCell (p:=⟨g8,2,aB⟩) hl8 _,kv hl hn8 _ _ _⟩
  clear hB h8 hl hn8;clear hK K
  try simp only [sqP]
  refine wpAnyH_done wm ?_ _;dsimp only [Exit.then];clear hHeld;obtain⟨hB,hl⟩:=hG;have hall:=aD hB (aD hl (aD hF hl8));clear hB hl hF hl8;generalize wn3=wz at hall ⊢
  revert hall;revert wz;revert c5;revert A5;revert g8;exact REST.o
 refine AllReadyH.cons (o:=_) rfl (fun K hK=> ?_) ?_
 ·
  go_simp;refine ka hK ?_ (Below wn0.heap.size wn0) (fun W=>Arr W wn0.heap.size 30 [ax ay 0,aw aB 0 0,az ⟨#[]⟩]/\w0.heap.size<=wn0.heap.size) ?_ ?_ (fun wn4 hHeld hst hnew=> ?_)
  ·(exact HSB.o _ (hB.trans (Below.mono (show Below wn0.heap.size wn0 _ from by(first | exact(Below.refl _ _).alloc ab _ | exact hb5)) hB.size)))
  ·(first | exact(Below.refl _ _).alloc ab _ | exact hb5)
  ·(exact⟨Arr.new _ _ _,hB.size⟩)
  replace hB:=wg hB hst;obtain⟨h8,hl8⟩:=hnew;obtain⟨g8,hg8⟩:=wU wn0.heap.size
  rw [<-hg8]at h8 hl8 ⊢
  clear hg8;clear hst;clear hK K
  try simp only [sqP]
  refine wQ 4 fun K hK=>?_;go_simp;refine(kO Ag ng aI wn4 wj (HRG.o _ hB)).mono ?_;rintro e5 w5 ⟨v5,rfl,ho5,hb5⟩;obtain⟨A5,c5,rfl, -, -⟩:=Rd.of_own' ho5;dsimp only;refine ka hK ?_ (Below wn4.heap.size wn4) (fun W=>W.ownsRow w0.heap.size 9 1 (aw A5 aI.length c5) aI.length (strs aI)) ?_ ?_ (fun wn5 hHeld hst hnew=> ?_)
  ·(exact HSB.o _ (hB.trans (Below.mono (show Below wn4.heap.size wn4 _ from by(first | exact(Below.refl _ _).alloc ab _ | exact hb5)) hB.size)))
  ·(first | exact(Below.refl _ _).alloc ab _ | exact hb5)
  ·(exact zb ho5 hB.size)
  replace hB:=wg hB hst;replace h8:=h8.below hst;have hl:=hnew;clear hnew ho5 hb5;clear hst;clear hK K
  refine wM 7 ?_;refine wQ 9 fun K hK=>?_;obtain⟨z0,z1,z2⟩:=sqC3 h8;obtain⟨f0,f1,f2⟩:=sqF3 h8;go_simp;clear z0 z1 z2 f0 f1 f2;have hn8:=zf hl h8 wo;refine ka hK ?_ (fun W=>Arr W g8 30 [ax ay aJ,aw A5 aI.length c5,az ats]) (fun W=>Below w0.heap.size w0 W/\W.ownsRow w0.heap.size 9 1 (aw A5 aI.length c5) aI.length (strs aI)) ?_ ?_ (fun wn6 hHeld hF hG=> ?_)
  ·exact HSB.o _ (((hB.setCell (p:=⟨g8,0,aB⟩) hl8 _).setCell (p:=⟨g8,1,aB⟩) hl8 _).setCell (p:=⟨g8,2,aB⟩) hl8 _)
  ·exact h8.all3 _ _ _
  ·exact⟨((hB.setCell (p:=⟨g8,0,aB⟩) hl8 _).setCell (p:=⟨g8,1,aB⟩) hl8 _).setCell (p:=⟨g8,2,aB⟩) hl8 _,kv hl hn8 _ _ _⟩
  clear hB h8 hl hn8;clear hK K
  try simp only [sqP]
  refine wpAnyH_done wm ?_ _;dsimp only [Exit.then];clear hHeld;obtain⟨hB,hl⟩:=hG;have hall:=aD hB (aD hl (aD hF hl8));clear hB hl hF hl8;generalize wn6=wz at hall ⊢
  revert hall;revert wz;revert c5;revert A5;revert g8;exact REST.o
 exact AllReadyH.nil;intro g8 A5 c5 wz hall;obtain⟨hB,hl,h8,hl8⟩:=hall;have h3:aJ=0\/aJ=1\/aJ=2:=wj;obtain⟨hS,hC,hR,hQ,hD⟩:=HSX.o _ hB;have ho:=HO0.o.below hB;have hwz:=hB.size;have hbz:=hB;have hB:=HBX.o.trans (hB.mono (show H<=w0.heap.size by omega));have y0:=hC.c0;rcases h3 with h3 | h3 | h3
 ·have HKP:=sqH (show zG s ⟨aJ,aI,at_⟩ ds=(s,⟨aJ,aI,at_⟩) from UT h3);have g1:((aJ:Int)==1)=false:=by rw [h3];rfl
  have g2:((aJ:Int)==2)=false:=by rw [h3];rfl
  clear hC hD HKP0 h3
  refine wH ?_;intros;clear y0 g1 g2;have hHg:H+2≠H+3:=wj;obtain⟨HF1,HF2,HF3,HF4,HF5⟩:=sqJ5 (qT (g:=H+2) (h:=H+3) (u0:=(aw A s.aE.length c)) (u1:= aw B s.aF.length d) (u2:= ax ay s.aH) (u3:= ax ay s.aG) (x0:= ax ay aJ) (x1:=(aw A5 aI.length c5)) (x2:= az ats) hR hHg) (qU (g:=H+2) (h:=H+3) (u0:=(aw A s.aE.length c)) (u1:= aw B s.aF.length d) (u2:= ax ay s.aH) (u3:= ax ay s.aG) (x0:= ax ay aJ) (x1:=(aw A5 aI.length c5)) (x2:= az ats) hQ hHg) (qE (g:=H+2) (h:=H+3) (u0:=(aw A s.aE.length c)) (u1:= aw B s.aF.length d) (u2:= ax ay s.aH) (u3:= ax ay s.aG) (x0:= ax ay aJ) (x1:=(aw A5 aI.length c5)) (x2:= az ats) ho (.inr ⟨wj,wj⟩) (.inr ⟨wj,wj⟩) (ho.nb hR wo wo).1 (ho.nb hR wo wo).2 (ho.nb hQ wo wo).1 (ho.nb hQ wo wo).2) (qQ (g:=H+2) (h:=H+3) (u0:=(aw A s.aE.length c)) (u1:= aw B s.aF.length d) (u2:= ax ay s.aH) (u3:= ax ay s.aG) (x0:= ax ay aJ) (x1:=(aw A5 aI.length c5)) (x2:= az ats) hl (zf hl hR wo) (zf hl hQ wo)) (zL (g:=H+2) (h:=H+3) (u0:=(aw A s.aE.length c)) (u1:= aw B s.aF.length d) (u2:= ax ay s.aH) (u3:= ax ay s.aG) (x0:= ax ay aJ) (x1:=(aw A5 aI.length c5)) (x2:= az ats) hB wj wj);obtain⟨f0,f1,f2,f3⟩:=sqF4 hR;obtain⟨y0,y1,y2,y3⟩:=sqC4 hR;obtain⟨e0,e1,e2⟩:=sqF3 hQ;obtain⟨x0,x1,x2⟩:=sqC3 hQ;obtain⟨s0,s1,s2,s3⟩:=sqC4 hS;obtain⟨t0,t1,t2⟩:=sqC3 h8;have n1:¬(H=H+2):=wj;have n2:¬(g8=H+2):=wj;have n3:¬(H=H+3):=wj;clear hR hQ ho hl hB hS h8
  refine wH ?_;intros;go_region
  all_goals (try dsimp only [Exit.then])
  go_wp2_with fail;refine bodyPost_ret (kF rfl _ _ (H+2) (H+3) _ _ _ _ _ _ _ _ wu (Arr.drew HF1.o) underlying27 rfl wm wu (Arr.drew HF2.o) underlying30 rfl wm) rfl ?_;have e9:=HATS.o;subst e9;rw [HKP.o];exact⟨_,_,rfl,HF3.o.drewX.mono (fun b hb=> .inl hb),zb HF4.o.drew wj,HF5.o.drew⟩
 ·have HKP:=sqH (show zG s ⟨aJ,aI,at_⟩ ds=(s,⟨aJ,uni (aI++ds),at_⟩) from by rw [z3i h3,h3]);have g1:((aJ:Int)==1)=true:=by rw [h3];rfl
  have y1:=hC.c1;have hrg:Rd wz 1 Ag aI.length (strs aI):=HRG.o _ hbz;have HAD:=sqH (Jw Ag D ng nd aI ds wz hgcap hdn wj wj hrg hD);have ho1:=(HO0.o.wider (N':=fun b=>N b\/H<=b) (fun b hb=>by
   rcases hb with hb | hb
   ·exact .inl (.inl hb)
   ·by_cases h:b<w0.heap.size
    ·exact .inl (.inr ⟨hb,h⟩)
    ·exact .inr wj)).below hbz
  obtain⟨H8,HHS,HHR,HHQ,HO1,HBZ⟩:=sqJ6 h8 hS hR hQ ho1 hB;clear hC hD HKP0 h3 hrg ho1 ho hl h8 hS hR hQ hB;go_wp2_with fail;clear y0 y1 g1;refine HAD.o.mono ?_;rintro e_ w5 ⟨v5,N5,rfl,hN5, -,ho5,hb5⟩;dsimp only;obtain rfl:=hN5.uni (L:=aI++ds) (fun x=>List.mem_append.symm);obtain⟨A6,c6,rfl, -, -⟩:=Rd.of_own' ho5;have h8:=H8.o.below hb5;have hz1:=h8.c1;have hf1:=h8.frozen 1;have h8':=h8.set (k:=1) ws (aw A6 (uni (aI++ds)).length c6);simp only [List.set_cons_succ,List.set_cons_zero]at h8';have hn8:=zf ho5 h8 wo;have hne:=(HO1.o.below hb5).nb h8 wo wo;have ho':=((HO1.o.below hb5).setX (g:=g8) (k:=1) (.inr wj) hne.1 hne.2 (aw A6 (uni (aI++ds)).length c6)).mono (N':=fun b=>N b\/H<=b/\b<w0.heap.size) (fun b hb=>hb.imp id And.left);have hl':=zd (k:=1) (u:= aw A6 (uni (aI++ds)).length c6) ho5 hn8;have hS':=(HHS.o.below hb5).other (k:=1) (g':=g8) wj (aw A6 (uni (aI++ds)).length c6);have hR':=(HHR.o.below hb5).other (k:=1) (g':=g8) wj (aw A6 (uni (aI++ds)).length c6);have hQ':=(HHQ.o.below hb5).other (k:=1) (g':=g8) wj (aw A6 (uni (aI++ds)).length c6);have hB':=(HBZ.o.trans (hb5.mono (show H<=wz.heap.size by omega))).setCell (p:=⟨g8,1,aB⟩) ww (aw A6 (uni (aI++ds)).length c6);have HX:=sqH (aD ho' (aD hl' (aD hS' (aD hR' (aD hQ' (aD hB' h8'))))));clear ho' hl' hS' hR' hQ' hB' h8' hn8 hne h8 ho5 hb5 hN5;generalize uni (aI++ds)=U at *
  refine wH ?_;intros;clear hz1 hf1;obtain⟨ho,hl,hS,hR,hQ,hB,h8⟩:=HX.o;clear HX;have hHg:H+2≠H+3:=wj;obtain⟨HF1,HF2,HF3,HF4,HF5⟩:=sqJ5 (qT (g:=H+2) (h:=H+3) (u0:=(aw A s.aE.length c)) (u1:= aw B s.aF.length d) (u2:= ax ay s.aH) (u3:= ax ay s.aG) (x0:= ax ay aJ) (x1:=(aw A6 U.length c6)) (x2:= az ats) hR hHg) (qU (g:=H+2) (h:=H+3) (u0:=(aw A s.aE.length c)) (u1:= aw B s.aF.length d) (u2:= ax ay s.aH) (u3:= ax ay s.aG) (x0:= ax ay aJ) (x1:=(aw A6 U.length c6)) (x2:= az ats) hQ hHg) (qE (g:=H+2) (h:=H+3) (u0:=(aw A s.aE.length c)) (u1:= aw B s.aF.length d) (u2:= ax ay s.aH) (u3:= ax ay s.aG) (x0:= ax ay aJ) (x1:=(aw A6 U.length c6)) (x2:= az ats) ho (.inr ⟨wj,wj⟩) (.inr ⟨wj,wj⟩) (ho.nb hR wo wo).1 (ho.nb hR wo wo).2 (ho.nb hQ wo wo).1 (ho.nb hQ wo wo).2) (qQ (g:=H+2) (h:=H+3) (u0:=(aw A s.aE.length c)) (u1:= aw B s.aF.length d) (u2:= ax ay s.aH) (u3:= ax ay s.aG) (x0:= ax ay aJ) (x1:=(aw A6 U.length c6)) (x2:= az ats) hl (zf hl hR wo) (zf hl hQ wo)) (zL (g:=H+2) (h:=H+3) (u0:=(aw A s.aE.length c)) (u1:= aw B s.aF.length d) (u2:= ax ay s.aH) (u3:= ax ay s.aG) (x0:= ax ay aJ) (x1:=(aw A6 U.length c6)) (x2:= az ats) hB wj wj);obtain⟨f0,f1,f2,f3⟩:=sqF4 hR;obtain⟨y0,y1,y2,y3⟩:=sqC4 hR;obtain⟨e0,e1,e2⟩:=sqF3 hQ;obtain⟨x0,x1,x2⟩:=sqC3 hQ;obtain⟨s0,s1,s2,s3⟩:=sqC4 hS;obtain⟨t0,t1,t2⟩:=sqC3 h8;have n1:¬(H=H+2):=wj;have n2:¬(g8=H+2):=wj;have n3:¬(H=H+3):=wj;clear hR hQ ho hl hB hS h8
  refine wH ?_;intros;go_region
  all_goals (try dsimp only [Exit.then])
  go_wp2_with fail;refine bodyPost_ret (kF rfl _ _ (H+2) (H+3) _ _ _ _ _ _ _ _ wu (Arr.drew HF1.o) underlying27 rfl wm wu (Arr.drew HF2.o) underlying30 rfl wm) rfl ?_;have e9:=HATS.o;subst e9;rw [HKP.o];exact⟨_,_,rfl,HF3.o.drewX.mono (fun b hb=> .inl hb),zb HF4.o.drew wj,HF5.o.drew⟩
 ·have HKP:=sqH (show zG s ⟨aJ,aI,at_⟩ ds=({ s with aE:=qe s.aE (Ku s.aE ds) },⟨aJ,aI,at_⟩) from z3j h3);have g1:((aJ:Int)==1)=false:=by rw [h3];rfl
  have g2:((aJ:Int)==2)=true:=by rw [h3];rfl
  have x0:=hS.c0;obtain⟨_,_,_,_,e1,e2,hrd⟩:=ho.rows;cases e1;cases e2
  obtain⟨HMA,H8,HHS,HHR,HHQ,HO1,HLL,HBZ⟩:=sqJ8 (z0d A D c nd s.aE ds wz wj hrd.bc hrd.bm HG.o.b.ris (fun b hb=>by have:=(HG.o.b.one b hb).2.1;omega) (fun x hx=>by rw [(HG.o.b.one x hx).1];have:=qO (zq x.data);omega) hrd.b wj hD) h8 hS hR hQ ho hl hB;have hH2:H<wz.heap.size:=hS.lt;clear hC hD HKP0 h3 hrd ho hl h8 hS hR hQ hB;go_wp2_with fail;clear y0 x0 g1 g2;refine HMA.o.mono ?_;rintro e_ w5 ⟨g5,L5,rfl,hL5,hx5,hb5⟩;dsimp only;obtain rfl:=hL5.uniq (Jg HG.o.b.ris ds);have hS5:=HHS.o.below hb5;have hz0:=hS5.c0;have hf0:=hS5.frozen 0;have ho5:=HO1.o.mixC (fun b hb=>by
   rcases hb with hb | hb
   ·have:=HN.o b hb;omega
   ·omega) hx5 wj hb5
  have hne:=ho5.nb hS5 wo wo;have ho':=ho5.setX (g:=H) (k:=0) (.inr ⟨Nat.le_refl _,wj⟩) hne.1 hne.2 (aw (aC ⟨g5,0,aB⟩) s.aE.length s.aE.length);have hl5:=zc HLL.o hb5;have hl':=zd (k:=0) (u:= aw (aC ⟨g5,0,aB⟩) s.aE.length s.aE.length) hl5 (zf hl5 hS5 wo);have hS':=hS5.set (k:=0) ws (aw (aC ⟨g5,0,aB⟩) s.aE.length s.aE.length);simp only [List.set_cons_zero]at hS';have h8':=(H8.o.below hb5).other (k:=0) (g':=H) wj (aw (aC ⟨g5,0,aB⟩) s.aE.length s.aE.length);have hR':=(HHR.o.below hb5).other (k:=0) (g':=H) wj (aw (aC ⟨g5,0,aB⟩) s.aE.length s.aE.length);have hQ':=(HHQ.o.below hb5).other (k:=0) (g':=H) wj (aw (aC ⟨g5,0,aB⟩) s.aE.length s.aE.length);have hB':=(HBZ.o.trans (hb5.mono (show H<=wz.heap.size by omega))).setCell (p:=⟨H,0,aB⟩) ww (aw (aC ⟨g5,0,aB⟩) s.aE.length s.aE.length);have HX:=sqH (aD ho' (aD hl' (aD hS' (aD hR' (aD hQ' (aD hB' h8'))))));clear ho' hl' hS' hR' hQ' hB' h8' hne ho5 hl5 hb5 hL5 hx5 hS5;generalize qe s.aE (Ku s.aE ds)=mk at *
  refine wH ?_;intros;clear hz0 hf0;obtain⟨ho,hl,hS,hR,hQ,hB,h8⟩:=HX.o;clear HX;have hHg:H+2≠H+3:=wj;obtain⟨HF1,HF2,HF3,HF4,HF5⟩:=sqJ5 (qT (g:=H+2) (h:=H+3) (u0:=(aw (aC ⟨g5,0,aB⟩) s.aE.length s.aE.length)) (u1:= aw B s.aF.length d) (u2:= ax ay s.aH) (u3:= ax ay s.aG) (x0:= ax ay aJ) (x1:=(aw A5 aI.length c5)) (x2:= az ats) hR hHg) (qU (g:=H+2) (h:=H+3) (u0:=(aw (aC ⟨g5,0,aB⟩) s.aE.length s.aE.length)) (u1:= aw B s.aF.length d) (u2:= ax ay s.aH) (u3:= ax ay s.aG) (x0:= ax ay aJ) (x1:=(aw A5 aI.length c5)) (x2:= az ats) hQ hHg) (qE (g:=H+2) (h:=H+3) (u0:=(aw (aC ⟨g5,0,aB⟩) s.aE.length s.aE.length)) (u1:= aw B s.aF.length d) (u2:= ax ay s.aH) (u3:= ax ay s.aG) (x0:= ax ay aJ) (x1:=(aw A5 aI.length c5)) (x2:= az ats) ho (.inr ⟨wj,wj⟩) (.inr ⟨wj,wj⟩) (ho.nb hR wo wo).1 (ho.nb hR wo wo).2 (ho.nb hQ wo wo).1 (ho.nb hQ wo wo).2) (qQ (g:=H+2) (h:=H+3) (u0:=(aw (aC ⟨g5,0,aB⟩) s.aE.length s.aE.length)) (u1:= aw B s.aF.length d) (u2:= ax ay s.aH) (u3:= ax ay s.aG) (x0:= ax ay aJ) (x1:=(aw A5 aI.length c5)) (x2:= az ats) hl (zf hl hR wo) (zf hl hQ wo)) (zL (g:=H+2) (h:=H+3) (u0:=(aw (aC ⟨g5,0,aB⟩) s.aE.length s.aE.length)) (u1:= aw B s.aF.length d) (u2:= ax ay s.aH) (u3:= ax ay s.aG) (x0:= ax ay aJ) (x1:=(aw A5 aI.length c5)) (x2:= az ats) hB wj wj);obtain⟨f0,f1,f2,f3⟩:=sqF4 hR;obtain⟨y0,y1,y2,y3⟩:=sqC4 hR;obtain⟨e0,e1,e2⟩:=sqF3 hQ;obtain⟨x0,x1,x2⟩:=sqC3 hQ;obtain⟨s0,s1,s2,s3⟩:=sqC4 hS;obtain⟨t0,t1,t2⟩:=sqC3 h8;have n1:¬(H=H+2):=wj;have n2:¬(g8=H+2):=wj;have n3:¬(H=H+3):=wj;clear hR hQ ho hl hB hS h8
  refine wH ?_;intros;go_region
  all_goals (try dsimp only [Exit.then])
  go_wp2_with fail;refine bodyPost_ret (kF rfl _ _ (H+2) (H+3) _ _ _ _ _ _ _ _ wu (Arr.drew HF1.o) underlying27 rfl wm wu (Arr.drew HF2.o) underlying30 rfl wm) rfl ?_;have e9:=HATS.o;subst e9;rw [HKP.o];exact⟨_,_,rfl,HF3.o.drewX.mono (fun b hb=> .inl hb),zb HF4.o.drew wj,HF5.o.drew⟩
theorem z08 (A:ae) (c:Nat) (x:List PartP) (w:World) (hx8:x.length<=1000) (hr:Rd w 3 A x.length (pcs x)) :
  Calls Tryz.prog 181 #[aw A x.length c] w fun e w'=>∃v,e= .returned v/\w'.ownsRow w.heap.size 9 1 v (x.map (·.dig)).length (strs (x.map (·.dig)))/\Below w.heap.size w w':=by
 have HR2:=sqH hr;clear hr;go_enter func181,ntmps181;go_wp2_with fail;go_loopg [3,8,5] x.length (fun gn v i u wr=>∃k:Nat,gn=x.length - k/\i= ax ay k/\k<=x.length/\wr.ownsRow w.heap.size 9 1 v k (dcs (x.take k))/\Below w.heap.size w wr)
 case atStart=>exact⟨0,rfl,rfl,wj,World.ownsRow_nil _ _ _ _,Below.refl _ _⟩
 case round =>
  obtain⟨k,hgk,rfl,hk,ho,hbl⟩:=hrel;have HGK:=sqH hgk;clear hgk;by_cases hlt:k<x.length
  ·have hstep:=Kb x k hlt;have hat:=fun j (hj:j<3)=>yE x k j hlt hj;obtain⟨b,off,rfl,hbw',hcell⟩:=(HR2.o.below hbl).2 wj;have c0:=hcell (k*3+0) _ (hat 0 wj);have c1:=hcell (k*3+1) _ (hat 1 wj);have c2:=hcell (k*3+2) _ (hat 2 wj);rw [Nat.add_zero]at c0;rw [show off+(k*3+1)=off+k*3+1 by omega]at c1;rw [show off+(k*3+2)=off+k*3+2 by omega]at c2
   try dsimp only [yv,List.getElem?_cons_zero,List.getElem?_cons_succ]at c0 c1 c2
   generalize (⟨x[k].name.toArray⟩:ByteArray)=s' at *
   generalize (⟨x[k].dig.toArray⟩:ByteArray)=t' at *
   generalize (x[k].size:Int)=z' at *
   have HST:=sqH hstep;have hk0:=wX k
   have hk1:(k:Int)<(x.length:Int):=wj;have hcc:decide (k<x.length)=true:=decide_eq_true hlt;clear hstep hat hcell
   refine wH ?_;intros;have hbl':=hbl.alloc hbl.size (.cells #[az s',az t',ax ay z'] 51);have ho':=ho.alloc (.cells #[az s',az t',ax ay z'] 51);have hs1:(wr.alloc (.cells #[az s',az t',ax ay z'] 51)).heap.size=wr.heap.size+1:=World.size_alloc _ _;generalize wr.alloc (.cells #[az s',az t',ax ay z'] 51)=wb at *
   rw [<-hs1];clear hs1 ho hbl c0 c1 c2;refine zg rfl (.tmp 12) (.tmp 15) rfl z3b wu ho' (us:= [az t']) (m:=1) wu rfl (by intro u hu;simp at hu;subst hu;rfl) wj hbl'.size ?_;intro v5 w5 ho5 hg5 hv5;rw [<-HST.o]at ho5;have hbl5:=zj hbl' ho' ab hg5;go_wp2_with fail;go_roundg (x.length - (k+1))
   case measure=>exact wW HGK
   case rel=>exact⟨k+1,rfl,by go_num,wj,ho5,hbl5⟩
  ·obtain rfl:k=x.length:=by omega
   have hcc:decide (x.length<x.length)=false:=ws;rw [List.take_length,vC]at ho;have hml:(x.map (·.dig)).length=x.length:=List.length_map _;have HML:=sqH hml;clear hml;go_wp2_with fail;go_ret;exact⟨_,rfl,by rw [HML.o];exact ho,hbl⟩
theorem yK:∀(fs gs:List FlP) (i:Nat) (k:ac),fs.map (·.key)=gs.map (·.key)->fnd i fs k=fnd i gs k
 | [], [],i,k,_=>rfl
 | f::fs,g::gs,i,k,h=>by
  simp only [List.map_cons,List.cons.injEq]at h
  rw [fnd,fnd,h.1,yK fs gs (i+1) k h.2]
theorem CrewOk.snoc {l:List Int} (h:CrewOk l) (h1:1<=n) (h2:n<=1000) (hn:l.contains n=false):CrewOk (l++ [n]):=fun j hj=>by
 rw [List.length_append]at hj
 simp only [List.length_cons,List.length_nil]at hj
 by_cases hl:j<l.length
 ·rw [List.getElem_append_left hl,List.take_append_of_le_length wj]
  exact h j hl
 ·have he:j=l.length:=wj
  subst he
  rw [List.getElem_append_right ab,List.take_left]
  simp only [Nat.sub_self,List.getElem_cons_zero]
  exact⟨⟨h1,h2⟩,hn⟩
theorem CrewOk.one (h1:1<=n) (h2:n<=1000):CrewOk [n]:=fun j hj=>by
 have h0:j=0:=by simpa using hj
 subst h0
 exact⟨⟨h1,h2⟩,rfl⟩
theorem GoodF.nil_:GoodF []:=⟨ws,(fun j h=>by cases h),(fun j h=>by cases h),(fun j h=>by cases h),(fun j h=>by cases h)⟩
theorem GoodF.snoc (h:GoodF fs) (h6:fs.length<6) (hk:hexC k=0) (hkl:k.length<=1000) (hf:fnd 0 fs k=aB) (h1:1<=n) (h2:n<=1000):GoodF (fs++ [⟨k,n, []⟩]):=by
 have split:∀j,j<(fs++ [(⟨k,n, []⟩:FlP)]).length->j<fs.length\/j=fs.length:=fun j hj=>by
  rw [List.length_append]at hj;simp only [List.length_cons,List.length_nil]at hj;omega
 refine⟨by rw [List.length_append];simp only [List.length_cons,List.length_nil];omega,fun j hj=> ?_,fun j hj=> ?_,fun j hj=> ?_,fun j hj=> ?_⟩
 ·rcases split j hj with hl | rfl
  ·rw [List.getElem_append_left hl];exact h.key j hl
  ·rw [List.getElem_append_right ab];simp only [Nat.sub_self,List.getElem_cons_zero];exact⟨hk,hkl⟩
 ·rcases split j hj with hl | rfl
  ·rw [List.getElem_append_left hl,List.take_append_of_le_length wj];exact h.one j hl
  ·rw [List.getElem_append_right ab,List.take_left];simp only [Nat.sub_self,List.getElem_cons_zero];exact hf
 ·rcases split j hj with hl | rfl
  ·rw [List.getElem_append_left hl];exact h.few j hl
  ·rw [List.getElem_append_right ab];simp only [Nat.sub_self,List.getElem_cons_zero];exact Nat.zero_le _
 ·rcases split j hj with hl | rfl
  ·rw [List.getElem_append_left hl];exact h.crew j hl
  ·rw [List.getElem_append_right ab];simp only [Nat.sub_self,List.getElem_cons_zero];exact CrewOk.one h1 h2
theorem GoodF.set (h:GoodF fs) (hi:i<fs.length) (h1:1<=n) (h2:n<=1000) (hin:(fs[i].lead::fs[i].wait).contains n=false) (h5:fs[i].wait.length<5) :
  GoodF (fs.set i ⟨fs[i].key,fs[i].lead,fs[i].wait++ [n]⟩):=by
 have hkeys:∀m,((fs.set i ⟨fs[i].key,fs[i].lead,fs[i].wait++ [n]⟩).take m).map (·.key)=(fs.take m).map (·.key):=fun m=>by
  rw [List.map_take,List.map_take,List.map_set]
  congr 1
  apply List.ext_getElem
  ·simp
  ·intro j h1 h2;rw [List.getElem_set];split
   ·rename_i e;subst e;simp
   ·rfl
 refine⟨by rw [List.length_set];exact h.len,fun j hj=> ?_,fun j hj=> ?_,fun j hj=> ?_,fun j hj=> ?_⟩
 all_goals
  rw [List.length_set]at hj;by_cases e:i=j
  ·subst e
   first
    | (rw [List.getElem_set_self];exact h.key i hi)
    | (rw [List.getElem_set_self,yK _ _ _ _ (hkeys i)];exact h.one i hi)
    | (rw [List.getElem_set_self,List.length_append];simp only [List.length_cons,List.length_nil];omega)
    | (rw [List.getElem_set_self];exact(h.crew i hi).snoc h1 h2 hin)
  ·first
    | (rw [List.getElem_set_ne e];exact h.key j hj)
    | (rw [List.getElem_set_ne e,yK _ _ _ _ (hkeys j)];exact h.one j hj)
    | (rw [List.getElem_set_ne e];exact h.few j hj)
    | (rw [List.getElem_set_ne e];exact h.crew j hj)
theorem z4c:El zZZ 31 95 3 48:=El.mk' (z:= .agg #[az ByteArray.empty,ax ay 0,aw aB 0 0]) underlying31 wm rfl wj wj
theorem Ze (A:ae) (c:Nat) (l:List Int) (w:World) (hb:l.length<=1000000) (hr:Rd w 1 A l.length (ins l)) :
  Calls zZZ 182 #[aw A l.length c] w fun e w'=>∃v,e= .returned v/\w'.ownsRow w.heap.size 3 1 v l.length (ins l)/\Below w.heap.size w w':=by
 have heq:=fun W=>Lib.run_eql_slice_nil (P:=zZZ) W 46 3 A l.length c 0 0 underlying46;cases A with
 | none =>
  have h0:l.length=0:=by
   rcases Nat.eq_zero_or_pos l.length with h | h
   ·exact h
   ·obtain⟨_,_,h1,_⟩:=hr.2 h;cases h1
  obtain rfl:l= []:=List.eq_nil_of_length_eq_zero h0;have heq:=fun W=>Lib.run_eql_slice_nil (P:=zZZ) W 46 3 aB 0 c 0 0 underlying46;rw [List.length_nil];go_enter func182,ntmps182;go_wp2_with fail;go_ret;exact⟨_,rfl,World.ownsRow_nil _ _ _ _,Below.refl _ _⟩
 | some ad =>
  go_enter func182,ntmps182
  refine wH ?_;intros;refine zK rfl (.tmp 5) (.tmp 6) rfl z13 wu (World.ownsRow_made (size:=1) w #[] 0 ab (by simp [maxLen]) rfl) wu (hr.alloc _) (XX l) wj ws ?_;intro v1 w1 hown1 hg1 _;have hb1:=zj ((Below.refl _ _).alloc ab _) (World.ownsRow_made (size:=1) w #[] 0 ab (by simp [maxLen]) rfl) ab hg1;go_wp2_with fail;go_ret;exact⟨_,rfl,by simpa using hown1,hb1⟩
def kf (fs:List FlP) (As:List (ae×Nat)):af:=(fs.zip As).flatMap fun x=>qN x.1 x.2.1 x.2.2
def blk (a:ae×Nat):Option Nat:=a.1.map (·.block)
theorem qC (a:ae×Nat) (n:Nat):(aw a.1 n a.2).ownBlock=blk a:=by
 obtain⟨A,c⟩:=a;cases A<;>rfl
def FlsO (w:World) (base:Nat) (v:Value) (fs:List FlP):Prop :=
 ∃(As:List (ae×Nat)),As.length=fs.length/\w.ownsRow base 95 3 v fs.length (kf fs As) /\
  (∀(k:Nat) (p:FlP) (a:ae×Nat),fs[k]?=aC p->As[k]?=aC a->w.ownsRow base 3 1 (aw a.1 p.wait.length a.2) p.wait.length (ins p.wait)/\∀g,blk a=aC g->v.ownBlock≠aC g) /\
  (∀(k j:Nat) (a b:ae×Nat),k<j->As[k]?=aC a->As[j]?=aC b->∀g,blk a=aC g->blk b≠aC g)
theorem z1l {n c:Nat} {A:ae} (h:w.ownsRow base e 1 (aw A n c) n xs):n<=c/\c<=maxLen:=by
 rcases h.2 with ⟨h1,h2⟩ | ⟨_,cap,_,h1,_,_,h2,h3,_⟩
 ·injection h1 with _ _ h3;subst h3;omega
 ·injection h1 with _ _ h4;subst h4;exact⟨h2,h3⟩
theorem FlsO.fls (h:FlsO w base v fs):∃A c,v= aw A fs.length c/\fs.length<=c/\Fls w A fs:=by
 obtain⟨As,h1,h2,h3,h4⟩:=h;obtain⟨A,c,rfl,hc,hr⟩:=Rd.of_own' h2;refine⟨A,c,rfl,hc,As,h1,hr,fun k p a hp ha=> ?_⟩;have ho:=(h3 k p a hp ha).1;exact⟨Rd.of_own ho,z1l ho⟩
theorem FlsO.nil_ (w:World) (base:Nat) (v:Value) (h:w.ownsRow base 95 3 v 0 []):FlsO w base v [] :=
 ⟨[],rfl,h,(fun k p a hp _=>by cases hp),(fun k j a b _ ha=>by cases ha)⟩
theorem FlsO.below (h:FlsO w base v fs) (hb:Below w.heap.size w w'):FlsO w' base v fs:=by
 obtain⟨As,h1,h2,h3,h4⟩:=h;exact⟨As,h1,zc h2 hb,(fun k p a hp ha=>⟨zc (h3 k p a hp ha).1 hb,(h3 k p a hp ha).2⟩),h4⟩
theorem FlsO.lower {b':Nat} (h:FlsO w base v fs) (hb:b'<=base):FlsO w b' v fs:=by
 obtain⟨As,h1,h2,h3,h4⟩:=h;exact⟨As,h1,zb h2 hb,(fun k p a hp ha=>⟨zb (h3 k p a hp ha).1 hb,(h3 k p a hp ha).2⟩),h4⟩
theorem vV:∀(fs:List FlP) (As:List (ae×Nat)) (p:FlP) (a:ae×Nat),As.length=fs.length->kf (fs++ [p]) (As++ [a])=kf fs As++qN p a.1 a.2
 | [], [],p,a,_=>by simp [kf]
 | f::fs,b::As,p,a,h=>by
  have ih:=vV fs As p a (by simpa using h)
  simp only [kf]at ih ⊢
  rw [List.cons_append,List.cons_append,List.zip_cons_cons,List.zip_cons_cons,List.flatMap_cons,List.flatMap_cons,ih,List.append_assoc]
theorem FlsO.snoc {v':Value} {B:ae} {c:Nat} {As:List (ae×Nat)} (h1:As.length=fs.length)
  (h3:∀(k:Nat) (p:FlP) (a:ae×Nat),fs[k]?=aC p->As[k]?=aC a->w.ownsRow base 3 1 (aw a.1 p.wait.length a.2) p.wait.length (ins p.wait)/\∀g,blk a=aC g->v.ownBlock≠aC g)
  (h4:∀(k j:Nat) (a b:ae×Nat),k<j->As[k]?=aC a->As[j]?=aC b->∀g,blk a=aC g->blk b≠aC g)
  (ho:w'.ownsRow base 95 3 v' (fs.length+1) (kf fs As++qN p B c))
  (hg:w.grownBy w' v.ownBlock) (hv:v'.ownBlock=v.ownBlock\/∃g,v'.ownBlock=aC g/\w.heap.size<=g)
  (hB:w.ownsRow base 3 1 (aw B p.wait.length c) p.wait.length (ins p.wait)) (hne:∀g,blk (B,c)=aC g->v.ownBlock≠aC g)
  (hfr:∀(k:Nat) (a:ae×Nat),As[k]?=aC a->∀g,blk a=aC g->blk (B,c)≠aC g):FlsO w' base v' (fs++ [p]):=by
 have keep:∀(a:ae×Nat) (l:List Int),w.ownsRow base 3 1 (aw a.1 l.length a.2) l.length (ins l)->(∀g,blk a=aC g->v.ownBlock≠aC g) ->
   w'.ownsRow base 3 1 (aw a.1 l.length a.2) l.length (ins l)/\∀g,blk a=aC g->v'.ownBlock≠aC g:=fun a l hr hn=>by
  refine⟨hr.kept hg ?_,fun g e=> ?_⟩
  ·rw [qC];cases hb:blk a with
   | none=>exact .inl rfl
   | some g=>exact .inr (fun h=>hn g hb h.symm)
  ·rcases hv with h | ⟨g',h,hge⟩
   ·rw [h];exact hn g e
   ·rw [h];have:=(hr.lt g (by rw [qC];exact e)).2;intro h';cases h';omega
 refine⟨As++ [(B,c)],by simp [h1],?_,fun k q a hq ha=> ?_,fun k j a b hkj ha hb g hag=> ?_⟩
 ·rw [vV fs As p (B,c) h1,List.length_append];exact ho
 ·by_cases hk:k<fs.length
  ·rw [List.getElem?_append_left hk]at hq;rw [List.getElem?_append_left wj]at ha;obtain⟨i1,i2⟩:=h3 k q a hq ha;exact keep a q.wait i1 i2
  ·rw [List.getElem?_append_right wj]at hq ha;have hk0:k - fs.length=0:=by
    have:=(List.getElem?_eq_some_iff.1 hq).1;simp at this;exact this
   rw [h1,hk0]at ha;rw [hk0]at hq;simp only [List.getElem?_cons_zero,Option.some.injEq]at hq ha;subst hq ha;exact keep (B,c) p.wait hB hne
 ·have hjl:=(List.getElem?_eq_some_iff.1 hb).1;rw [List.length_append]at hjl;simp only [List.length_cons,List.length_nil]at hjl;rw [List.getElem?_append_left wj]at ha;by_cases hj:j<As.length
  ·rw [List.getElem?_append_left hj]at hb;exact h4 k j a b hkj ha hb g hag
  ·rw [List.getElem?_append_right wj]at hb;have:j - As.length=0:=by omega
   rw [this]at hb;simp only [List.getElem?_cons_zero,Option.some.injEq]at hb;subst hb;exact hfr k a ha g hag
theorem kr (A:ae) (c:Nat) (fs:List FlP) (w:World) (hn:fs.length<=1000) (hw:∀p∈fs,p.wait.length<=1000) (hf:Fls w A fs) (hc:fs.length<=c) :
  Calls zZZ 162 #[aw A fs.length c] w fun e w'=>∃v,e= .returned v/\FlsO w' w.heap.size v fs/\Below w.heap.size w w':=by
 have HWT:=sqH hw;clear hw;go_enter func162,ntmps162
 refine wH ?_;intros;refine ya rfl _ _ rfl z4c fs.length rfl rfl wj wj ?_;intro w1 g1 hown1 hb1;have ho1:=FlsO.nil_ w1 w.heap.size _ hown1
 refine wH ?_;intros;go_loopg [3,11,5] fs.length (fun gn v i u wr=>∃k:Nat,gn=fs.length - k/\i= ax ay k/\k<=fs.length/\FlsO wr w.heap.size v (fs.take k)/\Below w.heap.size w wr)
 case atStart=>exact⟨0,rfl,rfl,wj,ho1,hb1⟩
 case round =>
  clear ho1 hown1 hb1;obtain⟨k,hgq,rfl,hk,ho,hbl⟩:=hrel;have HGK:=sqH hgq;clear hgq;by_cases hlt:k<fs.length
  ·have hcc:decide (k<fs.length)=true:=decide_eq_true hlt;obtain⟨b,off,B,cb,rfl,hbb,c0,c1,c2,hrw,hwc,hcbm⟩:=(hf.below hbl).at_ k hlt;have hwl:=HWT.o fs[k] (List.getElem_mem hlt);have HST:=sqH (show fs.take (k+1)=fs.take k++ [fs[k]] from List.take_succ_eq_append_getElem hlt);have htl:(fs.take k).length=k:=by rw [List.length_take];omega
   obtain⟨p,hp⟩:=wU (fs[k])
   rw [<-hp]at c0 c1 c2 hrw hwc hwl HST;obtain⟨s,hs⟩:=wU (⟨p.key.toArray⟩:ByteArray)
   rw [<-hs]at c0;have HS:=sqH hs;have HTL:=sqH htl;have hk0:=wX k
   have hk1:(k:Int)<(fs.length:Int):=wj;obtain⟨ld,hld⟩:=wU p.lead
   rw [<-hld]at c1;have HLD:=sqH hld;have hP1:Arr (wr.alloc (.cells #[az s,ax ay ld,aw B p.wait.length cb] 95)) wr.heap.size 95 [az s,ax ay ld,aw B p.wait.length cb]:=Arr.new wr _ _;have hbr1:=wi wr (.cells #[az s,ax ay ld,aw B p.wait.length cb] 95);have hs1:(wr.alloc (.cells #[az s,ax ay ld,aw B p.wait.length cb] 95)).heap.size=wr.heap.size+1:=World.size_alloc _ _;have hrw1:=hrw.alloc (.cells #[az s,ax ay ld,aw B p.wait.length cb] 95);clear hs hp hld htl hrw
   refine wH ?_;intros;generalize wr.alloc (.cells #[az s,ax ay ld,aw B p.wait.length cb] 95)=w1 at *
   obtain⟨gp,hgp⟩:=wU wr.heap.size
   rw [<-hgp]at hP1 ⊢
   have HGP:=sqH hgp;clear hgp c0 c1 c2;refine(Ze B cb p.wait w1 wj hrw1).mono ?_;rintro e_ w2 ⟨v2,rfl,ho2,hb2⟩;dsimp only;have hbr2:=wg hbr1 hb2;have hP2:=hP1.below hb2;have hrd2:∀b,v2.ownBlock=aC b->b≠gp:=fun b h=>by have:=(ho2.lt b h).1;have:=HGP.o;omega
   obtain⟨A2,c2,rfl,hc2,hr2⟩:=Rd.of_own' ho2;have hc2m:c2<=maxLen:=by
    rcases ho2.2 with ⟨h1,h2⟩ | ⟨_,cap,_,h1,_,_,_,h2,_⟩
    ·injection h1 with _ _ h3;subst h3;exact Nat.zero_le _
    ·injection h1 with _ _ h3;subst h3;exact h2
   have y2:=hP2.c2;have z2:=hP2.frozen 2;have hP3:=hP2.set (k:=2) ws (aw A2 p.wait.length c2);have hbr3:Below wr.heap.size wr (w2.setCell ⟨gp,2,aB⟩ (aw A2 p.wait.length c2)):=Below.setCell hbr2 (by show wr.heap.size<=gp;have:=HGP.o;omega) _;have hr3:Rd (w2.setCell ⟨gp,2,aB⟩ (aw A2 p.wait.length c2)) 1 A2 p.wait.length (ins p.wait):=by
    refine⟨hr2.1,fun h0=> ?_⟩;obtain⟨b',o',e',hb',hcc'⟩:=hr2.2 h0;have hn':=hrd2 b' (by rw [e'];rfl);subst e';exact(hr2.other hn' _).2 h0
   have hbelow2:True:=trivial;obtain⟨f0,f1,f2⟩:=sqC3 hP3;have hneA:∀b off,A2=aC ⟨b,off,aB⟩->0<p.wait.length->wr.heap.size<=b:=fun b off e _=>by
    have:=(ho2.lt b (by rw [e];rfl)).1;omega
   have ho22:=zd (k:=2) (u:= aw A2 p.wait.length c2) ho2 (fun h=>hrd2 gp h rfl);clear ho2 hr2 hrw1
   refine wH ?_;intros;have hsz:(w2.setCell ⟨gp,2,aB⟩ (aw A2 p.wait.length c2)).heap.size=w2.heap.size:=by simp [World.setCell]
   rw [<-hsz];obtain⟨w3,hw3⟩:=wU (w2.setCell ⟨gp,2,aB⟩ (aw A2 p.wait.length c2))
   rw [<-hw3]at hbr3 hr3 ho22 ⊢
   clear f0 f1 f2 y2 z2 hP3 hw3 hsz;obtain⟨As,j1,j2,j3,j4⟩:=ho;have i1:=j1;have i2:=zc j2 hbr3;have i3:=fun (k:Nat) (p:FlP) (a:ae×Nat) hp ha=>(⟨zc (j3 k p a hp ha).1 hbr3,(j3 k p a hp ha).2⟩:_/\_)
   have i4:=j4;have OLD:=sqH (show ∀k' a,As[k']?=aC a->∀g,blk a=aC g->g<wr.heap.size from fun k' a ha g hg=>by
    have hkl:=(List.getElem?_eq_some_iff.1 ha).1;have hq:(fs.take k)[k']?=aC ((fs.take k)[k']'(by omega)):=List.getElem?_eq_getElem _;exact((j3 k' _ a hq ha).1.lt g (by rw [qC];exact hg)).2)
   have hfc:qN p A2 c2= [az s,ax ay ld,aw A2 p.wait.length c2]:=by rw [qN,<-HS.o,<-HLD.o]
   rw [HTL.o]at i2;refine zg rfl (.tmp 19) (.tmp 21) rfl z4c wu i2 (us:= [az s,ax ay ld,aw A2 p.wait.length c2]) (m:=1) wu rfl (by intro u hu;simp at hu;rcases hu with rfl | rfl | rfl<;>rfl) wj (Nat.le_trans hbl.size hbr3.size) ?_;intro v5 w5 ho5 hg5 hv5;have hlt5:∀g',v5.ownBlock=aC g'->w.heap.size<=g':=fun g' h=>(ho5.lt g' h).1;have hbel5:Below w.heap.size w w5:=(wg hbl hbr3).grown hg5 (Nat.le_trans hbl.size hbr3.size) (fun k hk=>(i2.lt k hk).1);rw [<-hfc]at ho5;have hlow:w.heap.size<=w1.heap.size:=Nat.le_trans hbl.size hbr1.size;have ho6:=FlsO.snoc (p:=p) (B:=A2) (c:=c2) i1 i3 i4 (by rw [HTL.o];exact ho5) hg5 hv5 (zb ho22 hlow) (fun g h h'=>by
    have h1:=(ho22.lt g (by rw [qC (A2,c2)];exact h)).1;have:=(j2.lt g h').2;omega) (fun k' a ha g h h'=>by
    have h1:=(ho22.lt g (by rw [qC (A2,c2)];exact h')).1;have:=OLD.o k' a ha g h;omega)
   rw [<-HST.o]at ho6;clear i1 i2 i3 i4 j1 j2 j3 j4 ho22 ho5 hg5 hv5 hr3 hbr3 hlt5
   refine wH ?_;intros;go_roundg (fs.length - (k+1))
   case measure=>exact wW HGK
   case rel=>exact⟨k+1,rfl,by go_num,wj,ho6,hbel5⟩
  ·obtain rfl:k=fs.length:=by omega
   have hcc:decide (fs.length<fs.length)=false:=ws;rw [List.take_length]at ho;obtain⟨A5,c5,rfl,_,_⟩:=ho.fls
   refine wH ?_;intros;go_ret;exact⟨_,rfl,ho,hbl⟩
theorem uV (fs:List FlP) (As:List (ae×Nat)):∀u∈kf fs As,u.oneCell'=true:=by
 intro u hu;simp only [kf,List.mem_flatMap]at hu;obtain⟨x,_,hx⟩:=hu;simp only [qN,List.mem_cons,List.not_mem_nil,or_false]at hx;rcases hx with rfl | rfl | rfl<;>rfl
theorem YI (v:Value) (base:Nat) (fs:List FlP) (w:World) (hn:fs.length<=1000) (h0:0<fs.length) (hbs:base<=w.heap.size) (h:FlsO w base v fs) :
  Calls zZZ 185 #[v] w fun e w'=>∃v',e= .returned v'/\FlsO w' base v' fs/\Below w.heap.size w w':=by
 obtain⟨As,i1,i2,i3,i4⟩:=h;obtain⟨g,cap,cs,rfl,_,_,hcap,_,_,_⟩:=yq i2 h0;have hr:=Rd.of_own i2;obtain⟨I3,I4,I1⟩:=sqJ3 i3 i4 i1;have heq:=fun W=>Lib.run_eql_slice_nil (P:=zZZ) W 31 95 (aC ⟨g,0,aB⟩) fs.length cap 0 0 underlying31;clear i1 i2 i3 i4;go_enter func185,ntmps185
 refine wH ?_;intros;refine zK rfl (.tmp 5) (.tmp 6) rfl z4c wu (World.ownsRow_made (size:=3) w #[] 0 ab (by simp [maxLen]) rfl) wu (hr.alloc _) (uV fs As) wj ws ?_;intro v1 w1 hown1 hg1 _;have hb1:=zj ((Below.refl _ _).alloc ab _) (World.ownsRow_made (size:=3) w #[] 0 ab (by simp [maxLen]) rfl) ab hg1;rw [Nat.zero_add,List.nil_append]at hown1;go_wp2_with fail;go_ret;refine⟨_,rfl,⟨As,I1.o,zb hown1 hbs,(fun k p a hp ha=> ?_),I4.o⟩,hb1⟩;obtain⟨j1,_⟩:=I3.o k p a hp ha;exact⟨zc j1 hb1,fun g h h'=>by
  have:=(j1.lt g (by rw [qC];exact h)).2;have:=(hown1.lt g h').1;omega⟩
theorem Ul (A:ae) (c:Nat) (fs:List FlP) (k:ByteArray) (n:Int) (w:World) (hG:GoodF fs) (hf:Fls w A fs) (hc:fs.length<=c) (hm:c<=maxLen) (hk:hexC k.data.toList=0) (hks:k.size<=140737488351232) (hn1:1<=n) (hn2:n<=1000) (hfn:fnd 0 fs k.data.toList=aB) (h6:fs.length<6) :
  Calls zZZ 167 #[aw A fs.length c,az k,ax ay n] w fun e w'=>∃v,e= .returned (.tuple #[v,.bool true,ax ay 0])/\FlsO w' w.heap.size v (fs++ [⟨k.data.toList,n, []⟩])/\Below w.heap.size w w':=by
 obtain⟨HCK,HHX,HWH⟩:=sqJ3 (fun w' hf'=>ke A c fs w' hG hf' hc hm) (fun w'=>kB (s:=k) 0 rfl hk w' hks) (fun w'=>jx n w');have hwd:decide (1<=n/\n<=1000)=true:=by simp [hn1,hn2]
 have HWD:=sqH hwd;have HCP:=sqH (fun w' hf'=>kr A c fs w' wj (fun p hp=>by
  obtain⟨j,hj,rfl⟩:=List.mem_iff_getElem.1 hp;have:=hG.few j hj;omega) hf' hc)
 have HFI:=sqH (fun w' hf'=>kK A c fs k w' wj hf');have HF:=sqH hfn;have e6:((fs.length:Int)==6)=false:=by rw [beq_eq_false_iff_ne];omega
 have e6':(fs.length==6)=false:=by rw [beq_eq_false_iff_ne];omega
 clear hG hk hwd hfn;go_enter func167,ntmps167
 refine wH ?_;intros;refine wV (HCK.o w hf) fun w1 hb1=>?_;dsimp only;have hf1:=hf.below hb1
 refine wH ?_;intros;refine wV (HHX.o w1) fun w2 hb2=>?_;dsimp only;have hb12:=wg hb1 hb2;have hf2:=hf1.below hb2
 refine wH ?_;intros;refine(HWH.o w2).mono ?_;rintro e_ _ ⟨rfl,rfl⟩;dsimp only;rw [HWD.o]
 refine wH ?_;intros;refine(HCP.o w2 hf2).mono ?_;rintro e_ w3 ⟨v3,rfl,ho3,hb3⟩;dsimp only;have hb13:=wg hb12 hb3;have hf3:=hf2.below hb3;have hfi:=HFI.o w3 hf3;rw [HF.o]at hfi;dsimp only at hfi;have HFF:=sqH hfi;clear hfi hf hf1 hf2
 refine wH ?_;intros;refine wV HFF.o fun w4 hb4=>?_;dsimp only;have hb14:=wg hb13 hb4;have ho4:=ho3.below hb4;clear ho3 hf3
 refine wH ?_;intros;obtain⟨As,i1,i2,i3,i4⟩:=ho4;refine zg rfl (.tmp 46) (.tmp 50) rfl z4c wu i2 (us:= [az k,ax ay n,aw aB 0 0]) (m:=1) wu rfl (by intro u hu;simp at hu;rcases hu with rfl | rfl | rfl<;>rfl) wj (Nat.le_trans hb3.size hb4.size) ?_;intro v5 w5 ho5 hg5 hv5;have hbel5:Below w.heap.size w w5:=hb14.grown hg5 hb14.size (fun k hk=>Nat.le_trans hb12.size (i2.lt k hk).1);have ho6:=FlsO.snoc (p:=⟨k.data.toList,n, []⟩) (B:=aB) (c:=0) i1 i3 i4 ho5 hg5 hv5 (World.ownsRow_nil _ _ _ _) (fun g h=>by cases h) (fun k' a _ g _ h=>by cases h);have ho6:=ho6.lower hb12.size;clear i1 i2 i3 i4 ho5 hg5 hv5;have hlen:(fs++ [(⟨k.data.toList,n, []⟩:FlP)]).length<=7:=by rw [List.length_append];simp only [List.length_cons,List.length_nil];omega
 have hpos:0<(fs++ [(⟨k.data.toList,n, []⟩:FlP)]).length:=by rw [List.length_append];simp
 generalize hgs:fs++ [(⟨k.data.toList,n, []⟩:FlP)]=gs at *
 have HGS:=sqH hgs;clear hgs
 refine wH ?_;intros;refine(YI _ _ gs w5 wj hpos hbel5.size ho6).mono ?_;rintro e_ w6 ⟨v6,rfl,ho8,hb6⟩;dsimp only;rw [<-HGS.o]at ho8
 refine wH ?_;intros;go_ret3;exact⟨v6,rfl,ho8,wg hbel5 hb6⟩
theorem YW (A:ae) (c:Nat) (fs:List FlP) (k:ByteArray) (n:Int) (w:World) (hG:GoodF fs) (hf:Fls w A fs) (hc:fs.length<=c) (hm:c<=maxLen) (hk:hexC k.data.toList=0) (hks:k.size<=140737488351232) (hn1:1<=n) (hn2:n<=1000) (hfn:fnd 0 fs k.data.toList=aB) (h6:fs.length=6) :
  Calls zZZ 167 #[aw A fs.length c,az k,ax ay n] w fun e w'=>e= .returned (.tuple #[aw aB 0 0,.bool false,ax ay 7])/\Below w.heap.size w w':=by
 have e6:((fs.length:Int)==6)=true:=by rw [beq_iff_eq];omega
 have H6:=sqH h6;have h66:fs.length<=6:=wj;clear h6;obtain⟨HCK,HHX,HWH⟩:=sqJ3 (fun w' hf'=>ke A c fs w' hG hf' hc hm) (fun w'=>kB (s:=k) 0 rfl hk w' hks) (fun w'=>jx n w');have hwd:decide (1<=n/\n<=1000)=true:=by simp [hn1,hn2]
 have HWD:=sqH hwd;have HCP:=sqH (fun w' hf'=>kr A c fs w' wj (fun p hp=>by
  obtain⟨j,hj,rfl⟩:=List.mem_iff_getElem.1 hp;have:=hG.few j hj;omega) hf' hc)
 have HFI:=sqH (fun w' hf'=>kK A c fs k w' wj hf');have HF:=sqH hfn;clear hG hk hwd hfn;go_enter func167,ntmps167;go_wp2_with fail;refine wV (HCK.o w hf) fun w1 hb1=>?_;dsimp only;have hf1:=hf.below hb1;go_wp2_with fail;refine wV (HHX.o w1) fun w2 hb2=>?_;dsimp only;have hb12:=wg hb1 hb2;have hf2:=hf1.below hb2;go_wp2_with fail;refine(HWH.o w2).mono ?_;rintro e_ _ ⟨rfl,rfl⟩;dsimp only;rw [HWD.o];go_wp2_with fail;refine(HCP.o w2 hf2).mono ?_;rintro e_ w3 ⟨v3,rfl,ho3,hb3⟩;dsimp only;have hb13:=wg hb12 hb3;have hf3:=hf2.below hb3;have hfi:=HFI.o w3 hf3;rw [HF.o]at hfi;dsimp only at hfi;have HFF:=sqH hfi;clear hfi hf hf1 hf2;go_wp2_with fail;refine wV HFF.o fun w4 hb4=>?_;dsimp only;have hb14:=wg hb13 hb4;go_wp2_with fail;go_ret3;exact⟨rfl,hb14⟩
theorem z0c (A:ae) (c:Nat) (fs:List FlP) (k:ByteArray) (n:Int) (i:Nat) (w:World) (hG:GoodF fs) (hf:Fls w A fs) (hc:fs.length<=c) (hm:c<=maxLen) (hk:hexC k.data.toList=0) (hks:k.size<=140737488351232) (hn1:1<=n) (hn2:n<=1000) (hfn:fnd 0 fs k.data.toList=aC i) (hi:i<fs.length) (hin:(fs[i].lead::fs[i].wait).contains n=true) :
  Calls zZZ 167 #[aw A fs.length c,az k,ax ay n] w fun e w'=>e= .returned (.tuple #[aw aB 0 0,.bool false,ax ay 6])/\Below w.heap.size w w':=by
 have h66:fs.length<=6:=hG.len;have hfew:=hG.few i hi;have HIN:=sqH hin;have FF:=sqH hf;clear hin;obtain⟨HCK,HHX,HWH⟩:=sqJ3 (fun w' hf'=>ke A c fs w' hG hf' hc hm) (fun w'=>kB (s:=k) 0 rfl hk w' hks) (fun w'=>jx n w');have hwd:decide (1<=n/\n<=1000)=true:=by simp [hn1,hn2]
 have HWD:=sqH hwd;have HCP:=sqH (fun w' hf'=>kr A c fs w' wj (fun p hp=>by
  obtain⟨j,hj,rfl⟩:=List.mem_iff_getElem.1 hp;have:=hG.few j hj;omega) hf' hc)
 have HFI:=sqH (fun w' hf'=>kK A c fs k w' wj hf');have HF:=sqH hfn;clear hG hk hwd hfn;go_enter func167,ntmps167;go_wp2_with fail;refine wV (HCK.o w hf) fun w1 hb1=>?_;dsimp only;have hf1:=hf.below hb1;go_wp2_with fail;refine wV (HHX.o w1) fun w2 hb2=>?_;dsimp only;have hb12:=wg hb1 hb2;have hf2:=hf1.below hb2;go_wp2_with fail;refine(HWH.o w2).mono ?_;rintro e_ _ ⟨rfl,rfl⟩;dsimp only;rw [HWD.o];go_wp2_with fail;refine(HCP.o w2 hf2).mono ?_;rintro e_ w3 ⟨v3,rfl,ho3,hb3⟩;dsimp only;have hb13:=wg hb12 hb3;have hf3:=hf2.below hb3;have hfi:=HFI.o w3 hf3;rw [HF.o]at hfi;dsimp only at hfi;have HFF:=sqH hfi;clear hfi hf hf1 hf2;go_wp2_with fail;refine wV HFF.o fun w4 hb4=>?_;dsimp only;have hb14:=wg hb13 hb4;obtain⟨b,off,B,cb,rfl,hbb,c0,c1,c2,hrw,hwc,hcbm⟩:=(FF.o.below hb14).at_ i hi;have i1:=wX i
 have i2:(i:Int)<(fs.length:Int):=wj;obtain⟨s,hs⟩:=wU (⟨fs[i].key.toArray⟩:ByteArray)
 rw [<-hs]at c0;have HI2:=HIN.o;generalize fs[i].lead=ld at *
 generalize fs[i].wait=wt at *
 have HI3:=sqH HI2;clear HI2 HIN hs;go_wp2_with fail;refine(ud s ld B cb wt w4 wj hrw).mono ?_;rintro e_ w5 ⟨v5,rfl,ho5,hb5⟩;dsimp only;have hb15:=wg hb14 hb5;obtain⟨A5,c5,rfl,hc5,hr5⟩:=Rd.of_own' ho5;have hcon:=yd A5 c5 (ld::wt) n w5 (by simp only [List.length_cons];omega) hr5;rw [HI3.o]at hcon;simp only [List.length_cons]at hcon;have HCO:=sqH hcon;clear hcon ho5 hr5 c0 c1 c2;go_wp2_with fail;refine HCO.o.mono ?_;rintro e_ _ ⟨rfl,rfl⟩;dsimp only;go_wp2_with fail;go_ret3;exact⟨rfl,hb15⟩
theorem YX (A:ae) (c:Nat) (fs:List FlP) (k:ByteArray) (n:Int) (i:Nat) (w:World) (hG:GoodF fs) (hf:Fls w A fs) (hc:fs.length<=c) (hm:c<=maxLen) (hk:hexC k.data.toList=0) (hks:k.size<=140737488351232) (hn1:1<=n) (hn2:n<=1000) (hfn:fnd 0 fs k.data.toList=aC i) (hi:i<fs.length) (hin:(fs[i].lead::fs[i].wait).contains n=false) (h5:fs[i].wait.length=5) :
  Calls zZZ 167 #[aw A fs.length c,az k,ax ay n] w fun e w'=>e= .returned (.tuple #[aw aB 0 0,.bool false,ax ay 7])/\Below w.heap.size w w':=by
 have h66:fs.length<=6:=hG.len;have hfew:=hG.few i hi;have H5:=sqH h5;clear h5;have HIN:=sqH hin;have FF:=sqH hf;clear hin;obtain⟨HCK,HHX,HWH⟩:=sqJ3 (fun w' hf'=>ke A c fs w' hG hf' hc hm) (fun w'=>kB (s:=k) 0 rfl hk w' hks) (fun w'=>jx n w');have hwd:decide (1<=n/\n<=1000)=true:=by simp [hn1,hn2]
 have HWD:=sqH hwd;have HCP:=sqH (fun w' hf'=>kr A c fs w' wj (fun p hp=>by
  obtain⟨j,hj,rfl⟩:=List.mem_iff_getElem.1 hp;have:=hG.few j hj;omega) hf' hc)
 have HFI:=sqH (fun w' hf'=>kK A c fs k w' wj hf');have HF:=sqH hfn;clear hG hk hwd hfn;go_enter func167,ntmps167;go_wp2_with fail;refine wV (HCK.o w hf) fun w1 hb1=>?_;dsimp only;have hf1:=hf.below hb1;go_wp2_with fail;refine wV (HHX.o w1) fun w2 hb2=>?_;dsimp only;have hb12:=wg hb1 hb2;have hf2:=hf1.below hb2;go_wp2_with fail;refine(HWH.o w2).mono ?_;rintro e_ _ ⟨rfl,rfl⟩;dsimp only;rw [HWD.o];go_wp2_with fail;refine(HCP.o w2 hf2).mono ?_;rintro e_ w3 ⟨v3,rfl,ho3,hb3⟩;dsimp only;have hb13:=wg hb12 hb3;have hf3:=hf2.below hb3;have hfi:=HFI.o w3 hf3;rw [HF.o]at hfi;dsimp only at hfi;have HFF:=sqH hfi;clear hfi hf hf1 hf2;go_wp2_with fail;refine wV HFF.o fun w4 hb4=>?_;dsimp only;have hb14:=wg hb13 hb4;obtain⟨b,off,B,cb,rfl,hbb,c0,c1,c2,hrw,hwc,hcbm⟩:=(FF.o.below hb14).at_ i hi;have i1:=wX i
 have i2:(i:Int)<(fs.length:Int):=wj;obtain⟨s,hs⟩:=wU (⟨fs[i].key.toArray⟩:ByteArray)
 rw [<-hs]at c0;have HI2:=HIN.o;generalize fs[i].lead=ld at *
 generalize fs[i].wait=wt at *
 have HI3:=sqH HI2;have H55:=H5.o;have e5:((wt.length:Int)==5)=true:=by rw [beq_iff_eq];omega
 have e5':(wt.length==5)=true:=by rw [beq_iff_eq];omega
 clear HI2 HIN hs H55;go_wp2_with fail;refine(ud s ld B cb wt w4 wj hrw).mono ?_;rintro e_ w5 ⟨v5,rfl,ho5,hb5⟩;dsimp only;have hb15:=wg hb14 hb5;obtain⟨A5,c5,rfl,hc5,hr5⟩:=Rd.of_own' ho5;have hcon:=yd A5 c5 (ld::wt) n w5 (by simp only [List.length_cons];omega) hr5;rw [HI3.o]at hcon;simp only [List.length_cons]at hcon;have HCO:=sqH hcon;have d2:=(hb5.cell (p:=⟨b,off+i*3+2,aB⟩) hbb).trans c2;clear hcon ho5 hr5 c0 c1 c2;go_wp2_with fail;refine HCO.o.mono ?_;rintro e_ _ ⟨rfl,rfl⟩;dsimp only;go_wp2_with fail;go_ret3;exact⟨rfl,hb15⟩
theorem z1n {n k size:Nat} {u:Value} (h:w.ownsRow base e size (aw (aC ⟨g,0,aB⟩) n cap) n xs) (hk:k<n*size):(w.setCell ⟨g,k,aB⟩ u).ownsRow base e size (aw (aC ⟨g,0,aB⟩) n cap) n (xs.set k u):=by
 refine⟨by rw [List.length_set];exact h.1,?_⟩;rcases h.2 with ⟨h1,_⟩ | ⟨g',cap',cur,h1,hb,hg,hn,hm,hs,ht⟩
 ·cases h1
 ·injection h1 with e1 e2 e3;injection e1 with e1;injection e1 with e1;subst e1 e3;have hA:Arr w g e cur.toList:=by simpa [Arr] using hg
  have hA2:=hA.set (k:=k) (by rw [Array.length_toList,hs];exact Nat.lt_of_lt_of_le hk (Nat.mul_le_mul_right _ hn)) u;refine .inr ⟨g,cap,(cur.toList.set k u).toArray,rfl,hb,hA2,hn,hm,by rw [List.size_toArray,List.length_set,Array.length_toList,hs],?_⟩;rw [<-ht,List.take_set]
theorem uW:∀(fs:List FlP) (As:List (ae×Nat)) (i:Nat) (p p':FlP) (a:ae×Nat),As.length=fs.length->fs[i]?=aC p->p'.key=p.key->p'.lead=p.lead ->
  (kf fs As).set (i*3+2) (aw a.1 p'.wait.length a.2)=kf (fs.set i p') (As.set i a)
 | f::fs,b::As,0,p,p',a,_,hp,hk,hl=>by
  simp only [List.getElem?_cons_zero,Option.some.injEq]at hp
  subst hp
  simp only [kf,List.zip_cons_cons,List.flatMap_cons,List.set_cons_zero,qN,hk,hl]
  rfl
 | f::fs,b::As,i+1,p,p',a,h,hp,hk,hl=>by
  have ih:=uW fs As i p p' a (by simpa using h) (by simpa using hp) hk hl
  simp only [kf]at ih ⊢
  rw [List.set_cons_succ,List.set_cons_succ,List.zip_cons_cons,List.zip_cons_cons,List.flatMap_cons,List.flatMap_cons,<-ih,List.set_append_right _ _ (by simp [qN];omega)]
  congr 2
  simp [qN];omega
theorem YY (A:ae) (c:Nat) (fs:List FlP) (k:ByteArray) (n:Int) (i:Nat) (w:World) (hG:GoodF fs) (hf:Fls w A fs) (hc:fs.length<=c) (hm:c<=maxLen) (hk:hexC k.data.toList=0) (hks:k.size<=140737488351232) (hn1:1<=n) (hn2:n<=1000) (hfn:fnd 0 fs k.data.toList=aC i) (hi:i<fs.length) (hin:(fs[i].lead::fs[i].wait).contains n=false) (h5:fs[i].wait.length<5) :
  Calls zZZ 167 #[aw A fs.length c,az k,ax ay n] w fun e w'=>∃v,e= .returned (.tuple #[v,.bool false,ax ay 0])/\FlsO w' w.heap.size v (fs.set i ⟨fs[i].key,fs[i].lead,fs[i].wait++ [n]⟩)/\Below w.heap.size w w':=by
 have h66:fs.length<=6:=hG.len;have hfew:=hG.few i hi;have H5:=sqH h5;clear h5;have HIN:=sqH hin;have FF:=sqH hf;clear hin;obtain⟨HCK,HHX,HWH⟩:=sqJ3 (fun w' hf'=>ke A c fs w' hG hf' hc hm) (fun w'=>kB (s:=k) 0 rfl hk w' hks) (fun w'=>jx n w');have hwd:decide (1<=n/\n<=1000)=true:=by simp [hn1,hn2]
 have HWD:=sqH hwd;have HCP:=sqH (fun w' hf'=>kr A c fs w' wj (fun p hp=>by
  obtain⟨j,hj,rfl⟩:=List.mem_iff_getElem.1 hp;have:=hG.few j hj;omega) hf' hc)
 have HFI:=sqH (fun w' hf'=>kK A c fs k w' wj hf');have HF:=sqH hfn;clear hG hk hwd hfn;go_enter func167,ntmps167;go_wp2_with fail;refine wV (HCK.o w hf) fun w1 hb1=>?_;dsimp only;have hf1:=hf.below hb1;go_wp2_with fail;refine wV (HHX.o w1) fun w2 hb2=>?_;dsimp only;have hb12:=wg hb1 hb2;have hf2:=hf1.below hb2;go_wp2_with fail;refine(HWH.o w2).mono ?_;rintro e_ _ ⟨rfl,rfl⟩;dsimp only;rw [HWD.o];go_wp2_with fail;refine(HCP.o w2 hf2).mono ?_;rintro e_ w3 ⟨v3,rfl,ho3,hb3⟩;dsimp only;have hb13:=wg hb12 hb3;have hf3:=hf2.below hb3;have hfi:=HFI.o w3 hf3;rw [HF.o]at hfi;dsimp only at hfi;have HFF:=sqH hfi;clear hfi hf hf1 hf2;go_wp2_with fail;refine wV HFF.o fun w4 hb4=>?_;dsimp only;have hb14:=wg hb13 hb4;obtain⟨b,off,B,cb,rfl,hbb,c0,c1,c2,hrw,hwc,hcbm⟩:=(FF.o.below hb14).at_ i hi;have i1:=wX i
 have i2:(i:Int)<(fs.length:Int):=wj;obtain⟨s,hs⟩:=wU (⟨fs[i].key.toArray⟩:ByteArray)
 rw [<-hs]at c0;have ho4:=ho3.below hb4;obtain⟨p,hp⟩:=wU (fs[i])
 rw [<-hp]at c1 c2 hrw hwc hfew HIN H5;have HP:=sqH (show fs[i]?=aC p from by rw [List.getElem?_eq_getElem hi,hp]);have hgoal:fs.set i ⟨fs[i].key,fs[i].lead,fs[i].wait++ [n]⟩=fs.set i ⟨p.key,p.lead,p.wait++ [n]⟩:=by rw [hp]
 have HGO:=sqH hgoal;obtain⟨ld,hld⟩:=wU p.lead
 rw [<-hld]at c1;have HI2:=HIN.o;rw [<-hld]at HI2;have HI3:=sqH HI2;have HLD:=sqH hld;have H55:=H5.o;have e5:((p.wait.length:Int)==5)=false:=by rw [beq_eq_false_iff_ne];omega
 have e5':(p.wait.length==5)=false:=by rw [beq_eq_false_iff_ne];omega
 clear HI2 HIN hs hp hgoal hld H55;go_wp2_with fail;refine(ud s ld B cb p.wait w4 wj hrw).mono ?_;rintro e_ w5 ⟨v5,rfl,ho5,hb5⟩;dsimp only;have hb15:=wg hb14 hb5;obtain⟨A5,c5,rfl,hc5,hr5⟩:=Rd.of_own' ho5;have hcon:=yd A5 c5 (ld::p.wait) n w5 (by simp only [List.length_cons];omega) hr5;rw [HI3.o]at hcon;simp only [List.length_cons]at hcon;have HCO:=sqH hcon;have d2:=(hb5.cell (p:=⟨b,off+i*3+2,aB⟩) hbb).trans c2;have ho55:=ho4.below hb5;obtain⟨As,j1,j2,j3,j4⟩:=ho55;obtain⟨g3,cap3,cs3,rfl,_,hA3,hcap3,hcm3,hcl3,hct3⟩:=yq j2 wj;have hia:i<As.length:=wj;have ha:As[i]?=aC As[i]:=List.getElem?_eq_getElem hia;obtain⟨k1,k2⟩:=j3 i p As[i] HP.o ha;have hcell:=(Rd.of_own j2).2 wj;obtain⟨_,_,e3,_,hcell⟩:=hcell;cases e3
 have x2:=hcell (i*3+2) _ ((ui fs As i 2 p As[i] HP.o ha wj).trans rfl);rw [Nat.zero_add]at x2;obtain⟨a,haE⟩:=wU (As[i])
 rw [<-haE]at k1 k2 x2 ha;obtain⟨Ai,ci⟩:=a;dsimp only at k1 k2 x2;have hcap63:(cap3:Int)<=9223372036854775807:=by unfold maxLen at hcm3;omega
 clear hcon ho5 hr5 c0 c1 c2 ho4 ho3 haE hcell;go_wp2_with fail;refine HCO.o.mono ?_;rintro e_ _ ⟨rfl,rfl⟩;dsimp only
 refine wH ?_;intros;refine zg rfl (.tmp 75) (.tmp 77) rfl z13 wu k1 (us:= [ax ay n]) (m:=1) wu rfl (by intro u hu;simp at hu;subst hu;rfl) wj (Nat.le_trans hb3.size (Nat.le_trans hb4.size hb5.size)) ?_;intro v7 w7 ho7 hg7 hv7;rw [qC (Ai,ci)]at hg7 hv7;rw [show ins p.wait++ [ax ay n]=ins (p.wait++ [n]) by simp [ins]]at ho7;have hw7:(p.wait++ [n]).length=p.wait.length+1:=ws;rw [<-hw7]at ho7;generalize hwn:p.wait++ [n]=wn at *
 have hwl:wn.length<=1000:=by have:=H5.o;omega
 clear hwn hw7;have hsz27:w2.heap.size<=w7.heap.size:=Nat.le_trans hb3.size (Nat.le_trans hb4.size (Nat.le_trans hb5.size hg7.size));have hb17:Below w.heap.size w w7:=hb15.grown hg7 hb15.size (fun g h=>Nat.le_trans hb12.size (k1.lt g (by rw [qC (Ai,ci)];exact h.symm▸rfl)).1);obtain⟨A7,c7,rfl,hc7,hr7⟩:=Rd.of_own' ho7;have HC7:=sqH (Ze A7 c7 (wn) w7 wj hr7);have m2:=j2.kept hg7 (.inr (fun h=>k2 g3 h.symm rfl));have m3:∀(k:Nat) (q:FlP) (b:ae×Nat),k≠i->fs[k]?=aC q->As[k]?=aC b->w7.ownsRow w2.heap.size 3 1 (aw b.1 q.wait.length b.2) q.wait.length (ins q.wait):=fun k q b hki hq hb=>by
  refine(j3 k q b hq hb).1.kept hg7 ?_;rw [qC];cases hbk:blk b with
  | none=>exact .inl rfl
  | some g =>
   refine .inr (fun h=> ?_);rcases Nat.lt_or_gt_of_ne hki with h1 | h1
   ·exact j4 k i b (Ai,ci) h1 hb ha g hbk h.symm
   ·exact j4 i k (Ai,ci) b h1 ha hb g h.symm hbk
 have OLD:=sqH (show ∀(k:Nat) (b:ae×Nat),As[k]?=aC b->∀g,blk b=aC g->g<w7.heap.size from fun k b hb g hg=>by
  have hkl:=(List.getElem?_eq_some_iff.1 hb).1;have hq:fs[k]?=aC (fs[k]'(by omega)):=List.getElem?_eq_getElem _;exact Nat.lt_of_lt_of_le ((j3 k _ b hq hb).1.lt g (by rw [qC];exact hg)).2 hg7.size)
 obtain⟨J3,J4,J1⟩:=sqJ3 j3 j4 j1;clear ho7 hg7 hv7 k1 k2 x2 j2 hr7 j3 j4 d2 hA3 hct3 hcl3;go_wp2_with fail;refine HC7.o.mono ?_;rintro e_ w8 ⟨v8,rfl,ho8,hb8⟩;dsimp only;have hb18:=wg hb17 hb8;have m28:=zc m2 hb8;have hlt3:=(m2.lt g3 rfl)
 obtain⟨_,_,cs9,e9,_,hA9,_,_,hcl9,hct9⟩:=yq m28 wj;injection e9 with e91 _ e93;injection e91 with e91;injection e91 with e91;subst e91 e93;obtain⟨y,hy⟩:∃y,cs9[i*3+2]?=aC y:=⟨_,List.getElem?_eq_getElem wj⟩
 have y2:=hA9.cell hy;have z2:=hA9.frozen (i*3+2);obtain⟨A8,c8,rfl,hc8,_⟩:=Rd.of_own' ho8;have n9:=z1n (u:= aw A8 wn.length c8) m28 (k:=i*3+2) wj;have hcf:=uW fs As i p ⟨p.key,p.lead,wn⟩ (A8,c8) J1.o HP.o rfl rfl;dsimp only at hcf;rw [hcf]at n9;have hbz:Below w.heap.size w (w8.setCell ⟨g3,i*3+2,aB⟩ (aw A8 wn.length c8)):=Below.setCell hb18 (by show w.heap.size<=g3;exact Nat.le_trans hb12.size hlt3.1) _;have hne8:(aw A8 wn.length c8).ownBlock≠aC g3:=fun h=>by have:=(ho8.lt g3 h).1;omega
 have hfin:FlsO (w8.setCell ⟨g3,i*3+2,aB⟩ (aw A8 wn.length c8)) w2.heap.size (aw (aC ⟨g3,0,aB⟩) fs.length cap3) (fs.set i ⟨p.key,p.lead,wn⟩):=by
  refine⟨As.set i (A8,c8),by rw [List.length_set,List.length_set,J1.o],by rw [List.length_set];exact n9,fun k q b hq hb=> ?_,fun k j a' b hkj ha' hb g hag=> ?_⟩
  ·by_cases hki:k=i
   ·subst hki;rw [List.getElem?_set_self hi]at hq;rw [List.getElem?_set_self hia]at hb;cases hq;cases hb
    exact⟨zb (zd ho8 hne8) hsz27,fun g h h'=>hne8 (by rw [qC (A8,c8),h];exact(show aC g3=aC g from h').symm)⟩
   ·rw [List.getElem?_set_ne (Ne.symm hki)]at hq hb;have h1:=zc (m3 k q b hki hq hb) hb8;have h2:=(J3.o k q b hq hb).2;refine⟨zd h1 (fun h=>h2 g3 (by rw [<-qC b q.wait.length];exact h) rfl),h2⟩
  ·by_cases hki:k=i
   ·subst hki;rw [List.getElem?_set_self hia]at ha';cases ha'
    rw [List.getElem?_set_ne wj]at hb;intro hbg;have:=(ho8.lt g (by rw [qC (A8,c8)];exact hag)).1;have:=OLD.o j b hb g hbg;omega
   ·rw [List.getElem?_set_ne (Ne.symm hki)]at ha';by_cases hji:j=i
    ·subst hji;rw [List.getElem?_set_self hia]at hb;cases hb
     intro hbg;have:=(ho8.lt g (by rw [qC (A8,c8)];exact hbg)).1;have:=OLD.o k a' ha' g hag;omega
    ·rw [List.getElem?_set_ne (Ne.symm hji)]at hb;exact J4.o k j a' b hkj ha' hb g hag
 have hfin':=hfin.lower hb12.size;have HFN:=sqH hfin';clear hfin hfin' n9 hcf m2 m3 m28 ho8;go_wp2_with fail;go_ret3;rw [HGO.o];exact⟨_,rfl,HFN.o,hbz⟩
theorem z4b (w:World):(zeroValue 95).run zZZ w= .ok (.agg #[az ByteArray.empty,ax ay 0,aw aB 0 0]) w:=by kernel_rfl
theorem z06 (g i n cap base:Nat) (xs:af) (w:World) (h:w.ownsRow base 95 3 (aw (aC ⟨g,0,aB⟩) n cap) n xs) (hi:i<n) (hx:∀u∈xs,u.oneCell'=true) :
  Calls zZZ 186 #[aw (aC ⟨g,0,aB⟩) n cap,ax ay i,ax ay ((i:Int)+1)] w fun e w'=>e= .returned (aw (aC ⟨g,0,aB⟩) (n - 1) cap) /\
   w'.ownsRow base 95 3 (aw (aC ⟨g,0,aB⟩) (n - 1) cap) (n - 1) (xs.take (i*3)++xs.drop ((i+1)*3))/\w.grownBy w' (aC g):=by
 obtain⟨g',cap',cs,e1,hbg,hA,hnc,hcm,hcl,hct⟩:=yq h wj;injection e1 with e11 _ e13;injection e11 with e11;injection e11 with e11;subst e11 e13;obtain⟨i0,hi0,hz0,hz1,hz2⟩:=info_parts (show(zZZ.info? 95).map (fun i=>(i.zero,i.size,i.bytes))=aC (aC (.agg #[az ByteArray.empty,ax ay 0,aw aB 0 0]),3,48) by kernel_rfl);obtain⟨zs,hzs⟩:=wU ((Builtin.zeroCells (Value.agg #[az ByteArray.empty,ax ay 0,aw aB 0 0]).cells 1).toList)
 have hzs':zs= [az ByteArray.empty,ax ay 0,aw aB 0 0]:=by rw [hzs];kernel_rfl
 have hzl:zs.length=3:=by rw [hzs'];rfl
 have hz1':∀u∈zs,u.oneCell'=true:=by rw [hzs'];intro u hu;simp at hu;rcases hu with rfl | rfl | rfl<;>rfl
 obtain⟨a1,a2⟩:=Qu (i:=i) (n:=n) (zs:=zs) hA.drew hcl hnc hi hzl;rw [hct]at a1 a2;have hlen:(xs.drop ((i+1)*3)).length=(n - (i+1))*3:=by rw [List.length_drop,h.1,Nat.sub_mul]
 obtain⟨news,hnews⟩:=wU (xs.drop ((i+1)*3))
 rw [<-hnews]at a1 a2 hlen;obtain⟨W1,hW1⟩:=wU (w.drew.setCells g (i*3) news)
 rw [<-hW1]at a1 a2;have hr:=Rd.of_own h;have HC:=sqH (show ∀k u,xs[k]?=aC u->w.drew.cell? ⟨g,k,aB⟩=aC u from fun k u hu=>by
  refine Arr.cell hA.drew ?_;rw [<-hct,List.getElem?_take]at hu;split at hu
  ·exact hu
  ·cases hu)
 obtain⟨A,hAd,hsrc⟩:∃A:Addr,(if cap=i+1 then aC (⟨g,0,aB⟩:Addr) else aC ⟨g,(i+1)*3,aB⟩)=aC A/\Hid (∀t u,news[t]?=aC u->w.drew.cell? (A.add t)=aC u):=by
  by_cases hce:cap=i+1
  ·refine⟨⟨g,0,aB⟩,by simp [hce],Lib.hid fun t u hu=> ?_⟩;have h0:news.length=0:=by rw [hlen,show n - (i+1)=0 by omega]
   rw [List.length_eq_zero_iff.1 h0]at hu;cases hu
  ·refine⟨⟨g,(i+1)*3,aB⟩,by simp [hce],Lib.hid fun t u hu=> ?_⟩;rw [hnews,List.getElem?_drop]at hu;have:=HC.o _ _ hu;rw [Addr.add_lit];exact this
 have s1:=sqH hlen;have s2:=sqH (show ∀u∈news,u.oneCell'=true from fun u hu=>hx u (by rw [hnews]at hu;exact List.mem_of_mem_drop hu));have s3:=sqH (show ∀t,t<news.length->(w.drew.cell? ⟨g,0+i*3+t,aB⟩).isSome=true/\w.drew.frozen? ⟨g,0+i*3+t,aB⟩=false from fun t ht=>by
  rw [hlen]at ht;have hlt:i*3+t<xs.length:=by rw [h.1];omega
  rw [Nat.zero_add,HC.o _ _ (List.getElem?_eq_getElem hlt)];exact⟨rfl,hA.drew.frozen _⟩)
 have hclr:∀ty,(Builtin.clear_ #[31] ty #[aw (aC ⟨g,(n - 1)*3,aB⟩) (n - (n - 1)) (cap - (n - 1))]).run zZZ W1= .ok (.tuple #[]) (W1.setCells g ((n - 1)*3) zs):=fun ty=>by
  rw [show n - (n - 1)=1 by omega];exact yp W1 _ _ ty _ zs underlying31 z4b hzs.symm hz1' g _ _ (fun j hj=>by
   have hk:(n - 1)*3+j<(cs.take (i*3)++news++cs.drop ((n - 1)*3)).length:=by
    simp only [List.length_append,List.length_take,List.length_drop,hcl,hlen];omega
   rw [a1.cell (List.getElem?_eq_getElem hk)];rfl) (fun j hj=>a1.frozen _)
 have hcapi:i<=cap:=wj;have hci1:i+1<=cap:=wj;have hwi:((i:Int)+1).toNat=i+1:=wj;have hp0:(0:Int)<=(i:Int)+1:=wj;have hp1:(i:Int)+1<=(n:Int):=wj;have hne:((i:Int)==(i:Int)+1)=false:=by rw [beq_eq_false_iff_ne];omega
 obtain⟨A2,HW1,HG,HL,HCL,HN,HT,HX⟩:=sqJ8 a2 hW1 (show w.grownBy (W1.setCells g ((n - 1)*3) zs) (aC g) from(show w.grownBy w.drew (aC g) from⟨rfl,rfl,rfl,Nat.le_refl _,fun _ _ _=>rfl⟩).trans (by rw [hW1];exact(qi _ _ _).trans (qi _ _ _))) hlen hcl hnews hct h.1;clear hW1 a1 a2 hct hnews hlen hzs hzs' hz1' hr hA HC hx hcl;go_enter func186,ntmps186;go_wp2_with fail;go_region_law (refine step_append_room rfl (.tmp 22) (.tmp 25) 31 rfl 95 i0 3 underlying31 hi0 hz1 g 0 i cap (by simp [Act.eval,Act.put]) A (n - (i+1)) (cap - (i+1)) news (by simp [Act.eval,Act.put]) s1.o hsrc.o s2.o wj s3.o ?_;rw [Nat.zero_add,<-HW1.o]);rw [show i+(n - (i+1))=n - 1 by omega];go_wp2_with fail;go_ret;refine⟨rfl,⟨?_,.inr ⟨g,cap,_,rfl,hbg,A2.o,wj,hcm,?_,?_⟩⟩,HG.o⟩
 ·rw [<-HN.o,List.length_append,List.length_take,HL.o,HX.o];omega
 ·simp only [List.size_toArray,List.length_append,List.length_take,List.length_drop,HL.o,hzl,HCL.o];omega
 ·have e1:xs.take (i*3)=cs.take (i*3):=by rw [<-HT.o,List.take_take,Nat.min_eq_left wj]
  rw [e1,<-HN.o,List.append_assoc,List.take_left' (by rw [List.length_append,List.length_take,HL.o,HCL.o];omega)]
theorem vj:∀(fs:List FlP) (As:List (ae×Nat)) (i:Nat),As.length=fs.length->i<fs.length ->
  (kf fs As).take (i*3)++(kf fs As).drop ((i+1)*3)=kf (fs.eraseIdx i) (As.eraseIdx i)
 | f::fs,a::As,0,h,_=>by simp [kf,qN]
 | f::fs,a::As,i+1,h,hi=>by
  have ih:=vj fs As i (by simpa using h) (by simpa using hi)
  simp only [kf,List.eraseIdx_cons_succ,List.zip_cons_cons,List.flatMap_cons]at ih ⊢
  generalize (fs.zip As).flatMap (fun x=>qN x.1 x.2.1 x.2.2)=X at *
  have e1:(qN f a.1 a.2++X).take ((i+1)*3)=qN f a.1 a.2++X.take (i*3):=by
   rw [show(i+1)*3=(qN f a.1 a.2).length+i*3 by simp [qN];omega,List.take_length_add_append]
  have e2:(qN f a.1 a.2++X).drop ((i+1+1)*3)=X.drop ((i+1)*3):=by
   rw [show(i+1+1)*3=(qN f a.1 a.2).length+(i+1)*3 by simp [qN];omega,List.drop_length_add_append]
  rw [e1,e2,List.append_assoc,ih]
theorem zV {α:Type} {l:List α} {k:Nat} {x:α} (h:(l.eraseIdx i)[k]?=aC x):∃k',l[k']?=aC x/\(k'=if k<i then k else k+1):=by
 rw [List.getElem?_eraseIdx]at h;split at h
 ·rename_i hk;exact⟨k,h,by rw [if_pos hk]⟩
 ·rename_i hk;exact⟨k+1,h,by rw [if_neg hk]⟩
theorem FlsO.del (h:FlsO w base (aw (aC ⟨g,0,aB⟩) fs.length cap) fs) (hi:i<fs.length) :
  ∃xs,w.ownsRow base 95 3 (aw (aC ⟨g,0,aB⟩) fs.length cap) fs.length xs/\(∀u∈xs,u.oneCell'=true) /\
   ∀w',w'.ownsRow base 95 3 (aw (aC ⟨g,0,aB⟩) (fs.length - 1) cap) (fs.length - 1) (xs.take (i*3)++xs.drop ((i+1)*3))->w.grownBy w' (aC g) ->
    FlsO w' base (aw (aC ⟨g,0,aB⟩) (fs.length - 1) cap) (fs.eraseIdx i):=by
 obtain⟨As,h1,h2,h3,h4⟩:=h;refine⟨_,h2,uV fs As,fun w' ho hg=> ?_⟩;rw [vj fs As i h1 hi]at ho;have hl:(fs.eraseIdx i).length=fs.length - 1:=List.length_eraseIdx_of_lt hi;refine⟨As.eraseIdx i,by rw [List.length_eraseIdx_of_lt wj,hl,h1],by rw [hl];exact ho,fun k p a hp ha=> ?_,fun k j a b hkj ha hb=> ?_⟩
 ·obtain⟨k1,hp1,e1⟩:=zV hp;obtain⟨k2,ha1,e2⟩:=zV ha;rw [<-e1]at e2;subst e2;obtain⟨j1,j2⟩:=h3 k2 p a hp1 ha1;refine⟨j1.kept hg ?_,j2⟩;rw [qC];cases hb:blk a with
  | none=>exact .inl rfl
  | some x=>exact .inr (fun e=>j2 x hb e.symm)
 ·obtain⟨k1,ha1,e1⟩:=zV ha;obtain⟨k2,hb1,e2⟩:=zV hb;refine h4 k1 k2 a b ?_ ha1 hb1;split at e1<;>split at e2<;>omega
theorem FlsO.blk_ex (h:FlsO w base v fs) (h0:0<fs.length):∃g c,v= aw (aC ⟨g,0,aB⟩) fs.length c/\base<=g:=by
 obtain⟨As,h1,h2,h3,h4⟩:=h;obtain⟨g,cap,cs,rfl,hb,_⟩:=yq h2 h0;exact⟨g,cap,rfl,hb⟩
theorem U3 (A:ae) (c:Nat) (fs:List FlP) (k:ByteArray) (w:World) (hG:GoodF fs) (hf:Fls w A fs) (hc:fs.length<=c) (hm:c<=maxLen) (hfn:fnd 0 fs k.data.toList=aB) :
  Calls Tryz.prog 168 #[aw A fs.length c,az k] w fun e w'=>e= .returned (.tuple #[aw aB 0 0,aw aB 0 0,.int .i64 5])/\Below w.heap.size w w':=by
 have h66:fs.length<=6:=hG.len;have HCK:=sqH (fun w' hf'=>ke A c fs w' hG hf' hc hm);have HFI:=sqH (fun w' hf'=>kK A c fs k w' wj hf');have HCP:=sqH (fun w' hf'=>kr A c fs w' wj (fun p hp=>by
  obtain⟨j,hj,rfl⟩:=List.mem_iff_getElem.1 hp;have:=hG.few j hj;omega) hf' hc)
 have HF:=sqH hfn;have hfew:=fun (i:Nat) (h:i<fs.length)=>hG.few i h;have HFE:=sqH hfew;clear hG hfn hfew;go_enter Tryz.func168,Tryz.ntmps168;go_wp2_with fail;refine wV (HCK.o w hf) fun w1 hb1=>?_;dsimp only;have hf1:=hf.below hb1;have hfi:=HFI.o w1 hf1;rw [HF.o]at hfi;dsimp only at hfi;have HFF:=sqH hfi;clear hfi hf;go_wp2_with fail;refine wV HFF.o fun w4 hb4=>?_;dsimp only;have hb14:=wg hb1 hb4;go_wp2_with fail;go_ret3;exact⟨rfl,hb14⟩
theorem z2w (A:ae) (c:Nat) (fs:List FlP) (k:ByteArray) (i:Nat) (w:World) (hG:GoodF fs) (hf:Fls w A fs) (hc:fs.length<=c) (hm:c<=maxLen) (hfn:fnd 0 fs k.data.toList=aC i) (hi:i<fs.length) :
  Calls Tryz.prog 168 #[aw A fs.length c,az k] w fun e w'=>∃v u,e= .returned (.tuple #[v,u,.int .i64 0])/\FlsO w' w.heap.size v (fs.eraseIdx i) /\
   w'.ownsRow w.heap.size 3 1 u (fs[i].wait.length+1) (ins (fs[i].lead::fs[i].wait))/\Below w.heap.size w w':=by
 have h66:fs.length<=6:=hG.len;have HCK:=sqH (fun w' hf'=>ke A c fs w' hG hf' hc hm);have HFI:=sqH (fun w' hf'=>kK A c fs k w' wj hf');have HCP:=sqH (fun w' hf'=>kr A c fs w' wj (fun p hp=>by
  obtain⟨j,hj,rfl⟩:=List.mem_iff_getElem.1 hp;have:=hG.few j hj;omega) hf' hc)
 have HF:=sqH hfn;have hfew:=fun (i:Nat) (h:i<fs.length)=>hG.few i h;have HFE:=sqH hfew;clear hG hfn hfew;go_enter Tryz.func168,Tryz.ntmps168;go_wp2_with fail;refine wV (HCK.o w hf) fun w1 hb1=>?_;dsimp only;have hf1:=hf.below hb1;have hfi:=HFI.o w1 hf1;rw [HF.o]at hfi;dsimp only at hfi;have HFF:=sqH hfi;clear hfi hf;go_wp2_with fail;refine wV HFF.o fun w4 hb4=>?_;dsimp only;have hb14:=wg hb1 hb4;have hf4:=hf1.below hb4;have hwl:=HFE.o i hi;obtain⟨b,off,B,cb,rfl,hbb,c0,c1,c2,hrw,hwc,hcbm⟩:=hf4.at_ i hi;obtain⟨s,hs⟩:=wU (⟨fs[i].key.toArray⟩:ByteArray)
 rw [<-hs]at c0;obtain⟨ld,hld⟩:=wU (fs[i].lead)
 obtain⟨wt,hwt⟩:=wU (fs[i].wait)
 rw [<-hld]at c1;rw [<-hwt]at c2 hrw hwc hwl;have HRW:=sqH hrw;have HFL:=sqH hf4;have hLD:=hld.symm;have hWT:=hwt.symm;have HLD:=sqH hLD;have HWT:=sqH hWT;have hi0:=wX i
 have hi1:(i:Int)<(fs.length:Int):=wj;have hwi:IntKind.i64.wrap ((i:Int)+1)=(i:Int)+1:=IntWalk.i64_in _ wj;have HS:=sqH (show ∀W:World,Below w4.heap.size w4 W->W.cell? ⟨b,off+i*3,aB⟩=aC (az s)/\W.cell? ⟨b,off+i*3+1,aB⟩=aC (.int .i64 ld)/\W.cell? ⟨b,off+i*3+2,aB⟩=aC (aw B wt.length cb) from
  fun W hW=>⟨(hW.cell (p:=⟨b,off+i*3,aB⟩) hbb).trans c0,(hW.cell (p:=⟨b,off+i*3+1,aB⟩) hbb).trans c1,(hW.cell (p:=⟨b,off+i*3+2,aB⟩) hbb).trans c2⟩)
 clear hs hld hwt hLD hWT c0 c1 c2 hrw hf1 hf4;go_wp2_with fail;refine wp_region_held_drew (S:=(fun w'=>w'.cell? ⟨b,off+i*3,aB⟩=aC (az s)/\w'.cell? ⟨b,off+i*3+1,aB⟩=aC (.int .i64 ld)/\w'.cell? ⟨b,off+i*3+2,aB⟩=aC (aw B wt.length cb))) wm ?_ (fun hHeld=> ?_)
 ·exact HS.o _ (Below.refl _ w4).drew
 have hB:=(Below.refl w4.heap.size w4).drew;generalize w4.drew=wn0 at *
 refine wM 0 ?_;refine wM 2 ?_;refine wM 3 ?_;refine wM 4 ?_;refine wM 6 ?_;refine wM 7 ?_;refine wM 8 ?_;refine wM 9 ?_;refine wQ 1 fun K hK=>?_;have hcp:=HCP.o wn0 (HFL.o.below hB);go_simp;refine(hcp).mono ?_;rintro e5 w5 ⟨v5,rfl,ho5,hb5⟩;dsimp only;obtain⟨gf,cf,rfl,hgf⟩:=ho5.blk_ex wj;refine ka hK ?_ (Below w4.heap.size w4) (fun W=>FlsO W w4.heap.size (aw (aC ⟨gf,0,aB⟩) fs.length cf) fs/\w4.heap.size<=gf) ?_ ?_ (fun wn1 hHeld hst hnew=> ?_)
 ·exact HS.o _ (wg hB hb5)
 ·exact wg hB hb5
 ·exact⟨ho5.lower hB.size,Nat.le_trans hB.size hgf⟩
 clear hB;have hB:=hst;obtain⟨hnew,hgw⟩:=hnew;clear hst;clear hK K
 try simp only [sqP]
 refine wQ 5 fun K hK=>?_;obtain⟨xs,x1,x2,x3⟩:=hnew.del (i:=i) hi;go_simp;refine(z06 _ i fs.length _ _ xs wn1 x1 hi x2).mono ?_;rintro e5 w5 ⟨rfl,y1,y2⟩;dsimp only;refine ka hK ?_ (Below w4.heap.size w4) (fun W=>FlsO W w4.heap.size (aw (aC ⟨gf,0,aB⟩) (fs.length - 1) cf) (fs.eraseIdx i)) ?_ ?_ (fun wn2 hHeld hst hnew=> ?_)
 ·exact HS.o _ (hB.grown y2 hB.size (fun g h=>by cases h;exact hgw))
 ·exact hB.grown y2 hB.size (fun g h=>by cases h;exact hgw)
 ·exact x3 _ y1 y2
 clear hB;have hB:=hst;clear hst;clear hK K
 try simp only [sqP]
 refine wQ 10 fun K hK=>?_;have hcr:=ud s ld B cb wt wn2 wj (HRW.o.below hB);go_simp;refine(hcr).mono ?_;rintro e5 w5 ⟨v5,rfl,ho5,hb5⟩;dsimp only;refine ka hK ?_ (Below w4.heap.size w4) (fun W=>FlsO W w4.heap.size (aw (aC ⟨gf,0,aB⟩) (fs.length - 1) cf) (fs.eraseIdx i)/\W.ownsRow w4.heap.size 3 1 v5 (wt.length+1) (ins (ld::wt))) ?_ ?_ (fun wn3 hHeld hst hnew2=> ?_)
 ·exact HS.o _ (wg hB hb5)
 ·exact wg hB hb5
 ·exact⟨hnew.below hb5,zb ho5 hB.size⟩
 clear hB;have hB:=hst;clear hst hnew;obtain⟨hnew,hown⟩:=hnew2;clear hK K
 refine wM 11 ?_;refine wM 12 ?_;refine wM 13 ?_;refine wpAnyH_done wm ?_ _;clear hHeld;dsimp only [Exit.then];go_wp2_with fail;go_ret3;rw [HLD.o,HWT.o];exact⟨_,_,rfl,hnew.lower hb14.size,zb hown hb14.size,wg hb14 hB⟩
open Go.ChangeShapes (lits)
def grp (fs:List FlP) (k:ac):List Int :=
 match fnd 0 fs k with
 | none=> []
 | some i=>match fs[i]? with
  | none=> []
  | some p=>p.lead::p.wait
theorem Kk (h:fnd 0 fs k=some i) (hi:i<fs.length):grp fs k=fs[i].lead::fs[i].wait:=by
 rw [grp,h];simp only [List.getElem?_eq_getElem hi]
theorem XO:∀(fs:List FlP) (i j:Nat) (k:ac),fnd i fs k=some j->∃h:j - i<fs.length,i<=j/\fs[j - i].key=k
 | p::r,i,j,k,h=>by
  rw [fnd]at h
  split at h
  ·rename_i e
   cases h
   refine⟨ws,Nat.le_refl _,?_⟩
   simp only [Nat.sub_self,List.getElem_cons_zero]
   exact e
  ·obtain⟨h1,h2,h3⟩:=XO r (i+1) j k h
   refine⟨by simp only [List.length_cons];omega,wj,?_⟩
   have e:j - i=(j - (i+1))+1:=wj;simp only [e,List.getElem_cons_succ]
   exact h3
theorem yi {j:Nat} (h:fnd 0 fs k=some j):∃h:j<fs.length,fs[j].key=k:=by
 obtain⟨h1,_,h2⟩:=XO fs 0 j k h;exact⟨h1,h2⟩
theorem xo:∀(fs:List FlP) (p:FlP) (i:Nat) (k:ac),fnd i (fs++ [p]) k=match fnd i fs k with | some j=>some j | none=>if p.key=k then some (i+fs.length) else none
 | [],p,i,k=>by simp [fnd]
 | f::fs,p,i,k=>by
  rw [List.cons_append,fnd,fnd]
  by_cases h:f.key=k
  ·rw [if_pos h,if_pos h]
  ·rw [if_neg h,if_neg h,xo fs p (i+1) k,show i+1+fs.length=i+(f::fs).length by simp only [List.length_cons];omega]
theorem jU (h:fnd 0 fs k=none):grp (fs++ [⟨k,n, []⟩]) k= [n]:=by
 have e:fnd 0 (fs++ [(⟨k,n, []⟩:FlP)]) k=some fs.length:=by rw [xo,h];simp
 rw [Kk e ws];simp
theorem uN (h:k≠k'):grp (fs++ [⟨k,n, []⟩]) k'=grp fs k':=by
 unfold grp;rw [xo];cases e:fnd 0 fs k' with
 | none=>simp [h]
 | some j =>
  obtain⟨hj,_⟩:=yi e;simp only [];rw [List.getElem?_append_left hj]
theorem Z5 (fs:List FlP) (i:Nat) (p:FlP) (hi:i<fs.length) (hk:p.key=fs[i].key):(fs.set i p).map (·.key)=fs.map (·.key):=by
 rw [List.map_set];apply List.ext_getElem
 ·simp
 ·intro j h1 h2;rw [List.getElem_set];split
  ·rename_i e;subst e;simpa using hk
  ·rfl
theorem ZI (h:fnd 0 fs k=some i) (hi:i<fs.length) (hk:p.key=fs[i].key):grp (fs.set i p) k=p.lead::p.wait:=by
 have e:fnd 0 (fs.set i p) k=some i:=by rw [yK (fs.set i p) fs 0 k (Z5 fs i p hi hk),h]
 rw [Kk e (by simpa using hi)];simp
theorem jT (h:fnd 0 fs k=some i) (hi:i<fs.length) (hk:p.key=fs[i].key) (hne:k≠k'):grp (fs.set i p) k'=grp fs k':=by
 unfold grp;rw [yK (fs.set i p) fs 0 k' (Z5 fs i p hi hk)];cases e:fnd 0 fs k' with
 | none=>rfl
 | some j =>
  have hne':i≠j:=by
   rintro rfl;obtain⟨_,e1⟩:=yi e;obtain⟨_,e2⟩:=yi h;exact hne (e2.symm.trans e1)
  simp only [];rw [List.getElem?_set_ne hne']
def grpD (l:List Int):DataW Unit:=match l with | []=> .nil | _::_=> .slice (lits .i64 l) []
structure WhoD (fs:List FlP) (D:DataW Unit):Prop where
 tidy:Tidy D
 size:size D=fs.length
 has:∀k,Maps.has D (.string k)=(fnd 0 fs k).isSome
 at_:∀k,D.atKey (.string k) .nil=grpD (grp fs k)
theorem WhoD.nil_:WhoD [] (.map []):=⟨tidy_empty,rfl,fun _=>rfl,fun _=>rfl⟩
theorem jr (k:ac):WideAt.IsKeyLit (.string k):=by simp [WideAt.IsKeyLit]
theorem WhoD.new {D:DataW Unit} (h:WhoD fs D) (hf:fnd 0 fs k=none):WhoD (fs++ [⟨k,n, []⟩]) (D.put (.string k) (grpD [n])):=by
 have hh:Maps.has D (.string k)=false:=by rw [h.has,hf];rfl
 refine⟨h.tidy.put (jr k) _,?_,fun k'=> ?_,fun k'=> ?_⟩
 ·rw [size_put h.tidy,hh,h.size];simp
 ·by_cases e:k'=k
  ·subst e;rw [has_put_same h.tidy.isMap (jr k') _,xo,hf];simp
  ·rw [has_put_other (by simpa using e),h.has,xo];cases fnd 0 fs k' with
   | none=>simp [Ne.symm e]
   | some j=>rfl
 ·by_cases e:k'=k
  ·subst e;rw [atKey_put_same h.tidy.isMap (jr k') _ _,jU hf]
  ·rw [atKey_put_other (by simpa using e),h.at_,uN (Ne.symm e)]
theorem WhoD.more {D:DataW Unit} (h:WhoD fs D) (hf:fnd 0 fs k=some i) (hi:i<fs.length) (hk:p.key=fs[i].key):WhoD (fs.set i p) (D.put (.string k) (grpD (p.lead::p.wait))):=by
 have hh:Maps.has D (.string k)=true:=by rw [h.has,hf];rfl
 refine⟨h.tidy.put (jr k) _,?_,fun k'=> ?_,fun k'=> ?_⟩
 ·rw [size_put h.tidy,hh,h.size,List.length_set];simp
 ·rw [yK (fs.set i p) fs 0 k' (Z5 fs i p hi hk)];by_cases e:k'=k
  ·subst e;rw [has_put_same h.tidy.isMap (jr k') _,hf];rfl
  ·rw [has_put_other (by simpa using e),h.has]
 ·by_cases e:k'=k
  ·subst e;rw [atKey_put_same h.tidy.isMap (jr k') _ _,ZI hf hi hk]
  ·rw [atKey_put_other (by simpa using e),h.at_,jT hf hi hk (Ne.symm e)]
section
variable {P:Program} {k e:TypeId} {q:IntKind} {wr w:World} {base b n:Nat} {D:DataW Unit}
end
theorem qG:∀(fs:List FlP) (i:Nat) (k:ac),fnd i fs k=none↔∀p∈fs,p.key≠k
 | [],i,k=>by simp [fnd]
 | f::fs,i,k=>by
  rw [fnd]
  by_cases h:f.key=k
  ·rw [if_pos h]
   constructor
   ·intro e;cases e
   ·intro e;exact absurd h (e f ws)
  ·rw [if_neg h,qG fs (i+1) k]
   constructor
   ·intro e p hp
    rcases List.mem_cons.1 hp with rfl | hp
    ·exact h
    ·exact e p hp
   ·intro e p hp;exact e p (by simp [hp])
theorem GoodF.nodup (h:GoodF fs):(fs.map (·.key)).Nodup:=by
 rw [List.Nodup,List.pairwise_map,List.pairwise_iff_getElem];intro i j hi hj hij;have h1:=(qG _ _ _).1 (h.one j hj) fs[i] (by
  rw [List.mem_take_iff_getElem];exact⟨i,wj,rfl⟩)
 exact h1
theorem GoodF.of (h6:fs.length<=6) (h:∀p∈fs,(hexC p.key=0/\p.key.length<=1000)/\p.wait.length<=5/\CrewOk (p.lead::p.wait)) (hn:(fs.map (·.key)).Nodup):GoodF fs:=by
 refine⟨h6,fun j hj=>(h _ (List.getElem_mem hj)).1,fun j hj=> ?_,fun j hj=>(h _ (List.getElem_mem hj)).2.1,fun j hj=>(h _ (List.getElem_mem hj)).2.2⟩;rw [qG];intro p hp;rw [List.mem_take_iff_getElem]at hp;obtain⟨i,hi,rfl⟩:=hp;rw [List.Nodup,List.pairwise_map,List.pairwise_iff_getElem]at hn;exact hn i j wj hj wj
theorem GoodF.all (h:GoodF fs):∀p∈fs,(hexC p.key=0/\p.key.length<=1000)/\p.wait.length<=5/\CrewOk (p.lead::p.wait):=fun p hp=>by
 obtain⟨j,hj,rfl⟩:=List.mem_iff_getElem.1 hp
 exact⟨h.key j hj,h.few j hj,h.crew j hj⟩
theorem GoodF.erase (h:GoodF fs) (i:Nat):GoodF (fs.eraseIdx i):=by
 refine GoodF.of ?_ (fun p hp=>h.all p (List.mem_of_mem_eraseIdx hp)) ?_
 ·have:=List.length_eraseIdx_le fs i;have:=h.len;omega
 ·exact h.nodup.sublist ((List.eraseIdx_sublist fs i).map _)
theorem uM (hn:(fs.map (·.key)).Nodup) (hi:i<fs.length):fnd 0 (fs.eraseIdx i) fs[i].key=none:=by
 rw [qG];intro p hp e;rw [List.eraseIdx_eq_take_drop_succ]at hp;rw [List.Nodup,List.pairwise_map,List.pairwise_iff_getElem]at hn;rcases List.mem_append.1 hp with h | h
 ·rw [List.mem_take_iff_getElem]at h;obtain⟨j,hj,rfl⟩:=h;exact hn j i wj hi wj e
 ·rw [List.mem_drop_iff_getElem]at h;obtain⟨j,hj,rfl⟩:=h;exact hn i (i+1+j) hi wj wj e.symm
abbrev stZ:StoP:=⟨[], [],0,0⟩
abbrev coZ:ColP:=⟨0, [], []⟩
abbrev loZ:LoP:=⟨stZ,coZ, []⟩
def yt (fs:List FlP) (key:ac) (n:Int):List FlP×Bool×Nat :=
 match fnd 0 fs key with
 | none=>if fs.length=6 then ([],false,7) else (fs++ [⟨key,n, []⟩],true,0)
 | some i=>match fs[i]? with
  | none=>([],false,0)
  | some p=>if (p.lead::p.wait).contains n then ([],false,6) else if p.wait.length=5 then ([],false,7) else (fs.set i ⟨p.key,p.lead,p.wait++ [n]⟩,false,0)
def xd (fs:List FlP) (key:ac):List FlP×List Int×Nat :=
 match fnd 0 fs key with
 | none=>([], [],5)
 | some i=>match fs[i]? with
  | none=>([], [],0)
  | some p=>(fs.eraseIdx i,p.lead::p.wait,0)
noncomputable def qx (s:StoP) (c:ColP) (key:ac) (ps:List PartP):StoP×ColP×Nat :=
 if qL s.aE ps=0 then ((zG (xw s key ps) c (ps.map (·.dig))).1,(zG (xw s key ps) c (ps.map (·.dig))).2,0) else (stZ,coZ,qL s.aE ps)
def jL (l:LoP) (key:ac) (n:Int):LoP×List PartP×Bool×Nat :=
 match l.st.aF.findIdx? (fun x=>x.key==key) with
 | some i=>match l.st.aF[i]? with
  | none=>(loZ, [],false,0)
  | some x=>({ l with st:=kz l.st i x },x.aL,false,0)
 | none=>if (yt l.fs key n).2.2=0 then ({ l with fs:=(yt l.fs key n).1 }, [],(yt l.fs key n).2.1,0) else (loZ, [],false,(yt l.fs key n).2.2)
noncomputable def kL (l:LoP) (key:ac) (ps:List PartP):LoP×List Int×Nat :=
 if (xd l.fs key).2.2=0 then
  if (qx l.st l.co key ps).2.2=0 then (⟨(qx l.st l.co key ps).1,(qx l.st l.co key ps).2.1,(xd l.fs key).1⟩,(xd l.fs key).2.1,0) else (loZ, [],(qx l.st l.co key ps).2.2)
 else (loZ, [],(xd l.fs key).2.2)
def yY (l:LoP) (key:ac):LoP×List Int×Nat :=
 if (xd l.fs key).2.2=0 then ({ l with fs:=(xd l.fs key).1 },(xd l.fs key).2.1,0) else (loZ, [],(xd l.fs key).2.2)
noncomputable def YF (l:LoP) (key:ac) (ps:List PartP):LoP×Nat :=
 if (fnd 0 l.fs key).isSome then (loZ,10)
 else if (qx l.st l.co key ps).2.2=0 then (⟨(qx l.st l.co key ps).1,(qx l.st l.co key ps).2.1,l.fs⟩,0) else (loZ,(qx l.st l.co key ps).2.2)
theorem yL (s:StoP) (c:ColP) (ds:List ac):(zG s c ds).1.aH=s.aH/\(zG s c ds).1.aG=s.aG:=by
 rw [kD];exact⟨rfl,rfl⟩
theorem jV:es.findIdx? (fun x=>x.key==k)=none↔∀x∈es,x.key≠k:=by
 rw [List.findIdx?_eq_none_iff];simp
theorem vE (h:es.findIdx? (fun x=>x.key==k)=some i):∃hi:i<es.length,es[i].key=k:=by
 obtain⟨hi,h1,_⟩:=List.findIdx?_eq_some_iff_getElem.1 h;exact⟨hi,by simpa using h1⟩
theorem GoodL.apart (h:GoodL l):∀p∈l.fs,∀x∈l.st.aF,x.key≠p.key:=fun p hp=>by
 obtain⟨j,hj,rfl⟩:=List.getElem_of_mem hp
 exact jV.1 (h.no j hj)
theorem GoodL.of (hs:GoodS l.st) (hc:GoodC l.st l.co) (hg:l.co.aI.length<=1000) (hf:GoodF l.fs) (hn:∀p∈l.fs,∀x∈l.st.aF,x.key≠p.key):GoodL l :=
 ⟨hs,hc,hg,hf,fun j hj=>jV.2 (hn _ (List.getElem_mem hj))⟩
theorem xN {t:StoP} (h:GoodC s c) (hb:t.aE=s.aE) (hr:∀x∈rts t,x∈rts s):GoodC t c :=
 ⟨h.ph,h.gh,h.ris,h.ah,h.g0,h.a0,fun h1 x hx hb'=>by rw [hb]at hb' ⊢;exact h.mr h1 x (hr x hx) hb',fun h1=>by rw [hb];exact h.mb h1,fun h1 x hx=>by
  rw [hb]at hx ⊢
  exact h.sw h1 x (hx.dmono hr)⟩
theorem Ky (hi:i<es.length) (h:x.aL=es[i].aL):ux (es.set i x)=ux es:=by
 unfold ux;rw [List.flatMap_def,List.flatMap_def,KB (fun x:EntP=>x.aL.map (·.dig)) hi (by rw [h])]
theorem Kj (hi:i<s.aF.length):rts (kz s i s.aF[i])=rts s:=by
 show ux (s.aF.set i { s.aF[i] with aK:=s.aG+1 })++uH s.aE=ux s.aF++uH s.aE;rw [Ky (x:= { s.aF[i] with aK:=s.aG+1 }) hi rfl]
theorem yZ (hi:i<es.length) (hk:x.key=es[i].key) (h:y∈es.set i x):∃z∈es,z.key=y.key:=by
 rcases List.mem_or_eq_of_mem_set h with h | rfl
 ·exact⟨y,h,rfl⟩
 ·exact⟨es[i],List.getElem_mem hi,hk.symm⟩
theorem GoodL.get (h:GoodL l) (hi:i<l.st.aF.length) (hc:l.st.aG<1099511627776):GoodL { l with st:=kz l.st i l.st.aF[i] } :=
 .of (ZE h.s hi hc) (xN h.c rfl (fun x hx=>by rw [Kj hi]at hx;exact hx)) h.g h.f fun p hp x hx=>by
  obtain⟨z,hz,e⟩:=yZ (x:= { l.st.aF[i] with aK:=l.st.aG+1 }) hi rfl hx
  rw [<-e]
  exact h.apart p hp z hz
theorem Yi (h:GoodF fs) (hk:hexC key=0) (hkl:key.length<=1000) (h1:1<=n) (h2:n<=1000) (h0:(yt fs key n).2.2=0) :
  GoodF (yt fs key n).1/\(∀p∈(yt fs key n).1,p.key=key\/∃q∈fs,q.key=p.key)/\(yt fs key n).1.length<=fs.length+1:=by
 unfold yt at h0 ⊢
 cases hf:fnd 0 fs key with
 | none =>
  rw [hf]at h0;simp only at h0 ⊢
  by_cases h6:fs.length=6
  ·rw [if_pos h6]at h0;cases h0
  ·rw [if_neg h6];refine⟨h.snoc (by have:=h.len;omega) hk hkl hf h1 h2,fun p hp=> ?_,ws⟩;rcases List.mem_append.1 hp with hp | hp
   ·exact .inr ⟨p,hp,rfl⟩
   ·rw [List.mem_singleton.1 hp];exact .inl rfl
 | some i =>
  obtain⟨hi,hik⟩:=yi hf;rw [hf]at h0;simp only [List.getElem?_eq_getElem hi]at h0 ⊢
  by_cases hc:(fs[i].lead::fs[i].wait).contains n=true
  ·rw [if_pos hc]at h0;cases h0
  ·rw [if_neg hc]at h0 ⊢
   by_cases h5:fs[i].wait.length=5
   ·rw [if_pos h5]at h0;cases h0
   ·rw [if_neg h5];refine⟨h.set hi h1 h2 (by simpa using hc) (by have:=h.few i hi;omega),fun p hp=> ?_,ws⟩;rcases List.mem_or_eq_of_mem_set hp with hp | rfl
    ·exact .inr ⟨p,hp,rfl⟩
    ·exact .inl hik
structure LInv (m:Nat) (l:LoP):Prop where
 b:Bsy m l.st l.co
 f:GoodF l.fs
 ap:∀p∈l.fs,∀x∈l.st.aF,x.key≠p.key
 k7:∀p∈l.fs,∃j,j<7/\p.key=keyS j
theorem LInv.good (h:LInv m l) (hm:m<=78):GoodL l:= .of h.b.g h.b.gc (by have:=h.b.gr;omega) h.f h.ap
theorem LInv.up {n:Nat} (h:LInv m l) (hn:m<=n):LInv n l:=⟨h.b.up hn,h.f,h.ap,h.k7⟩
theorem LInv.get (h:LInv m l) (hm:m<=1000) (hi:i<l.st.aF.length):LInv (m+1) { l with st:=kz l.st i l.st.aF[i] }:=by
 have hc:l.st.aG<1099511627776:=by have:=h.b.ck;omega
 have hk:∀x∈(kz l.st i l.st.aF[i]).aF,∃z∈l.st.aF,z.key=x.key:=fun x hx=>yZ (x:= { l.st.aF[i] with aK:=l.st.aG+1 }) hi rfl hx;refine⟨⟨ZE h.b.g hi hc,xN h.b.gc rfl (fun x hx=>by rw [Kj hi]at hx;exact hx),?_,fun x hx=> ?_,?_⟩,h.f,fun p hp x hx=> ?_,h.k7⟩
 ·have:=h.b.gr;show 8*unm l.st.aE+l.co.aI.length<=_;omega
 ·obtain⟨z,hz,e⟩:=hk x hx;rw [<-e];exact h.b.k7 z hz
 ·have:=h.b.ck;show l.st.aG+1<=_;omega
 ·obtain⟨z,hz,e⟩:=hk x hx;rw [<-e];exact h.ap p hp z hz
theorem LInv.ask (h:LInv m l) (hm:m<=78) (hk:∃j,j<7/\key=keyS j) (h1:1<=n) (h2:n<=1000) (h0:(jL l key n).2.2.2=0):LInv (m+1) (jL l key n).1:=by
 have hkx:hexC key=0/\key.length<=1000:=by obtain⟨j,_,rfl⟩:=hk;exact⟨zq _,by rw [keyS,Z6];omega⟩
 unfold jL at h0 ⊢
 cases hf:l.st.aF.findIdx? (fun x=>x.key==key) with
 | some i =>
  obtain⟨hi,_⟩:=vE hf;simp only [List.getElem?_eq_getElem hi];exact h.get wj hi
 | none =>
  rw [hf]at h0;simp only at h0 ⊢
  split at h0
  ·rename_i hj;rw [if_pos hj];obtain⟨a1,a2,_⟩:=Yi h.f hkx.1 hkx.2 h1 h2 hj;refine⟨h.b.up (Nat.le_succ _),a1,fun p hp x hx=> ?_,fun p hp=> ?_⟩
   ·rcases a2 p hp with e | ⟨q,hq,e⟩
    ·rw [e];exact jV.1 hf x hx
    ·rw [<-e];exact h.ap q hq x hx
   ·rcases a2 p hp with e | ⟨q,hq,e⟩
    ·rw [e];exact hk
    ·rw [<-e];exact h.k7 q hq
  ·rename_i hj;exact absurd h0 hj
theorem ZB (h:GoodF fs) (h0:(xd fs key).2.2=0) :
  GoodF (xd fs key).1/\(∀p∈(xd fs key).1,p∈fs/\p.key≠key)/\∃i,∃hi:i<fs.length,fs[i].key=key/\xd fs key=(fs.eraseIdx i,fs[i].lead::fs[i].wait,0):=by
 unfold xd at h0 ⊢
 cases hf:fnd 0 fs key with
 | none=>rw [hf]at h0;cases h0
 | some i =>
  obtain⟨hi,hik⟩:=yi hf;simp only [List.getElem?_eq_getElem hi];refine⟨h.erase i,fun p hp=>⟨List.mem_of_mem_eraseIdx hp,fun e=> ?_⟩,i,hi,hik,rfl⟩;have:=uM h.nodup hi;rw [hik]at this;exact(qG _ _ _).1 this p hp e
theorem LInv.done (h:LInv m l) (hm:m<=78) (hk:∃j,j<7/\key=keyS j) (hp:chk ps=0) (h0:(kL l key ps).2.2=0):LInv (m+1) (kL l key ps).1:=by
 unfold kL at h0 ⊢
 split at h0
 ·rename_i he;rw [if_pos he];obtain⟨a1,a2,_⟩:=ZB h.f he;split at h0
  ·rename_i hb;rw [if_pos hb];unfold qx at hb ⊢
   by_cases hh:qL l.st.aE ps=0
   ·rw [if_pos hh];refine⟨h.b.pute hk hp hh (by have:=h.b.ck;omega),a1,fun p hp x hx=> ?_,fun p hp=>h.k7 p (a2 p hp).1⟩;dsimp only at hx;rw [kD]at hx;rcases Z0 (show x∈x9 l.st.aF _ from hx) with h3 | ⟨h3,_⟩
    ·exact h.ap p (a2 p hp).1 x h3
    ·rw [h3];exact fun e=>(a2 p hp).2 e.symm
   ·rw [if_neg hh]at hb;exact absurd hb hh
  ·rename_i hb;exact absurd h0 hb
 ·rename_i he;exact absurd h0 he
theorem LInv.fail (h:LInv m l) (h0:(yY l key).2.2=0):LInv (m+1) (yY l key).1:=by
 unfold yY at h0 ⊢
 split at h0
 ·rename_i he;rw [if_pos he];obtain⟨a1,a2,_⟩:=ZB h.f he;exact⟨h.b.up (Nat.le_succ _),a1,fun p hp=>h.ap p (a2 p hp).1,fun p hp=>h.k7 p (a2 p hp).1⟩
 ·rename_i he;exact absurd h0 he
theorem LInv.put (h:LInv m l) (hm:m<=78) (hk:∃j,j<7/\key=keyS j) (hp:chk ps=0) (h0:(YF l key ps).2=0):LInv (m+1) (YF l key ps).1:=by
 unfold YF at h0 ⊢
 split at h0
 ·cases h0
 ·rename_i he;rw [if_neg he];split at h0
  ·rename_i hb;rw [if_pos hb];unfold qx at hb ⊢
   by_cases hh:qL l.st.aE ps=0
   ·rw [if_pos hh];refine⟨h.b.pute hk hp hh (by have:=h.b.ck;omega),h.f,fun p hp x hx=> ?_,h.k7⟩;dsimp only at hx;rw [kD]at hx;rcases Z0 (show x∈x9 l.st.aF _ from hx) with h3 | ⟨h3,_⟩
    ·exact h.ap p hp x h3
    ·rw [h3];intro e;have hn:fnd 0 l.fs key=none:=by
      cases hf:fnd 0 l.fs key with
      | none=>rfl
      | some i=>rw [hf]at he;exact absurd rfl he
     exact(qG _ _ _).1 hn p hp e.symm
   ·rw [if_neg hh]at hb;exact absurd hb hh
  ·rename_i hb;exact absurd h0 hb
end Go.Proofs.YtcjndgldjhmbgaaGreat
