/- Lemmas, as stated. -/
import Derived.Test.YtaboknhfiijipaaGreatQC15
set_option linter.unusedVariables false
set_option linter.unusedSimpArgs false
set_option maxRecDepth 100000
set_option maxHeartbeats 4000000
open Go.Proofs.Tryz
open Go.Proofs.Tryz renaming prog->zZZ
open Go.Value renaming slice->aB,int->aC,string->aE
open Go.IntKind renaming i64->aD
open Option renaming none->aG
namespace Go.Proofs.YtaboknhfiijipaaGreat
open Go.RowKit
theorem z1t (q:Nat) (k:Int) (h:k=0\/k=1\/k=2) (w:World):(Instr.index 271 (.agg #[aC aD 0,aC aD 0,aC aD 0,aC aD q]) (aC aD k)).run zZZ w= .ok (aC aD 0) w:=by
 rcases h with rfl | rfl | rfl<;>kernel_rfl
theorem z56 (q:Nat) (w:World):(Instr.index 271 (.agg #[aC aD 0,aC aD 0,aC aD 0,aC aD q]) (aC aD 3)).run zZZ w= .ok (aC aD q) w:=by kernel_rfl
theorem Qy (A:ak) (c:Nat) (B:ak) (d:Nat) (s:StoP) (key:aj) (ps:List PartP) (PA:ak) (pc q:Nat) (w:World) (hg:GoodS s) (hr:RdSt w A c B d s) (hk:hexC key=0) (hpz:chk ps=0) (hhv:qP s.aJ ps=q) (hq:q≠0) (hP:Sl w 3 PA ps.length pc (pcs ps)) :
  Calls zZZ 169 #[.agg #[aB A s.aJ.length c,aB B s.aK.length d,aC aD s.aM,aC aD s.aL],aE ⟨key.toArray⟩,aB PA ps.length pc] w fun e w'=>e= .returned (.tuple #[.agg #[aB aG 0 0,aB aG 0 0,aC aD 0,aC aD 0],aC aD q])/\Below w.heap.size w w':=by
 have hlb:s.aJ.length<=24:=hg.b.len;have hq0:((q:Int) != 0)=true:=by rw [bne_iff_ne];omega
 have HHX:=sqH hhv;clear hhv hq;obtain⟨w0,hw0,hS,hR,hb0⟩:=q5 w 34 [aB A s.aJ.length c,aB B s.aK.length d,aC aD s.aM,aC aD s.aL] [aB aG 0 0,aB aG 0 0,aC aD 0,aC aD 0];have hr0:=hr.below hb0;have hP0:=hP.below hb0;obtain⟨H,hH⟩:=wY w.heap.size
 have HCK:=sqH (fun W (h:Below w0.heap.size w0 W)=>zB A c B d s W hg (hr0.below h));have hkl:=qy hk;have HKX:=sqH (show ∀W,Below w0.heap.size w0 W->Calls zZZ 89 #[aE ⟨key.toArray⟩] W fun e w'=>e= .returned (aC aD 0)/\Below W.heap.size W w' from fun W _=>by
  have:=kF ⟨key.toArray⟩ W (by show(key.toArray).size<=_;rw [List.size_toArray];omega);rw [show(⟨key.toArray⟩:ByteArray).data.toList=key from rfl,hk]at this;exact this)
 have HPC:=sqH (show ∀W,Below w0.heap.size w0 W->Calls zZZ 101 #[aB PA ps.length pc] W fun e w'=>e= .returned (aC aD 0)/\Below W.heap.size W w' from fun W h=>by
  have:=xn PA ps.length pc ps W rfl hP0.cap (by have:=(zj hpz).1;omega) (ug hpz) (hP0.below h).rd
  rwa [hpz]at this)
 have hpl8:=(zj hpz).1;obtain⟨HHV,HGX,HPL,HQL⟩:=sqJ4 (fun W (h:Below w0.heap.size w0 W)=>Qs A c s.aJ PA pc ps W ww ww (hr0.b.below h) (hP0.below h).rd) hg (show ∀b∈s.aJ,b.data.length<=1000000 from fun b hb=>by have:=(hg.b.one b hb).2.1;omega) (show ∀x∈s.aK,x.aQ.length<=1000000 from fun x hx=>by have:=(zj (hg.e.one x hx).2.1).1;omega);have HSB:=sqH (show ∀W,Below w0.heap.size w0 W->wI W H (aB A s.aJ.length c) (aB B s.aK.length d) (aC aD s.aM) (aC aD s.aL) from fun W h=>by
  rw [hH];exact sqC4 (hS.below h))
 have HKK:=sqH hk;have HPZ:=sqH hpz;rw [<-hH]at hS hR hb0 ⊢
 have hHl:H<w0.heap.size:=hS.lt;have hHr:H+1<w0.heap.size:=hR.lt;obtain⟨sk,hsk⟩:=wY (⟨key.toArray⟩:ByteArray)
 rw [<-hsk]at HKX ⊢
 have HSK:=sqH hsk;clear hg hr hk hP hpz hsk;go_enter func169,ntmps169;go_wp2_with fail;rw [<-hw0,<-hH];have HH:=sqH hH;clear hw0 hH;rw [HHX.o]at HHV;refine wp_region_held_drew (S:=(fun w'=>wI w' H (aB A s.aJ.length c) (aB B s.aK.length d) (aC aD s.aM) (aC aD s.aL))) aa ?_ (fun hHeld=> ?_)
 ·exact HSB.o _ (Below.refl _ w0).drew
 have hB:=(Below.refl w0.heap.size w0).drew;generalize w0.drew=wn0 at *
 refine wQ 0 ?_;refine wQ 2 ?_;refine wQ 4 ?_;refine wQ 6 ?_;refine wQ 7 ?_;refine wQ 8 ?_;refine wQ 11 ?_;refine wU 1 fun K hK=>?_;go_simp;refine(HCK.o wn0 hB).mono ?_;rintro e5 w5 ⟨rfl,hb5⟩;dsimp only;refine wF hK (HSB.o _ (wo hB hb5)) (Below wn0.heap.size wn0) hb5 fun wn1 hHeld hst=> ?_;have hB:=wo hB hst;clear hst;clear hK K
 try simp only [sqP]
 refine wU 3 fun K hK=>?_;go_simp;refine(HKX.o wn1 hB).mono ?_;rintro e5 w5 ⟨rfl,hb5⟩;dsimp only;refine wF hK (HSB.o _ (wo hB hb5)) (Below wn1.heap.size wn1) hb5 fun wn2 hHeld hst=> ?_;have hB:=wo hB hst;clear hst;clear hK K
 try simp only [sqP]
 refine wU 5 fun K hK=>?_;go_simp;refine(HPC.o wn2 hB).mono ?_;rintro e5 w5 ⟨rfl,hb5⟩;dsimp only;refine wF hK (HSB.o _ (wo hB hb5)) (Below wn2.heap.size wn2) hb5 fun wn3 hHeld hst=> ?_;have hB:=wo hB hst;clear hst;clear hK K
 try simp only [sqP]
 refine wU 9 fun K hK=>?_;go_simp;refine(HHV.o wn3 hB).mono ?_;rintro e5 w5 ⟨rfl,hb5⟩;dsimp only;refine wF hK (HSB.o _ (wo hB hb5)) (Below wn3.heap.size wn3) hb5 fun wn4 hHeld hst=> ?_;have hB:=wo hB hst;clear hst;clear hK K
 refine wQ 10 ?_;refine wpAnyH_done aa ?_ _;dsimp only [Exit.then];clear hHeld;generalize wn4=w1 at *
 go_wp2_with fail;go_loopg [25] 4 (fun gn i wr=>∃j:Int,i= aC aD j/\(j=0\/j=1\/j=2\/j=3)/\gn=(4 - j).toNat/\wr=w1)
 case atStart=>exact⟨0,rfl,ww,rfl,rfl⟩
 case round =>
  obtain⟨j,rfl,hj,hgn,hwr⟩:=hrel;subst hwr;have ix0:=z1t q 0 ww wr;have ix1:=z1t q 1 ww wr;have ix2:=z1t q 2 ww wr;have ix3:=z56 q wr;rcases hj with rfl | rfl | rfl | rfl
  ·go_wp2_with fail;go_roundg 3
   case measure=>omega
   case rel=>exact⟨1,rfl,ww,rfl,rfl⟩
  ·go_wp2_with fail;go_roundg 2
   case measure=>omega
   case rel=>exact⟨2,rfl,ww,rfl,rfl⟩
  ·go_wp2_with fail;go_roundg 1
   case measure=>omega
   case rel=>exact⟨3,rfl,ww,rfl,rfl⟩
  ·clear hgn;have hR1:=hR.below hB;have hb:=hb0.trans (hB.mono (Nat.le_of_lt hHl));clear hR;have hR:=hR1;clear hR1;obtain⟨f0,f1,f2,f3⟩:=sqF4 hR;obtain⟨y0,y1,y2,y3⟩:=sqC4 hR;have hfin:=hR.all4 (aB aG 0 0) (aB aG 0 0) (aC aD 0) (aC aD 0);have hbF:=(((hb.setCell (p:=⟨H+1,0,aG⟩) af (aB aG 0 0)).setCell (p:=⟨H+1,1,aG⟩) af (aB aG 0 0)).setCell (p:=⟨H+1,2,aG⟩) af (aC aD 0)).setCell (p:=⟨H+1,3,aG⟩) af (aC aD 0);clear hR hb;go_wp2_with fail;refine bodyPost_ret (zL rfl _ _ (H+1) _ _ _ _ ae hfin underlying34 rfl aa) rfl ?_;exact⟨rfl,hbF⟩
theorem Yd (A:ak) (c:Nat) (B:ak) (d:Nat) (s:StoP) (key:aj) (up:Bool) (w:World) (hg:GoodS s) (hr:RdSt w A c B d s) (hn:∀b∈s.aJ,b.dig≠key) :
  Calls zZZ 148 #[.agg #[aB A s.aJ.length c,aB B s.aK.length d,aC aD s.aM,aC aD s.aL],aE ⟨key.toArray⟩,.bool up] w fun e w'=>e= .returned (.tuple #[.agg #[aB aG 0 0,aB aG 0 0,aC aD 0,aC aD 0],aC aD 5])/\Below w.heap.size w w':=by
 have hlb:s.aJ.length<=24:=hg.b.len;have hle:s.aK.length<=10:=hg.e.len;have HFX:=sqH (show s.aJ.findIdx? (fun x=>x.dig==key)=aG by rw [List.findIdx?_eq_none_iff];intro x hx;simp [hn x hx]);obtain⟨sk,hsk⟩:=wY (⟨key.toArray⟩:ByteArray)
 rw [<-hsk];have HSK:=sqH hsk;clear hn hsk;obtain⟨w0,hw0,hS,hR,hb0⟩:=q5 w 34 [aB A s.aJ.length c,aB B s.aK.length d,aC aD s.aM,aC aD s.aL] [aB aG 0 0,aB aG 0 0,aC aD 0,aC aD 0];have hr0:=hr.below hb0;obtain⟨H,hH⟩:=wY w.heap.size
 have HCK:=sqH (zB A c B d s w0 hg hr0);rw [<-hH]at hS hR hb0 ⊢
 have hHl:H<w0.heap.size:=hS.lt;have hHr:H+1<w0.heap.size:=hR.lt;obtain⟨x0,x1,x2,x3⟩:=sqC4 hS;rw [hw0,hH]at x0 x1 x2 x3;obtain⟨HPL,HQL,HG⟩:=sqJ3 (show ∀b∈s.aJ,b.data.length<=1000000 from fun b hb=>by have:=(hg.b.one b hb).2.1;omega) (show ∀x∈s.aK,x.aQ.length<=1000000 from fun x hx=>by have:=(zj (hg.e.one x hx).2.1).1;omega) hg;clear hg hr;go_enter func148,ntmps148;go_wp2_with fail;rw [<-hw0,<-hH];have HH:=sqH hH;clear hw0 hH x0 x1 x2 x3;refine wZ HCK.o fun w1 hb1=>?_;dsimp only;have hr1:=hr0.below hb1;have hS1:=hS.below hb1;have y0:=hS1.c0;have HFN:=kv A c s.aJ key w1 ww hr1.b;rw [HFX.o,xD,<-HSK.o]at HFN;have HFN:=sqH HFN;clear hr0 hS;go_wp2_with fail;clear y0;refine wZ HFN.o fun w2 hb2=>?_;dsimp only;have hc2:=wo hb1 hb2;have hb:=hb0.trans (hc2.mono (Nat.le_of_lt hHl));have hR2:=hR.below hc2;clear hR;have hR:=hR2;clear hR2 hr1 hS1 hb1 hb2 hc2;obtain⟨f0,f1,f2,f3⟩:=sqF4 hR;obtain⟨y0,y1,y2,y3⟩:=sqC4 hR;have hfin:=hR.all4 (aB aG 0 0) (aB aG 0 0) (aC aD 0) (aC aD 0);have hbF:=(((hb.setCell (p:=⟨H+1,0,aG⟩) af (aB aG 0 0)).setCell (p:=⟨H+1,1,aG⟩) af (aB aG 0 0)).setCell (p:=⟨H+1,2,aG⟩) af (aC aD 0)).setCell (p:=⟨H+1,3,aG⟩) af (aC aD 0);clear hR hb;go_wp2_with fail;refine bodyPost_ret (zL rfl _ _ (H+1) _ _ _ _ ae hfin underlying34 rfl aa) rfl ?_;exact⟨rfl,hbF⟩
theorem Ye (A:ak) (c:Nat) (B:ak) (d:Nat) (s:StoP) (key:aj) (up:Bool) (w:World) (hg:GoodS s) (hr:RdSt w A c B d s) (hn:∀b∈s.aK,b.key≠key) :
  Calls zZZ 118 #[.agg #[aB A s.aJ.length c,aB B s.aK.length d,aC aD s.aM,aC aD s.aL],aE ⟨key.toArray⟩,.bool up] w fun e w'=>e= .returned (.tuple #[.agg #[aB aG 0 0,aB aG 0 0,aC aD 0,aC aD 0],aC aD 5])/\Below w.heap.size w w':=by
 have hlb:s.aJ.length<=24:=hg.b.len;have hle:s.aK.length<=10:=hg.e.len;have HFX:=sqH (show s.aK.findIdx? (fun x=>x.key==key)=aG by rw [List.findIdx?_eq_none_iff];intro x hx;simp [hn x hx]);obtain⟨sk,hsk⟩:=wY (⟨key.toArray⟩:ByteArray)
 rw [<-hsk];have HSK:=sqH hsk;clear hn hsk;obtain⟨w0,hw0,hS,hR,hb0⟩:=q5 w 34 [aB A s.aJ.length c,aB B s.aK.length d,aC aD s.aM,aC aD s.aL] [aB aG 0 0,aB aG 0 0,aC aD 0,aC aD 0];have hr0:=hr.below hb0;obtain⟨H,hH⟩:=wY w.heap.size
 have HCK:=sqH (zB A c B d s w0 hg hr0);rw [<-hH]at hS hR hb0 ⊢
 have hHl:H<w0.heap.size:=hS.lt;have hHr:H+1<w0.heap.size:=hR.lt;obtain⟨x0,x1,x2,x3⟩:=sqC4 hS;rw [hw0,hH]at x0 x1 x2 x3;obtain⟨HPL,HQL,HG⟩:=sqJ3 (show ∀b∈s.aJ,b.data.length<=1000000 from fun b hb=>by have:=(hg.b.one b hb).2.1;omega) (show ∀x∈s.aK,x.aQ.length<=1000000 from fun x hx=>by have:=(zj (hg.e.one x hx).2.1).1;omega) hg;clear hg hr;go_enter func118,ntmps118;go_wp2_with fail;rw [<-hw0,<-hH];have HH:=sqH hH;clear hw0 hH x0 x1 x2 x3;refine wZ HCK.o fun w1 hb1=>?_;dsimp only;have hr1:=hr0.below hb1;have hS1:=hS.below hb1;have y0:=hS1.c1;have HFN:=kL B d s.aK key w1 ww hr1.e;rw [HFX.o,xD,<-HSK.o]at HFN;have HFN:=sqH HFN;clear hr0 hS;go_wp2_with fail;clear y0;refine wZ HFN.o fun w2 hb2=>?_;dsimp only;have hc2:=wo hb1 hb2;have hb:=hb0.trans (hc2.mono (Nat.le_of_lt hHl));have hR2:=hR.below hc2;clear hR;have hR:=hR2;clear hR2 hr1 hS1 hb1 hb2 hc2;obtain⟨f0,f1,f2,f3⟩:=sqF4 hR;obtain⟨y0,y1,y2,y3⟩:=sqC4 hR;have hfin:=hR.all4 (aB aG 0 0) (aB aG 0 0) (aC aD 0) (aC aD 0);have hbF:=(((hb.setCell (p:=⟨H+1,0,aG⟩) af (aB aG 0 0)).setCell (p:=⟨H+1,1,aG⟩) af (aB aG 0 0)).setCell (p:=⟨H+1,2,aG⟩) af (aC aD 0)).setCell (p:=⟨H+1,3,aG⟩) af (aC aD 0);clear hR hb;go_wp2_with fail;refine bodyPost_ret (zL rfl _ _ (H+1) _ _ _ _ ae hfin underlying34 rfl aa) rfl ?_;exact⟨rfl,hbF⟩
theorem Ze {P:Program} {fn:Func} {p u z:Tmp} {ty:TypeId} (h:fn.results=#[.cell p ty,.tmp u,.tmp z]) (tmps:Array Value) (w:World) (g:Nat) (t:TypeId) (cs:Array Value) (fr:Nat×Nat) (d:TypeDesc)
  (hp:tmps.getD p undef= .pointer (some ⟨g,0,aG⟩)) (hg:w.heap[g]?=some (.cells cs t fr))
  (hu:P.underlying ty=some d) (hd:(match d with | .struct _ | .array _ _=>true | _=>false)=true) (hi:(P.info? ty).map (·.size)=some cs.size) :
  (results fn tmps).run P w= .ok (.tuple #[.agg cs,tmps.getD u undef,tmps.getD z undef]) w:=zo h tmps w g t cs fr d hp hg hu hd hi
theorem Xa (A:ak) (c:Nat) (B:ak) (d:Nat) (s:StoP) (key:aj) (w:World) (hg:GoodS s) (hr:RdSt w A c B d s) (hn:∀b∈s.aK,b.key≠key) :
  Calls zZZ 117 #[.agg #[aB A s.aJ.length c,aB B s.aK.length d,aC aD s.aM,aC aD s.aL],aE ⟨key.toArray⟩] w fun e w'=>e= .returned (.tuple #[.agg #[aB aG 0 0,aB aG 0 0,aC aD 0,aC aD 0],aB aG 0 0,aC aD 5])/\Below w.heap.size w w':=by
 have hlb:s.aJ.length<=24:=hg.b.len;have hle:s.aK.length<=10:=hg.e.len;have HFX:=sqH (show s.aK.findIdx? (fun x=>x.key==key)=aG by rw [List.findIdx?_eq_none_iff];intro x hx;simp [hn x hx]);obtain⟨sk,hsk⟩:=wY (⟨key.toArray⟩:ByteArray)
 rw [<-hsk];have HSK:=sqH hsk;clear hn hsk;obtain⟨w0,hw0,hS,hR,hb0⟩:=q5 w 34 [aB A s.aJ.length c,aB B s.aK.length d,aC aD s.aM,aC aD s.aL] [aB aG 0 0,aB aG 0 0,aC aD 0,aC aD 0];have hr0:=hr.below hb0;obtain⟨H,hH⟩:=wY w.heap.size
 have HCK:=sqH (zB A c B d s w0 hg hr0);rw [<-hH]at hS hR hb0 ⊢
 have hHl:H<w0.heap.size:=hS.lt;have hHr:H+1<w0.heap.size:=hR.lt;obtain⟨x0,x1,x2,x3⟩:=sqC4 hS;rw [hw0,hH]at x0 x1 x2 x3;obtain⟨HPL,HQL,HG⟩:=sqJ3 (show ∀b∈s.aJ,b.data.length<=1000000 from fun b hb=>by have:=(hg.b.one b hb).2.1;omega) (show ∀x∈s.aK,x.aQ.length<=1000000 from fun x hx=>by have:=(zj (hg.e.one x hx).2.1).1;omega) hg;clear hg hr;go_enter func117,ntmps117;go_wp2_with fail;rw [<-hw0,<-hH];have HH:=sqH hH;clear hw0 hH x0 x1 x2 x3;refine wZ HCK.o fun w1 hb1=>?_;dsimp only;have hr1:=hr0.below hb1;have hS1:=hS.below hb1;have y0:=hS1.c1;have HFN:=kL B d s.aK key w1 ww hr1.e;rw [HFX.o,xD,<-HSK.o]at HFN;have HFN:=sqH HFN;clear hr0 hS;go_wp2_with fail;clear y0;refine wZ HFN.o fun w2 hb2=>?_;dsimp only;have hc2:=wo hb1 hb2;have hb:=hb0.trans (hc2.mono (Nat.le_of_lt hHl));have hR2:=hR.below hc2;clear hR;have hR:=hR2;clear hR2 hr1 hS1 hb1 hb2 hc2;obtain⟨f0,f1,f2,f3⟩:=sqF4 hR;obtain⟨y0,y1,y2,y3⟩:=sqC4 hR;have hfin:=hR.all4 (aB aG 0 0) (aB aG 0 0) (aC aD 0) (aC aD 0);have hbF:=(((hb.setCell (p:=⟨H+1,0,aG⟩) af (aB aG 0 0)).setCell (p:=⟨H+1,1,aG⟩) af (aB aG 0 0)).setCell (p:=⟨H+1,2,aG⟩) af (aC aD 0)).setCell (p:=⟨H+1,3,aG⟩) af (aC aD 0);clear hR hb;go_wp2_with fail;refine bodyPost_ret (Ze rfl _ _ (H+1) _ _ _ _ ae hfin underlying34 rfl aa) rfl ?_;exact⟨rfl,hbF⟩
theorem z0q (n:Nat) (up:Bool) (w:World) (h:if up then n=5 else n=0):Calls zZZ 152 #[aC aD n,.bool up] w fun e w'=>e= .returned (.tuple #[aC aD 0,aC aD (if up then 7 else 11)])/\w'=w:=by
 cases up with
 | true =>
  have h':n=5:=h;subst h';have HC2:=sqH (xo 5 ww ww w);rw [show((5:Nat):Int)=5 from rfl];clear h;go_enter func152,ntmps152;go_wp2_with fail;refine HC2.o.mono ?_;rintro e_ _ ⟨rfl,rfl⟩;dsimp only;go_wp2_with fail;go_ret2;exact⟨rfl,rfl⟩
 | false =>
  have h':n=0:=h;subst h';have HC2:=sqH (xo 0 ww ww w);rw [show((0:Nat):Int)=0 from rfl];clear h;go_enter func152,ntmps152;go_wp2_with fail;refine HC2.o.mono ?_;rintro e_ _ ⟨rfl,rfl⟩;dsimp only;go_wp2_with fail;go_ret2;exact⟨rfl,rfl⟩
def noE (up:Bool):Nat:=if up then 7 else 11
theorem Vh (up:Bool):((noE up:Int) != 0)=true:=by cases up<;>rfl
theorem K8 (n:Nat) (up:Bool) (w:World) (h:if up then n=5 else n=0):Calls zZZ 152 #[aC aD n,.bool up] w fun e w'=>e= .returned (.tuple #[aC aD 0,aC aD (noE up:Int)])/\w'=w :=
 (z0q n up w h).mono fun e w' ⟨h1,h2⟩=>⟨by rw [h1];cases up<;>rfl,h2⟩
theorem Uo (A:ak) (c:Nat) (B:ak) (d:Nat) (s:StoP) (key:aj) (up:Bool) (i:Nat) (w:World) (hg:GoodS s) (hr:RdSt w A c B d s) (hi:i<s.aJ.length) (hk:s.aJ[i].dig=key) (hmv:if up then s.aJ[i].aR=5 else s.aJ[i].aR=0) :
  Calls zZZ 148 #[.agg #[aB A s.aJ.length c,aB B s.aK.length d,aC aD s.aM,aC aD s.aL],aE ⟨key.toArray⟩,.bool up] w fun e w'=>e= .returned (.tuple #[.agg #[aB aG 0 0,aB aG 0 0,aC aD 0,aC aD 0],aC aD (noE up:Int)])/\Below w.heap.size w w':=by
 have hlb:s.aJ.length<=24:=hg.b.len;have hle:s.aK.length<=10:=hg.e.len;have HFX:=sqH (z3o hg.b.ris hi hk);obtain⟨p,hp⟩:=wY (s.aJ[i].aR)
 rw [<-hp]at hmv;have HPI:=sqH hp.symm;have HMV:=sqH (fun W=>K8 p up W hmv);have hne:=Vh up;generalize noE up=q at *
 obtain⟨sk,hsk⟩:=wY (⟨key.toArray⟩:ByteArray)
 rw [<-hsk];have HSK:=sqH hsk;clear hk hsk hp hmv;obtain⟨w0,hw0,hS,hR,hb0⟩:=q5 w 34 [aB A s.aJ.length c,aB B s.aK.length d,aC aD s.aM,aC aD s.aL] [aB aG 0 0,aB aG 0 0,aC aD 0,aC aD 0];have hr0:=hr.below hb0;obtain⟨H,hH⟩:=wY w.heap.size
 have HCK:=sqH (zB A c B d s w0 hg hr0);rw [<-hH]at hS hR hb0 ⊢
 have hHl:H<w0.heap.size:=hS.lt;have hHr:H+1<w0.heap.size:=hR.lt;obtain⟨x0,x1,x2,x3⟩:=sqC4 hS;rw [hw0,hH]at x0 x1 x2 x3;obtain⟨HPL,HQL,HG⟩:=sqJ3 (show ∀b∈s.aJ,b.data.length<=1000000 from fun b hb=>by have:=(hg.b.one b hb).2.1;omega) (show ∀x∈s.aK,x.aQ.length<=1000000 from fun x hx=>by have:=(zj (hg.e.one x hx).2.1).1;omega) hg;clear hg hr;go_enter func148,ntmps148;go_wp2_with fail;rw [<-hw0,<-hH];have HH:=sqH hH;clear hw0 hH x0 x1 x2 x3;refine wZ HCK.o fun w1 hb1=>?_;dsimp only;have hr1:=hr0.below hb1;have hS1:=hS.below hb1;have y0:=hS1.c0;have HFN:=kv A c s.aJ key w1 ww hr1.b;rw [HFX.o,xD,<-HSK.o]at HFN;have HFN:=sqH HFN;clear hr0 hS;go_wp2_with fail;clear y0;refine wZ HFN.o fun w2 hb2=>?_;dsimp only;have hc2:=wo hb1 hb2;have hr2:=hr1.below hb2;have hS2:=hS1.below hb2;obtain⟨b,off,XB,xc,e1,hbb,d0,d1,d2,d3,_⟩:=hr2.b.blob_at i hi;have hi0:=wg i
 have hi1:(i:Int)<(s.aJ.length:Int):=ww;have y0:=hS2.c0;rw [HPI.o]at d2;rw [e1]at y0;clear hr1 hS1 hb1 hb2 d0 d1 d3;go_wp2_with fail;clear y0 d2;refine wZ (HMV.o w2) fun wq hwq=>?_;dsimp only;replace hwq:=hwq.symm;subst hwq;have hb:=hb0.trans (hc2.mono (Nat.le_of_lt hHl));have hR2:=hR.below hc2;clear hR;have hR:=hR2;clear hR2 hr2 hS2 hc2 e1;obtain⟨f0,f1,f2,f3⟩:=sqF4 hR;obtain⟨y0,y1,y2,y3⟩:=sqC4 hR;have hfin:=hR.all4 (aB aG 0 0) (aB aG 0 0) (aC aD 0) (aC aD 0);have hbF:=(((hb.setCell (p:=⟨H+1,0,aG⟩) af (aB aG 0 0)).setCell (p:=⟨H+1,1,aG⟩) af (aB aG 0 0)).setCell (p:=⟨H+1,2,aG⟩) af (aC aD 0)).setCell (p:=⟨H+1,3,aG⟩) af (aC aD 0);clear hR hb;go_wp2_with fail;refine bodyPost_ret (zL rfl _ _ (H+1) _ _ _ _ ae hfin underlying34 rfl aa) rfl ?_;exact⟨rfl,hbF⟩
theorem Uq (A:ak) (c:Nat) (B:ak) (d:Nat) (s:StoP) (key:aj) (up:Bool) (i:Nat) (w:World) (hg:GoodS s) (hr:RdSt w A c B d s) (hi:i<s.aK.length) (hk:s.aK[i].key=key) (hmv:if up then s.aK[i].aR=5 else s.aK[i].aR=0) :
  Calls zZZ 118 #[.agg #[aB A s.aJ.length c,aB B s.aK.length d,aC aD s.aM,aC aD s.aL],aE ⟨key.toArray⟩,.bool up] w fun e w'=>e= .returned (.tuple #[.agg #[aB aG 0 0,aB aG 0 0,aC aD 0,aC aD 0],aC aD (noE up:Int)])/\Below w.heap.size w w':=by
 have hlb:s.aJ.length<=24:=hg.b.len;have hle:s.aK.length<=10:=hg.e.len;have HFX:=sqH (z1n hg.e.ris hi hk);obtain⟨p,hp⟩:=wY (s.aK[i].aR)
 rw [<-hp]at hmv;have HPI:=sqH hp.symm;have HMV:=sqH (fun W=>K8 p up W hmv);have hne:=Vh up;generalize noE up=q at *
 obtain⟨sk,hsk⟩:=wY (⟨key.toArray⟩:ByteArray)
 rw [<-hsk];have HSK:=sqH hsk;clear hk hsk hp hmv;obtain⟨w0,hw0,hS,hR,hb0⟩:=q5 w 34 [aB A s.aJ.length c,aB B s.aK.length d,aC aD s.aM,aC aD s.aL] [aB aG 0 0,aB aG 0 0,aC aD 0,aC aD 0];have hr0:=hr.below hb0;obtain⟨H,hH⟩:=wY w.heap.size
 have HCK:=sqH (zB A c B d s w0 hg hr0);rw [<-hH]at hS hR hb0 ⊢
 have hHl:H<w0.heap.size:=hS.lt;have hHr:H+1<w0.heap.size:=hR.lt;obtain⟨x0,x1,x2,x3⟩:=sqC4 hS;rw [hw0,hH]at x0 x1 x2 x3;obtain⟨HPL,HQL,HG⟩:=sqJ3 (show ∀b∈s.aJ,b.data.length<=1000000 from fun b hb=>by have:=(hg.b.one b hb).2.1;omega) (show ∀x∈s.aK,x.aQ.length<=1000000 from fun x hx=>by have:=(zj (hg.e.one x hx).2.1).1;omega) hg;clear hg hr;go_enter func118,ntmps118;go_wp2_with fail;rw [<-hw0,<-hH];have HH:=sqH hH;clear hw0 hH x0 x1 x2 x3;refine wZ HCK.o fun w1 hb1=>?_;dsimp only;have hr1:=hr0.below hb1;have hS1:=hS.below hb1;have y0:=hS1.c1;have HFN:=kL B d s.aK key w1 ww hr1.e;rw [HFX.o,xD,<-HSK.o]at HFN;have HFN:=sqH HFN;clear hr0 hS;go_wp2_with fail;clear y0;refine wZ HFN.o fun w2 hb2=>?_;dsimp only;have hc2:=wo hb1 hb2;have hr2:=hr1.below hb2;have hS2:=hS1.below hb2;obtain⟨b,off,XB,xc,e1,hbb,d0,d1,d2,d3,_⟩:=hr2.e.ent_at i hi;have hi0:=wg i
 have hi1:(i:Int)<(s.aK.length:Int):=ww;have y0:=hS2.c1;rw [HPI.o]at d2;rw [e1]at y0;clear hr1 hS1 hb1 hb2 d0 d1 d3;go_wp2_with fail;clear y0 d2;refine wZ (HMV.o w2) fun wq hwq=>?_;dsimp only;replace hwq:=hwq.symm;subst hwq;have hb:=hb0.trans (hc2.mono (Nat.le_of_lt hHl));have hR2:=hR.below hc2;clear hR;have hR:=hR2;clear hR2 hr2 hS2 hc2 e1;obtain⟨f0,f1,f2,f3⟩:=sqF4 hR;obtain⟨y0,y1,y2,y3⟩:=sqC4 hR;have hfin:=hR.all4 (aB aG 0 0) (aB aG 0 0) (aC aD 0) (aC aD 0);have hbF:=(((hb.setCell (p:=⟨H+1,0,aG⟩) af (aB aG 0 0)).setCell (p:=⟨H+1,1,aG⟩) af (aB aG 0 0)).setCell (p:=⟨H+1,2,aG⟩) af (aC aD 0)).setCell (p:=⟨H+1,3,aG⟩) af (aC aD 0);clear hR hb;go_wp2_with fail;refine bodyPost_ret (zL rfl _ _ (H+1) _ _ _ _ ae hfin underlying34 rfl aa) rfl ?_;exact⟨rfl,hbF⟩
structure Fits (s:StoP) (D:aj):Prop where
 g:GoodS s
 d:D.length<=300
 l:s.aJ.length<24\/(s.aJ.findIdx? (fun b=>b.dig==shaS D)).isSome=true
 u:usd (putB s.aJ D)<=s.aM
theorem Fits.good {s:StoP} {D:aj} (h:Fits s D):GoodS (zK s D):=by
 rcases h.l with h1 | h1
 ·exact YD h.g h.d h1 h.u
 ·obtain⟨i,hi⟩:=Option.isSome_iff_exists.1 h1;have:zK s D=s:=by unfold zK putB;rw [hi]
  rw [this];exact h.g
theorem Qx (A:ak) (c:Nat) (B:ak) (d:Nat) (s:StoP) (D:aj) (DA:ak) (dc:Nat) (w:World) (hf:Fits s D) (hr:RdSt w A c B d s) (hD:Sl w 1 DA D.length dc (bys D)) :
  Calls zZZ 146 #[.agg #[aB A s.aJ.length c,aB B s.aK.length d,aC aD s.aM,aC aD s.aL],aB DA D.length dc] w fun e w' =>
   ∃A' c' B' d',e= .returned (.tuple #[.agg #[aB A' (zK s D).aJ.length c',aB B' (zK s D).aK.length d',aC aD s.aM,aC aD s.aL],aE ⟨(shaS D).toArray⟩,aC aD 0])/\OwSt w' w.heap.size (aB A' (zK s D).aJ.length c') (aB B' (zK s D).aK.length d') (zK s D) (fun b=>b<w.heap.size)/\Below w.heap.size w w' :=
 (Yk A c B d s D DA dc w hf.g hr hf.d hf.l hf.u hD).mono fun e w' ⟨v1,v2,h1,h2,h3⟩=>by
  obtain⟨A',c',B',d',e1,e2,_⟩:=h2.rows
  subst e1 e2
  exact⟨A',c',B',d',h1,h2,h3⟩
theorem Uy (A:ak) (c:Nat) (B:ak) (d:Nat) (s x:StoP) (key:aj) (ps:List PartP) (PA:ak) (pc:Nat) (w:World) (hg:GoodS s) (hr:RdSt w A c B d s) (hk:hexC key=0) (hpz:chk ps=0) (hhv:qP s.aJ ps=0) (hclk:s.aL<1099511627776) (hlen:s.aK.length<10) (hP:Sl w 3 PA ps.length pc (pcs ps)) (hx:x=xL s key ps) :
  Calls zZZ 169 #[.agg #[aB A s.aJ.length c,aB B s.aK.length d,aC aD s.aM,aC aD s.aL],aE ⟨key.toArray⟩,aB PA ps.length pc] w fun e w' =>
   ∃A' c' B' d',e= .returned (.tuple #[.agg #[aB A' x.aJ.length c',aB B' x.aK.length d',aC aD x.aM,aC aD x.aL],aC aD 0])/\OwSt w' w.heap.size (aB A' x.aJ.length c') (aB B' x.aK.length d') x (fun b=>b<w.heap.size)/\Below w.heap.size w w':=by
 subst hx;refine(z0v A c B d s key ps PA pc w hg hr hk hpz hhv hclk hlen hP).mono fun e w' ⟨v1,v2,h1,h2,h3⟩=> ?_;obtain⟨A',c',B',d',e1,e2,_⟩:=h2.rows;subst e1 e2;exact⟨A',c',B',d',h1,h2,h3⟩
theorem Um (A:ak) (c:Nat) (B:ak) (d:Nat) (s y:StoP) (key:aj) (ps:List PartP) (i:Nat) (w:World) (hg:GoodS s) (hr:RdSt w A c B d s) (hi:i<s.aK.length) (hk:s.aK[i].key=key) (hps:s.aK[i].aQ=ps) (hclk:s.aL<1099511627776) (hy:y=kB s i s.aK[i]) :
  Calls zZZ 117 #[.agg #[aB A s.aJ.length c,aB B s.aK.length d,aC aD s.aM,aC aD s.aL],aE ⟨key.toArray⟩] w fun e w' =>
   ∃A' c' B' d' A5 c5,e= .returned (.tuple #[.agg #[aB A' y.aJ.length c',aB B' y.aK.length d',aC aD y.aM,aC aD y.aL],aB A5 ps.length c5,aC aD 0])/\OwSt w' w.heap.size (aB A' y.aJ.length c') (aB B' y.aK.length d') y (fun b=>b<w.heap.size)/\w'.ownsRow w.heap.size 85 3 (aB A5 ps.length c5) ps.length (pcs ps)/\Below w.heap.size w w':=by
 subst hy;subst hps;refine(Xb A c B d s key i w hg hr hi hk hclk).mono fun e w' ⟨v1,v2,v3,h1,h2,h4,h3⟩=> ?_;obtain⟨A',c',B',d',e1,e2,_⟩:=h2.rows;obtain⟨A5,c5,e5,_,_⟩:=un h4;subst e1 e2 e5;exact⟨A',c',B',d',A5,c5,h1,h2,h4,h3⟩
end Go.Proofs.YtaboknhfiijipaaGreat
