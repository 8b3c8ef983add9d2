/- Lemmas, as stated. -/
import Derived.Test.YtcjmjaefcjcomaaGreatQB13
set_option linter.unusedVariables false
set_option linter.unusedSimpArgs false
set_option maxRecDepth 100000
set_option maxHeartbeats 16000000
open Go.Proofs.Tryz
open Go.Value renaming slice->aA,int->aB,string->aD
open Go.IntKind renaming i64->aC
open Option renaming none->aF,some->aG
open And renaming intro->aH
namespace Go.Proofs.YtcjmjaefcjcomaaGreat
open Go.RowKit Go.Maps
variable {c:ColP} {fn:Func} {base n size:Nat} {P:Program} {s:StoP} {p q u:Tmp} {t ty ty2:TypeId} {v v1 v2:Value} {w w0:World} {ys:ak} {N:am}
theorem ql (w:World) (e1 e2:TypeId) (c1 c2 c3 c4:ak):∃W,W=(((w.alloc (.cells c1.toArray e1)).alloc (.cells c2.toArray e2)).alloc (.cells c3.toArray e1)).alloc (.cells c4.toArray e2)/\Arr W w.heap.size e1 c1/\Arr W (w.heap.size+1) e2 c2/\Arr W (w.heap.size+1+1) e1 c3/\Arr W (w.heap.size+1+1+1) e2 c4/\Below w.heap.size w W:=by
 have b1:=ws w (.cells c1.toArray e1);have b2:=b1.alloc b1.size (.cells c2.toArray e2);have b3:=b2.alloc b2.size (.cells c3.toArray e1);have b4:=b3.alloc b3.size (.cells c4.toArray e2);have a1:=((((Arr.new w e1 c1)).alloc (.cells c2.toArray e2)).alloc (.cells c3.toArray e1)).alloc (.cells c4.toArray e2);have a2:=((Arr.new (w.alloc (.cells c1.toArray e1)) e2 c2).alloc (.cells c3.toArray e1)).alloc (.cells c4.toArray e2);have a3:=(Arr.new ((w.alloc (.cells c1.toArray e1)).alloc (.cells c2.toArray e2)) e1 c3).alloc (.cells c4.toArray e2);have a4:=Arr.new (((w.alloc (.cells c1.toArray e1)).alloc (.cells c2.toArray e2)).alloc (.cells c3.toArray e1)) e2 c4;simp only [World.size_alloc]at a2 a3 a4;exact⟨_,rfl,a1,a2,a3,a4,b4⟩
theorem VI (w:World) (e1 e2:TypeId) (c1 c3 c4:ak):∃W,W=((w.alloc (.cells c1.toArray e1)).alloc (.cells c3.toArray e1)).alloc (.cells c4.toArray e2)/\Arr W w.heap.size e1 c1/\Arr W (w.heap.size+1) e1 c3/\Arr W (w.heap.size+1+1) e2 c4/\Below w.heap.size w W:=by
 have b1:=ws w (.cells c1.toArray e1);have b3:=b1.alloc b1.size (.cells c3.toArray e1);have b4:=b3.alloc b3.size (.cells c4.toArray e2);have a1:=(((Arr.new w e1 c1)).alloc (.cells c3.toArray e1)).alloc (.cells c4.toArray e2);have a3:=(Arr.new (w.alloc (.cells c1.toArray e1)) e1 c3).alloc (.cells c4.toArray e2);have a4:=Arr.new ((w.alloc (.cells c1.toArray e1)).alloc (.cells c3.toArray e1)) e2 c4;simp only [World.size_alloc]at a3 a4;exact⟨_,rfl,a1,a3,a4,b4⟩
theorem kJ (h:fn.results=#[.cell p ty,.cell q ty2]) (tmps:Array Value) (w:World) (g g2:Nat) (t t2:TypeId) (cs cs2:Array Value) (fr fr2:Nat×Nat) (d d2:TypeDesc)
  (hp:tmps.getD p undef= .pointer (aG ⟨g,0,aF⟩)) (hg:w.heap[g]?=aG (.cells cs t fr))
  (hu:P.underlying ty=aG d) (hd:(match d with | .struct _ | .array _ _=>true | _=>false)=true) (hi:(P.info? ty).map (·.size)=aG cs.size)
  (hp2:tmps.getD q undef= .pointer (aG ⟨g2,0,aF⟩)) (hg2:w.heap[g2]?=aG (.cells cs2 t2 fr2))
  (hu2:P.underlying ty2=aG d2) (hd2:(match d2 with | .struct _ | .array _ _=>true | _=>false)=true) (hi2:(P.info? ty2).map (·.size)=aG cs2.size) :
  (results fn tmps).run P w= .ok (.tuple #[.agg cs,.agg cs2]) w:=by
 have hp':tmps[p]?.getD undef= .pointer (aG ⟨g,0,aF⟩):=by simpa using hp
 have hp2':tmps[q]?.getD undef= .pointer (aG ⟨g2,0,aF⟩):=by simpa using hp2
 simp [results,h,hp',hp2',asAddr,run_loadVar_row w g t ty cs fr d hg hu hd hi,run_loadVar_row w g2 t2 ty2 cs2 fr2 d2 hg2 hu2 hd2 hi2]
theorem qc (h:fn.results=#[.cell p ty,.cell q ty2,.tmp u]) (tmps:Array Value) (w:World) (g g2:Nat) (t t2:TypeId) (cs cs2:Array Value) (fr fr2:Nat×Nat) (d d2:TypeDesc)
  (hp:tmps.getD p undef= .pointer (aG ⟨g,0,aF⟩)) (hg:w.heap[g]?=aG (.cells cs t fr))
  (hu:P.underlying ty=aG d) (hd:(match d with | .struct _ | .array _ _=>true | _=>false)=true) (hi:(P.info? ty).map (·.size)=aG cs.size)
  (hp2:tmps.getD q undef= .pointer (aG ⟨g2,0,aF⟩)) (hg2:w.heap[g2]?=aG (.cells cs2 t2 fr2))
  (hu2:P.underlying ty2=aG d2) (hd2:(match d2 with | .struct _ | .array _ _=>true | _=>false)=true) (hi2:(P.info? ty2).map (·.size)=aG cs2.size) :
  (results fn tmps).run P w= .ok (.tuple #[.agg cs,.agg cs2,tmps.getD u undef]) w:=by
 have hp':tmps[p]?.getD undef= .pointer (aG ⟨g,0,aF⟩):=by simpa using hp
 have hp2':tmps[q]?.getD undef= .pointer (aG ⟨g2,0,aF⟩):=by simpa using hp2
 simp [results,h,hp',hp2',asAddr,run_loadVar_row w g t ty cs fr d hg hu hd hi,run_loadVar_row w g2 t2 ty2 cs2 fr2 d2 hg2 hu2 hd2 hi2]
theorem zY {z:Tmp} (h:fn.results=#[.cell p ty,.cell q ty2,.tmp u,.tmp z]) (tmps:Array Value) (w:World) (g g2:Nat) (t t2:TypeId) (cs cs2:Array Value) (fr fr2:Nat×Nat) (d d2:TypeDesc)
  (hp:tmps.getD p undef= .pointer (aG ⟨g,0,aF⟩)) (hg:w.heap[g]?=aG (.cells cs t fr))
  (hu:P.underlying ty=aG d) (hd:(match d with | .struct _ | .array _ _=>true | _=>false)=true) (hi:(P.info? ty).map (·.size)=aG cs.size)
  (hp2:tmps.getD q undef= .pointer (aG ⟨g2,0,aF⟩)) (hg2:w.heap[g2]?=aG (.cells cs2 t2 fr2))
  (hu2:P.underlying ty2=aG d2) (hd2:(match d2 with | .struct _ | .array _ _=>true | _=>false)=true) (hi2:(P.info? ty2).map (·.size)=aG cs2.size) :
  (results fn tmps).run P w= .ok (.tuple #[.agg cs,.agg cs2,tmps.getD u undef,tmps.getD z undef]) w:=by
 have hp':tmps[p]?.getD undef= .pointer (aG ⟨g,0,aF⟩):=by simpa using hp
 have hp2':tmps[q]?.getD undef= .pointer (aG ⟨g2,0,aF⟩):=by simpa using hp2
 simp [results,h,hp',hp2',asAddr,run_loadVar_row w g t ty cs fr d hg hu hd hi,run_loadVar_row w g2 t2 ty2 cs2 fr2 d2 hg2 hu2 hd2 hi2]
abbrev z2p (w:World) (g h:Nat) (u0 u1 u2 u3 x0 x1 x2:Value):World :=
 ((((((w.setCell ⟨g,0,aF⟩ u0).setCell ⟨g,1,aF⟩ u1).setCell ⟨g,2,aF⟩ u2).setCell ⟨g,3,aF⟩ u3).setCell ⟨h,0,aF⟩ x0).setCell ⟨h,1,aF⟩ x1).setCell ⟨h,2,aF⟩ x2
section
variable {w w':World} {g h B:Nat} {e e':TypeId} {u0 u1 u2 u3 x0 x1 x2 a0 a1 a2 a3 b0 b1 b2:Value}
theorem Arr.all3 (hA:Arr w h e' [b0,b1,b2]) (x0 x1 x2:Value):Arr (((w.setCell ⟨h,0,aF⟩ x0).setCell ⟨h,1,aF⟩ x1).setCell ⟨h,2,aF⟩ x2) h e' [x0,x1,x2] :=
 ((hA.set (k:=0) ab x0).set (k:=1) ab x1).set (k:=2) ab x2
theorem qV (hA:Arr w g e [a0,a1,a2,a3]) (hne:g≠h):Arr (z2p w g h u0 u1 u2 u3 x0 x1 x2) g e [u0,u1,u2,u3] :=
 (((hA.all4 u0 u1 u2 u3).other hne x0).other hne x1).other hne x2
theorem qW (hA:Arr w h e' [b0,b1,b2]) (hne:g≠h):Arr (z2p w g h u0 u1 u2 u3 x0 x1 x2) h e' [x0,x1,x2] :=
 ((((hA.other hne.symm u0).other hne.symm u1).other hne.symm u2).other hne.symm u3).all3 x0 x1 x2
theorem qE (ho:OwSt w base v1 v2 s N) (hg:N g) (hh:N h) (h1:v1.ownBlock≠aG g) (h2:v2.ownBlock≠aG g) (h3:v1.ownBlock≠aG h) (h4:v2.ownBlock≠aG h):OwSt (z2p w g h u0 u1 u2 u3 x0 x1 x2) base v1 v2 s N :=
 ((((((ho.setX hg h1 h2 u0).setX hg h1 h2 u1).setX hg h1 h2 u2).setX hg h1 h2 u3).setX hh h3 h4 x0).setX hh h3 h4 x1).setX hh h3 h4 x2
theorem qS {xs:ak} (ho:w.ownsRow base t size v n xs) (h1:v.ownBlock≠aG g) (h2:v.ownBlock≠aG h):(z2p w g h u0 u1 u2 u3 x0 x1 x2).ownsRow base t size v n xs :=
 zd (zd (zd (zd (zd (zd (zd ho h1) h1) h1) h1) h2) h2) h2
theorem zL (hb:Below B w0 w) (hg:B<=g) (hh:B<=h):Below B w0 (z2p w g h u0 u1 u2 u3 x0 x1 x2) :=
 Below.setCell (Below.setCell (Below.setCell (Below.setCell (Below.setCell (Below.setCell (Below.setCell hb hg u0) hg u1) hg u2) hg u3) hh x0) hh x1) hh x2
theorem vd {r:Option Nat} (hb:w0.grownBy w r) (hg:w0.heap.size<=g) (hh:w0.heap.size<=h):w0.grownBy (z2p w g h u0 u1 u2 u3 x0 x1 x2) r :=
 zr (zr (zr (zr (zr (zr (zr hb hg) hg) hg) hg) hh) hh) hh
end
abbrev Z3 (w:World) (g:Nat) (u0 u1 u2 u3:Value):World:=(((w.setCell ⟨g,0,aF⟩ u0).setCell ⟨g,1,aF⟩ u1).setCell ⟨g,2,aF⟩ u2).setCell ⟨g,3,aF⟩ u3
abbrev z4k (w:World) (g:Nat) (u0 u1 u2:Value):World:=((w.setCell ⟨g,0,aF⟩ u0).setCell ⟨g,1,aF⟩ u1).setCell ⟨g,2,aF⟩ u2
section
variable {w w':World} {g h B:Nat} {e:TypeId} {xs:ak}
theorem Arr.other4 (hA:Arr w h e xs) (hne:h≠g) (u0 u1 u2 u3:Value):Arr (Z3 w g u0 u1 u2 u3) h e xs:=(((hA.other hne u0).other hne u1).other hne u2).other hne u3
theorem Arr.other3 (hA:Arr w h e xs) (hne:h≠g) (u0 u1 u2:Value):Arr (z4k w g u0 u1 u2) h e xs:=((hA.other hne u0).other hne u1).other hne u2
theorem OwSt.set4N (ho:OwSt w base v1 v2 s N) (hg:N g) (h1:v1.ownBlock≠aG g) (h2:v2.ownBlock≠aG g) (u0 u1 u2 u3:Value):OwSt (Z3 w g u0 u1 u2 u3) base v1 v2 s N :=
 (((ho.setX hg h1 h2 u0).setX hg h1 h2 u1).setX hg h1 h2 u2).setX hg h1 h2 u3
theorem OwSt.set3N (ho:OwSt w base v1 v2 s N) (hg:N g) (h1:v1.ownBlock≠aG g) (h2:v2.ownBlock≠aG g) (u0 u1 u2:Value):OwSt (z4k w g u0 u1 u2) base v1 v2 s N :=
 ((ho.setX hg h1 h2 u0).setX hg h1 h2 u1).setX hg h1 h2 u2
theorem qA (ho:w.ownsRow base t size v n ys) (h1:v.ownBlock≠aG g) (u0 u1 u2 u3:Value):(Z3 w g u0 u1 u2 u3).ownsRow base t size v n ys:=zd (zd (zd (zd ho h1) h1) h1) h1
theorem kz (ho:w.ownsRow base t size v n ys) (h1:v.ownBlock≠aG g) (u0 u1 u2:Value):(z4k w g u0 u1 u2).ownsRow base t size v n ys:=zd (zd (zd ho h1) h1) h1
theorem yL (hb:Below B w0 w) (hg:B<=g) (u0 u1 u2 u3:Value):Below B w0 (Z3 w g u0 u1 u2 u3):=Below.setCell (Below.setCell (Below.setCell (Below.setCell hb hg u0) hg u1) hg u2) hg u3
theorem Yb (hb:Below B w0 w) (hg:B<=g) (u0 u1 u2:Value):Below B w0 (z4k w g u0 u1 u2):=Below.setCell (Below.setCell (Below.setCell hb hg u0) hg u1) hg u2
theorem OwSt.drewX (ho:OwSt w base v1 v2 s N):OwSt w.drew base v1 v2 s N:=ho.below (Below.refl _ _).drew
theorem RwX.own_m {α:Type} {S:Shp α} {w:World} {e:TypeId} {l:List α} (h:RwX S e w base v l N):∃xs,w.ownsRow base e S.size v l.length xs:=by
 obtain⟨ps,_,_,h3,_⟩:=h;exact⟨_,h3⟩
theorem OwSt.nb (ho:OwSt w base v1 v2 s N) (hA:Arr w g e xs) (h1:55≠e) (h2:120≠e):v1.ownBlock≠aG g/\v2.ownBlock≠aG g:=by
 obtain⟨xs1,hx⟩:=ho.b.own_m;obtain⟨xs2,hy⟩:=ho.e.own_m;exact⟨zf hx hA h1,zf hy hA h2⟩
end
structure RdC (w:World) (A:aj) (n:Nat) (c:ColP):Prop where
 rd:Rd w 1 A c.aM.length (strs c.aM)
 cap:c.aM.length<=n
 max:n<=maxLen
theorem RdC.below {w':World} {A:aj} (h:RdC w A n c) (hb:Below w.heap.size w w'):RdC w' A n c:=⟨h.rd.below hb,h.cap,h.max⟩
theorem RdC.of_own (h:w.ownsRow base 9 1 v c.aM.length (strs c.aM)):∃A n,v= aA A c.aM.length n/\RdC w A n c:=by
 obtain⟨A,n,rfl,hs,_⟩:=Sl.of_own h;exact⟨A,n,rfl,hs.rd,hs.cap,hs.max⟩
abbrev coV (v:Value) (c:ColP):Value:= .agg #[aB aC c.aN,v,aD ⟨c.at_.toArray⟩]
def yX (bl:List BlobP) (k:Nat):List BlobP:=Jr (bl.take k)++bl.drop k
theorem Q3 (bl:List BlobP) (k:Nat):(yX bl k).length=bl.length:=by
 unfold yX Jr;rw [List.length_append,List.length_map,List.length_take,List.length_drop];omega
theorem Yz (bl:List BlobP):yX bl 0=bl:=by simp [yX,Jr]
theorem VM (bl:List BlobP):yX bl bl.length=Jr bl:=by simp [yX]
theorem Js (bl:List BlobP) (k:Nat) (h:k<bl.length) (h':k<(yX bl k).length):(yX bl k)[k]=bl[k]:=by
 have e:(yX bl k)[k]?=bl[k]?:=by
  unfold yX Jr;rw [List.getElem?_append_right af];simp only [List.length_map,List.length_take,List.getElem?_drop]
  congr 1;omega
 rw [List.getElem?_eq_getElem h',List.getElem?_eq_getElem h]at e;exact Option.some.inj e
theorem Yy (bl:List BlobP) (k:Nat) (h:k<bl.length):(yX bl k).set k { bl[k] with mark:=false }=yX bl (k+1):=by
 unfold yX Jr;have hl:(List.map (fun b:BlobP=> { b with mark:=false }) (bl.take k)).length=k:=by rw [List.length_map,List.length_take];omega
 rw [List.set_append_right _ _ wu,hl,Nat.sub_self,List.take_succ_eq_append_getElem h,List.map_append,List.append_assoc]
 congr 1
 rw [List.drop_eq_getElem_cons h];rfl
theorem OwSt.setB' {g cap i j:Nat} {u:Value} {y:BlobP} (h:OwSt w base (aA (aG ⟨g,0,aF⟩) n cap) v2 s N) (hn:n=s.aI.length) (hi:i<s.aI.length) (hj:j<4)
  (hR:∀W cs,BlobS.R W s.aI[i] cs->BlobS.R W y (cs.set j u)) (hlead:∀b,¬leads b [u]) :
  (∃v0,w.cell? ⟨g,i*4+j,aF⟩=aG v0)/\w.frozen? ⟨g,i*4+j,aF⟩=false /\
   OwSt (w.setCell ⟨g,i*4+j,aF⟩ u) base (aA (aG ⟨g,0,aF⟩) n cap) v2 { s with aI:=s.aI.set i y } N/\w.grownBy (w.setCell ⟨g,i*4+j,aF⟩ u) (aG g):=by
 subst hn;exact h.setB hi hj hR hlead
theorem VU (A:aj) (c:Nat) (B:aj) (d:Nat) (s:StoP) (w:World) (hg:GoodS s) (hr:RdSt w A c B d s) :
  Calls Tryz.prog 71 #[.agg #[aA A s.aI.length c,aA B s.aJ.length d,aB aC s.aL,aB aC s.aK]] w fun e w'=>∃v1 v2 v3,e= .returned (.tuple #[stV v1 v2 s,coV v3 (UC s),aB aC 0])/\OwSt w' w.heap.size v1 v2 (Xm s) (fun b=>b<w.heap.size)/\w'.ownsRow w.heap.size 9 1 v3 (UC s).aM.length (strs (UC s).aM)/\Below w.heap.size w w':=by
 have hlb:s.aI.length<=24:=hg.b.len;have hle:s.aJ.length<=10:=hg.e.len;have HGD:=sqH hg;obtain⟨w0,hw0,hS,hR,hC,hb0⟩:=VI w 38 41 [aA A s.aI.length c,aA B s.aJ.length d,aB aC s.aL,aB aC s.aK] [aA aF 0 0,aA aF 0 0,aB aC 0,aB aC 0] [aB aC 0,aA aF 0 0,aD ⟨#[]⟩];have hr0:=hr.below hb0;obtain⟨H,hH⟩:=wY w.heap.size
 obtain⟨HCK,HRD,HSZ⟩:=sqJ3 (zD A c B d s w0 hg hr0) (show ∀W,Below H w W->RdSt W A c B d s from fun W h=>hr.below (hH▸h)) (show ∀W,Below H w W->H<=W.heap.size from fun W h=>hH▸h.size);rw [<-hH]at hS hR hC hb0 ⊢
 have hHc:H+1+1<w0.heap.size:=hC.lt;obtain⟨x0,x1,x2,x3⟩:=sqC4 hS;rw [hw0,hH]at x0 x1 x2 x3;have HPL:=sqH (show ∀b∈s.aI,b.data.length<=1000000 from fun b hb=>by have:=(hg.b.one b hb).2.1;omega);have HQL:=sqH (show ∀x∈s.aJ,x.aP.length<=1000000 from fun x hx=>by have:=(zi (hg.e.one x hx).2.1).1;omega);clear hg hr;go_enter func71,ntmps71;go_wp2_with fail;rw [<-hw0,<-hH];have HH:=sqH hH;clear hw0 hH x0 x1 x2 x3;refine wZ HCK.o fun w1 hb1=>?_;dsimp only;have hr1:=hr0.below hb1;have hS1:=hS.below hb1;obtain⟨z0,z1,z2,z3⟩:=sqC4 hS1;have HCP:=sqH (qL A c B d s w1 wu wu HPL.o HQL.o hr1);clear hr0 hS1 HCK;go_wp2_with fail;clear z0 z1 z2 z3;refine HCP.o.mono ?_;rintro e_ w3 ⟨q1,q2,rfl,ho3,hb3⟩;dsimp only;have hc3:=wm hb1 hb3;have ho3:=ho3.lower (base':=w0.heap.size) hb1.size;obtain⟨G,hG⟩:=wY w3.heap.size
 have hba:=ws w3 (.cells #[aA (aG ⟨q1,0,aF⟩) s.aI.length s.aI.length,aA (aG ⟨q2,0,aF⟩) s.aJ.length s.aJ.length,aB aC s.aL,aB aC s.aK] 38);have HXO:=sqH (show Arr (w3.alloc (.cells #[aA (aG ⟨q1,0,aF⟩) s.aI.length s.aI.length,aA (aG ⟨q2,0,aF⟩) s.aJ.length s.aJ.length,aB aC s.aL,aB aC s.aK] 38)) G 38 [aA (aG ⟨q1,0,aF⟩) s.aI.length s.aI.length,aA (aG ⟨q2,0,aF⟩) s.aJ.length s.aJ.length,aB aC s.aL,aB aC s.aK] from by rw [hG];exact Arr.new w3 38 _);have HOW:=sqH (show OwSt (w3.alloc (.cells #[aA (aG ⟨q1,0,aF⟩) s.aI.length s.aI.length,aA (aG ⟨q2,0,aF⟩) s.aJ.length s.aJ.length,aB aC s.aL,aB aC s.aK] 38)) w0.heap.size (aA (aG ⟨q1,0,aF⟩) s.aI.length s.aI.length) (aA (aG ⟨q2,0,aF⟩) s.aJ.length s.aJ.length) s (fun b=>b<w0.heap.size\/b=G) from
  (ho3.wider fun b hb=>by
   rcases hb with hb | hb
   ·exact .inl (Nat.lt_of_lt_of_le hb hb1.size)
   ·exact .inr (by rw [hb,hG];exact Nat.le_refl _)).below hba)
 obtain⟨HBK,HGL,HG,HS0,HB0⟩:=sqJ5 (wm hc3 hba) (show w0.heap.size<=G from by rw [hG];exact hc3.size) hG (show ∀W,Below w0.heap.size w0 W->Arr W H 38 [aA A s.aI.length c,aA B s.aJ.length d,aB aC s.aL,aB aC s.aK]/\Arr W (H+1) 38 [aA aF 0 0,aA aF 0 0,aB aC 0,aB aC 0]/\Arr W (H+1+1) 41 [aB aC 0,aA aF 0 0,aD ⟨#[]⟩] from fun W h=>⟨hS.below h,hR.below h,hC.below h⟩) hb0;have b0:=HXO.o.c0;clear hS hR hC hc3 ho3 hb3 hr1 HCP hb0 hG hba hb1;go_wp2_with fail;rw [<-HG.o];generalize (w3.alloc (.cells #[aA (aG ⟨q1,0,aF⟩) s.aI.length s.aI.length,aA (aG ⟨q2,0,aF⟩) s.aJ.length s.aJ.length,aB aC s.aL,aB aC s.aK] 38))=w4 at *
 clear b0;have hb63:(s.aI.length:Int)<=9223372036854775807:=wu;go_loopg [20] s.aI.length (fun gn i wr=>∃k:Nat,gn=s.aI.length - k/\i= aB aC k/\k<=s.aI.length/\Arr wr G 38 [aA (aG ⟨q1,0,aF⟩) s.aI.length s.aI.length,aA (aG ⟨q2,0,aF⟩) s.aJ.length s.aJ.length,aB aC s.aL,aB aC s.aK]/\OwSt wr w0.heap.size (aA (aG ⟨q1,0,aF⟩) s.aI.length s.aI.length) (aA (aG ⟨q2,0,aF⟩) s.aJ.length s.aJ.length) { s with aI:=yX s.aI k } (fun b=>b<w0.heap.size\/b=G)/\Below w0.heap.size w0 wr)
 case atStart=>exact⟨0,rfl,rfl,wu,HXO.o,by rw [Yz];exact HOW.o,HBK.o⟩
 case round =>
  obtain⟨k,hgk,rfl,hk,hX,ho,hbk⟩:=hrel;have HGK:=sqH hgk;clear hgk HXO HOW HBK;by_cases hlt:k<s.aI.length
  rotate_left
  ·obtain rfl:k=s.aI.length:=by omega
   have hlb:decide (s.aI.length<s.aI.length)=false:=ab;rw [VM]at ho;obtain⟨bo,bx,bk⟩:=sqJ3 ho hX hbk;have hGB:=HGL.o;clear ho hX hbk
   refine wL ?_;intros;have bb:=HB0.o.trans (bk.o.mono (show H<=w0.heap.size by omega));obtain⟨bs,br,bc⟩:=HS0.o _ bk.o;have bo:=bo.o;have bx:=bx.o;refine wp_region_held_drew (S:=(fun w'=>(wI w' G (aA (aG ⟨q1,0,aF⟩) s.aI.length s.aI.length) (aA (aG ⟨q2,0,aF⟩) s.aJ.length s.aJ.length) (aB aC s.aL) (aB aC s.aK))/\(wI w' H (aA A s.aI.length c) (aA B s.aJ.length d) (aB aC s.aL) (aB aC s.aK)))) ww ?_ (fun hHeld=> ?_)
   ·exact⟨sqC4 (bx.drew),sqC4 (bs.drew)⟩
   have bx:=bx.drew;have bs:=bs.drew;have br:=br.drew;have bc:=bc.drew;have bo:=bo.drewX;have bb:=bb.drew;generalize wr.drew=wn0 at *
   refine wQ 0 ?_;refine wQ 1 ?_;refine wU 2 fun K hK=>?_;go_simp;refine(xt A B c d s (s.aL:Int) (s.aK:Int) wn0 HGD.o.rts (HRD.o _ bb)).mono ?_;rintro e5 w5 ⟨v5,L,rfl,hL,hLl,ho5,hb5⟩;obtain rfl:=hL.uni (L:=rts s) (fun x=>Iff.rfl);obtain⟨A5,c5,rfl,_,_⟩:=Rd.of_own' ho5;dsimp only;refine kn hK ⟨sqC4 (bx.below hb5),sqC4 (bs.below hb5)⟩ (Below wn0.heap.size wn0) (fun W=>W.ownsRow H 9 1 (aA A5 (uni (rts s)).length c5) (uni (rts s)).length (strs (uni (rts s)))) hb5 (zb ho5 (HSZ.o _ bb)) fun wn1 hHeld hst hnew=> ?_;have bx:=bx.below hst;have bs:=bs.below hst;have br:=br.below hst;have bc:=bc.below hst;have bo:=bo.below hst;have bb:=bb.trans (hst.mono (HSZ.o _ bb));have hl:=hnew;clear hnew;clear hst;clear hK K
   refine wQ 3 ?_;refine wU 4 fun K hK=>?_;obtain⟨f0,f1,f2,f3⟩:=sqF4 br;obtain⟨y0,y1,y2,y3⟩:=sqC4 br;go_simp;clear f0 f1 f2 f3 y0 y1 y2 y3;obtain⟨nb1,nb2⟩:=bo.nb br aa aa;have nl:=zf hl br aa;have bx:=bx.other4 (g:=H+1) wu (aA (aG ⟨q1,0,aF⟩) s.aI.length s.aI.length) (aA (aG ⟨q2,0,aF⟩) s.aJ.length s.aJ.length) (aB aC s.aL) (aB aC s.aK);have bs:=bs.other4 (g:=H+1) wu (aA (aG ⟨q1,0,aF⟩) s.aI.length s.aI.length) (aA (aG ⟨q2,0,aF⟩) s.aJ.length s.aJ.length) (aB aC s.aL) (aB aC s.aK);have bc:=bc.other4 (g:=H+1) wu (aA (aG ⟨q1,0,aF⟩) s.aI.length s.aI.length) (aA (aG ⟨q2,0,aF⟩) s.aJ.length s.aJ.length) (aB aC s.aL) (aB aC s.aK);have br:=br.all4 (aA (aG ⟨q1,0,aF⟩) s.aI.length s.aI.length) (aA (aG ⟨q2,0,aF⟩) s.aJ.length s.aJ.length) (aB aC s.aL) (aB aC s.aK);have bo:=bo.set4N (g:=H+1) (.inl wu) nb1 nb2 (aA (aG ⟨q1,0,aF⟩) s.aI.length s.aI.length) (aA (aG ⟨q2,0,aF⟩) s.aJ.length s.aJ.length) (aB aC s.aL) (aB aC s.aK);have bb:=yL (g:=H+1) bb wu (aA (aG ⟨q1,0,aF⟩) s.aI.length s.aI.length) (aA (aG ⟨q2,0,aF⟩) s.aJ.length s.aJ.length) (aB aC s.aL) (aB aC s.aK);have hl:=qA (g:=H+1) hl nl (aA (aG ⟨q1,0,aF⟩) s.aI.length s.aI.length) (aA (aG ⟨q2,0,aF⟩) s.aJ.length s.aJ.length) (aB aC s.aL) (aB aC s.aK);refine kn hK ⟨sqC4 (bx),sqC4 (bs)⟩ (fun W=>(Arr W G 38 [(aA (aG ⟨q1,0,aF⟩) s.aI.length s.aI.length),(aA (aG ⟨q2,0,aF⟩) s.aJ.length s.aJ.length),(aB aC s.aL),(aB aC s.aK)]/\Arr W H 38 [aA A s.aI.length c,aA B s.aJ.length d,(aB aC s.aL),(aB aC s.aK)]/\Arr W (H+1) 38 [(aA (aG ⟨q1,0,aF⟩) s.aI.length s.aI.length),(aA (aG ⟨q2,0,aF⟩) s.aJ.length s.aJ.length),(aB aC s.aL),(aB aC s.aK)]/\Arr W (H+1+1) 41 [aB aC 0,aA aF 0 0,aD ⟨#[]⟩])/\OwSt W w0.heap.size (aA (aG ⟨q1,0,aF⟩) s.aI.length s.aI.length) (aA (aG ⟨q2,0,aF⟩) s.aJ.length s.aJ.length) (Xm s) (fun b=>b<w0.heap.size\/b=G)/\Below H w W/\W.ownsRow H 9 1 (aA A5 (uni (rts s)).length c5) (uni (rts s)).length (strs (uni (rts s)))) (fun W=>True) ⟨⟨bx,bs,br,bc⟩,bo,bb,hl⟩ trivial fun wn2 hHeld hF _=> ?_;clear bx bs br bc bo bb hl nb1 nb2 nl;obtain⟨⟨bx,bs,br,bc⟩,bo,bb,hl⟩:=hF;clear hK K
   try simp only [sqP]
   refine wU 5 fun K hK=>?_;obtain⟨f0,f1,f2⟩:=sqF3 bc;obtain⟨y0,y1,y2⟩:=sqC3 bc;go_simp;clear f0 f1 f2 y0 y1 y2;obtain⟨nb1,nb2⟩:=bo.nb bc aa aa;have nl:=zf hl bc aa;have bx:=bx.other3 (g:=H+1+1) wu (aB aC 1) (aA A5 (uni (rts s)).length c5) (aD ⟨#[]⟩);have bs:=bs.other3 (g:=H+1+1) wu (aB aC 1) (aA A5 (uni (rts s)).length c5) (aD ⟨#[]⟩);have br:=br.other3 (g:=H+1+1) wu (aB aC 1) (aA A5 (uni (rts s)).length c5) (aD ⟨#[]⟩);have bc:=bc.all3 (aB aC 1) (aA A5 (uni (rts s)).length c5) (aD ⟨#[]⟩);have bo:=bo.set3N (g:=H+1+1) (.inl wu) nb1 nb2 (aB aC 1) (aA A5 (uni (rts s)).length c5) (aD ⟨#[]⟩);have bb:=Yb (g:=H+1+1) bb wu (aB aC 1) (aA A5 (uni (rts s)).length c5) (aD ⟨#[]⟩);have hl:=kz (g:=H+1+1) hl nl (aB aC 1) (aA A5 (uni (rts s)).length c5) (aD ⟨#[]⟩);refine kn hK ⟨sqC4 (bx),sqC4 (bs)⟩ (fun W=>(Arr W G 38 [(aA (aG ⟨q1,0,aF⟩) s.aI.length s.aI.length),(aA (aG ⟨q2,0,aF⟩) s.aJ.length s.aJ.length),(aB aC s.aL),(aB aC s.aK)]/\Arr W H 38 [aA A s.aI.length c,aA B s.aJ.length d,(aB aC s.aL),(aB aC s.aK)]/\Arr W (H+1) 38 [(aA (aG ⟨q1,0,aF⟩) s.aI.length s.aI.length),(aA (aG ⟨q2,0,aF⟩) s.aJ.length s.aJ.length),(aB aC s.aL),(aB aC s.aK)]/\Arr W (H+1+1) 41 [aB aC 1,(aA A5 (uni (rts s)).length c5),aD ⟨#[]⟩])/\OwSt W w0.heap.size (aA (aG ⟨q1,0,aF⟩) s.aI.length s.aI.length) (aA (aG ⟨q2,0,aF⟩) s.aJ.length s.aJ.length) (Xm s) (fun b=>b<w0.heap.size\/b=G)/\Below H w W/\W.ownsRow H 9 1 (aA A5 (uni (rts s)).length c5) (uni (rts s)).length (strs (uni (rts s)))) (fun W=>True) ⟨⟨bx,bs,br,bc⟩,bo,bb,hl⟩ trivial fun wn3 hHeld hF _=> ?_;clear bx bs br bc bo bb hl nb1 nb2 nl;obtain⟨⟨bx,bs,br,bc⟩,bo,bb,hl⟩:=hF;clear hK K
   refine wQ 6 ?_;refine wpAnyH_done ww ?_ _;dsimp only [Exit.then];clear hHeld;go_wp2_with fail;refine bodyPost_ret (qc rfl _ _ (H+1) (H+1+1) _ _ _ _ _ _ _ _ ac br underlying38 rfl ww ac bc underlying41 rfl ww) rfl ?_;exact⟨_,_,_,rfl,(bo.lower (base':=H) wu).mono (fun b hb=> .inl wu),hl,bb⟩
  have hlb:decide (k<s.aI.length)=true:=decide_eq_true hlt;have hk0:=we k
  have hk1:(k:Int)<(s.aI.length:Int):=wu;have hkl:k<(yX s.aI k).length:=by rw [Q3];exact hlt
  have h5:=ho.setB' (i:=k) (j:=3) (y:= { s.aI[k] with mark:=false }) (u:= .bool false) (Q3 s.aI k).symm hkl wu (fun W cs h=>by
   rw [Js s.aI k hlt hkl]at h;exact vV _ false W cs h) (kQ false)
  obtain⟨⟨v0,c3⟩,f3,ho2,hg2⟩:=h5;have hsu:=Yy s.aI k hlt;have HO2:=sqH (show OwSt (wr.setCell ⟨q1,k*4+3,aF⟩ (.bool false)) w0.heap.size (aA (aG ⟨q1,0,aF⟩) s.aI.length s.aI.length) (aA (aG ⟨q2,0,aF⟩) s.aJ.length s.aJ.length) { s with aI:=yX s.aI (k+1) } (fun b=>b<w0.heap.size\/b=G) from by rw [<-hsu];exact ho2);have hne:(aA (aG ⟨q1,0,aF⟩) s.aI.length s.aI.length).ownBlock≠aG G:=(ho.nb hX aa aa).1;have hX2:=hX.grown hg2 hne;have hbk2:=hbk.grown hg2 hbk.size (fun b e=>by cases e;exact(ho.b.rwo.blk rfl).1);have HX2:=sqH hX2;have HBK2:=sqH hbk2;have x0:=hX.c0;have HKL:=sqH hlt;clear hsu ho2 hg2 hne ho hX hX2 hbk hbk2 hkl;go_wp2_with fail;go_roundg (s.aI.length - (k+1))
  case measure=>have:=HGK.o;have:=HKL.o;omega
  case rel=>exact⟨k+1,rfl,by go_num,by have:=HKL.o;omega,HX2.o,HO2.o,HBK2.o⟩
structure StpW (W:World) (H base:Nat) (v1 v2:Value) (r k:Nat) (t:StoP) (cc:ak) (N:am):Prop where
 s:Arr W H 38 [v1,v2,aB aC r,aB aC k]
 c:Arr W (H+1) 41 cc
 r:Arr W (H+1+1) 38 [aA aF 0 0,aA aF 0 0,aB aC 0,aB aC 0]
 d:Arr W (H+1+1+1) 41 [aB aC 0,aA aF 0 0,aD ⟨#[]⟩]
 o:OwSt W base v1 v2 t (fun b=>N b\/(H<=b/\b<=H+3))
theorem StpW.below {W W':World} {H r k:Nat} {t:StoP} {cc:ak} (h:StpW W H base v1 v2 r k t cc N) (hb:Below W.heap.size W W'):StpW W' H base v1 v2 r k t cc N :=
 ⟨h.s.below hb,h.c.below hb,h.r.below hb,h.d.below hb,h.o.below hb⟩
theorem z3h (r:Option Nat):∃z ee:Int,xx r= .tuple #[aB aC z,aB aC ee]/\((r=aF/\ee=5)\/∃i,r=aG i/\z=(i:Int)/\ee=0):=by
 cases r with
 | none=>exact⟨0,5,rfl,.inl ⟨rfl,rfl⟩⟩
 | some i=>exact⟨_,_,rfl,.inr ⟨i,rfl,rfl,rfl⟩⟩
theorem Jc (base q1 q2:Nat) (Ag:aj) (ng:Nat) (s:StoP) (c:ColP) (w:World) (N:am) (hg:GoodS s) (hp:c.aN=1) (hat:c.at_= []) (hgl:c.aM.length<=1000)
  (ho:OwSt w base (aA (aG ⟨q1,0,aF⟩) s.aI.length s.aI.length) (aA (aG ⟨q2,0,aF⟩) s.aJ.length s.aJ.length) s N) (hc:RdC w Ag ng c) :
  Calls Tryz.prog 140 #[stV (aA (aG ⟨q1,0,aF⟩) s.aI.length s.aI.length) (aA (aG ⟨q2,0,aF⟩) s.aJ.length s.aJ.length) s,coV (aA Ag c.aM.length ng) c] w fun e w' =>
   ∃v3,e= .returned (.tuple #[stV (aA (aG ⟨q1,0,aF⟩) s.aI.length s.aI.length) (aA (aG ⟨q2,0,aF⟩) s.aJ.length s.aJ.length) s,coV v3 (zU s c).2]) /\
    OwSt w' base (aA (aG ⟨q1,0,aF⟩) s.aI.length s.aI.length) (aA (aG ⟨q2,0,aF⟩) s.aJ.length s.aJ.length) (zU s c).1 N/\w'.ownsRow w.heap.size 9 1 v3 (zU s c).2.aM.length (strs (zU s c).2.aM)/\w.grownBy w' (aG q1):=by
 have hlb:s.aI.length<=24:=hg.b.len;have HGD:=sqH hg;have HMW:=sqH (kA s c);obtain⟨aN,aM,at_⟩:=c;simp only at hp hat hgl;subst hp hat
 obtain⟨w0,hw0,hS,hC,hR,hD,hb0⟩:=ql w 38 41 [aA (aG ⟨q1,0,aF⟩) s.aI.length s.aI.length,aA (aG ⟨q2,0,aF⟩) s.aJ.length s.aJ.length,aB aC s.aL,aB aC s.aK] [aB aC 1,aA Ag aM.length ng,aD ⟨#[]⟩] [aA aF 0 0,aA aF 0 0,aB aC 0,aB aC 0] [aB aC 0,aA aF 0 0,aD ⟨#[]⟩];have hrg:=hc.rd.below hb0;have hgc:=hc.cap;have hgm:=hc.max;simp only at hrg hgc hgm;have ho0:=(ho.wider (N':=fun b=>N b\/(w.heap.size<=b/\b<=w.heap.size+3)) (fun b hb=>hb.imp id (fun e=>e.1))).below hb0;have hq1:q1<w.heap.size:=(ho.b.rwo.blk rfl).2;have HOO:=sqH ho;obtain⟨H,hH⟩:=wY w.heap.size
 rw [<-hH]at hS hC hR hD ho0 hq1;have x0:=hC.c1;obtain⟨x1,x2,x3,x4⟩:=sqC4 hS;have sw:StpW w0 H base (aA (aG ⟨q1,0,aF⟩) s.aI.length s.aI.length) (aA (aG ⟨q2,0,aF⟩) s.aJ.length s.aJ.length) s.aL s.aK s [aB aC 1,aA Ag aM.length ng,aD ⟨#[]⟩] N:=⟨hS,hC,hR,hD,ho0⟩
 have hgr:w.grownBy w0 (aG q1):=kE hb0;rw [hw0,hH]at x0 x1 x2 x3 x4;clear hg hc hS hC hR hD ho0 hb0 ho;have HH:=sqH hH;cases aM with
 | nil =>
  obtain⟨_,HM⟩:_/\Hid (zU s ⟨1, [], []⟩=(s,⟨2, [], []⟩)):=⟨trivial,Lib.hid rfl⟩
  rw [HM.o];simp only [List.length_nil] at *
  clear x0 x1 x2 x3 x4 hw0 hrg sw hgr;obtain⟨W,hW,_,_,hR,hD,hb⟩:=ql w 38 41 [aA (aG ⟨q1,0,aF⟩) s.aI.length s.aI.length,aA (aG ⟨q2,0,aF⟩) s.aJ.length s.aJ.length,aB aC s.aL,aB aC s.aK] [aB aC 1,aA Ag 0 ng,aD ⟨#[]⟩] [aA (aG ⟨q1,0,aF⟩) s.aI.length s.aI.length,aA (aG ⟨q2,0,aF⟩) s.aJ.length s.aJ.length,aB aC s.aL,aB aC s.aK] [aB aC 2,aA aF 0 0,aD ⟨#[]⟩];go_enter func140,ntmps140
  refine wL ?_;intros;rw [<-hW];refine bodyPost_ret (kJ rfl _ _ (w.heap.size+1+1) (w.heap.size+1+1+1) _ _ _ _ _ _ _ _ ac hR underlying38 rfl ww ac hD underlying41 rfl ww) rfl ?_;exact⟨aA aF 0 0,rfl,HOO.o.below hb,World.ownsRow_nil _ _ _ _,kE hb⟩
 | cons d rest =>
  have hln0:((((d::rest).length:Nat):Int)==0)=false:=by rw [beq_eq_false_iff_ne];simp only [List.length_cons];omega
  obtain⟨n1,hn1⟩:=wY ((d::rest).length)
  have hn1p:0<n1:=by rw [hn1];simp
  rw [<-hn1]at hln0 x0 sw hgc hgl hw0 ⊢
  have HRG:=sqH hrg;have HN1:=sqH hn1;clear hrg hn1;go_enter func140,ntmps140
  refine wL ?_;intros;rw [<-hw0];rw [<-hH];clear x0 x1 x2 x3 x4 hw0 hH;have HRB:=sqH (show Rw BlobS w0 (aG ⟨q1,0,aF⟩) s.aI from by
   obtain⟨A9,c9,B9,d9,e1,_,hrd⟩:=sw.o.rows;cases e1;exact hrd.b)
  obtain⟨bq,oq,e1,hbq,hcq⟩:=HRG.o.2 ab;subst e1;have c00:=hcq 0 _ rfl;rw [Nat.add_zero]at c00;have HSB:=sqH (show ∀W,Below w0.heap.size w0 W->W.cell? ⟨H,0,aF⟩=aG (aA (aG ⟨q1,0,aF⟩) s.aI.length s.aI.length)/\W.cell? ⟨H+1,1,aF⟩=aG (aA (aG ⟨bq,oq,aF⟩) n1 ng)/\W.cell? ⟨bq,oq,aF⟩=aG (aD ⟨d.toArray⟩) from fun W h=>⟨(sw.s.below h).c0,(sw.c.below h).c1,(h.cell (p:=⟨bq,oq,aF⟩) hbq).trans c00⟩);obtain⟨z,ee,hfn,hway⟩:=z3h (s.aI.findIdx? (fun x=>x.dig==d));obtain⟨HFN,HSZ,HWAY⟩:=sqJ3 hfn (show w.heap.size<=w0.heap.size from hgr.size) hway;have hn63:(n1:Int)<=9223372036854775807:=wu;have hn0:(0:Int)<(n1:Int):=wu;clear hcq c00 hfn hway hbq;refine wp_region_held_drew (S:=(fun w'=>w'.cell? ⟨H,0,aF⟩=aG (aA (aG ⟨q1,0,aF⟩) s.aI.length s.aI.length)/\w'.cell? ⟨H+1,1,aF⟩=aG (aA (aG ⟨bq,oq,aF⟩) n1 ng)/\w'.cell? ⟨bq,oq,aF⟩=aG (aD ⟨d.toArray⟩))) ww ?_ (fun hHeld=> ?_)
  ·exact HSB.o _ (Below.refl _ w0).drew
  have hB:=(Below.refl w0.heap.size w0).drew;generalize w0.drew=wn0 at *
  refine wQ 0 ?_;refine wQ 1 ?_;refine wQ 2 ?_;refine wQ 3 ?_;refine wQ 4 ?_;refine wQ 5 ?_;refine wU 6 fun K hK=>?_;go_simp;refine(ky (aG ⟨q1,0,aF⟩) s.aI.length s.aI d wn0 wu (HRB.o.below hB)).mono ?_;rintro e5 w5 ⟨rfl,hb5⟩;rw [HFN.o];dsimp only;refine wF hK (HSB.o _ (wm hB hb5)) (Below wn0.heap.size wn0) hb5 fun wn1 hHeld hst=> ?_;have hB:=wm hB hst;clear hst;clear hK K
  refine wQ 7 ?_;refine wQ 8 ?_;refine wQ 9 ?_;refine wQ 10 ?_;refine wQ 11 ?_;refine wpAnyH_done ww ?_ _;dsimp only [Exit.then];clear hHeld;have sw:=sw.below hB;have hgr:=zQ hgr hB;have hrg:=HRG.o.below hB;have hs5:=hB.size;clear hB HSB;generalize wn1=w5 at *
  have q1c:=sw.c.c1;have g1:decide ((1:Int)<=(n1:Int))=true:=decide_eq_true wu;have g2:(1:Int)<=(ng:Int):=wu;have g3:(ng:Int)<=9223372036854775807:=by have:maxLen=9223372036854775807:=rfl;omega
  have hrl:rest.length=n1 - 1:=by rw [HN1.o];simp
  have hcl:=kS (if ng=1 then aG ⟨bq,oq,aF⟩ else aG ⟨bq,oq+1,aF⟩) (ng - 1) rest w5 wu (by
   have h:=hrg.cut (k:=1) (cap:=ng) ab (by rw [<-HN1.o];exact hgc);exact h)
  rw [hrl]at hcl;have HCL:=sqH hcl;have HRL:=sqH hrl;clear hcl hrl hrg
  refine wL ?_;intros;clear q1c g1 g2 g3;refine HCL.o.mono ?_;rintro e_ w6 ⟨v6,rfl,ho6,hb6⟩;dsimp only;rw [<-HRL.o]at ho6;obtain⟨A6,c6,rfl,_,_⟩:=Rd.of_own' ho6;have sw:=sw.below hb6;have hgr:=zQ hgr hb6;have hrow:=zb ho6 (show w.heap.size<=w5.heap.size from Nat.le_trans HSZ.o hs5);rcases HWAY.o with ⟨hf,rfl⟩ | ⟨i,hf,rfl,rfl⟩
  ·have HM:=sqH (show zU s ⟨1,d::rest, []⟩=(s,⟨1,rest, []⟩) from by unfold zU;simp only [hf]);clear hf ho6 hb6;obtain⟨f0,f1,f2,f3⟩:=sqF4 sw.r;obtain⟨y0,y1,y2,y3⟩:=sqC4 sw.r;obtain⟨g0,g1,g2⟩:=sqF3 sw.d;obtain⟨x0,x1,x2⟩:=sqC3 sw.d;obtain⟨s0,s1,s2,s3⟩:=sqC4 sw.s;obtain⟨hF1,hF2,hF3,hF4,hF5⟩:=sqJ5 (qV (h:=H+1+1+1) (u0:= aA (aG ⟨q1,0,aF⟩) s.aI.length s.aI.length) (u1:= aA (aG ⟨q2,0,aF⟩) s.aJ.length s.aJ.length) (u2:= aB aC s.aL) (u3:= aB aC s.aK) (x0:= aB aC 1) (x1:=(aA A6 rest.length c6)) (x2:= aD ⟨#[]⟩) sw.r wu) (qW (g:=H+1+1) (u0:= aA (aG ⟨q1,0,aF⟩) s.aI.length s.aI.length) (u1:= aA (aG ⟨q2,0,aF⟩) s.aJ.length s.aJ.length) (u2:= aB aC s.aL) (u3:= aB aC s.aK) (x0:= aB aC 1) (x1:=(aA A6 rest.length c6)) (x2:= aD ⟨#[]⟩) sw.d wu) (qE (u0:= aA (aG ⟨q1,0,aF⟩) s.aI.length s.aI.length) (u1:= aA (aG ⟨q2,0,aF⟩) s.aJ.length s.aJ.length) (u2:= aB aC s.aL) (u3:= aB aC s.aK) (x0:= aB aC 1) (x1:=(aA A6 rest.length c6)) (x2:= aD ⟨#[]⟩) sw.o (g:=H+1+1) (h:=H+1+1+1) (.inr wu) (.inr wu) (sw.o.nb sw.r aa aa).1 (sw.o.nb sw.r aa aa).2 (sw.o.nb sw.d aa aa).1 (sw.o.nb sw.d aa aa).2) (qS (g:=H+1+1) (h:=H+1+1+1) (u0:= aA (aG ⟨q1,0,aF⟩) s.aI.length s.aI.length) (u1:= aA (aG ⟨q2,0,aF⟩) s.aJ.length s.aJ.length) (u2:= aB aC s.aL) (u3:= aB aC s.aK) (x0:= aB aC 1) (x1:=(aA A6 rest.length c6)) (x2:= aD ⟨#[]⟩) hrow (zf hrow sw.r aa) (zf hrow sw.d aa)) (vd (g:=H+1+1) (h:=H+1+1+1) (u0:= aA (aG ⟨q1,0,aF⟩) s.aI.length s.aI.length) (u1:= aA (aG ⟨q2,0,aF⟩) s.aJ.length s.aJ.length) (u2:= aB aC s.aL) (u3:= aB aC s.aK) (x0:= aB aC 1) (x1:=(aA A6 rest.length c6)) (x2:= aD ⟨#[]⟩) hgr (by rw [<-HH.o];omega) (by rw [<-HH.o];omega));clear sw hrow hgr
   refine wL ?_;intros;refine bodyPost_ret (kJ rfl _ _ (H+1+1) (H+1+1+1) _ _ _ _ _ _ _ _ ac hF1.o underlying38 rfl ww ac hF2.o underlying41 rfl ww) rfl ?_;rw [HM.o];exact⟨_,rfl,hF3.o.mono (fun b hb=> .inl hb),hF4.o,hF5.o⟩
  ·have hi:i<s.aI.length:=(List.findIdx?_eq_some_iff_getElem.1 hf).1;have hd:s.aI[i].dig=d:=by simpa using (List.findIdx?_eq_some_iff_getElem.1 hf).2.1
   have hbl:=(show Rw BlobS w6 (aG ⟨q1,0,aF⟩) s.aI from by
    obtain⟨A9,c9,B9,d9,e1,_,hrd⟩:=sw.o.rows;cases e1;exact hrd.b).blob_at i hi
   obtain⟨bb,off,Bx,cx,e9,hbb,y0,y1,y2,y3,hsl⟩:=hbl;cases e9
   simp only [Nat.zero_add]at y0 y1 y2 y3;have hi0:=we i
   have hi1:(i:Int)<(s.aI.length:Int):=wu;have q0s:=sw.s.c0;cases hm:s.aI[i].mark with
   | true =>
    have HM:=sqH (show zU s ⟨1,d::rest, []⟩=(s,⟨1,rest, []⟩) from by
     unfold zU;simp only [hf,List.getElem?_eq_getElem hi,hm,if_true])
    rw [hm]at y3;clear hf ho6 hb6 hd hm hsl y0 y1 y2 hbb;obtain⟨f0,f1,f2,f3⟩:=sqF4 sw.r;obtain⟨y0,y1,y2,y3⟩:=sqC4 sw.r;obtain⟨g0,g1,g2⟩:=sqF3 sw.d;obtain⟨x0,x1,x2⟩:=sqC3 sw.d;obtain⟨s0,s1,s2,s3⟩:=sqC4 sw.s;obtain⟨hF1,hF2,hF3,hF4,hF5⟩:=sqJ5 (qV (h:=H+1+1+1) (u0:= aA (aG ⟨q1,0,aF⟩) s.aI.length s.aI.length) (u1:= aA (aG ⟨q2,0,aF⟩) s.aJ.length s.aJ.length) (u2:= aB aC s.aL) (u3:= aB aC s.aK) (x0:= aB aC 1) (x1:=(aA A6 rest.length c6)) (x2:= aD ⟨#[]⟩) sw.r wu) (qW (g:=H+1+1) (u0:= aA (aG ⟨q1,0,aF⟩) s.aI.length s.aI.length) (u1:= aA (aG ⟨q2,0,aF⟩) s.aJ.length s.aJ.length) (u2:= aB aC s.aL) (u3:= aB aC s.aK) (x0:= aB aC 1) (x1:=(aA A6 rest.length c6)) (x2:= aD ⟨#[]⟩) sw.d wu) (qE (u0:= aA (aG ⟨q1,0,aF⟩) s.aI.length s.aI.length) (u1:= aA (aG ⟨q2,0,aF⟩) s.aJ.length s.aJ.length) (u2:= aB aC s.aL) (u3:= aB aC s.aK) (x0:= aB aC 1) (x1:=(aA A6 rest.length c6)) (x2:= aD ⟨#[]⟩) sw.o (g:=H+1+1) (h:=H+1+1+1) (.inr wu) (.inr wu) (sw.o.nb sw.r aa aa).1 (sw.o.nb sw.r aa aa).2 (sw.o.nb sw.d aa aa).1 (sw.o.nb sw.d aa aa).2) (qS (g:=H+1+1) (h:=H+1+1+1) (u0:= aA (aG ⟨q1,0,aF⟩) s.aI.length s.aI.length) (u1:= aA (aG ⟨q2,0,aF⟩) s.aJ.length s.aJ.length) (u2:= aB aC s.aL) (u3:= aB aC s.aK) (x0:= aB aC 1) (x1:=(aA A6 rest.length c6)) (x2:= aD ⟨#[]⟩) hrow (zf hrow sw.r aa) (zf hrow sw.d aa)) (vd (g:=H+1+1) (h:=H+1+1+1) (u0:= aA (aG ⟨q1,0,aF⟩) s.aI.length s.aI.length) (u1:= aA (aG ⟨q2,0,aF⟩) s.aJ.length s.aJ.length) (u2:= aB aC s.aL) (u3:= aB aC s.aK) (x0:= aB aC 1) (x1:=(aA A6 rest.length c6)) (x2:= aD ⟨#[]⟩) hgr (by rw [<-HH.o];omega) (by rw [<-HH.o];omega));clear sw hrow hgr
    refine wL ?_;intros;refine bodyPost_ret (kJ rfl _ _ (H+1+1) (H+1+1+1) _ _ _ _ _ _ _ _ ac hF1.o underlying38 rfl ww ac hF2.o underlying41 rfl ww) rfl ?_;rw [HM.o];exact⟨_,rfl,hF3.o.mono (fun b hb=> .inl hb),hF4.o,hF5.o⟩
   | false =>
    have HM:=sqH (show zU s ⟨1,d::rest, []⟩=({ s with aI:=s.aI.set i { s.aI[i] with mark:=true } },⟨1,uni (rest++(qU s.aI[i].data).1.map (·.dig)), []⟩) from by
     unfold zU;simp only [hf,List.getElem?_eq_getElem hi,hm,Bool.false_eq_true,if_false])
    rw [hm]at y3;obtain⟨_,f3,ho7,hg7⟩:=sw.o.setB (i:=i) (j:=3) (y:= { s.aI[i] with mark:=true }) (u:= .bool true) hi wu (fun W cs h=>vV _ true W cs h) (kQ true);have sw7:StpW _ H base (aA (aG ⟨q1,0,aF⟩) s.aI.length s.aI.length) (aA (aG ⟨q2,0,aF⟩) s.aJ.length s.aJ.length) s.aL s.aK { s with aI:=s.aI.set i { s.aI[i] with mark:=true } } [aB aC 1,aA (aG ⟨bq,oq,aF⟩) n1 ng,aD ⟨#[]⟩] N:=⟨sw.s.grown hg7 (fun e=>by injection e with e;omega),sw.c.grown hg7 (fun e=>by injection e with e;omega),sw.r.grown hg7 (fun e=>by injection e with e;omega),sw.d.grown hg7 (fun e=>by injection e with e;omega),ho7⟩
    have hgr7:=hgr.trans hg7;have hrow7:=hrow.kept hg7 (.inr (fun e=>by have:=(ho6.lt q1 e).1;have:=HH.o;have:=HSZ.o;omega));have hbl7:=(show Rw BlobS _ (aG ⟨q1,0,aF⟩) (s.aI.set i { s.aI[i] with mark:=true }) from by
     obtain⟨A9,c9,B9,d9,e1,_,hrd⟩:=ho7.rows;injection e1 with e11 _ _;subst e11;exact hrd.b).blob_at i (by rw [List.length_set];exact hi)
    rw [List.getElem_set_self]at hbl7;generalize s.aI[i]=q at *
    obtain⟨HSW,HGR,HRW,HBL⟩:=sqJ4 sw7 hgr7 hrow7 hbl7;have q0t:=(sw7.s).c0;clear sw sw7 hgr hgr7 hrow hrow7 hbl7 hf ho6 hb6 hd hm hsl y0 y1 y2 hbb ho7 hg7 q0t
    refine wO 55 ?_;intros;clear q0s y3 f3;generalize (w6.setCell ⟨q1,i*4+3,aF⟩ (.bool true))=w7 at *
    obtain⟨bb,off,Bx,cx,e9,hbb,y0,y1,y2,y3,hsl⟩:=HBL.o;cases e9
    simp only [Nat.zero_add]at y0 y1 y2 y3;have q0s:=HSW.o.s.c0;have HPT:=sqH (vS ⟨q.dig.toArray⟩ Bx q.data.length cx q.data (q.aQ:Int) true w7 rfl hsl.cap hsl.max hsl.rd);have hk8:=yO q.data;clear hsl hbb
    refine wL ?_;intros;clear y0 y1 y2 y3 q0s;refine HPT.o.mono ?_;rintro e_ w8 ⟨v8,rfl,ho8,hb8⟩;dsimp only;rw [vG,show(qU q.data).1.length=((qU q.data).1.map (·.dig)).length from(List.length_map _).symm]at ho8;obtain⟨A8,c8,rfl,hc8,hr8⟩:=Rd.of_own' ho8;have sw8:=HSW.o.below hb8;have hgr8:=zQ HGR.o hb8;have hrow8:=zc HRW.o hb8;obtain⟨_,_,e10,hc6,hr6⟩:=Rd.of_own' hrow8;injection e10 with e11 _ e13;subst e11 e13;have hAD:=Jy A6 A8 c6 c8 rest ((qU q.data).1.map (·.dig)) w8 hc6 hc8 (wc HRL) (by rw [List.length_map];omega) hr6 hr8;rw [List.length_map]at hAD;have HAD:=sqH hAD;clear hAD ho8 hb8 hrow8 hr6 hr8
    refine wL ?_;intros;refine HAD.o.mono ?_;rintro e_ w9 ⟨v9,N9,rfl,hN9,hNl,ho9,hb9⟩;dsimp only;obtain rfl:=hN9.uni (L:=rest++(qU q.data).1.map (·.dig)) (fun x=>List.mem_append.symm);obtain⟨A9,c9,rfl,_,_⟩:=Rd.of_own' ho9;have hrow:=zb ho9 hgr8.size;have sw:=sw8.below hb9;have hgr:=zQ hgr8 hb9;clear sw8 hgr8 ho9 hb9 HSW HGR HRW HBL HAD hN9 hNl;obtain⟨f0,f1,f2,f3⟩:=sqF4 sw.r;obtain⟨y0,y1,y2,y3⟩:=sqC4 sw.r;obtain⟨g0,g1,g2⟩:=sqF3 sw.d;obtain⟨x0,x1,x2⟩:=sqC3 sw.d;obtain⟨s0,s1,s2,s3⟩:=sqC4 sw.s;obtain⟨hF1,hF2,hF3,hF4,hF5⟩:=sqJ5 (qV (h:=H+1+1+1) (u0:= aA (aG ⟨q1,0,aF⟩) s.aI.length s.aI.length) (u1:= aA (aG ⟨q2,0,aF⟩) s.aJ.length s.aJ.length) (u2:= aB aC s.aL) (u3:= aB aC s.aK) (x0:= aB aC 1) (x1:=(aA A9 (uni (rest++(qU q.data).1.map (·.dig))).length c9)) (x2:= aD ⟨#[]⟩) sw.r wu) (qW (g:=H+1+1) (u0:= aA (aG ⟨q1,0,aF⟩) s.aI.length s.aI.length) (u1:= aA (aG ⟨q2,0,aF⟩) s.aJ.length s.aJ.length) (u2:= aB aC s.aL) (u3:= aB aC s.aK) (x0:= aB aC 1) (x1:=(aA A9 (uni (rest++(qU q.data).1.map (·.dig))).length c9)) (x2:= aD ⟨#[]⟩) sw.d wu) (qE (u0:= aA (aG ⟨q1,0,aF⟩) s.aI.length s.aI.length) (u1:= aA (aG ⟨q2,0,aF⟩) s.aJ.length s.aJ.length) (u2:= aB aC s.aL) (u3:= aB aC s.aK) (x0:= aB aC 1) (x1:=(aA A9 (uni (rest++(qU q.data).1.map (·.dig))).length c9)) (x2:= aD ⟨#[]⟩) sw.o (g:=H+1+1) (h:=H+1+1+1) (.inr wu) (.inr wu) (sw.o.nb sw.r aa aa).1 (sw.o.nb sw.r aa aa).2 (sw.o.nb sw.d aa aa).1 (sw.o.nb sw.d aa aa).2) (qS (g:=H+1+1) (h:=H+1+1+1) (u0:= aA (aG ⟨q1,0,aF⟩) s.aI.length s.aI.length) (u1:= aA (aG ⟨q2,0,aF⟩) s.aJ.length s.aJ.length) (u2:= aB aC s.aL) (u3:= aB aC s.aK) (x0:= aB aC 1) (x1:=(aA A9 (uni (rest++(qU q.data).1.map (·.dig))).length c9)) (x2:= aD ⟨#[]⟩) hrow (zf hrow sw.r aa) (zf hrow sw.d aa)) (vd (g:=H+1+1) (h:=H+1+1+1) (u0:= aA (aG ⟨q1,0,aF⟩) s.aI.length s.aI.length) (u1:= aA (aG ⟨q2,0,aF⟩) s.aJ.length s.aJ.length) (u2:= aB aC s.aL) (u3:= aB aC s.aK) (x0:= aB aC 1) (x1:=(aA A9 (uni (rest++(qU q.data).1.map (·.dig))).length c9)) (x2:= aD ⟨#[]⟩) hgr (by rw [<-HH.o];omega) (by rw [<-HH.o];omega));clear sw hrow hgr
    refine wL ?_;intros;refine bodyPost_ret (kJ rfl _ _ (H+1+1) (H+1+1+1) _ _ _ _ _ _ _ _ ac hF1.o underlying38 rfl ww ac hF2.o underlying41 rfl ww) rfl ?_;rw [HM.o];exact⟨_,rfl,hF3.o.mono (fun b hb=> .inl hb),hF4.o,hF5.o⟩
abbrev qv (g n:Nat):Value:= aA (aG ⟨g,0,aF⟩) n n
abbrev z4:ak:= [aA aF 0 0,aA aF 0 0,aB aC 0,aB aC 0]
abbrev z3:ak:= [aB aC 0,aA aF 0 0,aD ⟨#[]⟩]
abbrev ms (s:StoP) (aM:List ai):StoP×ColP:=zU s ⟨1,aM, []⟩
theorem yI {P Q:Prop} (h:Hid P->Q) (p:P):Q:=h (Lib.hid p)
theorem Ul (A:aj) (c:Nat) (B:aj) (d:Nat) (s:StoP) (Ag:aj) (ng:Nat) (cp:ColP) (w:World) (hg:GoodS s) (hr:RdSt w A c B d s) (hp:cp.aN=1) (hat:cp.at_= []) (hgl:cp.aM.length<=1000) (hc:RdC w Ag ng cp) :
  Calls Tryz.prog 99 #[.agg #[aA A s.aI.length c,aA B s.aJ.length d,aB aC s.aL,aB aC s.aK],coV (aA Ag cp.aM.length ng) cp] w fun e w' =>
   ∃v1 v2 v3,e= .returned (.tuple #[stV v1 v2 s,coV v3 (zU s cp).2,aB aC 0])/\OwSt w' w.heap.size v1 v2 (zU s cp).1 (fun b=>b<w.heap.size)/\w'.ownsRow w.heap.size 9 1 v3 (zU s cp).2.aM.length (strs (zU s cp).2.aM)/\Below w.heap.size w w':=by
 obtain⟨aN,aM,at_⟩:=cp;simp only at hp hat hgl;subst hp hat
 have hlb:s.aI.length<=24:=hg.b.len;have hle:s.aJ.length<=10:=hg.e.len;have HGD:=sqH hg;obtain⟨w0,hw0,hS,hC,hR,hD,hb0⟩:=ql w 38 41 [aA A s.aI.length c,aA B s.aJ.length d,aB aC s.aL,aB aC s.aK] [aB aC 1,aA Ag aM.length ng,aD ⟨#[]⟩] [aA aF 0 0,aA aF 0 0,aB aC 0,aB aC 0] [aB aC 0,aA aF 0 0,aD ⟨#[]⟩];have hr0:=hr.below hb0;have hc0:=hc.below hb0;obtain⟨H,hH⟩:=wY w.heap.size
 have HCK:=sqH (zD A c B d s w0 hg hr0);rw [<-hH]at hS hC hR hD hb0 ⊢
 have hHl:H+1+1+1<w0.heap.size:=hD.lt;obtain⟨x0,x1,x2,x3⟩:=sqC4 hS;rw [hw0,hH]at x0 x1 x2 x3;have HPL:=sqH (show ∀b∈s.aI,b.data.length<=1000000 from fun b hb=>by have:=(hg.b.one b hb).2.1;omega);have HQL:=sqH (show ∀x∈s.aJ,x.aP.length<=1000000 from fun x hx=>by have:=(zi (hg.e.one x hx).2.1).1;omega);clear hg hr hc;go_enter func99,ntmps99;go_wp2_with fail;rw [<-hw0,<-hH];have HH:=sqH hH;clear hw0 hH x0 x1 x2 x3;refine wZ HCK.o fun w1 hb1=>?_;dsimp only;have hr1:=hr0.below hb1;have hc1:=hc0.below hb1;have hS1:=hS.below hb1;have hC1:=hC.below hb1;have hR1:=hR.below hb1;have hD1:=hD.below hb1;have hs1:=hb1.size;have hb01:=hb0.trans (hb1.mono wu);have x0:=hC1.c0;clear hr0 hc0 hS hC hR hD hb0 hb1 HCK
 refine wL ?_;intros;clear x0;obtain⟨HSB,HCP,HST,HRD⟩:=sqJ4 (show ∀W,Below w1.heap.size w1 W->(wI W H (aA A s.aI.length c) (aA B s.aJ.length d) (aB aC s.aL) (aB aC s.aK))/\(wH W (H+1) (aB aC 1) (aA Ag aM.length ng) (aD ⟨#[]⟩)) from fun W h=>⟨sqC4 (hS1.below h),sqC3 (hC1.below h)⟩) (fun W (h:Below w1.heap.size w1 W)=>qL A c B d s W wu wu HPL.o HQL.o (hr1.below h)) (fun W base q1 q2 N (ho:OwSt W base _ _ s N) (h:Below w1.heap.size w1 W)=>Jc base q1 q2 Ag ng s ⟨1,aM, []⟩ W N HGD.o rfl rfl hgl ho (hc1.below h)) (show ∀W,Below w1.heap.size w1 W->Arr W (H+1+1) 38 [aA aF 0 0,aA aF 0 0,aB aC 0,aB aC 0]/\Arr W (H+1+1+1) 41 [aB aC 0,aA aF 0 0,aD ⟨#[]⟩] from fun W h=>⟨hR1.below h,hD1.below h⟩);clear hr1 hc1 hS1 hC1 hR1 hD1;apply yI;intro REST;apply yI;intro Rm1;apply yI;intro Rm2;apply yI;intro Rm3;apply yI;intro Rm4;apply yI;intro Rm5;apply yI;intro Rm6;apply yI;intro Rm7;refine ze [9,10] (S:=(fun w'=>(wI w' H (aA A s.aI.length c) (aA B s.aJ.length d) (aB aC s.aL) (aB aC s.aK))/\(wH w' (H+1) (aB aC 1) (aA Ag aM.length ng) (aD ⟨#[]⟩)))) ww ?_ (fun hHeld=> ?_)
 ·exact HSB.o _ (((wo w1)).drew)
 have hB:=((wo w1)).drew;generalize w1.drew=wn0 at *
 refine wS 0 ?_;refine wS 2 ?_;refine za (rs:= [1,7,8]) ww ab ?_;refine z8.cons (o:=_) rfl (fun K hK=> ?_) ?_
 ·
  go_simp;refine(HCP.o wn0 hB).mono ?_;rintro e5 w5 ⟨q1,q2,rfl,ho5,hb5⟩;dsimp only;refine wC hK (HSB.o _ ((wm hB hb5))) (fun W=>Below w1.heap.size w1 W/\OwSt W w1.heap.size (qv q1 s.aI.length) (qv q2 s.aJ.length) s (fun b=>b<w1.heap.size)) ⟨wm hB hb5,(ho5.lower (base':=w1.heap.size) hB.size).mono (N':=(fun b=>b<w1.heap.size)) (fun b hb=>Nat.lt_of_lt_of_le hb hB.size)⟩ fun wn1 hF=> ?_;clear hB hHeld hb5 ho5 hK K;obtain⟨hHeld,hB,ho⟩:=hF
  try simp only [sqP]
  refine za (rs:= [3,7,8]) ww ab ?_;refine z8.cons (o:=_) rfl (fun K hK=> ?_) ?_
  ·
   go_simp;refine(HST.o wn1 _ q1 q2 _ ho hB).mono ?_;rintro e5 w5 ⟨v3,rfl,ho5,hl5,hg5⟩;obtain⟨A3,c3,rfl, -, -⟩:=Rd.of_own' hl5;have hq1:=(ho.b.rwo.blk rfl).1;dsimp only;refine wC hK (HSB.o _ ((hB.grown hg5 hB.size (fun b e=>by cases e;exact hq1)))) (fun W=>Below w1.heap.size w1 W/\OwSt W w1.heap.size (qv q1 s.aI.length) (qv q2 s.aJ.length) (ms s aM).1 (fun b=>b<w1.heap.size)/\W.ownsRow w1.heap.size 9 1 (aA A3 (ms s aM).2.aM.length c3) (ms s aM).2.aM.length (strs (ms s aM).2.aM)) ⟨(hB.grown hg5 hB.size (fun b e=>by cases e;exact hq1)),ho5,(zb hl5 hB.size)⟩ fun wn2 hF=> ?_;clear ho hB hHeld ho5 hl5 hg5 hq1 hK K;obtain⟨hHeld,hB,hm,hl⟩:=hF
   refine wT 4 ?_;refine wT 5 ?_;refine wT 6 ?_;refine za (rs:= [7,8]) ww ab ?_;refine z8.cons (o:=_) rfl (fun K hK=> ?_) ?_
   ·
    obtain⟨g8,hge,hba,hn,hnl,hN⟩:=wG wn2 38 [aA aF 0 0,aA aF 0 0,aB aC 0,aB aC 0] hB.size;go_simp;rw [<-hge];clear hge;refine wC hK (HSB.o _ ((wm hB hba))) (fun W=>Below w1.heap.size w1 W/\Arr W g8 38 [aA aF 0 0,aA aF 0 0,aB aC 0,aB aC 0]/\w1.heap.size<=g8/\OwSt W w1.heap.size (qv q1 s.aI.length) (qv q2 s.aJ.length) (ms s aM).1 (fun b=>b<w1.heap.size\/b=g8)/\W.ownsRow w1.heap.size 9 1 (aA A3 (ms s aM).2.aM.length c3) (ms s aM).2.aM.length (strs (ms s aM).2.aM)) ⟨wm hB hba,hn,hnl,(hm.wider (N':=(fun b=>b<w1.heap.size\/b=g8)) (fun b hb=>hb.elim (fun hb=> .inl hb) (fun hb=> .inr (hN _ hb)))).below hba,zc hl hba⟩ fun wn3 hF=> ?_;clear hl hm hB hHeld hba hn hnl hN hK K;obtain⟨hHeld,hB,h8,h8l,hm,hl⟩:=hF
    try simp only [sqP]
    have hall:=aH hB (aH h8 (aH h8l (aH hm (aH hl hHeld))));clear hHeld hl hm h8l h8 hB;generalize wn3=wz at hall ⊢
    revert hall;revert wz;revert g8;revert c3;revert A3;revert q2;revert q1;exact Rm2.o
   refine z8.cons (o:=_) rfl (fun K hK=> ?_) ?_
   ·
    obtain⟨g9,hge,hba,hn,hnl,hN⟩:=wG wn2 41 [aB aC 0,aA aF 0 0,aD ⟨#[]⟩] hB.size;go_simp;rw [<-hge];clear hge;refine wC hK (HSB.o _ ((wm hB hba))) (fun W=>Below w1.heap.size w1 W/\Arr W g9 41 [aB aC 0,aA aF 0 0,aD ⟨#[]⟩]/\w1.heap.size<=g9/\OwSt W w1.heap.size (qv q1 s.aI.length) (qv q2 s.aJ.length) (ms s aM).1 (fun b=>b<w1.heap.size\/b=g9)/\W.ownsRow w1.heap.size 9 1 (aA A3 (ms s aM).2.aM.length c3) (ms s aM).2.aM.length (strs (ms s aM).2.aM)) ⟨wm hB hba,hn,hnl,(hm.wider (N':=(fun b=>b<w1.heap.size\/b=g9)) (fun b hb=>hb.elim (fun hb=> .inl hb) (fun hb=> .inr (hN _ hb)))).below hba,zc hl hba⟩ fun wn4 hF=> ?_;clear hl hm hB hHeld hba hn hnl hN hK K;obtain⟨hHeld,hB,h9,h9l,hm,hl⟩:=hF
    try simp only [sqP]
    have hall:=aH hB (aH h9 (aH h9l (aH hm (aH hl hHeld))));clear hHeld hl hm h9l h9 hB;generalize wn4=wz at hall ⊢
    revert hall;revert wz;revert g9;revert c3;revert A3;revert q2;revert q1;exact Rm3.o
   exact z8.nil
  refine z8.cons (o:=_) rfl (fun K hK=> ?_) ?_
  ·
   obtain⟨g8,hge,hba,hn,hnl,hN⟩:=wG wn1 38 [aA aF 0 0,aA aF 0 0,aB aC 0,aB aC 0] hB.size;go_simp;rw [<-hge];clear hge;refine wC hK (HSB.o _ ((wm hB hba))) (fun W=>Below w1.heap.size w1 W/\Arr W g8 38 [aA aF 0 0,aA aF 0 0,aB aC 0,aB aC 0]/\w1.heap.size<=g8/\OwSt W w1.heap.size (qv q1 s.aI.length) (qv q2 s.aJ.length) s (fun b=>b<w1.heap.size\/b=g8)) ⟨wm hB hba,hn,hnl,(ho.wider (N':=(fun b=>b<w1.heap.size\/b=g8)) (fun b hb=>hb.elim (fun hb=> .inl hb) (fun hb=> .inr (hN _ hb)))).below hba⟩ fun wn5 hF=> ?_;clear ho hB hHeld hba hn hnl hN hK K;obtain⟨hHeld,hB,h8,h8l,ho⟩:=hF
   try simp only [sqP]
   have hall:=aH hB (aH h8 (aH h8l (aH ho hHeld)));clear hHeld ho h8l h8 hB;generalize wn5=wz at hall ⊢
   revert hall;revert wz;revert g8;revert q2;revert q1;exact Rm5.o
  refine z8.cons (o:=_) rfl (fun K hK=> ?_) ?_
  ·
   obtain⟨g9,hge,hba,hn,hnl,hN⟩:=wG wn1 41 [aB aC 0,aA aF 0 0,aD ⟨#[]⟩] hB.size;go_simp;rw [<-hge];clear hge;refine wC hK (HSB.o _ ((wm hB hba))) (fun W=>Below w1.heap.size w1 W/\Arr W g9 41 [aB aC 0,aA aF 0 0,aD ⟨#[]⟩]/\w1.heap.size<=g9/\OwSt W w1.heap.size (qv q1 s.aI.length) (qv q2 s.aJ.length) s (fun b=>b<w1.heap.size\/b=g9)) ⟨wm hB hba,hn,hnl,(ho.wider (N':=(fun b=>b<w1.heap.size\/b=g9)) (fun b hb=>hb.elim (fun hb=> .inl hb) (fun hb=> .inr (hN _ hb)))).below hba⟩ fun wn6 hF=> ?_;clear ho hB hHeld hba hn hnl hN hK K;obtain⟨hHeld,hB,h9,h9l,ho⟩:=hF
   try simp only [sqP]
   have hall:=aH hB (aH h9 (aH h9l (aH ho hHeld)));clear hHeld ho h9l h9 hB;generalize wn6=wz at hall ⊢
   revert hall;revert wz;revert g9;revert q2;revert q1;exact Rm6.o
  exact z8.nil
 refine z8.cons (o:=_) rfl (fun K hK=> ?_) ?_
 ·
  obtain⟨g8,hge,hba,hn,hnl,hN⟩:=wG wn0 38 [aA aF 0 0,aA aF 0 0,aB aC 0,aB aC 0] hB.size;go_simp;rw [<-hge];clear hge;refine wC hK (HSB.o _ ((wm hB hba))) (fun W=>Below w1.heap.size w1 W/\Arr W g8 38 [aA aF 0 0,aA aF 0 0,aB aC 0,aB aC 0]/\w1.heap.size<=g8) ⟨wm hB hba,hn,hnl⟩ fun wn7 hF=> ?_;clear hB hHeld hba hn hnl hN hK K;obtain⟨hHeld,hB,h8,h8l⟩:=hF
  try simp only [sqP]
  refine za (rs:= [1,8]) ww ab ?_;refine z8.cons (o:=_) rfl (fun K hK=> ?_) ?_
  ·
   go_simp;refine(HCP.o wn7 hB).mono ?_;rintro e5 w5 ⟨q1,q2,rfl,ho5,hb5⟩;dsimp only;refine wC hK (HSB.o _ ((wm hB hb5))) (fun W=>Below w1.heap.size w1 W/\Arr W g8 38 [aA aF 0 0,aA aF 0 0,aB aC 0,aB aC 0]/\w1.heap.size<=g8/\OwSt W w1.heap.size (qv q1 s.aI.length) (qv q2 s.aJ.length) s (fun b=>b<w1.heap.size\/b=g8)) ⟨wm hB hb5,h8.below hb5,h8l,(ho5.lower (base':=w1.heap.size) hB.size).mono (N':=(fun b=>b<w1.heap.size\/b=g8)) (fun b hb=>hb.elim (fun hb=>Nat.lt_of_lt_of_le hb hB.size) (fun hb=>(by rw [hb];exact h8.lt)))⟩ fun wn8 hF=> ?_;clear h8l h8 hB hHeld hb5 ho5 hK K;obtain⟨hHeld,hB,h8,h8l,ho⟩:=hF
   try simp only [sqP]
   exact Rm5.o q1 q2 g8 wn8 ⟨hB,h8,h8l,ho,hHeld⟩
  refine z8.cons (o:=_) rfl (fun K hK=> ?_) ?_
  ·
   obtain⟨g9,hge,hba,hn,hnl,hN⟩:=wG wn7 41 [aB aC 0,aA aF 0 0,aD ⟨#[]⟩] hB.size;go_simp;rw [<-hge];clear hge;refine wC hK (HSB.o _ ((wm hB hba))) (fun W=>Below w1.heap.size w1 W/\Arr W g8 38 [aA aF 0 0,aA aF 0 0,aB aC 0,aB aC 0]/\w1.heap.size<=g8/\Arr W g9 41 [aB aC 0,aA aF 0 0,aD ⟨#[]⟩]/\w1.heap.size<=g9/\g8≠g9) (by exact⟨wm hB hba,h8.below hba,h8l,hn,hnl,(fun e=>Nat.lt_irrefl _ (by have h1:=h8.lt;rw [e]at h1;exact Nat.lt_of_lt_of_le h1 (hN _ rfl)))⟩) fun wn9 hF=> ?_;clear h8l h8 hB hHeld hba hn hnl hN hK K;obtain⟨hHeld,hB,h8,h8l,h9,h9l,h89n⟩:=hF
   try simp only [sqP]
   have hall:=aH hB (aH h8 (aH h8l (aH h9 (aH h9l (aH h89n hHeld)))));clear hHeld h89n h9l h9 h8l h8 hB;generalize wn9=wz at hall ⊢
   revert hall;revert wz;revert g9;revert g8;exact Rm7.o
  exact z8.nil
 refine z8.cons (o:=_) rfl (fun K hK=> ?_) ?_
 ·
  obtain⟨g9,hge,hba,hn,hnl,hN⟩:=wG wn0 41 [aB aC 0,aA aF 0 0,aD ⟨#[]⟩] hB.size;go_simp;rw [<-hge];clear hge;refine wC hK (HSB.o _ ((wm hB hba))) (fun W=>Below w1.heap.size w1 W/\Arr W g9 41 [aB aC 0,aA aF 0 0,aD ⟨#[]⟩]/\w1.heap.size<=g9) ⟨wm hB hba,hn,hnl⟩ fun wn10 hF=> ?_;clear hB hHeld hba hn hnl hN hK K;obtain⟨hHeld,hB,h9,h9l⟩:=hF
  try simp only [sqP]
  refine za (rs:= [1,7]) ww ab ?_;refine z8.cons (o:=_) rfl (fun K hK=> ?_) ?_
  ·
   go_simp;refine(HCP.o wn10 hB).mono ?_;rintro e5 w5 ⟨q1,q2,rfl,ho5,hb5⟩;dsimp only;refine wC hK (HSB.o _ ((wm hB hb5))) (fun W=>Below w1.heap.size w1 W/\Arr W g9 41 [aB aC 0,aA aF 0 0,aD ⟨#[]⟩]/\w1.heap.size<=g9/\OwSt W w1.heap.size (qv q1 s.aI.length) (qv q2 s.aJ.length) s (fun b=>b<w1.heap.size\/b=g9)) ⟨wm hB hb5,h9.below hb5,h9l,(ho5.lower (base':=w1.heap.size) hB.size).mono (N':=(fun b=>b<w1.heap.size\/b=g9)) (fun b hb=>hb.elim (fun hb=>Nat.lt_of_lt_of_le hb hB.size) (fun hb=>(by rw [hb];exact h9.lt)))⟩ fun wn11 hF=> ?_;clear h9l h9 hB hHeld hb5 ho5 hK K;obtain⟨hHeld,hB,h9,h9l,ho⟩:=hF
   try simp only [sqP]
   exact Rm6.o q1 q2 g9 wn11 ⟨hB,h9,h9l,ho,hHeld⟩
  refine z8.cons (o:=_) rfl (fun K hK=> ?_) ?_
  ·
   obtain⟨g8,hge,hba,hn,hnl,hN⟩:=wG wn10 38 [aA aF 0 0,aA aF 0 0,aB aC 0,aB aC 0] hB.size;go_simp;rw [<-hge];clear hge;refine wC hK (HSB.o _ ((wm hB hba))) (fun W=>Below w1.heap.size w1 W/\Arr W g8 38 [aA aF 0 0,aA aF 0 0,aB aC 0,aB aC 0]/\w1.heap.size<=g8/\Arr W g9 41 [aB aC 0,aA aF 0 0,aD ⟨#[]⟩]/\w1.heap.size<=g9/\g8≠g9) (by exact⟨wm hB hba,hn,hnl,h9.below hba,h9l,(fun e=>Nat.lt_irrefl _ (by have h1:=h9.lt;rw [<-e]at h1;exact Nat.lt_of_lt_of_le h1 (hN _ rfl)))⟩) fun wn12 hF=> ?_;clear h9l h9 hB hHeld hba hn hnl hN hK K;obtain⟨hHeld,hB,h8,h8l,h9,h9l,h89n⟩:=hF
   try simp only [sqP]
   exact Rm7.o g8 g9 wn12 ⟨hB,h8,h8l,h9,h9l,h89n,hHeld⟩
  exact z8.nil
 exact z8.nil;intro g8 g9 wRm7 hall;obtain⟨hB,h8,h8l,h9,h9l,h89n,hHeld⟩:=hall;refine za (rs:= [1]) ww ab ?_;refine z8.cons (o:=_) rfl (fun K hK=> ?_) ?_
 ·
  go_simp;refine(HCP.o wRm7 hB).mono ?_;rintro e5 w5 ⟨q1,q2,rfl,ho5,hb5⟩;dsimp only;refine wC hK (HSB.o _ ((wm hB hb5))) (fun W=>Below w1.heap.size w1 W/\Arr W g8 38 [aA aF 0 0,aA aF 0 0,aB aC 0,aB aC 0]/\w1.heap.size<=g8/\Arr W g9 41 [aB aC 0,aA aF 0 0,aD ⟨#[]⟩]/\w1.heap.size<=g9/\g8≠g9/\OwSt W w1.heap.size (qv q1 s.aI.length) (qv q2 s.aJ.length) s (fun b=>b<w1.heap.size\/b=g8\/b=g9)) ⟨wm hB hb5,h8.below hb5,h8l,h9.below hb5,h9l,h89n,(ho5.lower (base':=w1.heap.size) hB.size).mono (N':=(fun b=>b<w1.heap.size\/b=g8\/b=g9)) (fun b hb=>hb.elim (fun hb=>Nat.lt_of_lt_of_le hb hB.size) (fun hb=>hb.elim (fun hb=>by rw [hb];exact h8.lt) (fun hb=>(by rw [hb];exact h9.lt))))⟩ fun wn13 hF=> ?_;clear h89n h9l h9 h8l h8 hB hHeld hb5 ho5 hK K;obtain⟨hHeld,hB,h8,h8l,h9,h9l,h89n,ho⟩:=hF
  try simp only [sqP]
  have hall:=aH hB (aH h8 (aH h8l (aH h9 (aH h9l (aH h89n (aH ho hHeld))))));clear hHeld ho h89n h9l h9 h8l h8 hB;generalize wn13=wz at hall ⊢
  revert hall;revert wz;revert g9;revert g8;revert q2;revert q1;exact Rm4.o
 exact z8.nil;intro q1 q2 g9 wRm6 hall;obtain⟨hB,h9,h9l,ho,hHeld⟩:=hall;refine za (rs:= [3,7]) ww ab ?_;refine z8.cons (o:=_) rfl (fun K hK=> ?_) ?_
 ·
  go_simp;refine(HST.o wRm6 _ q1 q2 _ ho hB).mono ?_;rintro e5 w5 ⟨v3,rfl,ho5,hl5,hg5⟩;obtain⟨A3,c3,rfl, -, -⟩:=Rd.of_own' hl5;have hq1:=(ho.b.rwo.blk rfl).1;dsimp only;refine wC hK (HSB.o _ ((hB.grown hg5 hB.size (fun b e=>by cases e;exact hq1)))) (fun W=>Below w1.heap.size w1 W/\Arr W g9 41 [aB aC 0,aA aF 0 0,aD ⟨#[]⟩]/\w1.heap.size<=g9/\OwSt W w1.heap.size (qv q1 s.aI.length) (qv q2 s.aJ.length) (ms s aM).1 (fun b=>b<w1.heap.size\/b=g9)/\W.ownsRow w1.heap.size 9 1 (aA A3 (ms s aM).2.aM.length c3) (ms s aM).2.aM.length (strs (ms s aM).2.aM)) ⟨(hB.grown hg5 hB.size (fun b e=>by cases e;exact hq1)),(h9.grown hg5 (fun e=>(ho.nb h9 aa aa).1 (by simpa [Value.ownBlock] using e))),h9l,ho5,(zb hl5 hB.size)⟩ fun wn14 hF=> ?_;clear ho h9l h9 hB hHeld ho5 hl5 hg5 hq1 hK K;obtain⟨hHeld,hB,h9,h9l,hm,hl⟩:=hF
  refine wT 4 ?_;refine wT 5 ?_;refine wT 6 ?_;exact Rm3.o q1 q2 A3 c3 g9 wn14 ⟨hB,h9,h9l,hm,hl,hHeld⟩
 refine z8.cons (o:=_) rfl (fun K hK=> ?_) ?_
 ·
  obtain⟨g8,hge,hba,hn,hnl,hN⟩:=wG wRm6 38 [aA aF 0 0,aA aF 0 0,aB aC 0,aB aC 0] hB.size;go_simp;rw [<-hge];clear hge;refine wC hK (HSB.o _ ((wm hB hba))) (fun W=>Below w1.heap.size w1 W/\Arr W g8 38 [aA aF 0 0,aA aF 0 0,aB aC 0,aB aC 0]/\w1.heap.size<=g8/\Arr W g9 41 [aB aC 0,aA aF 0 0,aD ⟨#[]⟩]/\w1.heap.size<=g9/\g8≠g9/\OwSt W w1.heap.size (qv q1 s.aI.length) (qv q2 s.aJ.length) s (fun b=>b<w1.heap.size\/b=g8\/b=g9)) (by exact⟨wm hB hba,hn,hnl,h9.below hba,h9l,(fun e=>Nat.lt_irrefl _ (by have h1:=h9.lt;rw [<-e]at h1;exact Nat.lt_of_lt_of_le h1 (hN _ rfl))),(ho.wider (N':=(fun b=>b<w1.heap.size\/b=g8\/b=g9)) (fun b hb=>hb.elim (fun hb=> .inl (.inl hb)) (fun hb=>hb.elim (fun hb=> .inr (hN _ hb)) (fun hb=> .inl (.inr hb))))).below hba⟩) fun wn15 hF=> ?_;clear ho h9l h9 hB hHeld hba hn hnl hN hK K;obtain⟨hHeld,hB,h8,h8l,h9,h9l,h89n,ho⟩:=hF
  try simp only [sqP]
  exact Rm4.o q1 q2 g8 g9 wn15 ⟨hB,h8,h8l,h9,h9l,h89n,ho,hHeld⟩
 exact z8.nil;intro q1 q2 g8 wRm5 hall;obtain⟨hB,h8,h8l,ho,hHeld⟩:=hall;refine za (rs:= [3,8]) ww ab ?_;refine z8.cons (o:=_) rfl (fun K hK=> ?_) ?_
 ·
  go_simp;refine(HST.o wRm5 _ q1 q2 _ ho hB).mono ?_;rintro e5 w5 ⟨v3,rfl,ho5,hl5,hg5⟩;obtain⟨A3,c3,rfl, -, -⟩:=Rd.of_own' hl5;have hq1:=(ho.b.rwo.blk rfl).1;dsimp only;refine wC hK (HSB.o _ ((hB.grown hg5 hB.size (fun b e=>by cases e;exact hq1)))) (fun W=>Below w1.heap.size w1 W/\Arr W g8 38 [aA aF 0 0,aA aF 0 0,aB aC 0,aB aC 0]/\w1.heap.size<=g8/\OwSt W w1.heap.size (qv q1 s.aI.length) (qv q2 s.aJ.length) (ms s aM).1 (fun b=>b<w1.heap.size\/b=g8)/\W.ownsRow w1.heap.size 9 1 (aA A3 (ms s aM).2.aM.length c3) (ms s aM).2.aM.length (strs (ms s aM).2.aM)) ⟨(hB.grown hg5 hB.size (fun b e=>by cases e;exact hq1)),(h8.grown hg5 (fun e=>(ho.nb h8 aa aa).1 (by simpa [Value.ownBlock] using e))),h8l,ho5,(zb hl5 hB.size)⟩ fun wn16 hF=> ?_;clear ho h8l h8 hB hHeld ho5 hl5 hg5 hq1 hK K;obtain⟨hHeld,hB,h8,h8l,hm,hl⟩:=hF
  refine wT 4 ?_;refine wT 5 ?_;refine wT 6 ?_;exact Rm2.o q1 q2 A3 c3 g8 wn16 ⟨hB,h8,h8l,hm,hl,hHeld⟩
 refine z8.cons (o:=_) rfl (fun K hK=> ?_) ?_
 ·
  obtain⟨g9,hge,hba,hn,hnl,hN⟩:=wG wRm5 41 [aB aC 0,aA aF 0 0,aD ⟨#[]⟩] hB.size;go_simp;rw [<-hge];clear hge;refine wC hK (HSB.o _ ((wm hB hba))) (fun W=>Below w1.heap.size w1 W/\Arr W g8 38 [aA aF 0 0,aA aF 0 0,aB aC 0,aB aC 0]/\w1.heap.size<=g8/\Arr W g9 41 [aB aC 0,aA aF 0 0,aD ⟨#[]⟩]/\w1.heap.size<=g9/\g8≠g9/\OwSt W w1.heap.size (qv q1 s.aI.length) (qv q2 s.aJ.length) s (fun b=>b<w1.heap.size\/b=g8\/b=g9)) (by exact⟨wm hB hba,h8.below hba,h8l,hn,hnl,(fun e=>Nat.lt_irrefl _ (by have h1:=h8.lt;rw [e]at h1;exact Nat.lt_of_lt_of_le h1 (hN _ rfl))),(ho.wider (N':=(fun b=>b<w1.heap.size\/b=g8\/b=g9)) (fun b hb=>hb.elim (fun hb=> .inl (.inl hb)) (fun hb=>hb.elim (fun hb=> .inl (.inr hb)) (fun hb=> .inr (hN _ hb))))).below hba⟩) fun wn17 hF=> ?_;clear ho h8l h8 hB hHeld hba hn hnl hN hK K;obtain⟨hHeld,hB,h8,h8l,h9,h9l,h89n,ho⟩:=hF
  try simp only [sqP]
  exact Rm4.o q1 q2 g8 g9 wn17 ⟨hB,h8,h8l,h9,h9l,h89n,ho,hHeld⟩
 exact z8.nil;intro q1 q2 g8 g9 wRm4 hall;obtain⟨hB,h8,h8l,h9,h9l,h89n,ho,hHeld⟩:=hall;refine za (rs:= [3]) ww ab ?_;refine z8.cons (o:=_) rfl (fun K hK=> ?_) ?_
 ·
  go_simp;refine(HST.o wRm4 _ q1 q2 _ ho hB).mono ?_;rintro e5 w5 ⟨v3,rfl,ho5,hl5,hg5⟩;obtain⟨A3,c3,rfl, -, -⟩:=Rd.of_own' hl5;have hq1:=(ho.b.rwo.blk rfl).1;dsimp only;refine wC hK (HSB.o _ ((hB.grown hg5 hB.size (fun b e=>by cases e;exact hq1)))) (fun W=>Below w1.heap.size w1 W/\Arr W g8 38 [aA aF 0 0,aA aF 0 0,aB aC 0,aB aC 0]/\w1.heap.size<=g8/\Arr W g9 41 [aB aC 0,aA aF 0 0,aD ⟨#[]⟩]/\w1.heap.size<=g9/\g8≠g9/\OwSt W w1.heap.size (qv q1 s.aI.length) (qv q2 s.aJ.length) (ms s aM).1 (fun b=>b<w1.heap.size\/b=g8\/b=g9)/\W.ownsRow w1.heap.size 9 1 (aA A3 (ms s aM).2.aM.length c3) (ms s aM).2.aM.length (strs (ms s aM).2.aM)) ⟨(hB.grown hg5 hB.size (fun b e=>by cases e;exact hq1)),(h8.grown hg5 (fun e=>(ho.nb h8 aa aa).1 (by simpa [Value.ownBlock] using e))),h8l,(h9.grown hg5 (fun e=>(ho.nb h9 aa aa).1 (by simpa [Value.ownBlock] using e))),h9l,h89n,ho5,(zb hl5 hB.size)⟩ fun wn18 hF=> ?_;clear ho h89n h9l h9 h8l h8 hB hHeld ho5 hl5 hg5 hq1 hK K;obtain⟨hHeld,hB,h8,h8l,h9,h9l,h89n,hm,hl⟩:=hF
  refine wT 4 ?_;refine wT 5 ?_;refine wT 6 ?_;have hall:=aH hB (aH h8 (aH h8l (aH h9 (aH h9l (aH h89n (aH hm (aH hl hHeld)))))));clear hHeld hl hm h89n h9l h9 h8l h8 hB;generalize wn18=wz at hall ⊢
  revert hall;revert wz;revert g9;revert g8;revert c3;revert A3;revert q2;revert q1;exact Rm1.o
 exact z8.nil;intro q1 q2 A3 c3 g9 wRm3 hall;obtain⟨hB,h9,h9l,hm,hl,hHeld⟩:=hall;refine za (rs:= [7]) ww ab ?_;refine z8.cons (o:=_) rfl (fun K hK=> ?_) ?_
 ·
  obtain⟨g8,hge,hba,hn,hnl,hN⟩:=wG wRm3 38 [aA aF 0 0,aA aF 0 0,aB aC 0,aB aC 0] hB.size;go_simp;rw [<-hge];clear hge;refine wC hK (HSB.o _ ((wm hB hba))) (fun W=>Below w1.heap.size w1 W/\Arr W g8 38 [aA aF 0 0,aA aF 0 0,aB aC 0,aB aC 0]/\w1.heap.size<=g8/\Arr W g9 41 [aB aC 0,aA aF 0 0,aD ⟨#[]⟩]/\w1.heap.size<=g9/\g8≠g9/\OwSt W w1.heap.size (qv q1 s.aI.length) (qv q2 s.aJ.length) (ms s aM).1 (fun b=>b<w1.heap.size\/b=g8\/b=g9)/\W.ownsRow w1.heap.size 9 1 (aA A3 (ms s aM).2.aM.length c3) (ms s aM).2.aM.length (strs (ms s aM).2.aM)) (by exact⟨wm hB hba,hn,hnl,h9.below hba,h9l,(fun e=>Nat.lt_irrefl _ (by have h1:=h9.lt;rw [<-e]at h1;exact Nat.lt_of_lt_of_le h1 (hN _ rfl))),(hm.wider (N':=(fun b=>b<w1.heap.size\/b=g8\/b=g9)) (fun b hb=>hb.elim (fun hb=> .inl (.inl hb)) (fun hb=>hb.elim (fun hb=> .inr (hN _ hb)) (fun hb=> .inl (.inr hb))))).below hba,zc hl hba⟩) fun wn19 hF=> ?_;clear hl hm h9l h9 hB hHeld hba hn hnl hN hK K;obtain⟨hHeld,hB,h8,h8l,h9,h9l,h89n,hm,hl⟩:=hF
  try simp only [sqP]
  exact Rm1.o q1 q2 A3 c3 g8 g9 wn19 ⟨hB,h8,h8l,h9,h9l,h89n,hm,hl,hHeld⟩
 exact z8.nil;intro q1 q2 A3 c3 g8 wRm2 hall;obtain⟨hB,h8,h8l,hm,hl,hHeld⟩:=hall;refine za (rs:= [8]) ww ab ?_;refine z8.cons (o:=_) rfl (fun K hK=> ?_) ?_
 ·
  obtain⟨g9,hge,hba,hn,hnl,hN⟩:=wG wRm2 41 [aB aC 0,aA aF 0 0,aD ⟨#[]⟩] hB.size;go_simp;rw [<-hge];clear hge;refine wC hK (HSB.o _ ((wm hB hba))) (fun W=>Below w1.heap.size w1 W/\Arr W g8 38 [aA aF 0 0,aA aF 0 0,aB aC 0,aB aC 0]/\w1.heap.size<=g8/\Arr W g9 41 [aB aC 0,aA aF 0 0,aD ⟨#[]⟩]/\w1.heap.size<=g9/\g8≠g9/\OwSt W w1.heap.size (qv q1 s.aI.length) (qv q2 s.aJ.length) (ms s aM).1 (fun b=>b<w1.heap.size\/b=g8\/b=g9)/\W.ownsRow w1.heap.size 9 1 (aA A3 (ms s aM).2.aM.length c3) (ms s aM).2.aM.length (strs (ms s aM).2.aM)) (by exact⟨wm hB hba,h8.below hba,h8l,hn,hnl,(fun e=>Nat.lt_irrefl _ (by have h1:=h8.lt;rw [e]at h1;exact Nat.lt_of_lt_of_le h1 (hN _ rfl))),(hm.wider (N':=(fun b=>b<w1.heap.size\/b=g8\/b=g9)) (fun b hb=>hb.elim (fun hb=> .inl (.inl hb)) (fun hb=>hb.elim (fun hb=> .inl (.inr hb)) (fun hb=> .inr (hN _ hb))))).below hba,zc hl hba⟩) fun wn20 hF=> ?_;clear hl hm h8l h8 hB hHeld hba hn hnl hN hK K;obtain⟨hHeld,hB,h8,h8l,h9,h9l,h89n,hm,hl⟩:=hF
  try simp only [sqP]
  exact Rm1.o q1 q2 A3 c3 g8 g9 wn20 ⟨hB,h8,h8l,h9,h9l,h89n,hm,hl,hHeld⟩
 exact z8.nil;intro q1 q2 A3 c3 g8 g9 wRm1 hall;obtain⟨hB,h8,h8l,h9,h9l,h89n,hm,hl,hHeld⟩:=hall;refine za (rs:= [9]) ww ab ?_;refine z8.store (o:=_) rfl ac (fun K hK=> ?_) ?_
 ·
  have hqhm:=hm.nb h8 aa aa;have hqhl:=zf hl h8 aa;obtain⟨z0,f0,z1,f1,z2,f2,z3,f3⟩:=wg h8;go_simp;clear z0 f0 z1 f1 z2 f2 z3 f3;refine wD hK (fun W=>Below w1.heap.size w1 W/\Arr W g8 38 [(qv q1 s.aI.length),(qv q2 s.aJ.length),aB aC s.aL,aB aC s.aK]/\w1.heap.size<=g8/\Arr W g9 41 [aB aC 0,aA aF 0 0,aD ⟨#[]⟩]/\w1.heap.size<=g9/\g8≠g9/\OwSt W w1.heap.size (qv q1 s.aI.length) (qv q2 s.aJ.length) (ms s aM).1 (fun b=>b<w1.heap.size\/b=g8\/b=g9)/\W.ownsRow w1.heap.size 9 1 (aA A3 (ms s aM).2.aM.length c3) (ms s aM).2.aM.length (strs (ms s aM).2.aM)) ⟨((((hB).setCell (p:=⟨g8,0,aF⟩) h8l _).setCell (p:=⟨g8,1,aF⟩) h8l _).setCell (p:=⟨g8,2,aF⟩) h8l _).setCell (p:=⟨g8,3,aF⟩) h8l _,h8.all4 _ _ _ _,h8l,((((h9).other (h89n.symm) _).other (h89n.symm) _).other (h89n.symm) _).other (h89n.symm) _,h9l,h89n,hm.set4N (.inr (.inl rfl)) hqhm.1 hqhm.2 _ _ _ _,qA hl hqhl _ _ _ _⟩ fun wn21 hF=> ?_;clear hl hm h89n h9l h9 h8l h8 hB hHeld;obtain⟨hB,h8,h8l,h9,h9l,h89n,hm,hl⟩:=hF;clear hqhm hqhl;clear hK K
  try simp only [sqP]
  refine wW 10 fun K hK=>?_;have hqhm:=hm.nb h9 aa aa;have hqhl:=zf hl h9 aa;obtain⟨z0,f0,z1,f1,z2,f2⟩:=wh h9;go_simp;clear z0 f0 z1 f1 z2 f2;refine wD hK (fun W=>Below w1.heap.size w1 W/\Arr W g8 38 [(qv q1 s.aI.length),(qv q2 s.aJ.length),aB aC s.aL,aB aC s.aK]/\w1.heap.size<=g8/\Arr W g9 41 [aB aC ((ms s aM).2.aN:Int),(aA A3 (ms s aM).2.aM.length c3),aD ⟨(ms s aM).2.at_.toArray⟩]/\w1.heap.size<=g9/\g8≠g9/\OwSt W w1.heap.size (qv q1 s.aI.length) (qv q2 s.aJ.length) (ms s aM).1 (fun b=>b<w1.heap.size\/b=g8\/b=g9)/\W.ownsRow w1.heap.size 9 1 (aA A3 (ms s aM).2.aM.length c3) (ms s aM).2.aM.length (strs (ms s aM).2.aM)) ⟨(((hB).setCell (p:=⟨g9,0,aF⟩) h9l _).setCell (p:=⟨g9,1,aF⟩) h9l _).setCell (p:=⟨g9,2,aF⟩) h9l _,(((h8).other (h89n) _).other (h89n) _).other (h89n) _,h8l,h9.all3 _ _ _,h9l,h89n,hm.set3N (.inr (.inr rfl)) hqhm.1 hqhm.2 _ _ _,kz hl hqhl _ _ _⟩ fun wn22 hF=> ?_;clear hl hm h89n h9l h9 h8l h8 hB;obtain⟨hB,h8,h8l,h9,h9l,h89n,hm,hl⟩:=hF;clear hqhm hqhl;clear hK K
  try simp only [sqP]
  refine zo ww ?_ _
  try dsimp only [Exit.then]
  have hall:=aH hB (aH h8 (aH h8l (aH h9 (aH h9l (aH h89n (aH hm hl))))));clear hl hm h89n h9l h9 h8l h8 hB;generalize wn22=wz at hall ⊢
  revert hall;revert wz;revert g9;revert g8;revert c3;revert A3;revert q2;revert q1;exact REST.o
 exact z8.nil;intro q1 q2 A3 c3 g8 g9 wz hall;obtain⟨hB,h8,h8l,h9,h9l,h89n,hm,hl⟩:=hall;have ho:=hm.mono (N':=fun b=>b<w1.heap.size) (fun b hb=> .inl hb);have hg8:=h8l;have hg9:=h9l;clear hm h8l h9l h89n;obtain⟨hR,hD⟩:=HRD.o _ hB;obtain⟨f0,f1,f2,f3⟩:=sqF4 hR;obtain⟨y0,y1,y2,y3⟩:=sqC4 hR;obtain⟨e0,e1,e2⟩:=sqF3 hD;obtain⟨x0,x1,x2⟩:=sqC3 hD;obtain⟨s0,s1,s2,s3⟩:=sqC4 h8;obtain⟨t0,t1,t2⟩:=sqC3 h9;have hw1:=hB.size;have n9:¬(g9=H+1+1):=wu;have n8:¬(g8=H+1+1):=wu;have n9':¬(H+1+1=g9):=wu;have n98:g8≠g9:=JC h8 h9 aa;obtain⟨hF1,hF2,hF3,hF4,hF5⟩:=sqJ5 (qV (h:=H+1+1+1) (u0:=qv q1 s.aI.length) (u1:=qv q2 s.aJ.length) (u2:= aB aC s.aL) (u3:= aB aC s.aK) (x0:= aB aC ((ms s aM).2.aN:Int)) (x1:=(aA A3 (ms s aM).2.aM.length c3)) (x2:= aD ⟨(ms s aM).2.at_.toArray⟩) hR wu) (qW (g:=H+1+1) (u0:=qv q1 s.aI.length) (u1:=qv q2 s.aJ.length) (u2:= aB aC s.aL) (u3:= aB aC s.aK) (x0:= aB aC ((ms s aM).2.aN:Int)) (x1:=(aA A3 (ms s aM).2.aM.length c3)) (x2:= aD ⟨(ms s aM).2.at_.toArray⟩) hD wu) (qE (u0:=qv q1 s.aI.length) (u1:=qv q2 s.aJ.length) (u2:= aB aC s.aL) (u3:= aB aC s.aK) (x0:= aB aC ((ms s aM).2.aN:Int)) (x1:=(aA A3 (ms s aM).2.aM.length c3)) (x2:= aD ⟨(ms s aM).2.at_.toArray⟩) ho (g:=H+1+1) (h:=H+1+1+1) wu wu (ho.nb hR aa aa).1 (ho.nb hR aa aa).2 (ho.nb hD aa aa).1 (ho.nb hD aa aa).2) (qS (g:=H+1+1) (h:=H+1+1+1) (u0:=qv q1 s.aI.length) (u1:=qv q2 s.aJ.length) (u2:= aB aC s.aL) (u3:= aB aC s.aK) (x0:= aB aC ((ms s aM).2.aN:Int)) (x1:=(aA A3 (ms s aM).2.aM.length c3)) (x2:= aD ⟨(ms s aM).2.at_.toArray⟩) hl (zf hl hR aa) (zf hl hD aa)) (zL (g:=H+1+1) (h:=H+1+1+1) (u0:=qv q1 s.aI.length) (u1:=qv q2 s.aJ.length) (u2:= aB aC s.aL) (u3:= aB aC s.aK) (x0:= aB aC ((ms s aM).2.aN:Int)) (x1:=(aA A3 (ms s aM).2.aM.length c3)) (x2:= aD ⟨(ms s aM).2.at_.toArray⟩) (hb01.trans (hB.mono (show H<=w1.heap.size by omega))) wu wu);clear hR hD hB ho hl h8 h9 hg8 hg9 HSB HCP HST HRD
 refine wL ?_;intros;go_region
 all_goals dsimp only [Exit.then]
 go_wp2_with fail
 all_goals (refine bodyPost_ret (qc rfl _ _ (H+1+1) (H+1+1+1) _ _ _ _ _ _ _ _ ac (Arr.drew hF1.o) underlying38 rfl ww ac (Arr.drew hF2.o) underlying41 rfl ww) rfl ?_)
 all_goals exact⟨_,_,_,rfl,(hF3.o.drewX.lower (base':=H) wu).mono (fun b hb=>wu),zb (zc hF4.o (Below.refl _ _).drew) wu,hF5.o.drew⟩
end Go.Proofs.YtcjmjaefcjcomaaGreat
