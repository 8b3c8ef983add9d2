/- Lemmas, as stated. -/
import Derived.Test.YtaboknhfiijipaaGreatQT16
set_option linter.unusedVariables false
set_option linter.unusedSimpArgs false
set_option maxRecDepth 100000
set_option maxHeartbeats 16000000
open Go.Proofs.Tryz
open Go.Value renaming slice->ax,int->ay,string->aA
open Go.IntKind renaming i64->az
open Go.Obj renaming cells->aB
open Option renaming none->aC,some->aD
open And renaming intro->aE
namespace Go.Proofs.YtaboknhfiijipaaGreat
open Go.RowKit Go.Maps
variable {c:ColP} {fn:Func} {base n size:Nat} {P:Program} {s:StoP} {p q u:Tmp} {t ty ty2:TypeId} {v v1 v2:Value} {w w0:World} {ys:ag} {N:aj}
theorem qi (w:World) (e1 e2:TypeId) (c1 c2 c3 c4:ag):∃W,W=(((w.alloc (.cells c1.toArray e1)).alloc (.cells c2.toArray e2)).alloc (.cells c3.toArray e1)).alloc (.cells c4.toArray e2)/\Arr W w.heap.size e1 c1/\Arr W (w.heap.size+1) e2 c2/\Arr W (w.heap.size+1+1) e1 c3/\Arr W (w.heap.size+1+1+1) e2 c4/\Below w.heap.size w W:=by
 have b1:=wj w (.cells c1.toArray e1);have b2:=b1.alloc b1.size (.cells c2.toArray e2);have b3:=b2.alloc b2.size (.cells c3.toArray e1);have b4:=b3.alloc b3.size (.cells c4.toArray e2);have a1:=((((Arr.new w e1 c1)).alloc (.cells c2.toArray e2)).alloc (.cells c3.toArray e1)).alloc (.cells c4.toArray e2);have a2:=((Arr.new (w.alloc (.cells c1.toArray e1)) e2 c2).alloc (.cells c3.toArray e1)).alloc (.cells c4.toArray e2);have a3:=(Arr.new ((w.alloc (.cells c1.toArray e1)).alloc (.cells c2.toArray e2)) e1 c3).alloc (.cells c4.toArray e2);have a4:=Arr.new (((w.alloc (.cells c1.toArray e1)).alloc (.cells c2.toArray e2)).alloc (.cells c3.toArray e1)) e2 c4;simp only [World.size_alloc]at a2 a3 a4;exact⟨_,rfl,a1,a2,a3,a4,b4⟩
theorem V0 (w:World) (e1 e2:TypeId) (c1 c3 c4:ag):∃W,W=((w.alloc (.cells c1.toArray e1)).alloc (.cells c3.toArray e1)).alloc (.cells c4.toArray e2)/\Arr W w.heap.size e1 c1/\Arr W (w.heap.size+1) e1 c3/\Arr W (w.heap.size+1+1) e2 c4/\Below w.heap.size w W:=by
 have b1:=wj w (.cells c1.toArray e1);have b3:=b1.alloc b1.size (.cells c3.toArray e1);have b4:=b3.alloc b3.size (.cells c4.toArray e2);have a1:=(((Arr.new w e1 c1)).alloc (.cells c3.toArray e1)).alloc (.cells c4.toArray e2);have a3:=(Arr.new (w.alloc (.cells c1.toArray e1)) e1 c3).alloc (.cells c4.toArray e2);have a4:=Arr.new ((w.alloc (.cells c1.toArray e1)).alloc (.cells c3.toArray e1)) e2 c4;simp only [World.size_alloc]at a3 a4;exact⟨_,rfl,a1,a3,a4,b4⟩
theorem kA (h:fn.results=#[.cell p ty,.cell q ty2]) (tmps:Array Value) (w:World) (g g2:Nat) (t t2:TypeId) (cs cs2:Array Value) (fr fr2:Nat×Nat) (d d2:TypeDesc)
  (hp:tmps.getD p undef= .pointer (aD ⟨g,0,aC⟩)) (hg:w.heap[g]?=aD (.cells cs t fr))
  (hu:P.underlying ty=aD d) (hd:(match d with | .struct _ | .array _ _=>true | _=>false)=true) (hi:(P.info? ty).map (·.size)=aD cs.size)
  (hp2:tmps.getD q undef= .pointer (aD ⟨g2,0,aC⟩)) (hg2:w.heap[g2]?=aD (.cells cs2 t2 fr2))
  (hu2:P.underlying ty2=aD d2) (hd2:(match d2 with | .struct _ | .array _ _=>true | _=>false)=true) (hi2:(P.info? ty2).map (·.size)=aD cs2.size) :
  (results fn tmps).run P w= .ok (.tuple #[.agg cs,.agg cs2]) w:=by
 have hp':tmps[p]?.getD undef= .pointer (aD ⟨g,0,aC⟩):=by simpa using hp
 have hp2':tmps[q]?.getD undef= .pointer (aD ⟨g2,0,aC⟩):=by simpa using hp2
 simp [results,h,hp',hp2',asAddr,run_loadVar_row w g t ty cs fr d hg hu hd hi,run_loadVar_row w g2 t2 ty2 cs2 fr2 d2 hg2 hu2 hd2 hi2]
theorem qc (h:fn.results=#[.cell p ty,.cell q ty2,.tmp u]) (tmps:Array Value) (w:World) (g g2:Nat) (t t2:TypeId) (cs cs2:Array Value) (fr fr2:Nat×Nat) (d d2:TypeDesc)
  (hp:tmps.getD p undef= .pointer (aD ⟨g,0,aC⟩)) (hg:w.heap[g]?=aD (.cells cs t fr))
  (hu:P.underlying ty=aD d) (hd:(match d with | .struct _ | .array _ _=>true | _=>false)=true) (hi:(P.info? ty).map (·.size)=aD cs.size)
  (hp2:tmps.getD q undef= .pointer (aD ⟨g2,0,aC⟩)) (hg2:w.heap[g2]?=aD (.cells cs2 t2 fr2))
  (hu2:P.underlying ty2=aD d2) (hd2:(match d2 with | .struct _ | .array _ _=>true | _=>false)=true) (hi2:(P.info? ty2).map (·.size)=aD cs2.size) :
  (results fn tmps).run P w= .ok (.tuple #[.agg cs,.agg cs2,tmps.getD u undef]) w:=by
 have hp':tmps[p]?.getD undef= .pointer (aD ⟨g,0,aC⟩):=by simpa using hp
 have hp2':tmps[q]?.getD undef= .pointer (aD ⟨g2,0,aC⟩):=by simpa using hp2
 simp [results,h,hp',hp2',asAddr,run_loadVar_row w g t ty cs fr d hg hu hd hi,run_loadVar_row w g2 t2 ty2 cs2 fr2 d2 hg2 hu2 hd2 hi2]
theorem zX {z:Tmp} (h:fn.results=#[.cell p ty,.cell q ty2,.tmp u,.tmp z]) (tmps:Array Value) (w:World) (g g2:Nat) (t t2:TypeId) (cs cs2:Array Value) (fr fr2:Nat×Nat) (d d2:TypeDesc)
  (hp:tmps.getD p undef= .pointer (aD ⟨g,0,aC⟩)) (hg:w.heap[g]?=aD (.cells cs t fr))
  (hu:P.underlying ty=aD d) (hd:(match d with | .struct _ | .array _ _=>true | _=>false)=true) (hi:(P.info? ty).map (·.size)=aD cs.size)
  (hp2:tmps.getD q undef= .pointer (aD ⟨g2,0,aC⟩)) (hg2:w.heap[g2]?=aD (.cells cs2 t2 fr2))
  (hu2:P.underlying ty2=aD d2) (hd2:(match d2 with | .struct _ | .array _ _=>true | _=>false)=true) (hi2:(P.info? ty2).map (·.size)=aD cs2.size) :
  (results fn tmps).run P w= .ok (.tuple #[.agg cs,.agg cs2,tmps.getD u undef,tmps.getD z undef]) w:=by
 have hp':tmps[p]?.getD undef= .pointer (aD ⟨g,0,aC⟩):=by simpa using hp
 have hp2':tmps[q]?.getD undef= .pointer (aD ⟨g2,0,aC⟩):=by simpa using hp2
 simp [results,h,hp',hp2',asAddr,run_loadVar_row w g t ty cs fr d hg hu hd hi,run_loadVar_row w g2 t2 ty2 cs2 fr2 d2 hg2 hu2 hd2 hi2]
abbrev z0v (w:World) (g h:Nat) (u0 u1 u2 u3 x0 x1 x2:Value):World :=
 ((((((w.setCell ⟨g,0,aC⟩ u0).setCell ⟨g,1,aC⟩ u1).setCell ⟨g,2,aC⟩ u2).setCell ⟨g,3,aC⟩ u3).setCell ⟨h,0,aC⟩ x0).setCell ⟨h,1,aC⟩ x1).setCell ⟨h,2,aC⟩ x2
section
variable {w w':World} {g h B:Nat} {e e':TypeId} {u0 u1 u2 u3 x0 x1 x2 a0 a1 a2 a3 b0 b1 b2:Value}
theorem Arr.all3 (hA:Arr w h e' [b0,b1,b2]) (x0 x1 x2:Value):Arr (((w.setCell ⟨h,0,aC⟩ x0).setCell ⟨h,1,aC⟩ x1).setCell ⟨h,2,aC⟩ x2) h e' [x0,x1,x2] :=
 ((hA.set (k:=0) wu x0).set (k:=1) wu x1).set (k:=2) wu x2
theorem qO (hA:Arr w g e [a0,a1,a2,a3]) (hne:g≠h):Arr (z0v w g h u0 u1 u2 u3 x0 x1 x2) g e [u0,u1,u2,u3] :=
 (((hA.all4 u0 u1 u2 u3).other hne x0).other hne x1).other hne x2
theorem qP (hA:Arr w h e' [b0,b1,b2]) (hne:g≠h):Arr (z0v w g h u0 u1 u2 u3 x0 x1 x2) h e' [x0,x1,x2] :=
 ((((hA.other hne.symm u0).other hne.symm u1).other hne.symm u2).other hne.symm u3).all3 x0 x1 x2
theorem qC (ho:OwSt w base v1 v2 s N) (hg:N g) (hh:N h) (h1:v1.ownBlock≠aD g) (h2:v2.ownBlock≠aD g) (h3:v1.ownBlock≠aD h) (h4:v2.ownBlock≠aD h):OwSt (z0v w g h u0 u1 u2 u3 x0 x1 x2) base v1 v2 s N :=
 ((((((ho.setX hg h1 h2 u0).setX hg h1 h2 u1).setX hg h1 h2 u2).setX hg h1 h2 u3).setX hh h3 h4 x0).setX hh h3 h4 x1).setX hh h3 h4 x2
theorem qM {xs:ag} (ho:w.ownsRow base t size v n xs) (h1:v.ownBlock≠aD g) (h2:v.ownBlock≠aD h):(z0v w g h u0 u1 u2 u3 x0 x1 x2).ownsRow base t size v n xs :=
 zd (zd (zd (zd (zd (zd (zd ho h1) h1) h1) h1) h2) h2) h2
theorem zK (hb:Below B w0 w) (hg:B<=g) (hh:B<=h):Below B w0 (z0v w g h u0 u1 u2 u3 x0 x1 x2) :=
 Below.setCell (Below.setCell (Below.setCell (Below.setCell (Below.setCell (Below.setCell (Below.setCell hb hg u0) hg u1) hg u2) hg u3) hh x0) hh x1) hh x2
theorem xO {r:Option Nat} (hb:w0.grownBy w r) (hg:w0.heap.size<=g) (hh:w0.heap.size<=h):w0.grownBy (z0v w g h u0 u1 u2 u3 x0 x1 x2) r :=
 zt (zt (zt (zt (zt (zt (zt hb hg) hg) hg) hg) hh) hh) hh
end
abbrev jL (w:World) (g:Nat) (u0 u1 u2 u3:Value):World:=(((w.setCell ⟨g,0,aC⟩ u0).setCell ⟨g,1,aC⟩ u1).setCell ⟨g,2,aC⟩ u2).setCell ⟨g,3,aC⟩ u3
abbrev z2n (w:World) (g:Nat) (u0 u1 u2:Value):World:=((w.setCell ⟨g,0,aC⟩ u0).setCell ⟨g,1,aC⟩ u1).setCell ⟨g,2,aC⟩ u2
section
variable {w w':World} {g h B:Nat} {e:TypeId} {xs:ag}
theorem Arr.other4 (hA:Arr w h e xs) (hne:h≠g) (u0 u1 u2 u3:Value):Arr (jL w g u0 u1 u2 u3) h e xs:=(((hA.other hne u0).other hne u1).other hne u2).other hne u3
theorem Arr.other3 (hA:Arr w h e xs) (hne:h≠g) (u0 u1 u2:Value):Arr (z2n w g u0 u1 u2) h e xs:=((hA.other hne u0).other hne u1).other hne u2
theorem OwSt.set4N (ho:OwSt w base v1 v2 s N) (hg:N g) (h1:v1.ownBlock≠aD g) (h2:v2.ownBlock≠aD g) (u0 u1 u2 u3:Value):OwSt (jL w g u0 u1 u2 u3) base v1 v2 s N :=
 (((ho.setX hg h1 h2 u0).setX hg h1 h2 u1).setX hg h1 h2 u2).setX hg h1 h2 u3
theorem OwSt.set3N (ho:OwSt w base v1 v2 s N) (hg:N g) (h1:v1.ownBlock≠aD g) (h2:v2.ownBlock≠aD g) (u0 u1 u2:Value):OwSt (z2n w g u0 u1 u2) base v1 v2 s N :=
 ((ho.setX hg h1 h2 u0).setX hg h1 h2 u1).setX hg h1 h2 u2
theorem qt (ho:w.ownsRow base t size v n ys) (h1:v.ownBlock≠aD g) (u0 u1 u2 u3:Value):(jL w g u0 u1 u2 u3).ownsRow base t size v n ys:=zd (zd (zd (zd ho h1) h1) h1) h1
theorem kn (ho:w.ownsRow base t size v n ys) (h1:v.ownBlock≠aD g) (u0 u1 u2:Value):(z2n w g u0 u1 u2).ownsRow base t size v n ys:=zd (zd (zd ho h1) h1) h1
theorem yz (hb:Below B w0 w) (hg:B<=g) (u0 u1 u2 u3:Value):Below B w0 (jL w g u0 u1 u2 u3):=Below.setCell (Below.setCell (Below.setCell (Below.setCell hb hg u0) hg u1) hg u2) hg u3
theorem Kv (hb:Below B w0 w) (hg:B<=g) (u0 u1 u2:Value):Below B w0 (z2n w g u0 u1 u2):=Below.setCell (Below.setCell (Below.setCell hb hg u0) hg u1) hg u2
theorem OwSt.drewX (ho:OwSt w base v1 v2 s N):OwSt w.drew base v1 v2 s N:=ho.below (Below.refl _ _).drew
theorem RwX.own_m {α:Type} {S:Shp α} {w:World} {e:TypeId} {l:List α} (h:RwX S e w base v l N):∃xs,w.ownsRow base e S.size v l.length xs:=by
 obtain⟨ps,_,_,h3,_⟩:=h;exact⟨_,h3⟩
theorem OwSt.nb (ho:OwSt w base v1 v2 s N) (hA:Arr w g e xs) (h1:76≠e) (h2:100≠e):v1.ownBlock≠aD g/\v2.ownBlock≠aD g:=by
 obtain⟨xs1,hx⟩:=ho.b.own_m;obtain⟨xs2,hy⟩:=ho.e.own_m;exact⟨zg hx hA h1,zg hy hA h2⟩
end
structure RdC (w:World) (A:af) (n:Nat) (c:ColP):Prop where
 rd:Rd w 1 A c.aJ.length (strs c.aJ)
 cap:c.aJ.length<=n
 max:n<=maxLen
theorem RdC.below {w':World} {A:af} (h:RdC w A n c) (hb:Below w.heap.size w w'):RdC w' A n c:=⟨h.rd.below hb,h.cap,h.max⟩
theorem RdC.of_own (h:w.ownsRow base 9 1 v c.aJ.length (strs c.aJ)):∃A n,v= ax A c.aJ.length n/\RdC w A n c:=by
 obtain⟨A,n,rfl,hs,_⟩:=Sl.of_own h;exact⟨A,n,rfl,hs.rd,hs.cap,hs.max⟩
abbrev coV (v:Value) (c:ColP):Value:= .agg #[ay az c.aK,v,aA ⟨c.at_.toArray⟩]
def yJ (bl:List BlobP) (k:Nat):List BlobP:=Uw (bl.take k)++bl.drop k
theorem ZF (bl:List BlobP) (k:Nat):(yJ bl k).length=bl.length:=by
 unfold yJ Uw;rw [List.length_append,List.length_map,List.length_take,List.length_drop];omega
theorem KT (bl:List BlobP):yJ bl 0=bl:=by simp [yJ,Uw]
theorem V5 (bl:List BlobP):yJ bl bl.length=Uw bl:=by simp [yJ]
theorem Ux (bl:List BlobP) (k:Nat) (h:k<bl.length) (h':k<(yJ bl k).length):(yJ bl k)[k]=bl[k]:=by
 have e:(yJ bl k)[k]?=bl[k]?:=by
  unfold yJ Uw;rw [List.getElem?_append_right ab];simp only [List.length_map,List.length_take,List.getElem?_drop]
  congr 1;omega
 rw [List.getElem?_eq_getElem h',List.getElem?_eq_getElem h]at e;exact Option.some.inj e
theorem KS (bl:List BlobP) (k:Nat) (h:k<bl.length):(yJ bl k).set k { bl[k] with mark:=false }=yJ bl (k+1):=by
 unfold yJ Uw;have hl:(List.map (fun b:BlobP=> { b with mark:=false }) (bl.take k)).length=k:=by rw [List.length_map,List.length_take];omega
 rw [List.set_append_right _ _ wm,hl,Nat.sub_self,List.take_succ_eq_append_getElem h,List.map_append,List.append_assoc]
 congr 1
 rw [List.drop_eq_getElem_cons h];rfl
theorem OwSt.setB' {g cap i j:Nat} {u:Value} {y:BlobP} (h:OwSt w base (ax (aD ⟨g,0,aC⟩) n cap) v2 s N) (hn:n=s.aF.length) (hi:i<s.aF.length) (hj:j<4)
  (hR:∀W cs,BlobS.R W s.aF[i] cs->BlobS.R W y (cs.set j u)) (hlead:∀b,¬leads b [u]) :
  (∃v0,w.cell? ⟨g,i*4+j,aC⟩=aD v0)/\w.frozen? ⟨g,i*4+j,aC⟩=false /\
   OwSt (w.setCell ⟨g,i*4+j,aC⟩ u) base (ax (aD ⟨g,0,aC⟩) n cap) v2 { s with aF:=s.aF.set i y } N/\w.grownBy (w.setCell ⟨g,i*4+j,aC⟩ u) (aD g):=by
 subst hn;exact h.setB hi hj hR hlead
theorem Vb (A:af) (c:Nat) (B:af) (d:Nat) (s:StoP) (w:World) (hg:GoodS s) (hr:RdSt w A c B d s) :
  Calls Tryz.prog 14 #[.agg #[ax A s.aF.length c,ax B s.aG.length d,ay az s.aI,ay az s.aH]] w fun e w'=>∃v1 v2 v3,e= .returned (.tuple #[stV v1 v2 s,coV v3 (VN s),ay az 0])/\OwSt w' w.heap.size v1 v2 (YE s) (fun b=>b<w.heap.size)/\w'.ownsRow w.heap.size 9 1 v3 (VN s).aJ.length (strs (VN s).aJ)/\Below w.heap.size w w':=by
 have hlb:s.aF.length<=24:=hg.b.len;have hle:s.aG.length<=10:=hg.e.len;have HGD:=sqH hg;obtain⟨w0,hw0,hS,hR,hC,hb0⟩:=V0 w 34 37 [ax A s.aF.length c,ax B s.aG.length d,ay az s.aI,ay az s.aH] [ax aC 0 0,ax aC 0 0,ay az 0,ay az 0] [ay az 0,ax aC 0 0,aA ⟨#[]⟩];have hr0:=hr.below hb0;obtain⟨H,hH⟩:=wV w.heap.size
 obtain⟨HCK,HRD,HSZ⟩:=sqJ3 (zF A c B d s w0 hg hr0) (show ∀W,Below H w W->RdSt W A c B d s from fun W h=>hr.below (hH▸h)) (show ∀W,Below H w W->H<=W.heap.size from fun W h=>hH▸h.size);rw [<-hH]at hS hR hC hb0 ⊢
 have hHc:H+1+1<w0.heap.size:=hC.lt;obtain⟨x0,x1,x2,x3⟩:=sqC4 hS;rw [hw0,hH]at x0 x1 x2 x3;have HPL:=sqH (show ∀b∈s.aF,b.data.length<=1000000 from fun b hb=>by have:=(hg.b.one b hb).2.1;omega);have HQL:=sqH (show ∀x∈s.aG,x.aM.length<=1000000 from fun x hx=>by have:=(zk (hg.e.one x hx).2.1).1;omega);clear hg hr;go_enter func14,ntmps14;go_wp2_with fail;rw [<-hw0,<-hH];have HH:=sqH hH;clear hw0 hH x0 x1 x2 x3;refine wW HCK.o fun w1 hb1=>?_;dsimp only;have hr1:=hr0.below hb1;have hS1:=hS.below hb1;obtain⟨z0,z1,z2,z3⟩:=sqC4 hS1;have HCP:=sqH (qH A c B d s w1 wm wm HPL.o HQL.o hr1);clear hr0 hS1 HCK;go_wp2_with fail;clear z0 z1 z2 z3;refine HCP.o.mono ?_;rintro e_ w3 ⟨q1,q2,rfl,ho3,hb3⟩;dsimp only;have hc3:=wh hb1 hb3;have ho3:=ho3.lower (base':=w0.heap.size) hb1.size;obtain⟨G,hG⟩:=wV w3.heap.size
 have hba:=wj w3 (aB #[ax (aD ⟨q1,0,aC⟩) s.aF.length s.aF.length,ax (aD ⟨q2,0,aC⟩) s.aG.length s.aG.length,ay az s.aI,ay az s.aH] 34);have HXO:=sqH (show Arr (w3.alloc (aB #[ax (aD ⟨q1,0,aC⟩) s.aF.length s.aF.length,ax (aD ⟨q2,0,aC⟩) s.aG.length s.aG.length,ay az s.aI,ay az s.aH] 34)) G 34 [ax (aD ⟨q1,0,aC⟩) s.aF.length s.aF.length,ax (aD ⟨q2,0,aC⟩) s.aG.length s.aG.length,ay az s.aI,ay az s.aH] from by rw [hG];exact Arr.new w3 34 _);have HOW:=sqH (show OwSt (w3.alloc (aB #[ax (aD ⟨q1,0,aC⟩) s.aF.length s.aF.length,ax (aD ⟨q2,0,aC⟩) s.aG.length s.aG.length,ay az s.aI,ay az s.aH] 34)) w0.heap.size (ax (aD ⟨q1,0,aC⟩) s.aF.length s.aF.length) (ax (aD ⟨q2,0,aC⟩) s.aG.length s.aG.length) s (fun b=>b<w0.heap.size\/b=G) from
  (ho3.wider fun b hb=>by
   rcases hb with hb | hb
   ·exact .inl (Nat.lt_of_lt_of_le hb hb1.size)
   ·exact .inr (by rw [hb,hG];exact Nat.le_refl _)).below hba)
 obtain⟨HBK,HGL,HG,HS0,HB0⟩:=sqJ5 (wh hc3 hba) (show w0.heap.size<=G from by rw [hG];exact hc3.size) hG (show ∀W,Below w0.heap.size w0 W->Arr W H 34 [ax A s.aF.length c,ax B s.aG.length d,ay az s.aI,ay az s.aH]/\Arr W (H+1) 34 [ax aC 0 0,ax aC 0 0,ay az 0,ay az 0]/\Arr W (H+1+1) 37 [ay az 0,ax aC 0 0,aA ⟨#[]⟩] from fun W h=>⟨hS.below h,hR.below h,hC.below h⟩) hb0;have b0:=HXO.o.c0;clear hS hR hC hc3 ho3 hb3 hr1 HCP hb0 hG hba hb1;go_wp2_with fail;rw [<-HG.o];generalize (w3.alloc (aB #[ax (aD ⟨q1,0,aC⟩) s.aF.length s.aF.length,ax (aD ⟨q2,0,aC⟩) s.aG.length s.aG.length,ay az s.aI,ay az s.aH] 34))=w4 at *
 clear b0;have hb63:(s.aF.length:Int)<=9223372036854775807:=wm;go_loopg [20] s.aF.length (fun gn i wr=>∃k:Nat,gn=s.aF.length - k/\i= ay az k/\k<=s.aF.length/\Arr wr G 34 [ax (aD ⟨q1,0,aC⟩) s.aF.length s.aF.length,ax (aD ⟨q2,0,aC⟩) s.aG.length s.aG.length,ay az s.aI,ay az s.aH]/\OwSt wr w0.heap.size (ax (aD ⟨q1,0,aC⟩) s.aF.length s.aF.length) (ax (aD ⟨q2,0,aC⟩) s.aG.length s.aG.length) { s with aF:=yJ s.aF k } (fun b=>b<w0.heap.size\/b=G)/\Below w0.heap.size w0 wr)
 case atStart=>exact⟨0,rfl,rfl,wm,HXO.o,by rw [KT];exact HOW.o,HBK.o⟩
 case round =>
  obtain⟨k,hgk,rfl,hk,hX,ho,hbk⟩:=hrel;have HGK:=sqH hgk;clear hgk HXO HOW HBK;by_cases hlt:k<s.aF.length
  rotate_left
  ·obtain rfl:k=s.aF.length:=by omega
   have hlb:decide (s.aF.length<s.aF.length)=false:=wu;rw [V5]at ho;obtain⟨bo,bx,bk⟩:=sqJ3 ho hX hbk;have hGB:=HGL.o;clear ho hX hbk
   refine wH ?_;intros;have bb:=HB0.o.trans (bk.o.mono (show H<=w0.heap.size by omega));obtain⟨bs,br,bc⟩:=HS0.o _ bk.o;have bo:=bo.o;have bx:=bx.o;refine wp_region_held_drew (S:=(fun w'=>(wD w' G (ax (aD ⟨q1,0,aC⟩) s.aF.length s.aF.length) (ax (aD ⟨q2,0,aC⟩) s.aG.length s.aG.length) (ay az s.aI) (ay az s.aH))/\(wD w' H (ax A s.aF.length c) (ax B s.aG.length d) (ay az s.aI) (ay az s.aH)))) wo ?_ (fun hHeld=> ?_)
   ·exact⟨sqC4 (bx.drew),sqC4 (bs.drew)⟩
   have bx:=bx.drew;have bs:=bs.drew;have br:=br.drew;have bc:=bc.drew;have bo:=bo.drewX;have bb:=bb.drew;generalize wr.drew=wn0 at *
   refine wM 0 ?_;refine wM 1 ?_;refine wQ 2 fun K hK=>?_;go_simp;refine(xb A B c d s (s.aI:Int) (s.aH:Int) wn0 HGD.o.rts (HRD.o _ bb)).mono ?_;rintro e5 w5 ⟨v5,L,rfl,hL,hLl,ho5,hb5⟩;obtain rfl:=hL.uni (L:=rts s) (fun x=>Iff.rfl);obtain⟨A5,c5,rfl,_,_⟩:=Rd.of_own' ho5;dsimp only;refine qZ hK ?_ (Below wn0.heap.size wn0) (fun W=>W.ownsRow H 9 1 (ax A5 (uni (rts s)).length c5) (uni (rts s)).length (strs (uni (rts s)))) ?_ ?_ (fun wn1 hHeld hst hnew=> ?_)
   ·(exact⟨sqC4 (bx.below hb5),sqC4 (bs.below hb5)⟩)
   ·(exact hb5)
   ·(exact zb ho5 (HSZ.o _ bb))
   have bx:=bx.below hst;have bs:=bs.below hst;have br:=br.below hst;have bc:=bc.below hst;have bo:=bo.below hst;have bb:=bb.trans (hst.mono (HSZ.o _ bb));have hl:=hnew;clear hnew;clear hst;clear hK K
   refine wM 3 ?_;refine wQ 4 fun K hK=>?_;obtain⟨f0,f1,f2,f3⟩:=sqF4 br;obtain⟨y0,y1,y2,y3⟩:=sqC4 br;go_simp;clear f0 f1 f2 f3 y0 y1 y2 y3;obtain⟨nb1,nb2⟩:=bo.nb br ws ws;have nl:=zg hl br ws;have bx:=bx.other4 (g:=H+1) wm (ax (aD ⟨q1,0,aC⟩) s.aF.length s.aF.length) (ax (aD ⟨q2,0,aC⟩) s.aG.length s.aG.length) (ay az s.aI) (ay az s.aH);have bs:=bs.other4 (g:=H+1) wm (ax (aD ⟨q1,0,aC⟩) s.aF.length s.aF.length) (ax (aD ⟨q2,0,aC⟩) s.aG.length s.aG.length) (ay az s.aI) (ay az s.aH);have bc:=bc.other4 (g:=H+1) wm (ax (aD ⟨q1,0,aC⟩) s.aF.length s.aF.length) (ax (aD ⟨q2,0,aC⟩) s.aG.length s.aG.length) (ay az s.aI) (ay az s.aH);have br:=br.all4 (ax (aD ⟨q1,0,aC⟩) s.aF.length s.aF.length) (ax (aD ⟨q2,0,aC⟩) s.aG.length s.aG.length) (ay az s.aI) (ay az s.aH);have bo:=bo.set4N (g:=H+1) (.inl wm) nb1 nb2 (ax (aD ⟨q1,0,aC⟩) s.aF.length s.aF.length) (ax (aD ⟨q2,0,aC⟩) s.aG.length s.aG.length) (ay az s.aI) (ay az s.aH);have bb:=yz (g:=H+1) bb wm (ax (aD ⟨q1,0,aC⟩) s.aF.length s.aF.length) (ax (aD ⟨q2,0,aC⟩) s.aG.length s.aG.length) (ay az s.aI) (ay az s.aH);have hl:=qt (g:=H+1) hl nl (ax (aD ⟨q1,0,aC⟩) s.aF.length s.aF.length) (ax (aD ⟨q2,0,aC⟩) s.aG.length s.aG.length) (ay az s.aI) (ay az s.aH);refine qZ hK ?_ (fun W=>(Arr W G 34 [(ax (aD ⟨q1,0,aC⟩) s.aF.length s.aF.length),(ax (aD ⟨q2,0,aC⟩) s.aG.length s.aG.length),(ay az s.aI),(ay az s.aH)]/\Arr W H 34 [ax A s.aF.length c,ax B s.aG.length d,(ay az s.aI),(ay az s.aH)]/\Arr W (H+1) 34 [(ax (aD ⟨q1,0,aC⟩) s.aF.length s.aF.length),(ax (aD ⟨q2,0,aC⟩) s.aG.length s.aG.length),(ay az s.aI),(ay az s.aH)]/\Arr W (H+1+1) 37 [ay az 0,ax aC 0 0,aA ⟨#[]⟩])/\OwSt W w0.heap.size (ax (aD ⟨q1,0,aC⟩) s.aF.length s.aF.length) (ax (aD ⟨q2,0,aC⟩) s.aG.length s.aG.length) (YE s) (fun b=>b<w0.heap.size\/b=G)/\Below H w W/\W.ownsRow H 9 1 (ax A5 (uni (rts s)).length c5) (uni (rts s)).length (strs (uni (rts s)))) (fun W=>True) ?_ ?_ (fun wn2 hHeld hF _=> ?_)
   ·exact⟨sqC4 (bx),sqC4 (bs)⟩
   ·exact⟨⟨bx,bs,br,bc⟩,bo,bb,hl⟩
   ·trivial
   clear bx bs br bc bo bb hl nb1 nb2 nl;obtain⟨⟨bx,bs,br,bc⟩,bo,bb,hl⟩:=hF;clear hK K
   try simp only [sqP]
   refine wQ 5 fun K hK=>?_;obtain⟨f0,f1,f2⟩:=sqF3 bc;obtain⟨y0,y1,y2⟩:=sqC3 bc;go_simp;clear f0 f1 f2 y0 y1 y2;obtain⟨nb1,nb2⟩:=bo.nb bc ws ws;have nl:=zg hl bc ws;have bx:=bx.other3 (g:=H+1+1) wm (ay az 1) (ax A5 (uni (rts s)).length c5) (aA ⟨#[]⟩);have bs:=bs.other3 (g:=H+1+1) wm (ay az 1) (ax A5 (uni (rts s)).length c5) (aA ⟨#[]⟩);have br:=br.other3 (g:=H+1+1) wm (ay az 1) (ax A5 (uni (rts s)).length c5) (aA ⟨#[]⟩);have bc:=bc.all3 (ay az 1) (ax A5 (uni (rts s)).length c5) (aA ⟨#[]⟩);have bo:=bo.set3N (g:=H+1+1) (.inl wm) nb1 nb2 (ay az 1) (ax A5 (uni (rts s)).length c5) (aA ⟨#[]⟩);have bb:=Kv (g:=H+1+1) bb wm (ay az 1) (ax A5 (uni (rts s)).length c5) (aA ⟨#[]⟩);have hl:=kn (g:=H+1+1) hl nl (ay az 1) (ax A5 (uni (rts s)).length c5) (aA ⟨#[]⟩);refine qZ hK ?_ (fun W=>(Arr W G 34 [(ax (aD ⟨q1,0,aC⟩) s.aF.length s.aF.length),(ax (aD ⟨q2,0,aC⟩) s.aG.length s.aG.length),(ay az s.aI),(ay az s.aH)]/\Arr W H 34 [ax A s.aF.length c,ax B s.aG.length d,(ay az s.aI),(ay az s.aH)]/\Arr W (H+1) 34 [(ax (aD ⟨q1,0,aC⟩) s.aF.length s.aF.length),(ax (aD ⟨q2,0,aC⟩) s.aG.length s.aG.length),(ay az s.aI),(ay az s.aH)]/\Arr W (H+1+1) 37 [ay az 1,(ax A5 (uni (rts s)).length c5),aA ⟨#[]⟩])/\OwSt W w0.heap.size (ax (aD ⟨q1,0,aC⟩) s.aF.length s.aF.length) (ax (aD ⟨q2,0,aC⟩) s.aG.length s.aG.length) (YE s) (fun b=>b<w0.heap.size\/b=G)/\Below H w W/\W.ownsRow H 9 1 (ax A5 (uni (rts s)).length c5) (uni (rts s)).length (strs (uni (rts s)))) (fun W=>True) ?_ ?_ (fun wn3 hHeld hF _=> ?_)
   ·exact⟨sqC4 (bx),sqC4 (bs)⟩
   ·exact⟨⟨bx,bs,br,bc⟩,bo,bb,hl⟩
   ·trivial
   clear bx bs br bc bo bb hl nb1 nb2 nl;obtain⟨⟨bx,bs,br,bc⟩,bo,bb,hl⟩:=hF;clear hK K
   refine wM 6 ?_;refine wpAnyH_done wo ?_ _;dsimp only [Exit.then];clear hHeld;go_wp2_with fail;refine bodyPost_ret (qc rfl _ _ (H+1) (H+1+1) _ _ _ _ _ _ _ _ ww br underlying34 rfl wo ww bc underlying37 rfl wo) rfl ?_;exact⟨_,_,_,rfl,(bo.lower (base':=H) wm).mono (fun b hb=> .inl wm),hl,bb⟩
  have hlb:decide (k<s.aF.length)=true:=decide_eq_true hlt;have hk0:=wY k
  have hk1:(k:Int)<(s.aF.length:Int):=wm;have hkl:k<(yJ s.aF k).length:=by rw [ZF];exact hlt
  have h5:=ho.setB' (i:=k) (j:=3) (y:= { s.aF[k] with mark:=false }) (u:= .bool false) (ZF s.aF k).symm hkl wm (fun W cs h=>by
   rw [Ux s.aF k hlt hkl]at h;exact vL _ false W cs h) (kI false)
  obtain⟨⟨v0,c3⟩,f3,ho2,hg2⟩:=h5;have hsu:=KS s.aF k hlt;have HO2:=sqH (show OwSt (wr.setCell ⟨q1,k*4+3,aC⟩ (.bool false)) w0.heap.size (ax (aD ⟨q1,0,aC⟩) s.aF.length s.aF.length) (ax (aD ⟨q2,0,aC⟩) s.aG.length s.aG.length) { s with aF:=yJ s.aF (k+1) } (fun b=>b<w0.heap.size\/b=G) from by rw [<-hsu];exact ho2);have hne:(ax (aD ⟨q1,0,aC⟩) s.aF.length s.aF.length).ownBlock≠aD G:=(ho.nb hX ws ws).1;have hX2:=hX.grown hg2 hne;have hbk2:=hbk.grown hg2 hbk.size (fun b e=>by cases e;exact(ho.b.rwo.blk rfl).1);have HX2:=sqH hX2;have HBK2:=sqH hbk2;have x0:=hX.c0;have HKL:=sqH hlt;clear hsu ho2 hg2 hne ho hX hX2 hbk hbk2 hkl;go_wp2_with fail;go_roundg (s.aF.length - (k+1))
  case measure=>have:=HGK.o;have:=HKL.o;omega
  case rel=>exact⟨k+1,rfl,by go_num,by have:=HKL.o;omega,HX2.o,HO2.o,HBK2.o⟩
structure StpW (W:World) (H base:Nat) (v1 v2:Value) (r k:Nat) (t:StoP) (cc:ag) (N:aj):Prop where
 s:Arr W H 34 [v1,v2,ay az r,ay az k]
 c:Arr W (H+1) 37 cc
 r:Arr W (H+1+1) 34 [ax aC 0 0,ax aC 0 0,ay az 0,ay az 0]
 d:Arr W (H+1+1+1) 37 [ay az 0,ax aC 0 0,aA ⟨#[]⟩]
 o:OwSt W base v1 v2 t (fun b=>N b\/(H<=b/\b<=H+3))
theorem StpW.below {W W':World} {H r k:Nat} {t:StoP} {cc:ag} (h:StpW W H base v1 v2 r k t cc N) (hb:Below W.heap.size W W'):StpW W' H base v1 v2 r k t cc N :=
 ⟨h.s.below hb,h.c.below hb,h.r.below hb,h.d.below hb,h.o.below hb⟩
theorem z1k (r:Option Nat):∃z ee:Int,xf r= .tuple #[ay az z,ay az ee]/\((r=aC/\ee=5)\/∃i,r=aD i/\z=(i:Int)/\ee=0):=by
 cases r with
 | none=>exact⟨0,5,rfl,.inl ⟨rfl,rfl⟩⟩
 | some i=>exact⟨_,_,rfl,.inr ⟨i,rfl,rfl,rfl⟩⟩
theorem Uh (base q1 q2:Nat) (Ag:af) (ng:Nat) (s:StoP) (c:ColP) (w:World) (N:aj) (hg:GoodS s) (hp:c.aK=1) (hat:c.at_= []) (hgl:c.aJ.length<=1000)
  (ho:OwSt w base (ax (aD ⟨q1,0,aC⟩) s.aF.length s.aF.length) (ax (aD ⟨q2,0,aC⟩) s.aG.length s.aG.length) s N) (hc:RdC w Ag ng c) :
  Calls Tryz.prog 86 #[stV (ax (aD ⟨q1,0,aC⟩) s.aF.length s.aF.length) (ax (aD ⟨q2,0,aC⟩) s.aG.length s.aG.length) s,coV (ax Ag c.aJ.length ng) c] w fun e w' =>
   ∃v3,e= .returned (.tuple #[stV (ax (aD ⟨q1,0,aC⟩) s.aF.length s.aF.length) (ax (aD ⟨q2,0,aC⟩) s.aG.length s.aG.length) s,coV v3 (zS s c).2]) /\
    OwSt w' base (ax (aD ⟨q1,0,aC⟩) s.aF.length s.aF.length) (ax (aD ⟨q2,0,aC⟩) s.aG.length s.aG.length) (zS s c).1 N/\w'.ownsRow w.heap.size 9 1 v3 (zS s c).2.aJ.length (strs (zS s c).2.aJ)/\w.grownBy w' (aD q1):=by
 have hlb:s.aF.length<=24:=hg.b.len;have HGD:=sqH hg;have HMW:=sqH (kq s c);obtain⟨aK,aJ,at_⟩:=c;simp only at hp hat hgl;subst hp hat
 obtain⟨w0,hw0,hS,hC,hR,hD,hb0⟩:=qi w 34 37 [ax (aD ⟨q1,0,aC⟩) s.aF.length s.aF.length,ax (aD ⟨q2,0,aC⟩) s.aG.length s.aG.length,ay az s.aI,ay az s.aH] [ay az 1,ax Ag aJ.length ng,aA ⟨#[]⟩] [ax aC 0 0,ax aC 0 0,ay az 0,ay az 0] [ay az 0,ax aC 0 0,aA ⟨#[]⟩];have hrg:=hc.rd.below hb0;have hgc:=hc.cap;have hgm:=hc.max;simp only at hrg hgc hgm;have ho0:=(ho.wider (N':=fun b=>N b\/(w.heap.size<=b/\b<=w.heap.size+3)) (fun b hb=>hb.imp id (fun e=>e.1))).below hb0;have hq1:q1<w.heap.size:=(ho.b.rwo.blk rfl).2;have HOO:=sqH ho;obtain⟨H,hH⟩:=wV w.heap.size
 rw [<-hH]at hS hC hR hD ho0 hq1;have x0:=hC.c1;obtain⟨x1,x2,x3,x4⟩:=sqC4 hS;have sw:StpW w0 H base (ax (aD ⟨q1,0,aC⟩) s.aF.length s.aF.length) (ax (aD ⟨q2,0,aC⟩) s.aG.length s.aG.length) s.aI s.aH s [ay az 1,ax Ag aJ.length ng,aA ⟨#[]⟩] N:=⟨hS,hC,hR,hD,ho0⟩
 have hgr:w.grownBy w0 (aD q1):=kv hb0;rw [hw0,hH]at x0 x1 x2 x3 x4;clear hg hc hS hC hR hD ho0 hb0 ho;have HH:=sqH hH;cases aJ with
 | nil =>
  obtain⟨_,HM⟩:_/\Hid (zS s ⟨1, [], []⟩=(s,⟨2, [], []⟩)):=⟨trivial,Lib.hid rfl⟩
  rw [HM.o];simp only [List.length_nil] at *
  clear x0 x1 x2 x3 x4 hw0 hrg sw hgr;obtain⟨W,hW,_,_,hR,hD,hb⟩:=qi w 34 37 [ax (aD ⟨q1,0,aC⟩) s.aF.length s.aF.length,ax (aD ⟨q2,0,aC⟩) s.aG.length s.aG.length,ay az s.aI,ay az s.aH] [ay az 1,ax Ag 0 ng,aA ⟨#[]⟩] [ax (aD ⟨q1,0,aC⟩) s.aF.length s.aF.length,ax (aD ⟨q2,0,aC⟩) s.aG.length s.aG.length,ay az s.aI,ay az s.aH] [ay az 2,ax aC 0 0,aA ⟨#[]⟩];go_enter func86,ntmps86
  refine wH ?_;intros;rw [<-hW];refine bodyPost_ret (kA rfl _ _ (w.heap.size+1+1) (w.heap.size+1+1+1) _ _ _ _ _ _ _ _ ww hR underlying34 rfl wo ww hD underlying37 rfl wo) rfl ?_;exact⟨ax aC 0 0,rfl,HOO.o.below hb,World.ownsRow_nil _ _ _ _,kv hb⟩
 | cons d rest =>
  have hln0:((((d::rest).length:Nat):Int)==0)=false:=by rw [beq_eq_false_iff_ne];simp only [List.length_cons];omega
  obtain⟨n1,hn1⟩:=wV ((d::rest).length)
  have hn1p:0<n1:=by rw [hn1];simp
  rw [<-hn1]at hln0 x0 sw hgc hgl hw0 ⊢
  have HRG:=sqH hrg;have HN1:=sqH hn1;clear hrg hn1;go_enter func86,ntmps86
  refine wH ?_;intros;rw [<-hw0];rw [<-hH];clear x0 x1 x2 x3 x4 hw0 hH;have HRB:=sqH (show Rw BlobS w0 (aD ⟨q1,0,aC⟩) s.aF from by
   obtain⟨A9,c9,B9,d9,e1,_,hrd⟩:=sw.o.rows;cases e1;exact hrd.b)
  obtain⟨bq,oq,e1,hbq,hcq⟩:=HRG.o.2 wu;subst e1;have c00:=hcq 0 _ rfl;rw [Nat.add_zero]at c00;have HSB:=sqH (show ∀W,Below w0.heap.size w0 W->W.cell? ⟨H,0,aC⟩=aD (ax (aD ⟨q1,0,aC⟩) s.aF.length s.aF.length)/\W.cell? ⟨H+1,1,aC⟩=aD (ax (aD ⟨bq,oq,aC⟩) n1 ng)/\W.cell? ⟨bq,oq,aC⟩=aD (aA ⟨d.toArray⟩) from fun W h=>⟨(sw.s.below h).c0,(sw.c.below h).c1,(h.cell (p:=⟨bq,oq,aC⟩) hbq).trans c00⟩);obtain⟨z,ee,hfn,hway⟩:=z1k (s.aF.findIdx? (fun x=>x.dig==d));obtain⟨HFN,HSZ,HWAY⟩:=sqJ3 hfn (show w.heap.size<=w0.heap.size from hgr.size) hway;have hn63:(n1:Int)<=9223372036854775807:=wm;have hn0:(0:Int)<(n1:Int):=wm;clear hcq c00 hfn hway hbq;refine wp_region_held_drew (S:=(fun w'=>w'.cell? ⟨H,0,aC⟩=aD (ax (aD ⟨q1,0,aC⟩) s.aF.length s.aF.length)/\w'.cell? ⟨H+1,1,aC⟩=aD (ax (aD ⟨bq,oq,aC⟩) n1 ng)/\w'.cell? ⟨bq,oq,aC⟩=aD (aA ⟨d.toArray⟩))) wo ?_ (fun hHeld=> ?_)
  ·exact HSB.o _ (Below.refl _ w0).drew
  have hB:=(Below.refl w0.heap.size w0).drew;generalize w0.drew=wn0 at *
  refine wM 0 ?_;refine wM 1 ?_;refine wM 2 ?_;refine wM 3 ?_;refine wM 4 ?_;refine wM 5 ?_;refine wQ 6 fun K hK=>?_;go_simp;refine(km (aD ⟨q1,0,aC⟩) s.aF.length s.aF d wn0 wm (HRB.o.below hB)).mono ?_;rintro e5 w5 ⟨rfl,hb5⟩;rw [HFN.o];dsimp only;refine qZ hK ?_ (Below wn0.heap.size wn0) (fun W=>True) ?_ ?_ (fun wn1 hHeld hst hnew=> ?_)
  ·(exact HSB.o _ (wh hB hb5))
  ·(exact hb5)
  ·(trivial)
  have hB:=wh hB hst;clear hst;clear hK K
  refine wM 7 ?_;refine wM 8 ?_;refine wM 9 ?_;refine wM 10 ?_;refine wM 11 ?_;refine wpAnyH_done wo ?_ _;dsimp only [Exit.then];clear hHeld;have sw:=sw.below hB;have hgr:=zO hgr hB;have hrg:=HRG.o.below hB;have hs5:=hB.size;clear hB HSB;generalize wn1=w5 at *
  have q1c:=sw.c.c1;have g1:decide ((1:Int)<=(n1:Int))=true:=decide_eq_true wm;have g2:(1:Int)<=(ng:Int):=wm;have g3:(ng:Int)<=9223372036854775807:=by have:maxLen=9223372036854775807:=rfl;omega
  have hrl:rest.length=n1 - 1:=by rw [HN1.o];simp
  have hcl:=kJ (if ng=1 then aD ⟨bq,oq,aC⟩ else aD ⟨bq,oq+1,aC⟩) (ng - 1) rest w5 wm (by
   have h:=hrg.cut (k:=1) (cap:=ng) wu (by rw [<-HN1.o];exact hgc);exact h)
  rw [hrl]at hcl;have HCL:=sqH hcl;have HRL:=sqH hrl;clear hcl hrl hrg
  refine wH ?_;intros;clear q1c g1 g2 g3;refine HCL.o.mono ?_;rintro e_ w6 ⟨v6,rfl,ho6,hb6⟩;dsimp only;rw [<-HRL.o]at ho6;obtain⟨A6,c6,rfl,_,_⟩:=Rd.of_own' ho6;have sw:=sw.below hb6;have hgr:=zO hgr hb6;have hrow:=zb ho6 (show w.heap.size<=w5.heap.size from Nat.le_trans HSZ.o hs5);rcases HWAY.o with ⟨hf,rfl⟩ | ⟨i,hf,rfl,rfl⟩
  ·have HM:=sqH (show zS s ⟨1,d::rest, []⟩=(s,⟨1,rest, []⟩) from by unfold zS;simp only [hf]);clear hf ho6 hb6;obtain⟨f0,f1,f2,f3⟩:=sqF4 sw.r;obtain⟨y0,y1,y2,y3⟩:=sqC4 sw.r;obtain⟨g0,g1,g2⟩:=sqF3 sw.d;obtain⟨x0,x1,x2⟩:=sqC3 sw.d;obtain⟨s0,s1,s2,s3⟩:=sqC4 sw.s;obtain⟨hF1,hF2,hF3,hF4,hF5⟩:=sqJ5 (qO (h:=H+1+1+1) (u0:= ax (aD ⟨q1,0,aC⟩) s.aF.length s.aF.length) (u1:= ax (aD ⟨q2,0,aC⟩) s.aG.length s.aG.length) (u2:= ay az s.aI) (u3:= ay az s.aH) (x0:= ay az 1) (x1:=(ax A6 rest.length c6)) (x2:= aA ⟨#[]⟩) sw.r wm) (qP (g:=H+1+1) (u0:= ax (aD ⟨q1,0,aC⟩) s.aF.length s.aF.length) (u1:= ax (aD ⟨q2,0,aC⟩) s.aG.length s.aG.length) (u2:= ay az s.aI) (u3:= ay az s.aH) (x0:= ay az 1) (x1:=(ax A6 rest.length c6)) (x2:= aA ⟨#[]⟩) sw.d wm) (qC (u0:= ax (aD ⟨q1,0,aC⟩) s.aF.length s.aF.length) (u1:= ax (aD ⟨q2,0,aC⟩) s.aG.length s.aG.length) (u2:= ay az s.aI) (u3:= ay az s.aH) (x0:= ay az 1) (x1:=(ax A6 rest.length c6)) (x2:= aA ⟨#[]⟩) sw.o (g:=H+1+1) (h:=H+1+1+1) (.inr wm) (.inr wm) (sw.o.nb sw.r ws ws).1 (sw.o.nb sw.r ws ws).2 (sw.o.nb sw.d ws ws).1 (sw.o.nb sw.d ws ws).2) (qM (g:=H+1+1) (h:=H+1+1+1) (u0:= ax (aD ⟨q1,0,aC⟩) s.aF.length s.aF.length) (u1:= ax (aD ⟨q2,0,aC⟩) s.aG.length s.aG.length) (u2:= ay az s.aI) (u3:= ay az s.aH) (x0:= ay az 1) (x1:=(ax A6 rest.length c6)) (x2:= aA ⟨#[]⟩) hrow (zg hrow sw.r ws) (zg hrow sw.d ws)) (xO (g:=H+1+1) (h:=H+1+1+1) (u0:= ax (aD ⟨q1,0,aC⟩) s.aF.length s.aF.length) (u1:= ax (aD ⟨q2,0,aC⟩) s.aG.length s.aG.length) (u2:= ay az s.aI) (u3:= ay az s.aH) (x0:= ay az 1) (x1:=(ax A6 rest.length c6)) (x2:= aA ⟨#[]⟩) hgr (by rw [<-HH.o];omega) (by rw [<-HH.o];omega));clear sw hrow hgr
   refine wH ?_;intros;refine bodyPost_ret (kA rfl _ _ (H+1+1) (H+1+1+1) _ _ _ _ _ _ _ _ ww hF1.o underlying34 rfl wo ww hF2.o underlying37 rfl wo) rfl ?_;rw [HM.o];exact⟨_,rfl,hF3.o.mono (fun b hb=> .inl hb),hF4.o,hF5.o⟩
  ·have hi:i<s.aF.length:=(List.findIdx?_eq_some_iff_getElem.1 hf).1;have hd:s.aF[i].dig=d:=by simpa using (List.findIdx?_eq_some_iff_getElem.1 hf).2.1
   have hbl:=(show Rw BlobS w6 (aD ⟨q1,0,aC⟩) s.aF from by
    obtain⟨A9,c9,B9,d9,e1,_,hrd⟩:=sw.o.rows;cases e1;exact hrd.b).blob_at i hi
   obtain⟨bb,off,Bx,cx,e9,hbb,y0,y1,y2,y3,hsl⟩:=hbl;cases e9
   simp only [Nat.zero_add]at y0 y1 y2 y3;have hi0:=wY i
   have hi1:(i:Int)<(s.aF.length:Int):=wm;have q0s:=sw.s.c0;cases hm:s.aF[i].mark with
   | true =>
    have HM:=sqH (show zS s ⟨1,d::rest, []⟩=(s,⟨1,rest, []⟩) from by
     unfold zS;simp only [hf,List.getElem?_eq_getElem hi,hm,if_true])
    rw [hm]at y3;clear hf ho6 hb6 hd hm hsl y0 y1 y2 hbb;obtain⟨f0,f1,f2,f3⟩:=sqF4 sw.r;obtain⟨y0,y1,y2,y3⟩:=sqC4 sw.r;obtain⟨g0,g1,g2⟩:=sqF3 sw.d;obtain⟨x0,x1,x2⟩:=sqC3 sw.d;obtain⟨s0,s1,s2,s3⟩:=sqC4 sw.s;obtain⟨hF1,hF2,hF3,hF4,hF5⟩:=sqJ5 (qO (h:=H+1+1+1) (u0:= ax (aD ⟨q1,0,aC⟩) s.aF.length s.aF.length) (u1:= ax (aD ⟨q2,0,aC⟩) s.aG.length s.aG.length) (u2:= ay az s.aI) (u3:= ay az s.aH) (x0:= ay az 1) (x1:=(ax A6 rest.length c6)) (x2:= aA ⟨#[]⟩) sw.r wm) (qP (g:=H+1+1) (u0:= ax (aD ⟨q1,0,aC⟩) s.aF.length s.aF.length) (u1:= ax (aD ⟨q2,0,aC⟩) s.aG.length s.aG.length) (u2:= ay az s.aI) (u3:= ay az s.aH) (x0:= ay az 1) (x1:=(ax A6 rest.length c6)) (x2:= aA ⟨#[]⟩) sw.d wm) (qC (u0:= ax (aD ⟨q1,0,aC⟩) s.aF.length s.aF.length) (u1:= ax (aD ⟨q2,0,aC⟩) s.aG.length s.aG.length) (u2:= ay az s.aI) (u3:= ay az s.aH) (x0:= ay az 1) (x1:=(ax A6 rest.length c6)) (x2:= aA ⟨#[]⟩) sw.o (g:=H+1+1) (h:=H+1+1+1) (.inr wm) (.inr wm) (sw.o.nb sw.r ws ws).1 (sw.o.nb sw.r ws ws).2 (sw.o.nb sw.d ws ws).1 (sw.o.nb sw.d ws ws).2) (qM (g:=H+1+1) (h:=H+1+1+1) (u0:= ax (aD ⟨q1,0,aC⟩) s.aF.length s.aF.length) (u1:= ax (aD ⟨q2,0,aC⟩) s.aG.length s.aG.length) (u2:= ay az s.aI) (u3:= ay az s.aH) (x0:= ay az 1) (x1:=(ax A6 rest.length c6)) (x2:= aA ⟨#[]⟩) hrow (zg hrow sw.r ws) (zg hrow sw.d ws)) (xO (g:=H+1+1) (h:=H+1+1+1) (u0:= ax (aD ⟨q1,0,aC⟩) s.aF.length s.aF.length) (u1:= ax (aD ⟨q2,0,aC⟩) s.aG.length s.aG.length) (u2:= ay az s.aI) (u3:= ay az s.aH) (x0:= ay az 1) (x1:=(ax A6 rest.length c6)) (x2:= aA ⟨#[]⟩) hgr (by rw [<-HH.o];omega) (by rw [<-HH.o];omega));clear sw hrow hgr
    refine wH ?_;intros;refine bodyPost_ret (kA rfl _ _ (H+1+1) (H+1+1+1) _ _ _ _ _ _ _ _ ww hF1.o underlying34 rfl wo ww hF2.o underlying37 rfl wo) rfl ?_;rw [HM.o];exact⟨_,rfl,hF3.o.mono (fun b hb=> .inl hb),hF4.o,hF5.o⟩
   | false =>
    have HM:=sqH (show zS s ⟨1,d::rest, []⟩=({ s with aF:=s.aF.set i { s.aF[i] with mark:=true } },⟨1,uni (rest++(ko s.aF[i].data).1.map (·.dig)), []⟩) from by
     unfold zS;simp only [hf,List.getElem?_eq_getElem hi,hm,Bool.false_eq_true,if_false])
    rw [hm]at y3;obtain⟨_,f3,ho7,hg7⟩:=sw.o.setB (i:=i) (j:=3) (y:= { s.aF[i] with mark:=true }) (u:= .bool true) hi wm (fun W cs h=>vL _ true W cs h) (kI true);have sw7:StpW _ H base (ax (aD ⟨q1,0,aC⟩) s.aF.length s.aF.length) (ax (aD ⟨q2,0,aC⟩) s.aG.length s.aG.length) s.aI s.aH { s with aF:=s.aF.set i { s.aF[i] with mark:=true } } [ay az 1,ax (aD ⟨bq,oq,aC⟩) n1 ng,aA ⟨#[]⟩] N:=⟨sw.s.grown hg7 (fun e=>by injection e with e;omega),sw.c.grown hg7 (fun e=>by injection e with e;omega),sw.r.grown hg7 (fun e=>by injection e with e;omega),sw.d.grown hg7 (fun e=>by injection e with e;omega),ho7⟩
    have hgr7:=hgr.trans hg7;have hrow7:=hrow.kept hg7 (.inr (fun e=>by have:=(ho6.lt q1 e).1;have:=HH.o;have:=HSZ.o;omega));have hbl7:=(show Rw BlobS _ (aD ⟨q1,0,aC⟩) (s.aF.set i { s.aF[i] with mark:=true }) from by
     obtain⟨A9,c9,B9,d9,e1,_,hrd⟩:=ho7.rows;injection e1 with e11 _ _;subst e11;exact hrd.b).blob_at i (by rw [List.length_set];exact hi)
    rw [List.getElem_set_self]at hbl7;generalize s.aF[i]=q at *
    obtain⟨HSW,HGR,HRW,HBL⟩:=sqJ4 sw7 hgr7 hrow7 hbl7;have q0t:=(sw7.s).c0;clear sw sw7 hgr hgr7 hrow hrow7 hbl7 hf ho6 hb6 hd hm hsl y0 y1 y2 hbb ho7 hg7 q0t
    refine wK 76 ?_;intros;clear q0s y3 f3;generalize (w6.setCell ⟨q1,i*4+3,aC⟩ (.bool true))=w7 at *
    obtain⟨bb,off,Bx,cx,e9,hbb,y0,y1,y2,y3,hsl⟩:=HBL.o;cases e9
    simp only [Nat.zero_add]at y0 y1 y2 y3;have q0s:=HSW.o.s.c0;have HPT:=sqH (vJ ⟨q.dig.toArray⟩ Bx q.data.length cx q.data (q.aN:Int) true w7 rfl hsl.cap hsl.max hsl.rd);have hk8:=yB q.data;clear hsl hbb
    refine wH ?_;intros;clear y0 y1 y2 y3 q0s;refine HPT.o.mono ?_;rintro e_ w8 ⟨v8,rfl,ho8,hb8⟩;dsimp only;rw [vt,show(ko q.data).1.length=((ko q.data).1.map (·.dig)).length from(List.length_map _).symm]at ho8;obtain⟨A8,c8,rfl,hc8,hr8⟩:=Rd.of_own' ho8;have sw8:=HSW.o.below hb8;have hgr8:=zO HGR.o hb8;have hrow8:=zc HRW.o hb8;obtain⟨_,_,e10,hc6,hr6⟩:=Rd.of_own' hrow8;injection e10 with e11 _ e13;subst e11 e13;have hAD:=UD A6 A8 c6 c8 rest ((ko q.data).1.map (·.dig)) w8 hc6 hc8 (wX HRL) (by rw [List.length_map];omega) hr6 hr8;rw [List.length_map]at hAD;have HAD:=sqH hAD;clear hAD ho8 hb8 hrow8 hr6 hr8
    refine wH ?_;intros;refine HAD.o.mono ?_;rintro e_ w9 ⟨v9,N9,rfl,hN9,hNl,ho9,hb9⟩;dsimp only;obtain rfl:=hN9.uni (L:=rest++(ko q.data).1.map (·.dig)) (fun x=>List.mem_append.symm);obtain⟨A9,c9,rfl,_,_⟩:=Rd.of_own' ho9;have hrow:=zb ho9 hgr8.size;have sw:=sw8.below hb9;have hgr:=zO hgr8 hb9;clear sw8 hgr8 ho9 hb9 HSW HGR HRW HBL HAD hN9 hNl;obtain⟨f0,f1,f2,f3⟩:=sqF4 sw.r;obtain⟨y0,y1,y2,y3⟩:=sqC4 sw.r;obtain⟨g0,g1,g2⟩:=sqF3 sw.d;obtain⟨x0,x1,x2⟩:=sqC3 sw.d;obtain⟨s0,s1,s2,s3⟩:=sqC4 sw.s;obtain⟨hF1,hF2,hF3,hF4,hF5⟩:=sqJ5 (qO (h:=H+1+1+1) (u0:= ax (aD ⟨q1,0,aC⟩) s.aF.length s.aF.length) (u1:= ax (aD ⟨q2,0,aC⟩) s.aG.length s.aG.length) (u2:= ay az s.aI) (u3:= ay az s.aH) (x0:= ay az 1) (x1:=(ax A9 (uni (rest++(ko q.data).1.map (·.dig))).length c9)) (x2:= aA ⟨#[]⟩) sw.r wm) (qP (g:=H+1+1) (u0:= ax (aD ⟨q1,0,aC⟩) s.aF.length s.aF.length) (u1:= ax (aD ⟨q2,0,aC⟩) s.aG.length s.aG.length) (u2:= ay az s.aI) (u3:= ay az s.aH) (x0:= ay az 1) (x1:=(ax A9 (uni (rest++(ko q.data).1.map (·.dig))).length c9)) (x2:= aA ⟨#[]⟩) sw.d wm) (qC (u0:= ax (aD ⟨q1,0,aC⟩) s.aF.length s.aF.length) (u1:= ax (aD ⟨q2,0,aC⟩) s.aG.length s.aG.length) (u2:= ay az s.aI) (u3:= ay az s.aH) (x0:= ay az 1) (x1:=(ax A9 (uni (rest++(ko q.data).1.map (·.dig))).length c9)) (x2:= aA ⟨#[]⟩) sw.o (g:=H+1+1) (h:=H+1+1+1) (.inr wm) (.inr wm) (sw.o.nb sw.r ws ws).1 (sw.o.nb sw.r ws ws).2 (sw.o.nb sw.d ws ws).1 (sw.o.nb sw.d ws ws).2) (qM (g:=H+1+1) (h:=H+1+1+1) (u0:= ax (aD ⟨q1,0,aC⟩) s.aF.length s.aF.length) (u1:= ax (aD ⟨q2,0,aC⟩) s.aG.length s.aG.length) (u2:= ay az s.aI) (u3:= ay az s.aH) (x0:= ay az 1) (x1:=(ax A9 (uni (rest++(ko q.data).1.map (·.dig))).length c9)) (x2:= aA ⟨#[]⟩) hrow (zg hrow sw.r ws) (zg hrow sw.d ws)) (xO (g:=H+1+1) (h:=H+1+1+1) (u0:= ax (aD ⟨q1,0,aC⟩) s.aF.length s.aF.length) (u1:= ax (aD ⟨q2,0,aC⟩) s.aG.length s.aG.length) (u2:= ay az s.aI) (u3:= ay az s.aH) (x0:= ay az 1) (x1:=(ax A9 (uni (rest++(ko q.data).1.map (·.dig))).length c9)) (x2:= aA ⟨#[]⟩) hgr (by rw [<-HH.o];omega) (by rw [<-HH.o];omega));clear sw hrow hgr
    refine wH ?_;intros;refine bodyPost_ret (kA rfl _ _ (H+1+1) (H+1+1+1) _ _ _ _ _ _ _ _ ww hF1.o underlying34 rfl wo ww hF2.o underlying37 rfl wo) rfl ?_;rw [HM.o];exact⟨_,rfl,hF3.o.mono (fun b hb=> .inl hb),hF4.o,hF5.o⟩
abbrev qv (g n:Nat):Value:= ax (aD ⟨g,0,aC⟩) n n
abbrev z4:ag:= [ax aC 0 0,ax aC 0 0,ay az 0,ay az 0]
abbrev z3:ag:= [ay az 0,ax aC 0 0,aA ⟨#[]⟩]
abbrev ms (s:StoP) (aJ:List ae):StoP×ColP:=zS s ⟨1,aJ, []⟩
theorem yx {P Q:Prop} (h:Hid P->Q) (p:P):Q:=h (Lib.hid p)
theorem Vx (A:af) (c:Nat) (B:af) (d:Nat) (s:StoP) (Ag:af) (ng:Nat) (cp:ColP) (w:World) (hg:GoodS s) (hr:RdSt w A c B d s) (hp:cp.aK=1) (hat:cp.at_= []) (hgl:cp.aJ.length<=1000) (hc:RdC w Ag ng cp) :
  Calls Tryz.prog 37 #[.agg #[ax A s.aF.length c,ax B s.aG.length d,ay az s.aI,ay az s.aH],coV (ax Ag cp.aJ.length ng) cp] w fun e w' =>
   ∃v1 v2 v3,e= .returned (.tuple #[stV v1 v2 s,coV v3 (zS s cp).2,ay az 0])/\OwSt w' w.heap.size v1 v2 (zS s cp).1 (fun b=>b<w.heap.size)/\w'.ownsRow w.heap.size 9 1 v3 (zS s cp).2.aJ.length (strs (zS s cp).2.aJ)/\Below w.heap.size w w':=by
 obtain⟨aK,aJ,at_⟩:=cp;simp only at hp hat hgl;subst hp hat
 have hlb:s.aF.length<=24:=hg.b.len;have hle:s.aG.length<=10:=hg.e.len;have HGD:=sqH hg;obtain⟨w0,hw0,hS,hC,hR,hD,hb0⟩:=qi w 34 37 [ax A s.aF.length c,ax B s.aG.length d,ay az s.aI,ay az s.aH] [ay az 1,ax Ag aJ.length ng,aA ⟨#[]⟩] [ax aC 0 0,ax aC 0 0,ay az 0,ay az 0] [ay az 0,ax aC 0 0,aA ⟨#[]⟩];have hr0:=hr.below hb0;have hc0:=hc.below hb0;obtain⟨H,hH⟩:=wV w.heap.size
 have HCK:=sqH (zF A c B d s w0 hg hr0);rw [<-hH]at hS hC hR hD hb0 ⊢
 have hHl:H+1+1+1<w0.heap.size:=hD.lt;obtain⟨x0,x1,x2,x3⟩:=sqC4 hS;rw [hw0,hH]at x0 x1 x2 x3;have HPL:=sqH (show ∀b∈s.aF,b.data.length<=1000000 from fun b hb=>by have:=(hg.b.one b hb).2.1;omega);have HQL:=sqH (show ∀x∈s.aG,x.aM.length<=1000000 from fun x hx=>by have:=(zk (hg.e.one x hx).2.1).1;omega);clear hg hr hc;go_enter func37,ntmps37;go_wp2_with fail;rw [<-hw0,<-hH];have HH:=sqH hH;clear hw0 hH x0 x1 x2 x3;refine wW HCK.o fun w1 hb1=>?_;dsimp only;have hr1:=hr0.below hb1;have hc1:=hc0.below hb1;have hS1:=hS.below hb1;have hC1:=hC.below hb1;have hR1:=hR.below hb1;have hD1:=hD.below hb1;have hs1:=hb1.size;have hb01:=hb0.trans (hb1.mono wm);have x0:=hC1.c0;clear hr0 hc0 hS hC hR hD hb0 hb1 HCK
 refine wH ?_;intros;clear x0;obtain⟨HSB,HCP,HST,HRD⟩:=sqJ4 (show ∀W,Below w1.heap.size w1 W->(wD W H (ax A s.aF.length c) (ax B s.aG.length d) (ay az s.aI) (ay az s.aH))/\(wC W (H+1) (ay az 1) (ax Ag aJ.length ng) (aA ⟨#[]⟩)) from fun W h=>⟨sqC4 (hS1.below h),sqC3 (hC1.below h)⟩) (fun W (h:Below w1.heap.size w1 W)=>qH A c B d s W wm wm HPL.o HQL.o (hr1.below h)) (fun W base q1 q2 N (ho:OwSt W base _ _ s N) (h:Below w1.heap.size w1 W)=>Uh base q1 q2 Ag ng s ⟨1,aJ, []⟩ W N HGD.o rfl rfl hgl ho (hc1.below h)) (show ∀W,Below w1.heap.size w1 W->Arr W (H+1+1) 34 [ax aC 0 0,ax aC 0 0,ay az 0,ay az 0]/\Arr W (H+1+1+1) 37 [ay az 0,ax aC 0 0,aA ⟨#[]⟩] from fun W h=>⟨hR1.below h,hD1.below h⟩);clear hr1 hc1 hS1 hC1 hR1 hD1;apply yx;intro REST;apply yx;intro Rm1;apply yx;intro Rm2;apply yx;intro Rm3;apply yx;intro Rm4;apply yx;intro Rm5;apply yx;intro Rm6;apply yx;intro Rm7;refine ze [9,10] (S:=(fun w'=>(wD w' H (ax A s.aF.length c) (ax B s.aG.length d) (ay az s.aI) (ay az s.aH))/\(wC w' (H+1) (ay az 1) (ax Ag aJ.length ng) (aA ⟨#[]⟩)))) wo ?_ (fun hHeld=> ?_)
 ·exact HSB.o _ (((wi w1)).drew)
 have hB:=((wi w1)).drew;generalize w1.drew=wn0 at *
 refine wO 0 ?_;refine wO 2 ?_;refine za (rs:= [1,7,8]) wo wu ?_;refine z8.cons (o:=_) rfl (fun K hK=> ?_) ?_
 ·
  go_simp;refine(HCP.o wn0 hB).mono ?_;rintro e5 w5 ⟨q1,q2,rfl,ho5,hb5⟩;dsimp only;refine zR hK ?_ (fun W=>Below w1.heap.size w1 W/\OwSt W w1.heap.size (qv q1 s.aF.length) (qv q2 s.aG.length) s (fun b=>b<w1.heap.size)) (fun W=>True) ?_ ?_ (fun wn1 hHeld2 hF _=> ?_)
  ·exact HSB.o _ ((wh hB hb5))
  ·exact⟨wh hB hb5,(ho5.lower (base':=w1.heap.size) hB.size).mono (N':=(fun b=>b<w1.heap.size)) (fun b hb=>Nat.lt_of_lt_of_le hb hB.size)⟩
  ·trivial
  clear hB hHeld;have hHeld:=hHeld2;clear hHeld2;obtain⟨hB,ho⟩:=hF;clear hb5 ho5;clear hK K
  try simp only [sqP]
  refine za (rs:= [3,7,8]) wo wu ?_;refine z8.cons (o:=_) rfl (fun K hK=> ?_) ?_
  ·
   go_simp;refine(HST.o wn1 _ q1 q2 _ ho hB).mono ?_;rintro e5 w5 ⟨v3,rfl,ho5,hl5,hg5⟩;obtain⟨A3,c3,rfl, -, -⟩:=Rd.of_own' hl5;have hq1:=(ho.b.rwo.blk rfl).1;dsimp only;refine zR hK ?_ (fun W=>Below w1.heap.size w1 W/\OwSt W w1.heap.size (qv q1 s.aF.length) (qv q2 s.aG.length) (ms s aJ).1 (fun b=>b<w1.heap.size)/\W.ownsRow w1.heap.size 9 1 (ax A3 (ms s aJ).2.aJ.length c3) (ms s aJ).2.aJ.length (strs (ms s aJ).2.aJ)) (fun W=>True) ?_ ?_ (fun wn2 hHeld2 hF _=> ?_)
   ·exact HSB.o _ ((hB.grown hg5 hB.size (fun b e=>by cases e;exact hq1)))
   ·exact⟨(hB.grown hg5 hB.size (fun b e=>by cases e;exact hq1)),ho5,(zb hl5 hB.size)⟩
   ·trivial
   clear ho hB hHeld;have hHeld:=hHeld2;clear hHeld2;obtain⟨hB,hm,hl⟩:=hF;clear ho5 hl5 hg5 hq1;clear hK K
   refine wP 4 ?_;refine wP 5 ?_;refine wP 6 ?_;refine za (rs:= [7,8]) wo wu ?_;refine z8.cons (o:=_) rfl (fun K hK=> ?_) ?_
   ·
    have hba:=wj wn2 (aB #[ax aC 0 0,ax aC 0 0,ay az 0,ay az 0] 34);have hn:=Arr.new wn2 34 [ax aC 0 0,ax aC 0 0,ay az 0,ay az 0];have hnl:w1.heap.size<=wn2.heap.size:=hB.size;obtain⟨g8,hge⟩:=wV wn2.heap.size
    have hN:∀b,b=g8->wn2.heap.size<=b:=fun b h=>by rw [h,hge];exact Nat.le_refl _
    rw [<-hge]at hn hnl;go_simp;rw [<-hge];clear hge;refine zR hK ?_ (fun W=>Below w1.heap.size w1 W/\Arr W g8 34 [ax aC 0 0,ax aC 0 0,ay az 0,ay az 0]/\w1.heap.size<=g8/\OwSt W w1.heap.size (qv q1 s.aF.length) (qv q2 s.aG.length) (ms s aJ).1 (fun b=>b<w1.heap.size\/b=g8)/\W.ownsRow w1.heap.size 9 1 (ax A3 (ms s aJ).2.aJ.length c3) (ms s aJ).2.aJ.length (strs (ms s aJ).2.aJ)) (fun W=>True) ?_ ?_ (fun wn3 hHeld2 hF _=> ?_)
    ·exact HSB.o _ ((wh hB hba))
    ·exact⟨wh hB hba,hn,hnl,(hm.wider (N':=(fun b=>b<w1.heap.size\/b=g8)) (fun b hb=>hb.elim (fun hb=> .inl hb) (fun hb=> .inr (hN _ hb)))).below hba,zc hl hba⟩
    ·trivial
    clear hl hm hB hHeld;have hHeld:=hHeld2;clear hHeld2;obtain⟨hB,h8,h8l,hm,hl⟩:=hF;clear hba hn hnl hN;clear hK K
    try simp only [sqP]
    have hall:=aE hB (aE h8 (aE h8l (aE hm (aE hl hHeld))));clear hHeld hl hm h8l h8 hB;generalize wn3=wz at hall ⊢
    revert hall;revert wz;revert g8;revert c3;revert A3;revert q2;revert q1;exact Rm2.o
   refine z8.cons (o:=_) rfl (fun K hK=> ?_) ?_
   ·
    have hba:=wj wn2 (aB #[ay az 0,ax aC 0 0,aA ⟨#[]⟩] 37);have hn:=Arr.new wn2 37 [ay az 0,ax aC 0 0,aA ⟨#[]⟩];have hnl:w1.heap.size<=wn2.heap.size:=hB.size;obtain⟨g9,hge⟩:=wV wn2.heap.size
    have hN:∀b,b=g9->wn2.heap.size<=b:=fun b h=>by rw [h,hge];exact Nat.le_refl _
    rw [<-hge]at hn hnl;go_simp;rw [<-hge];clear hge;refine zR hK ?_ (fun W=>Below w1.heap.size w1 W/\Arr W g9 37 [ay az 0,ax aC 0 0,aA ⟨#[]⟩]/\w1.heap.size<=g9/\OwSt W w1.heap.size (qv q1 s.aF.length) (qv q2 s.aG.length) (ms s aJ).1 (fun b=>b<w1.heap.size\/b=g9)/\W.ownsRow w1.heap.size 9 1 (ax A3 (ms s aJ).2.aJ.length c3) (ms s aJ).2.aJ.length (strs (ms s aJ).2.aJ)) (fun W=>True) ?_ ?_ (fun wn4 hHeld2 hF _=> ?_)
    ·exact HSB.o _ ((wh hB hba))
    ·exact⟨wh hB hba,hn,hnl,(hm.wider (N':=(fun b=>b<w1.heap.size\/b=g9)) (fun b hb=>hb.elim (fun hb=> .inl hb) (fun hb=> .inr (hN _ hb)))).below hba,zc hl hba⟩
    ·trivial
    clear hl hm hB hHeld;have hHeld:=hHeld2;clear hHeld2;obtain⟨hB,h9,h9l,hm,hl⟩:=hF;clear hba hn hnl hN;clear hK K
    try simp only [sqP]
    have hall:=aE hB (aE h9 (aE h9l (aE hm (aE hl hHeld))));clear hHeld hl hm h9l h9 hB;generalize wn4=wz at hall ⊢
    revert hall;revert wz;revert g9;revert c3;revert A3;revert q2;revert q1;exact Rm3.o
   exact z8.nil
  refine z8.cons (o:=_) rfl (fun K hK=> ?_) ?_
  ·
   have hba:=wj wn1 (aB #[ax aC 0 0,ax aC 0 0,ay az 0,ay az 0] 34);have hn:=Arr.new wn1 34 [ax aC 0 0,ax aC 0 0,ay az 0,ay az 0];have hnl:w1.heap.size<=wn1.heap.size:=hB.size;obtain⟨g8,hge⟩:=wV wn1.heap.size
   have hN:∀b,b=g8->wn1.heap.size<=b:=fun b h=>by rw [h,hge];exact Nat.le_refl _
   rw [<-hge]at hn hnl;go_simp;rw [<-hge];clear hge;refine zR hK ?_ (fun W=>Below w1.heap.size w1 W/\Arr W g8 34 [ax aC 0 0,ax aC 0 0,ay az 0,ay az 0]/\w1.heap.size<=g8/\OwSt W w1.heap.size (qv q1 s.aF.length) (qv q2 s.aG.length) s (fun b=>b<w1.heap.size\/b=g8)) (fun W=>True) ?_ ?_ (fun wn5 hHeld2 hF _=> ?_)
   ·exact HSB.o _ ((wh hB hba))
   ·exact⟨wh hB hba,hn,hnl,(ho.wider (N':=(fun b=>b<w1.heap.size\/b=g8)) (fun b hb=>hb.elim (fun hb=> .inl hb) (fun hb=> .inr (hN _ hb)))).below hba⟩
   ·trivial
   clear ho hB hHeld;have hHeld:=hHeld2;clear hHeld2;obtain⟨hB,h8,h8l,ho⟩:=hF;clear hba hn hnl hN;clear hK K
   try simp only [sqP]
   have hall:=aE hB (aE h8 (aE h8l (aE ho hHeld)));clear hHeld ho h8l h8 hB;generalize wn5=wz at hall ⊢
   revert hall;revert wz;revert g8;revert q2;revert q1;exact Rm5.o
  refine z8.cons (o:=_) rfl (fun K hK=> ?_) ?_
  ·
   have hba:=wj wn1 (aB #[ay az 0,ax aC 0 0,aA ⟨#[]⟩] 37);have hn:=Arr.new wn1 37 [ay az 0,ax aC 0 0,aA ⟨#[]⟩];have hnl:w1.heap.size<=wn1.heap.size:=hB.size;obtain⟨g9,hge⟩:=wV wn1.heap.size
   have hN:∀b,b=g9->wn1.heap.size<=b:=fun b h=>by rw [h,hge];exact Nat.le_refl _
   rw [<-hge]at hn hnl;go_simp;rw [<-hge];clear hge;refine zR hK ?_ (fun W=>Below w1.heap.size w1 W/\Arr W g9 37 [ay az 0,ax aC 0 0,aA ⟨#[]⟩]/\w1.heap.size<=g9/\OwSt W w1.heap.size (qv q1 s.aF.length) (qv q2 s.aG.length) s (fun b=>b<w1.heap.size\/b=g9)) (fun W=>True) ?_ ?_ (fun wn6 hHeld2 hF _=> ?_)
   ·exact HSB.o _ ((wh hB hba))
   ·exact⟨wh hB hba,hn,hnl,(ho.wider (N':=(fun b=>b<w1.heap.size\/b=g9)) (fun b hb=>hb.elim (fun hb=> .inl hb) (fun hb=> .inr (hN _ hb)))).below hba⟩
   ·trivial
   clear ho hB hHeld;have hHeld:=hHeld2;clear hHeld2;obtain⟨hB,h9,h9l,ho⟩:=hF;clear hba hn hnl hN;clear hK K
   try simp only [sqP]
   have hall:=aE hB (aE h9 (aE h9l (aE ho hHeld)));clear hHeld ho h9l h9 hB;generalize wn6=wz at hall ⊢
   revert hall;revert wz;revert g9;revert q2;revert q1;exact Rm6.o
  exact z8.nil
 refine z8.cons (o:=_) rfl (fun K hK=> ?_) ?_
 ·
  have hba:=wj wn0 (aB #[ax aC 0 0,ax aC 0 0,ay az 0,ay az 0] 34);have hn:=Arr.new wn0 34 [ax aC 0 0,ax aC 0 0,ay az 0,ay az 0];have hnl:w1.heap.size<=wn0.heap.size:=hB.size;obtain⟨g8,hge⟩:=wV wn0.heap.size
  have hN:∀b,b=g8->wn0.heap.size<=b:=fun b h=>by rw [h,hge];exact Nat.le_refl _
  rw [<-hge]at hn hnl;go_simp;rw [<-hge];clear hge;refine zR hK ?_ (fun W=>Below w1.heap.size w1 W/\Arr W g8 34 [ax aC 0 0,ax aC 0 0,ay az 0,ay az 0]/\w1.heap.size<=g8) (fun W=>True) ?_ ?_ (fun wn7 hHeld2 hF _=> ?_)
  ·exact HSB.o _ ((wh hB hba))
  ·exact⟨wh hB hba,hn,hnl⟩
  ·trivial
  clear hB hHeld;have hHeld:=hHeld2;clear hHeld2;obtain⟨hB,h8,h8l⟩:=hF;clear hba hn hnl hN;clear hK K
  try simp only [sqP]
  refine za (rs:= [1,8]) wo wu ?_;refine z8.cons (o:=_) rfl (fun K hK=> ?_) ?_
  ·
   go_simp;refine(HCP.o wn7 hB).mono ?_;rintro e5 w5 ⟨q1,q2,rfl,ho5,hb5⟩;dsimp only;refine zR hK ?_ (fun W=>Below w1.heap.size w1 W/\Arr W g8 34 [ax aC 0 0,ax aC 0 0,ay az 0,ay az 0]/\w1.heap.size<=g8/\OwSt W w1.heap.size (qv q1 s.aF.length) (qv q2 s.aG.length) s (fun b=>b<w1.heap.size\/b=g8)) (fun W=>True) ?_ ?_ (fun wn8 hHeld2 hF _=> ?_)
   ·exact HSB.o _ ((wh hB hb5))
   ·exact⟨wh hB hb5,h8.below hb5,h8l,(ho5.lower (base':=w1.heap.size) hB.size).mono (N':=(fun b=>b<w1.heap.size\/b=g8)) (fun b hb=>hb.elim (fun hb=>Nat.lt_of_lt_of_le hb hB.size) (fun hb=>(by rw [hb];exact h8.lt)))⟩
   ·trivial
   clear h8l h8 hB hHeld;have hHeld:=hHeld2;clear hHeld2;obtain⟨hB,h8,h8l,ho⟩:=hF;clear hb5 ho5;clear hK K
   try simp only [sqP]
   have hall:=aE hB (aE h8 (aE h8l (aE ho hHeld)));clear hHeld ho h8l h8 hB;generalize wn8=wz at hall ⊢
   revert hall;revert wz;revert g8;revert q2;revert q1;exact Rm5.o
  refine z8.cons (o:=_) rfl (fun K hK=> ?_) ?_
  ·
   have hba:=wj wn7 (aB #[ay az 0,ax aC 0 0,aA ⟨#[]⟩] 37);have hn:=Arr.new wn7 37 [ay az 0,ax aC 0 0,aA ⟨#[]⟩];have hnl:w1.heap.size<=wn7.heap.size:=hB.size;obtain⟨g9,hge⟩:=wV wn7.heap.size
   have hN:∀b,b=g9->wn7.heap.size<=b:=fun b h=>by rw [h,hge];exact Nat.le_refl _
   rw [<-hge]at hn hnl;go_simp;rw [<-hge];clear hge;refine zR hK ?_ (fun W=>Below w1.heap.size w1 W/\Arr W g8 34 [ax aC 0 0,ax aC 0 0,ay az 0,ay az 0]/\w1.heap.size<=g8/\Arr W g9 37 [ay az 0,ax aC 0 0,aA ⟨#[]⟩]/\w1.heap.size<=g9/\g8≠g9) (fun W=>True) ?_ ?_ (fun wn9 hHeld2 hF _=> ?_)
   ·exact HSB.o _ ((wh hB hba))
   ·exact⟨wh hB hba,h8.below hba,h8l,hn,hnl,(fun e=>Nat.lt_irrefl _ (by have h1:=h8.lt;rw [e]at h1;exact Nat.lt_of_lt_of_le h1 (hN _ rfl)))⟩
   ·trivial
   clear h8l h8 hB hHeld;have hHeld:=hHeld2;clear hHeld2;obtain⟨hB,h8,h8l,h9,h9l,h89n⟩:=hF;clear hba hn hnl hN;clear hK K
   try simp only [sqP]
   have hall:=aE hB (aE h8 (aE h8l (aE h9 (aE h9l (aE h89n hHeld)))));clear hHeld h89n h9l h9 h8l h8 hB;generalize wn9=wz at hall ⊢
   revert hall;revert wz;revert g9;revert g8;exact Rm7.o
  exact z8.nil
 refine z8.cons (o:=_) rfl (fun K hK=> ?_) ?_
 ·
  have hba:=wj wn0 (aB #[ay az 0,ax aC 0 0,aA ⟨#[]⟩] 37);have hn:=Arr.new wn0 37 [ay az 0,ax aC 0 0,aA ⟨#[]⟩];have hnl:w1.heap.size<=wn0.heap.size:=hB.size;obtain⟨g9,hge⟩:=wV wn0.heap.size
  have hN:∀b,b=g9->wn0.heap.size<=b:=fun b h=>by rw [h,hge];exact Nat.le_refl _
  rw [<-hge]at hn hnl;go_simp;rw [<-hge];clear hge;refine zR hK ?_ (fun W=>Below w1.heap.size w1 W/\Arr W g9 37 [ay az 0,ax aC 0 0,aA ⟨#[]⟩]/\w1.heap.size<=g9) (fun W=>True) ?_ ?_ (fun wn10 hHeld2 hF _=> ?_)
  ·exact HSB.o _ ((wh hB hba))
  ·exact⟨wh hB hba,hn,hnl⟩
  ·trivial
  clear hB hHeld;have hHeld:=hHeld2;clear hHeld2;obtain⟨hB,h9,h9l⟩:=hF;clear hba hn hnl hN;clear hK K
  try simp only [sqP]
  refine za (rs:= [1,7]) wo wu ?_;refine z8.cons (o:=_) rfl (fun K hK=> ?_) ?_
  ·
   go_simp;refine(HCP.o wn10 hB).mono ?_;rintro e5 w5 ⟨q1,q2,rfl,ho5,hb5⟩;dsimp only;refine zR hK ?_ (fun W=>Below w1.heap.size w1 W/\Arr W g9 37 [ay az 0,ax aC 0 0,aA ⟨#[]⟩]/\w1.heap.size<=g9/\OwSt W w1.heap.size (qv q1 s.aF.length) (qv q2 s.aG.length) s (fun b=>b<w1.heap.size\/b=g9)) (fun W=>True) ?_ ?_ (fun wn11 hHeld2 hF _=> ?_)
   ·exact HSB.o _ ((wh hB hb5))
   ·exact⟨wh hB hb5,h9.below hb5,h9l,(ho5.lower (base':=w1.heap.size) hB.size).mono (N':=(fun b=>b<w1.heap.size\/b=g9)) (fun b hb=>hb.elim (fun hb=>Nat.lt_of_lt_of_le hb hB.size) (fun hb=>(by rw [hb];exact h9.lt)))⟩
   ·trivial
   clear h9l h9 hB hHeld;have hHeld:=hHeld2;clear hHeld2;obtain⟨hB,h9,h9l,ho⟩:=hF;clear hb5 ho5;clear hK K
   try simp only [sqP]
   have hall:=aE hB (aE h9 (aE h9l (aE ho hHeld)));clear hHeld ho h9l h9 hB;generalize wn11=wz at hall ⊢
   revert hall;revert wz;revert g9;revert q2;revert q1;exact Rm6.o
  refine z8.cons (o:=_) rfl (fun K hK=> ?_) ?_
  ·
   have hba:=wj wn10 (aB #[ax aC 0 0,ax aC 0 0,ay az 0,ay az 0] 34);have hn:=Arr.new wn10 34 [ax aC 0 0,ax aC 0 0,ay az 0,ay az 0];have hnl:w1.heap.size<=wn10.heap.size:=hB.size;obtain⟨g8,hge⟩:=wV wn10.heap.size
   have hN:∀b,b=g8->wn10.heap.size<=b:=fun b h=>by rw [h,hge];exact Nat.le_refl _
   rw [<-hge]at hn hnl;go_simp;rw [<-hge];clear hge;refine zR hK ?_ (fun W=>Below w1.heap.size w1 W/\Arr W g8 34 [ax aC 0 0,ax aC 0 0,ay az 0,ay az 0]/\w1.heap.size<=g8/\Arr W g9 37 [ay az 0,ax aC 0 0,aA ⟨#[]⟩]/\w1.heap.size<=g9/\g8≠g9) (fun W=>True) ?_ ?_ (fun wn12 hHeld2 hF _=> ?_)
   ·exact HSB.o _ ((wh hB hba))
   ·exact⟨wh hB hba,hn,hnl,h9.below hba,h9l,(fun e=>Nat.lt_irrefl _ (by have h1:=h9.lt;rw [<-e]at h1;exact Nat.lt_of_lt_of_le h1 (hN _ rfl)))⟩
   ·trivial
   clear h9l h9 hB hHeld;have hHeld:=hHeld2;clear hHeld2;obtain⟨hB,h8,h8l,h9,h9l,h89n⟩:=hF;clear hba hn hnl hN;clear hK K
   try simp only [sqP]
   have hall:=aE hB (aE h8 (aE h8l (aE h9 (aE h9l (aE h89n hHeld)))));clear hHeld h89n h9l h9 h8l h8 hB;generalize wn12=wz at hall ⊢
   revert hall;revert wz;revert g9;revert g8;exact Rm7.o
  exact z8.nil
 exact z8.nil;intro g8 g9 wRm7 hall;obtain⟨hB,h8,h8l,h9,h9l,h89n,hHeld⟩:=hall;refine za (rs:= [1]) wo wu ?_;refine z8.cons (o:=_) rfl (fun K hK=> ?_) ?_
 ·
  go_simp;refine(HCP.o wRm7 hB).mono ?_;rintro e5 w5 ⟨q1,q2,rfl,ho5,hb5⟩;dsimp only;refine zR hK ?_ (fun W=>Below w1.heap.size w1 W/\Arr W g8 34 [ax aC 0 0,ax aC 0 0,ay az 0,ay az 0]/\w1.heap.size<=g8/\Arr W g9 37 [ay az 0,ax aC 0 0,aA ⟨#[]⟩]/\w1.heap.size<=g9/\g8≠g9/\OwSt W w1.heap.size (qv q1 s.aF.length) (qv q2 s.aG.length) s (fun b=>b<w1.heap.size\/b=g8\/b=g9)) (fun W=>True) ?_ ?_ (fun wn13 hHeld2 hF _=> ?_)
  ·exact HSB.o _ ((wh hB hb5))
  ·exact⟨wh hB hb5,h8.below hb5,h8l,h9.below hb5,h9l,h89n,(ho5.lower (base':=w1.heap.size) hB.size).mono (N':=(fun b=>b<w1.heap.size\/b=g8\/b=g9)) (fun b hb=>hb.elim (fun hb=>Nat.lt_of_lt_of_le hb hB.size) (fun hb=>hb.elim (fun hb=>by rw [hb];exact h8.lt) (fun hb=>(by rw [hb];exact h9.lt))))⟩
  ·trivial
  clear h89n h9l h9 h8l h8 hB hHeld;have hHeld:=hHeld2;clear hHeld2;obtain⟨hB,h8,h8l,h9,h9l,h89n,ho⟩:=hF;clear hb5 ho5;clear hK K
  try simp only [sqP]
  have hall:=aE hB (aE h8 (aE h8l (aE h9 (aE h9l (aE h89n (aE ho hHeld))))));clear hHeld ho h89n h9l h9 h8l h8 hB;generalize wn13=wz at hall ⊢
  revert hall;revert wz;revert g9;revert g8;revert q2;revert q1;exact Rm4.o
 exact z8.nil;intro q1 q2 g9 wRm6 hall;obtain⟨hB,h9,h9l,ho,hHeld⟩:=hall;refine za (rs:= [3,7]) wo wu ?_;refine z8.cons (o:=_) rfl (fun K hK=> ?_) ?_
 ·
  go_simp;refine(HST.o wRm6 _ q1 q2 _ ho hB).mono ?_;rintro e5 w5 ⟨v3,rfl,ho5,hl5,hg5⟩;obtain⟨A3,c3,rfl, -, -⟩:=Rd.of_own' hl5;have hq1:=(ho.b.rwo.blk rfl).1;dsimp only;refine zR hK ?_ (fun W=>Below w1.heap.size w1 W/\Arr W g9 37 [ay az 0,ax aC 0 0,aA ⟨#[]⟩]/\w1.heap.size<=g9/\OwSt W w1.heap.size (qv q1 s.aF.length) (qv q2 s.aG.length) (ms s aJ).1 (fun b=>b<w1.heap.size\/b=g9)/\W.ownsRow w1.heap.size 9 1 (ax A3 (ms s aJ).2.aJ.length c3) (ms s aJ).2.aJ.length (strs (ms s aJ).2.aJ)) (fun W=>True) ?_ ?_ (fun wn14 hHeld2 hF _=> ?_)
  ·exact HSB.o _ ((hB.grown hg5 hB.size (fun b e=>by cases e;exact hq1)))
  ·exact⟨(hB.grown hg5 hB.size (fun b e=>by cases e;exact hq1)),(h9.grown hg5 (fun e=>(ho.nb h9 ws ws).1 (by simpa [Value.ownBlock] using e))),h9l,ho5,(zb hl5 hB.size)⟩
  ·trivial
  clear ho h9l h9 hB hHeld;have hHeld:=hHeld2;clear hHeld2;obtain⟨hB,h9,h9l,hm,hl⟩:=hF;clear ho5 hl5 hg5 hq1;clear hK K
  refine wP 4 ?_;refine wP 5 ?_;refine wP 6 ?_;have hall:=aE hB (aE h9 (aE h9l (aE hm (aE hl hHeld))));clear hHeld hl hm h9l h9 hB;generalize wn14=wz at hall ⊢
  revert hall;revert wz;revert g9;revert c3;revert A3;revert q2;revert q1;exact Rm3.o
 refine z8.cons (o:=_) rfl (fun K hK=> ?_) ?_
 ·
  have hba:=wj wRm6 (aB #[ax aC 0 0,ax aC 0 0,ay az 0,ay az 0] 34);have hn:=Arr.new wRm6 34 [ax aC 0 0,ax aC 0 0,ay az 0,ay az 0];have hnl:w1.heap.size<=wRm6.heap.size:=hB.size;obtain⟨g8,hge⟩:=wV wRm6.heap.size
  have hN:∀b,b=g8->wRm6.heap.size<=b:=fun b h=>by rw [h,hge];exact Nat.le_refl _
  rw [<-hge]at hn hnl;go_simp;rw [<-hge];clear hge;refine zR hK ?_ (fun W=>Below w1.heap.size w1 W/\Arr W g8 34 [ax aC 0 0,ax aC 0 0,ay az 0,ay az 0]/\w1.heap.size<=g8/\Arr W g9 37 [ay az 0,ax aC 0 0,aA ⟨#[]⟩]/\w1.heap.size<=g9/\g8≠g9/\OwSt W w1.heap.size (qv q1 s.aF.length) (qv q2 s.aG.length) s (fun b=>b<w1.heap.size\/b=g8\/b=g9)) (fun W=>True) ?_ ?_ (fun wn15 hHeld2 hF _=> ?_)
  ·exact HSB.o _ ((wh hB hba))
  ·exact⟨wh hB hba,hn,hnl,h9.below hba,h9l,(fun e=>Nat.lt_irrefl _ (by have h1:=h9.lt;rw [<-e]at h1;exact Nat.lt_of_lt_of_le h1 (hN _ rfl))),(ho.wider (N':=(fun b=>b<w1.heap.size\/b=g8\/b=g9)) (fun b hb=>hb.elim (fun hb=> .inl (.inl hb)) (fun hb=>hb.elim (fun hb=> .inr (hN _ hb)) (fun hb=> .inl (.inr hb))))).below hba⟩
  ·trivial
  clear ho h9l h9 hB hHeld;have hHeld:=hHeld2;clear hHeld2;obtain⟨hB,h8,h8l,h9,h9l,h89n,ho⟩:=hF;clear hba hn hnl hN;clear hK K
  try simp only [sqP]
  have hall:=aE hB (aE h8 (aE h8l (aE h9 (aE h9l (aE h89n (aE ho hHeld))))));clear hHeld ho h89n h9l h9 h8l h8 hB;generalize wn15=wz at hall ⊢
  revert hall;revert wz;revert g9;revert g8;revert q2;revert q1;exact Rm4.o
 exact z8.nil;intro q1 q2 g8 wRm5 hall;obtain⟨hB,h8,h8l,ho,hHeld⟩:=hall;refine za (rs:= [3,8]) wo wu ?_;refine z8.cons (o:=_) rfl (fun K hK=> ?_) ?_
 ·
  go_simp;refine(HST.o wRm5 _ q1 q2 _ ho hB).mono ?_;rintro e5 w5 ⟨v3,rfl,ho5,hl5,hg5⟩;obtain⟨A3,c3,rfl, -, -⟩:=Rd.of_own' hl5;have hq1:=(ho.b.rwo.blk rfl).1;dsimp only;refine zR hK ?_ (fun W=>Below w1.heap.size w1 W/\Arr W g8 34 [ax aC 0 0,ax aC 0 0,ay az 0,ay az 0]/\w1.heap.size<=g8/\OwSt W w1.heap.size (qv q1 s.aF.length) (qv q2 s.aG.length) (ms s aJ).1 (fun b=>b<w1.heap.size\/b=g8)/\W.ownsRow w1.heap.size 9 1 (ax A3 (ms s aJ).2.aJ.length c3) (ms s aJ).2.aJ.length (strs (ms s aJ).2.aJ)) (fun W=>True) ?_ ?_ (fun wn16 hHeld2 hF _=> ?_)
  ·exact HSB.o _ ((hB.grown hg5 hB.size (fun b e=>by cases e;exact hq1)))
  ·exact⟨(hB.grown hg5 hB.size (fun b e=>by cases e;exact hq1)),(h8.grown hg5 (fun e=>(ho.nb h8 ws ws).1 (by simpa [Value.ownBlock] using e))),h8l,ho5,(zb hl5 hB.size)⟩
  ·trivial
  clear ho h8l h8 hB hHeld;have hHeld:=hHeld2;clear hHeld2;obtain⟨hB,h8,h8l,hm,hl⟩:=hF;clear ho5 hl5 hg5 hq1;clear hK K
  refine wP 4 ?_;refine wP 5 ?_;refine wP 6 ?_;have hall:=aE hB (aE h8 (aE h8l (aE hm (aE hl hHeld))));clear hHeld hl hm h8l h8 hB;generalize wn16=wz at hall ⊢
  revert hall;revert wz;revert g8;revert c3;revert A3;revert q2;revert q1;exact Rm2.o
 refine z8.cons (o:=_) rfl (fun K hK=> ?_) ?_
 ·
  have hba:=wj wRm5 (aB #[ay az 0,ax aC 0 0,aA ⟨#[]⟩] 37);have hn:=Arr.new wRm5 37 [ay az 0,ax aC 0 0,aA ⟨#[]⟩];have hnl:w1.heap.size<=wRm5.heap.size:=hB.size;obtain⟨g9,hge⟩:=wV wRm5.heap.size
  have hN:∀b,b=g9->wRm5.heap.size<=b:=fun b h=>by rw [h,hge];exact Nat.le_refl _
  rw [<-hge]at hn hnl;go_simp;rw [<-hge];clear hge;refine zR hK ?_ (fun W=>Below w1.heap.size w1 W/\Arr W g8 34 [ax aC 0 0,ax aC 0 0,ay az 0,ay az 0]/\w1.heap.size<=g8/\Arr W g9 37 [ay az 0,ax aC 0 0,aA ⟨#[]⟩]/\w1.heap.size<=g9/\g8≠g9/\OwSt W w1.heap.size (qv q1 s.aF.length) (qv q2 s.aG.length) s (fun b=>b<w1.heap.size\/b=g8\/b=g9)) (fun W=>True) ?_ ?_ (fun wn17 hHeld2 hF _=> ?_)
  ·exact HSB.o _ ((wh hB hba))
  ·exact⟨wh hB hba,h8.below hba,h8l,hn,hnl,(fun e=>Nat.lt_irrefl _ (by have h1:=h8.lt;rw [e]at h1;exact Nat.lt_of_lt_of_le h1 (hN _ rfl))),(ho.wider (N':=(fun b=>b<w1.heap.size\/b=g8\/b=g9)) (fun b hb=>hb.elim (fun hb=> .inl (.inl hb)) (fun hb=>hb.elim (fun hb=> .inl (.inr hb)) (fun hb=> .inr (hN _ hb))))).below hba⟩
  ·trivial
  clear ho h8l h8 hB hHeld;have hHeld:=hHeld2;clear hHeld2;obtain⟨hB,h8,h8l,h9,h9l,h89n,ho⟩:=hF;clear hba hn hnl hN;clear hK K
  try simp only [sqP]
  have hall:=aE hB (aE h8 (aE h8l (aE h9 (aE h9l (aE h89n (aE ho hHeld))))));clear hHeld ho h89n h9l h9 h8l h8 hB;generalize wn17=wz at hall ⊢
  revert hall;revert wz;revert g9;revert g8;revert q2;revert q1;exact Rm4.o
 exact z8.nil;intro q1 q2 g8 g9 wRm4 hall;obtain⟨hB,h8,h8l,h9,h9l,h89n,ho,hHeld⟩:=hall;refine za (rs:= [3]) wo wu ?_;refine z8.cons (o:=_) rfl (fun K hK=> ?_) ?_
 ·
  go_simp;refine(HST.o wRm4 _ q1 q2 _ ho hB).mono ?_;rintro e5 w5 ⟨v3,rfl,ho5,hl5,hg5⟩;obtain⟨A3,c3,rfl, -, -⟩:=Rd.of_own' hl5;have hq1:=(ho.b.rwo.blk rfl).1;dsimp only;refine zR hK ?_ (fun W=>Below w1.heap.size w1 W/\Arr W g8 34 [ax aC 0 0,ax aC 0 0,ay az 0,ay az 0]/\w1.heap.size<=g8/\Arr W g9 37 [ay az 0,ax aC 0 0,aA ⟨#[]⟩]/\w1.heap.size<=g9/\g8≠g9/\OwSt W w1.heap.size (qv q1 s.aF.length) (qv q2 s.aG.length) (ms s aJ).1 (fun b=>b<w1.heap.size\/b=g8\/b=g9)/\W.ownsRow w1.heap.size 9 1 (ax A3 (ms s aJ).2.aJ.length c3) (ms s aJ).2.aJ.length (strs (ms s aJ).2.aJ)) (fun W=>True) ?_ ?_ (fun wn18 hHeld2 hF _=> ?_)
  ·exact HSB.o _ ((hB.grown hg5 hB.size (fun b e=>by cases e;exact hq1)))
  ·exact⟨(hB.grown hg5 hB.size (fun b e=>by cases e;exact hq1)),(h8.grown hg5 (fun e=>(ho.nb h8 ws ws).1 (by simpa [Value.ownBlock] using e))),h8l,(h9.grown hg5 (fun e=>(ho.nb h9 ws ws).1 (by simpa [Value.ownBlock] using e))),h9l,h89n,ho5,(zb hl5 hB.size)⟩
  ·trivial
  clear ho h89n h9l h9 h8l h8 hB hHeld;have hHeld:=hHeld2;clear hHeld2;obtain⟨hB,h8,h8l,h9,h9l,h89n,hm,hl⟩:=hF;clear ho5 hl5 hg5 hq1;clear hK K
  refine wP 4 ?_;refine wP 5 ?_;refine wP 6 ?_;have hall:=aE hB (aE h8 (aE h8l (aE h9 (aE h9l (aE h89n (aE hm (aE hl hHeld)))))));clear hHeld hl hm h89n h9l h9 h8l h8 hB;generalize wn18=wz at hall ⊢
  revert hall;revert wz;revert g9;revert g8;revert c3;revert A3;revert q2;revert q1;exact Rm1.o
 exact z8.nil;intro q1 q2 A3 c3 g9 wRm3 hall;obtain⟨hB,h9,h9l,hm,hl,hHeld⟩:=hall;refine za (rs:= [7]) wo wu ?_;refine z8.cons (o:=_) rfl (fun K hK=> ?_) ?_
 ·
  have hba:=wj wRm3 (aB #[ax aC 0 0,ax aC 0 0,ay az 0,ay az 0] 34);have hn:=Arr.new wRm3 34 [ax aC 0 0,ax aC 0 0,ay az 0,ay az 0];have hnl:w1.heap.size<=wRm3.heap.size:=hB.size;obtain⟨g8,hge⟩:=wV wRm3.heap.size
  have hN:∀b,b=g8->wRm3.heap.size<=b:=fun b h=>by rw [h,hge];exact Nat.le_refl _
  rw [<-hge]at hn hnl;go_simp;rw [<-hge];clear hge;refine zR hK ?_ (fun W=>Below w1.heap.size w1 W/\Arr W g8 34 [ax aC 0 0,ax aC 0 0,ay az 0,ay az 0]/\w1.heap.size<=g8/\Arr W g9 37 [ay az 0,ax aC 0 0,aA ⟨#[]⟩]/\w1.heap.size<=g9/\g8≠g9/\OwSt W w1.heap.size (qv q1 s.aF.length) (qv q2 s.aG.length) (ms s aJ).1 (fun b=>b<w1.heap.size\/b=g8\/b=g9)/\W.ownsRow w1.heap.size 9 1 (ax A3 (ms s aJ).2.aJ.length c3) (ms s aJ).2.aJ.length (strs (ms s aJ).2.aJ)) (fun W=>True) ?_ ?_ (fun wn19 hHeld2 hF _=> ?_)
  ·exact HSB.o _ ((wh hB hba))
  ·exact⟨wh hB hba,hn,hnl,h9.below hba,h9l,(fun e=>Nat.lt_irrefl _ (by have h1:=h9.lt;rw [<-e]at h1;exact Nat.lt_of_lt_of_le h1 (hN _ rfl))),(hm.wider (N':=(fun b=>b<w1.heap.size\/b=g8\/b=g9)) (fun b hb=>hb.elim (fun hb=> .inl (.inl hb)) (fun hb=>hb.elim (fun hb=> .inr (hN _ hb)) (fun hb=> .inl (.inr hb))))).below hba,zc hl hba⟩
  ·trivial
  clear hl hm h9l h9 hB hHeld;have hHeld:=hHeld2;clear hHeld2;obtain⟨hB,h8,h8l,h9,h9l,h89n,hm,hl⟩:=hF;clear hba hn hnl hN;clear hK K
  try simp only [sqP]
  have hall:=aE hB (aE h8 (aE h8l (aE h9 (aE h9l (aE h89n (aE hm (aE hl hHeld)))))));clear hHeld hl hm h89n h9l h9 h8l h8 hB;generalize wn19=wz at hall ⊢
  revert hall;revert wz;revert g9;revert g8;revert c3;revert A3;revert q2;revert q1;exact Rm1.o
 exact z8.nil;intro q1 q2 A3 c3 g8 wRm2 hall;obtain⟨hB,h8,h8l,hm,hl,hHeld⟩:=hall;refine za (rs:= [8]) wo wu ?_;refine z8.cons (o:=_) rfl (fun K hK=> ?_) ?_
 ·
  have hba:=wj wRm2 (aB #[ay az 0,ax aC 0 0,aA ⟨#[]⟩] 37);have hn:=Arr.new wRm2 37 [ay az 0,ax aC 0 0,aA ⟨#[]⟩];have hnl:w1.heap.size<=wRm2.heap.size:=hB.size;obtain⟨g9,hge⟩:=wV wRm2.heap.size
  have hN:∀b,b=g9->wRm2.heap.size<=b:=fun b h=>by rw [h,hge];exact Nat.le_refl _
  rw [<-hge]at hn hnl;go_simp;rw [<-hge];clear hge;refine zR hK ?_ (fun W=>Below w1.heap.size w1 W/\Arr W g8 34 [ax aC 0 0,ax aC 0 0,ay az 0,ay az 0]/\w1.heap.size<=g8/\Arr W g9 37 [ay az 0,ax aC 0 0,aA ⟨#[]⟩]/\w1.heap.size<=g9/\g8≠g9/\OwSt W w1.heap.size (qv q1 s.aF.length) (qv q2 s.aG.length) (ms s aJ).1 (fun b=>b<w1.heap.size\/b=g8\/b=g9)/\W.ownsRow w1.heap.size 9 1 (ax A3 (ms s aJ).2.aJ.length c3) (ms s aJ).2.aJ.length (strs (ms s aJ).2.aJ)) (fun W=>True) ?_ ?_ (fun wn20 hHeld2 hF _=> ?_)
  ·exact HSB.o _ ((wh hB hba))
  ·exact⟨wh hB hba,h8.below hba,h8l,hn,hnl,(fun e=>Nat.lt_irrefl _ (by have h1:=h8.lt;rw [e]at h1;exact Nat.lt_of_lt_of_le h1 (hN _ rfl))),(hm.wider (N':=(fun b=>b<w1.heap.size\/b=g8\/b=g9)) (fun b hb=>hb.elim (fun hb=> .inl (.inl hb)) (fun hb=>hb.elim (fun hb=> .inl (.inr hb)) (fun hb=> .inr (hN _ hb))))).below hba,zc hl hba⟩
  ·trivial
  clear hl hm h8l h8 hB hHeld;have hHeld:=hHeld2;clear hHeld2;obtain⟨hB,h8,h8l,h9,h9l,h89n,hm,hl⟩:=hF;clear hba hn hnl hN;clear hK K
  try simp only [sqP]
  have hall:=aE hB (aE h8 (aE h8l (aE h9 (aE h9l (aE h89n (aE hm (aE hl hHeld)))))));clear hHeld hl hm h89n h9l h9 h8l h8 hB;generalize wn20=wz at hall ⊢
  revert hall;revert wz;revert g9;revert g8;revert c3;revert A3;revert q2;revert q1;exact Rm1.o
 exact z8.nil;intro q1 q2 A3 c3 g8 g9 wRm1 hall;obtain⟨hB,h8,h8l,h9,h9l,h89n,hm,hl,hHeld⟩:=hall;refine za (rs:= [9]) wo wu ?_;refine z8.store (o:=_) rfl ww (fun K hK=> ?_) ?_
 ·
  have hqhm:=hm.nb h8 ws ws;have hqhl:=zg hl h8 ws;obtain⟨z0,f0,z1,f1,z2,f2,z3,f3⟩:=wZ h8;go_simp;clear z0 f0 z1 f1 z2 f2 z3 f3;refine vd hK (fun W=>Below w1.heap.size w1 W/\Arr W g8 34 [(qv q1 s.aF.length),(qv q2 s.aG.length),ay az s.aI,ay az s.aH]/\w1.heap.size<=g8/\Arr W g9 37 [ay az 0,ax aC 0 0,aA ⟨#[]⟩]/\w1.heap.size<=g9/\g8≠g9/\OwSt W w1.heap.size (qv q1 s.aF.length) (qv q2 s.aG.length) (ms s aJ).1 (fun b=>b<w1.heap.size\/b=g8\/b=g9)/\W.ownsRow w1.heap.size 9 1 (ax A3 (ms s aJ).2.aJ.length c3) (ms s aJ).2.aJ.length (strs (ms s aJ).2.aJ)) (fun W=>True) ?_ ?_ (fun wn21 hF _=> ?_)
  ·exact⟨((((hB).setCell (p:=⟨g8,0,aC⟩) h8l _).setCell (p:=⟨g8,1,aC⟩) h8l _).setCell (p:=⟨g8,2,aC⟩) h8l _).setCell (p:=⟨g8,3,aC⟩) h8l _,h8.all4 _ _ _ _,h8l,((((h9).other (h89n.symm) _).other (h89n.symm) _).other (h89n.symm) _).other (h89n.symm) _,h9l,h89n,hm.set4N (.inr (.inl rfl)) hqhm.1 hqhm.2 _ _ _ _,qt hl hqhl _ _ _ _⟩
  ·trivial
  clear hl hm h89n h9l h9 h8l h8 hB hHeld;obtain⟨hB,h8,h8l,h9,h9l,h89n,hm,hl⟩:=hF;clear hqhm hqhl;clear hK K
  try simp only [sqP]
  refine wT 10 fun K hK=>?_;have hqhm:=hm.nb h9 ws ws;have hqhl:=zg hl h9 ws;obtain⟨z0,f0,z1,f1,z2,f2⟩:=wc h9;go_simp;clear z0 f0 z1 f1 z2 f2;refine vd hK (fun W=>Below w1.heap.size w1 W/\Arr W g8 34 [(qv q1 s.aF.length),(qv q2 s.aG.length),ay az s.aI,ay az s.aH]/\w1.heap.size<=g8/\Arr W g9 37 [ay az ((ms s aJ).2.aK:Int),(ax A3 (ms s aJ).2.aJ.length c3),aA ⟨(ms s aJ).2.at_.toArray⟩]/\w1.heap.size<=g9/\g8≠g9/\OwSt W w1.heap.size (qv q1 s.aF.length) (qv q2 s.aG.length) (ms s aJ).1 (fun b=>b<w1.heap.size\/b=g8\/b=g9)/\W.ownsRow w1.heap.size 9 1 (ax A3 (ms s aJ).2.aJ.length c3) (ms s aJ).2.aJ.length (strs (ms s aJ).2.aJ)) (fun W=>True) ?_ ?_ (fun wn22 hF _=> ?_)
  ·exact⟨(((hB).setCell (p:=⟨g9,0,aC⟩) h9l _).setCell (p:=⟨g9,1,aC⟩) h9l _).setCell (p:=⟨g9,2,aC⟩) h9l _,(((h8).other (h89n) _).other (h89n) _).other (h89n) _,h8l,h9.all3 _ _ _,h9l,h89n,hm.set3N (.inr (.inr rfl)) hqhm.1 hqhm.2 _ _ _,kn hl hqhl _ _ _⟩
  ·trivial
  clear hl hm h89n h9l h9 h8l h8 hB;obtain⟨hB,h8,h8l,h9,h9l,h89n,hm,hl⟩:=hF;clear hqhm hqhl;clear hK K
  try simp only [sqP]
  refine zq wo ?_ _
  try dsimp only [Exit.then]
  have hall:=aE hB (aE h8 (aE h8l (aE h9 (aE h9l (aE h89n (aE hm hl))))));clear hl hm h89n h9l h9 h8l h8 hB;generalize wn22=wz at hall ⊢
  revert hall;revert wz;revert g9;revert g8;revert c3;revert A3;revert q2;revert q1;exact REST.o
 exact z8.nil;intro q1 q2 A3 c3 g8 g9 wz hall;obtain⟨hB,h8,h8l,h9,h9l,h89n,hm,hl⟩:=hall;have ho:=hm.mono (N':=fun b=>b<w1.heap.size) (fun b hb=> .inl hb);have hg8:=h8l;have hg9:=h9l;clear hm h8l h9l h89n;obtain⟨hR,hD⟩:=HRD.o _ hB;obtain⟨f0,f1,f2,f3⟩:=sqF4 hR;obtain⟨y0,y1,y2,y3⟩:=sqC4 hR;obtain⟨e0,e1,e2⟩:=sqF3 hD;obtain⟨x0,x1,x2⟩:=sqC3 hD;obtain⟨s0,s1,s2,s3⟩:=sqC4 h8;obtain⟨t0,t1,t2⟩:=sqC3 h9;have hw1:=hB.size;have n9:¬(g9=H+1+1):=wm;have n8:¬(g8=H+1+1):=wm;have n9':¬(H+1+1=g9):=wm;have n98:g8≠g9:=UG h8 h9 ws;obtain⟨hF1,hF2,hF3,hF4,hF5⟩:=sqJ5 (qO (h:=H+1+1+1) (u0:=qv q1 s.aF.length) (u1:=qv q2 s.aG.length) (u2:= ay az s.aI) (u3:= ay az s.aH) (x0:= ay az ((ms s aJ).2.aK:Int)) (x1:=(ax A3 (ms s aJ).2.aJ.length c3)) (x2:= aA ⟨(ms s aJ).2.at_.toArray⟩) hR wm) (qP (g:=H+1+1) (u0:=qv q1 s.aF.length) (u1:=qv q2 s.aG.length) (u2:= ay az s.aI) (u3:= ay az s.aH) (x0:= ay az ((ms s aJ).2.aK:Int)) (x1:=(ax A3 (ms s aJ).2.aJ.length c3)) (x2:= aA ⟨(ms s aJ).2.at_.toArray⟩) hD wm) (qC (u0:=qv q1 s.aF.length) (u1:=qv q2 s.aG.length) (u2:= ay az s.aI) (u3:= ay az s.aH) (x0:= ay az ((ms s aJ).2.aK:Int)) (x1:=(ax A3 (ms s aJ).2.aJ.length c3)) (x2:= aA ⟨(ms s aJ).2.at_.toArray⟩) ho (g:=H+1+1) (h:=H+1+1+1) wm wm (ho.nb hR ws ws).1 (ho.nb hR ws ws).2 (ho.nb hD ws ws).1 (ho.nb hD ws ws).2) (qM (g:=H+1+1) (h:=H+1+1+1) (u0:=qv q1 s.aF.length) (u1:=qv q2 s.aG.length) (u2:= ay az s.aI) (u3:= ay az s.aH) (x0:= ay az ((ms s aJ).2.aK:Int)) (x1:=(ax A3 (ms s aJ).2.aJ.length c3)) (x2:= aA ⟨(ms s aJ).2.at_.toArray⟩) hl (zg hl hR ws) (zg hl hD ws)) (zK (g:=H+1+1) (h:=H+1+1+1) (u0:=qv q1 s.aF.length) (u1:=qv q2 s.aG.length) (u2:= ay az s.aI) (u3:= ay az s.aH) (x0:= ay az ((ms s aJ).2.aK:Int)) (x1:=(ax A3 (ms s aJ).2.aJ.length c3)) (x2:= aA ⟨(ms s aJ).2.at_.toArray⟩) (hb01.trans (hB.mono (show H<=w1.heap.size by omega))) wm wm);clear hR hD hB ho hl h8 h9 hg8 hg9 HSB HCP HST HRD
 refine wH ?_;intros;go_region
 all_goals dsimp only [Exit.then]
 go_wp2_with fail
 all_goals (refine bodyPost_ret (qc rfl _ _ (H+1+1) (H+1+1+1) _ _ _ _ _ _ _ _ ww (Arr.drew hF1.o) underlying34 rfl wo ww (Arr.drew hF2.o) underlying37 rfl wo) rfl ?_)
 all_goals exact⟨_,_,_,rfl,(hF3.o.drewX.lower (base':=H) wm).mono (fun b hb=>wm),zb (zc hF4.o (Below.refl _ _).drew) wm,hF5.o.drew⟩
end Go.Proofs.YtaboknhfiijipaaGreat
