/- Lemmas of the proof. Conditions: as stated. -/
import Derived.Test.YtnmlbflhnnmoeaaGreatQX45
import Derived.Test.YtnmlbflhnnmoeaaGreatQX47
set_option linter.unusedVariables false
set_option linter.unusedSimpArgs false
set_option maxRecDepth 100000
set_option maxHeartbeats 16000000
namespace Go.Proofs.YtnmlbflhnnmoeaaGreat
open Go.RowKit Go.Maps
theorem zU (w:World) (e1 e2:TypeId) (c1 c2 c3 c4:List Value):∃W,W=(((w.alloc (.cells c1.toArray e1)).alloc (.cells c2.toArray e2)).alloc (.cells c3.toArray e1)).alloc (.cells c4.toArray e2)∧Arr W w.heap.size e1 c1∧Arr W (w.heap.size+1) e2 c2∧Arr W (w.heap.size+1+1) e1 c3∧Arr W (w.heap.size+1+1+1) e2 c4∧Below w.heap.size w W:=by
 have b1:=(Below.refl w.heap.size w).alloc (Nat.le_refl _) (.cells c1.toArray e1);have b2:=b1.alloc b1.size (.cells c2.toArray e2);have b3:=b2.alloc b2.size (.cells c3.toArray e1);have b4:=b3.alloc b3.size (.cells c4.toArray e2);have a1:=((((Arr.new w e1 c1)).alloc (.cells c2.toArray e2)).alloc (.cells c3.toArray e1)).alloc (.cells c4.toArray e2);have a2:=((Arr.new (w.alloc (.cells c1.toArray e1)) e2 c2).alloc (.cells c3.toArray e1)).alloc (.cells c4.toArray e2);have a3:=(Arr.new ((w.alloc (.cells c1.toArray e1)).alloc (.cells c2.toArray e2)) e1 c3).alloc (.cells c4.toArray e2);have a4:=Arr.new (((w.alloc (.cells c1.toArray e1)).alloc (.cells c2.toArray e2)).alloc (.cells c3.toArray e1)) e2 c4;simp only [World.size_alloc]at a2 a3 a4;exact⟨_,rfl,a1,a2,a3,a4,b4⟩
theorem XO (w:World) (e1 e2:TypeId) (c1 c3 c4:List Value):∃W,W=((w.alloc (.cells c1.toArray e1)).alloc (.cells c3.toArray e1)).alloc (.cells c4.toArray e2)∧Arr W w.heap.size e1 c1∧Arr W (w.heap.size+1) e1 c3∧Arr W (w.heap.size+1+1) e2 c4∧Below w.heap.size w W:=by
 have b1:=(Below.refl w.heap.size w).alloc (Nat.le_refl _) (.cells c1.toArray e1);have b3:=b1.alloc b1.size (.cells c3.toArray e1);have b4:=b3.alloc b3.size (.cells c4.toArray e2);have a1:=(((Arr.new w e1 c1)).alloc (.cells c3.toArray e1)).alloc (.cells c4.toArray e2);have a3:=(Arr.new (w.alloc (.cells c1.toArray e1)) e1 c3).alloc (.cells c4.toArray e2);have a4:=Arr.new ((w.alloc (.cells c1.toArray e1)).alloc (.cells c3.toArray e1)) e2 c4;simp only [World.size_alloc]at a3 a4;exact⟨_,rfl,a1,a3,a4,b4⟩
theorem qR {P:Program} {fn:Func} {p q:Tmp} {ty ty2:TypeId} (h:fn.results=#[.cell p ty,.cell q ty2]) (tmps:Array Value) (w:World) (g g2:Nat) (t t2:TypeId) (cs cs2:Array Value) (fr fr2:Nat×Nat) (d d2:TypeDesc)
  (hp:tmps.getD p undef= .pointer (some ⟨g,0,none⟩)) (hg:w.heap[g]?=some (.cells cs t fr))
  (hu:P.underlying ty=some d) (hd:(match d with | .struct _ | .array _ _=>true | _=>false)=true) (hi:(P.info? ty).map (·.size)=some cs.size)
  (hp2:tmps.getD q undef= .pointer (some ⟨g2,0,none⟩)) (hg2:w.heap[g2]?=some (.cells cs2 t2 fr2))
  (hu2:P.underlying ty2=some d2) (hd2:(match d2 with | .struct _ | .array _ _=>true | _=>false)=true) (hi2:(P.info? ty2).map (·.size)=some cs2.size) :
  (results fn tmps).run P w= .ok (.tuple #[.agg cs,.agg cs2]) w:=by
 have hp':tmps[p]?.getD undef= .pointer (some ⟨g,0,none⟩):=by simpa using hp
 have hp2':tmps[q]?.getD undef= .pointer (some ⟨g2,0,none⟩):=by simpa using hp2
 simp [results,h,hp',hp2',asAddr,run_loadVar_row w g t ty cs fr d hg hu hd hi,run_loadVar_row w g2 t2 ty2 cs2 fr2 d2 hg2 hu2 hd2 hi2]
theorem zJ {P:Program} {fn:Func} {p q u:Tmp} {ty ty2:TypeId} (h:fn.results=#[.cell p ty,.cell q ty2,.tmp u]) (tmps:Array Value) (w:World) (g g2:Nat) (t t2:TypeId) (cs cs2:Array Value) (fr fr2:Nat×Nat) (d d2:TypeDesc)
  (hp:tmps.getD p undef= .pointer (some ⟨g,0,none⟩)) (hg:w.heap[g]?=some (.cells cs t fr))
  (hu:P.underlying ty=some d) (hd:(match d with | .struct _ | .array _ _=>true | _=>false)=true) (hi:(P.info? ty).map (·.size)=some cs.size)
  (hp2:tmps.getD q undef= .pointer (some ⟨g2,0,none⟩)) (hg2:w.heap[g2]?=some (.cells cs2 t2 fr2))
  (hu2:P.underlying ty2=some d2) (hd2:(match d2 with | .struct _ | .array _ _=>true | _=>false)=true) (hi2:(P.info? ty2).map (·.size)=some cs2.size) :
  (results fn tmps).run P w= .ok (.tuple #[.agg cs,.agg cs2,tmps.getD u undef]) w:=by
 have hp':tmps[p]?.getD undef= .pointer (some ⟨g,0,none⟩):=by simpa using hp
 have hp2':tmps[q]?.getD undef= .pointer (some ⟨g2,0,none⟩):=by simpa using hp2
 simp [results,h,hp',hp2',asAddr,run_loadVar_row w g t ty cs fr d hg hu hd hi,run_loadVar_row w g2 t2 ty2 cs2 fr2 d2 hg2 hu2 hd2 hi2]
theorem zK {P:Program} {fn:Func} {p q u z:Tmp} {ty ty2:TypeId} (h:fn.results=#[.cell p ty,.cell q ty2,.tmp u,.tmp z]) (tmps:Array Value) (w:World) (g g2:Nat) (t t2:TypeId) (cs cs2:Array Value) (fr fr2:Nat×Nat) (d d2:TypeDesc)
  (hp:tmps.getD p undef= .pointer (some ⟨g,0,none⟩)) (hg:w.heap[g]?=some (.cells cs t fr))
  (hu:P.underlying ty=some d) (hd:(match d with | .struct _ | .array _ _=>true | _=>false)=true) (hi:(P.info? ty).map (·.size)=some cs.size)
  (hp2:tmps.getD q undef= .pointer (some ⟨g2,0,none⟩)) (hg2:w.heap[g2]?=some (.cells cs2 t2 fr2))
  (hu2:P.underlying ty2=some d2) (hd2:(match d2 with | .struct _ | .array _ _=>true | _=>false)=true) (hi2:(P.info? ty2).map (·.size)=some cs2.size) :
  (results fn tmps).run P w= .ok (.tuple #[.agg cs,.agg cs2,tmps.getD u undef,tmps.getD z undef]) w:=by
 have hp':tmps[p]?.getD undef= .pointer (some ⟨g,0,none⟩):=by simpa using hp
 have hp2':tmps[q]?.getD undef= .pointer (some ⟨g2,0,none⟩):=by simpa using hp2
 simp [results,h,hp',hp2',asAddr,run_loadVar_row w g t ty cs fr d hg hu hd hi,run_loadVar_row w g2 t2 ty2 cs2 fr2 d2 hg2 hu2 hd2 hi2]
abbrev put7 (w:World) (g h:Nat) (u0 u1 u2 u3 x0 x1 x2:Value):World :=
 ((((((w.setCell ⟨g,0,none⟩ u0).setCell ⟨g,1,none⟩ u1).setCell ⟨g,2,none⟩ u2).setCell ⟨g,3,none⟩ u3).setCell ⟨h,0,none⟩ x0).setCell ⟨h,1,none⟩ x1).setCell ⟨h,2,none⟩ x2
section
variable {w w':World} {g h B:Nat} {e e':TypeId} {u0 u1 u2 u3 x0 x1 x2 a0 a1 a2 a3 b0 b1 b2:Value}
theorem Arr.all3 (hA:Arr w h e' [b0,b1,b2]) (x0 x1 x2:Value):Arr (((w.setCell ⟨h,0,none⟩ x0).setCell ⟨h,1,none⟩ x1).setCell ⟨h,2,none⟩ x2) h e' [x0,x1,x2] :=
 ((hA.set (k:=0) (by simp) x0).set (k:=1) (by simp) x1).set (k:=2) (by simp) x2
theorem zW (hA:Arr w g e [a0,a1,a2,a3]) (hne:g≠h):Arr (put7 w g h u0 u1 u2 u3 x0 x1 x2) g e [u0,u1,u2,u3] :=
 (((hA.all4 u0 u1 u2 u3).other hne x0).other hne x1).other hne x2
theorem zY (hA:Arr w h e' [b0,b1,b2]) (hne:g≠h):Arr (put7 w g h u0 u1 u2 u3 x0 x1 x2) h e' [x0,x1,x2] :=
 ((((hA.other hne.symm u0).other hne.symm u1).other hne.symm u2).other hne.symm u3).all3 x0 x1 x2
theorem zT {base:Nat} {v1 v2:Value} {s:StoP} {N:Nat→Prop} (ho:OwSt w base v1 v2 s N) (hg:N g) (hh:N h) (h1:v1.ownBlock≠some g) (h2:v2.ownBlock≠some g) (h3:v1.ownBlock≠some h) (h4:v2.ownBlock≠some h):OwSt (put7 w g h u0 u1 u2 u3 x0 x1 x2) base v1 v2 s N :=
 ((((((ho.setX hg h1 h2 u0).setX hg h1 h2 u1).setX hg h1 h2 u2).setX hg h1 h2 u3).setX hh h3 h4 x0).setX hh h3 h4 x1).setX hh h3 h4 x2
theorem zN {base n size:Nat} {t:TypeId} {v:Value} {xs:List Value} (ho:w.ownsRow base t size v n xs) (h1:v.ownBlock≠some g) (h2:v.ownBlock≠some h):(put7 w g h u0 u1 u2 u3 x0 x1 x2).ownsRow base t size v n xs :=
 zf (zf (zf (zf (zf (zf (zf ho h1) h1) h1) h1) h2) h2) h2
theorem zq {w0:World} (hb:Below B w0 w) (hg:B≤g) (hh:B≤h):Below B w0 (put7 w g h u0 u1 u2 u3 x0 x1 x2) :=
 Below.setCell (Below.setCell (Below.setCell (Below.setCell (Below.setCell (Below.setCell (Below.setCell hb hg u0) hg u1) hg u2) hg u3) hh x0) hh x1) hh x2
theorem xH {r:Option Nat} {w0:World} (hb:w0.grownBy w r) (hg:w0.heap.size≤g) (hh:w0.heap.size≤h):w0.grownBy (put7 w g h u0 u1 u2 u3 x0 x1 x2) r :=
 zH (zH (zH (zH (zH (zH (zH hb hg) hg) hg) hg) hh) hh) hh
end
abbrev ZX (w:World) (g:Nat) (u0 u1 u2 u3:Value):World:=(((w.setCell ⟨g,0,none⟩ u0).setCell ⟨g,1,none⟩ u1).setCell ⟨g,2,none⟩ u2).setCell ⟨g,3,none⟩ u3
abbrev z0h (w:World) (g:Nat) (u0 u1 u2:Value):World:=((w.setCell ⟨g,0,none⟩ u0).setCell ⟨g,1,none⟩ u1).setCell ⟨g,2,none⟩ u2
section
variable {w w':World} {g h B:Nat} {e:TypeId} {xs:List Value}
theorem Arr.other4 (hA:Arr w h e xs) (hne:h≠g) (u0 u1 u2 u3:Value):Arr (ZX w g u0 u1 u2 u3) h e xs:=(((hA.other hne u0).other hne u1).other hne u2).other hne u3
theorem Arr.other3 (hA:Arr w h e xs) (hne:h≠g) (u0 u1 u2:Value):Arr (z0h w g u0 u1 u2) h e xs:=((hA.other hne u0).other hne u1).other hne u2
theorem OwSt.set4N {base:Nat} {v1 v2:Value} {s:StoP} {N:Nat→Prop} (ho:OwSt w base v1 v2 s N) (hg:N g) (h1:v1.ownBlock≠some g) (h2:v2.ownBlock≠some g) (u0 u1 u2 u3:Value):OwSt (ZX w g u0 u1 u2 u3) base v1 v2 s N :=
 (((ho.setX hg h1 h2 u0).setX hg h1 h2 u1).setX hg h1 h2 u2).setX hg h1 h2 u3
theorem OwSt.set3N {base:Nat} {v1 v2:Value} {s:StoP} {N:Nat→Prop} (ho:OwSt w base v1 v2 s N) (hg:N g) (h1:v1.ownBlock≠some g) (h2:v2.ownBlock≠some g) (u0 u1 u2:Value):OwSt (z0h w g u0 u1 u2) base v1 v2 s N :=
 ((ho.setX hg h1 h2 u0).setX hg h1 h2 u1).setX hg h1 h2 u2
theorem qc {base n size:Nat} {t:TypeId} {v:Value} {ys:List Value} (ho:w.ownsRow base t size v n ys) (h1:v.ownBlock≠some g) (u0 u1 u2 u3:Value):(ZX w g u0 u1 u2 u3).ownsRow base t size v n ys:=zf (zf (zf (zf ho h1) h1) h1) h1
theorem qx {base n size:Nat} {t:TypeId} {v:Value} {ys:List Value} (ho:w.ownsRow base t size v n ys) (h1:v.ownBlock≠some g) (u0 u1 u2:Value):(z0h w g u0 u1 u2).ownsRow base t size v n ys:=zf (zf (zf ho h1) h1) h1
theorem QT {w0:World} (hb:Below B w0 w) (hg:B≤g) (u0 u1 u2 u3:Value):Below B w0 (ZX w g u0 u1 u2 u3):=Below.setCell (Below.setCell (Below.setCell (Below.setCell hb hg u0) hg u1) hg u2) hg u3
theorem Km {w0:World} (hb:Below B w0 w) (hg:B≤g) (u0 u1 u2:Value):Below B w0 (z0h w g u0 u1 u2):=Below.setCell (Below.setCell (Below.setCell hb hg u0) hg u1) hg u2
theorem OwSt.drewX {base:Nat} {v1 v2:Value} {s:StoP} {N:Nat→Prop} (ho:OwSt w base v1 v2 s N):OwSt w.drew base v1 v2 s N:=ho.below (Below.refl _ _).drew
theorem RwX.own_m {α:Type} {S:Shp α} {w:World} {e:TypeId} {base:Nat} {v:Value} {l:List α} {N:Nat→Prop} (h:RwX S e w base v l N):∃xs,w.ownsRow base e S.size v l.length xs:=by
 obtain⟨ps,_,_,h3,_⟩:=h;exact⟨_,h3⟩
theorem OwSt.nb {base:Nat} {v1 v2:Value} {s:StoP} {N:Nat→Prop} (ho:OwSt w base v1 v2 s N) (hA:Arr w g e xs) (h1:63≠e) (h2:49≠e):v1.ownBlock≠some g∧v2.ownBlock≠some g:=by
 obtain⟨xs1,hx⟩:=ho.b.own_m;obtain⟨xs2,hy⟩:=ho.e.own_m;exact⟨zg hx hA h1,zg hy hA h2⟩
end
structure RdC (w:World) (A:Option Addr) (n:Nat) (c:ColP):Prop where
 rd:Rd w 1 A c.grey.length (strs c.grey)
 cap:c.grey.length≤n
 max:n≤maxLen
theorem RdC.below {w w':World} {A:Option Addr} {n:Nat} {c:ColP} (h:RdC w A n c) (hb:Below w.heap.size w w'):RdC w' A n c:=⟨h.rd.below hb,h.cap,h.max⟩
theorem RdC.of_own {w:World} {base:Nat} {v:Value} {c:ColP} (h:w.ownsRow base 9 1 v c.grey.length (strs c.grey)):∃A n,v= .slice A c.grey.length n∧RdC w A n c:=by
 obtain⟨A,n,rfl,hs,_⟩:=Sl.of_own h;exact⟨A,n,rfl,hs.rd,hs.cap,hs.max⟩
abbrev coV (v:Value) (c:ColP):Value:= .agg #[.int .i64 c.phase,v,.string ⟨c.at_.toArray⟩]
def yo (bl:List BlobP) (k:Nat):List BlobP:=Vn (bl.take k)++bl.drop k
theorem Zi (bl:List BlobP) (k:Nat):(yo bl k).length=bl.length:=by
 unfold yo Vn;rw [List.length_append,List.length_map,List.length_take,List.length_drop];omega
theorem Kt (bl:List BlobP):yo bl 0=bl:=by simp [yo,Vn]
theorem XR (bl:List BlobP):yo bl bl.length=Vn bl:=by simp [yo]
theorem VR (bl:List BlobP) (k:Nat) (h:k<bl.length) (h':k<(yo bl k).length):(yo bl k)[k]=bl[k]:=by
 have e:(yo bl k)[k]?=bl[k]?:=by
  unfold yo Vn;rw [List.getElem?_append_right (by simp;omega)];simp only [List.length_map,List.length_take,List.getElem?_drop]
  congr 1;omega
 rw [List.getElem?_eq_getElem h',List.getElem?_eq_getElem h]at e;exact Option.some.inj e
theorem K5 (bl:List BlobP) (k:Nat) (h:k<bl.length):(yo bl k).set k { bl[k] with mark:=false }=yo bl (k+1):=by
 unfold yo Vn;have hl:(List.map (fun b:BlobP=> { b with mark:=false }) (bl.take k)).length=k:=by rw [List.length_map,List.length_take];omega
 rw [List.set_append_right _ _ (by omega),hl,Nat.sub_self,List.take_succ_eq_append_getElem h,List.map_append,List.append_assoc]
 congr 1
 rw [List.drop_eq_getElem_cons h];rfl
theorem OwSt.setB' {w:World} {base g n cap i j:Nat} {v2 u:Value} {s:StoP} {N:Nat→Prop} {y:BlobP} (h:OwSt w base (.slice (some ⟨g,0,none⟩) n cap) v2 s N) (hn:n=s.blobs.length) (hi:i<s.blobs.length) (hj:j<4)
  (hR:∀W cs,BlobS.R W s.blobs[i] cs→BlobS.R W y (cs.set j u)) (hlead:∀b,¬leads b [u]) :
  (∃v0,w.cell? ⟨g,i*4+j,none⟩=some v0)∧w.frozen? ⟨g,i*4+j,none⟩=false ∧
   OwSt (w.setCell ⟨g,i*4+j,none⟩ u) base (.slice (some ⟨g,0,none⟩) n cap) v2 { s with blobs:=s.blobs.set i y } N∧w.grownBy (w.setCell ⟨g,i*4+j,none⟩ u) (some g):=by
 subst hn;exact h.setB hi hj hR hlead
theorem Qt (A:Option Addr) (c:Nat) (B:Option Addr) (d:Nat) (s:StoP) (w:World) (hg:GoodS s) (hr:RdSt w A c B d s) :
  Calls Tryz.prog 14 #[.agg #[.slice A s.blobs.length c,.slice B s.ents.length d,.int .i64 s.room,.int .i64 s.clock]] w fun e w'=>∃v1 v2 v3,e= .returned (.tuple #[stV v1 v2 s,coV v3 (k9 s),.int .i64 0])∧OwSt w' w.heap.size v1 v2 (qy s) (fun b=>b<w.heap.size)∧w'.ownsRow w.heap.size 9 1 v3 (k9 s).grey.length (strs (k9 s).grey)∧Below w.heap.size w w':=by
 have hlb:s.blobs.length≤24:=hg.b.len;have hle:s.ents.length≤10:=hg.e.len;have HGD:=sqH hg;obtain⟨w0,hw0,hS,hR,hC,hb0⟩:=XO w 26 29 [.slice A s.blobs.length c,.slice B s.ents.length d,.int .i64 s.room,.int .i64 s.clock] [.slice none 0 0,.slice none 0 0,.int .i64 0,.int .i64 0] [.int .i64 0,.slice none 0 0,.string ⟨#[]⟩];have hr0:=hr.below hb0;obtain⟨H,hH⟩:∃H,H=w.heap.size:=⟨_,rfl⟩
 have HCK:=sqH (zF A c B d s w0 hg hr0);have HRD:=sqH (show ∀W,Below H w W→RdSt W A c B d s from fun W h=>hr.below (hH▸h));have HSZ:=sqH (show ∀W,Below H w W→H≤W.heap.size from fun W h=>hH▸h.size);rw [←hH]at hS hR hC hb0 ⊢
 have hHc:H+1+1<w0.heap.size:=hC.lt;obtain⟨x0,x1,x2,x3⟩:=sqC4 hS;rw [hw0,hH]at x0 x1 x2 x3;have HPL:=sqH (show ∀b∈s.blobs,b.data.length≤1000000 from fun b hb=>by have:=(hg.b.one b hb).2.1;omega);have HQL:=sqH (show ∀x∈s.ents,x.parts.length≤1000000 from fun x hx=>by have:=(zj (hg.e.one x hx).2.1).1;omega);clear hg hr;go_enter Tryz.func14,Tryz.ntmps14;go_wp2_with fail;rw [←hw0,←hH];have HH:=sqH hH;clear hw0 hH x0 x1 x2 x3;refine HCK.out.mono ?_;rintro e_ w1 ⟨rfl,hb1⟩;dsimp only;have hr1:=hr0.below hb1;have hS1:=hS.below hb1;obtain⟨z0,z1,z2,z3⟩:=sqC4 hS1;have HCP:=sqH (qe A c B d s w1 (by omega) (by omega) HPL.out HQL.out hr1);clear hr0 hS1 HCK;go_wp2_with fail;clear z0 z1 z2 z3;refine HCP.out.mono ?_;rintro e_ w3 ⟨q1,q2,rfl,ho3,hb3⟩;dsimp only;have hc3:=hb1.trans (hb3.mono hb1.size);have ho3:=ho3.lower (base':=w0.heap.size) hb1.size;obtain⟨G,hG⟩:∃G,G=w3.heap.size:=⟨_,rfl⟩
 have hba:=(Below.refl w3.heap.size w3).alloc (Nat.le_refl _) (.cells #[.slice (some ⟨q1,0,none⟩) s.blobs.length s.blobs.length,.slice (some ⟨q2,0,none⟩) s.ents.length s.ents.length,.int .i64 s.room,.int .i64 s.clock] 26);have HXO:=sqH (show Arr (w3.alloc (.cells #[.slice (some ⟨q1,0,none⟩) s.blobs.length s.blobs.length,.slice (some ⟨q2,0,none⟩) s.ents.length s.ents.length,.int .i64 s.room,.int .i64 s.clock] 26)) G 26 [.slice (some ⟨q1,0,none⟩) s.blobs.length s.blobs.length,.slice (some ⟨q2,0,none⟩) s.ents.length s.ents.length,.int .i64 s.room,.int .i64 s.clock] from by rw [hG];exact Arr.new w3 26 _);have HOW:=sqH (show OwSt (w3.alloc (.cells #[.slice (some ⟨q1,0,none⟩) s.blobs.length s.blobs.length,.slice (some ⟨q2,0,none⟩) s.ents.length s.ents.length,.int .i64 s.room,.int .i64 s.clock] 26)) w0.heap.size (.slice (some ⟨q1,0,none⟩) s.blobs.length s.blobs.length) (.slice (some ⟨q2,0,none⟩) s.ents.length s.ents.length) s (fun b=>b<w0.heap.size∨b=G) from
  (ho3.wider fun b hb=>by
   rcases hb with hb | hb
   ·exact .inl (Nat.lt_of_lt_of_le hb hb1.size)
   ·exact .inr (by rw [hb,hG];exact Nat.le_refl _)).below hba)
 have HBK:=sqH (hc3.trans (hba.mono hc3.size));have HGL:=sqH (show w0.heap.size≤G from by rw [hG];exact hc3.size);have HG:=sqH hG;have HS0:=sqH (show ∀W,Below w0.heap.size w0 W→Arr W H 26 [.slice A s.blobs.length c,.slice B s.ents.length d,.int .i64 s.room,.int .i64 s.clock]∧Arr W (H+1) 26 [.slice none 0 0,.slice none 0 0,.int .i64 0,.int .i64 0]∧Arr W (H+1+1) 29 [.int .i64 0,.slice none 0 0,.string ⟨#[]⟩] from fun W h=>⟨hS.below h,hR.below h,hC.below h⟩);have HB0:=sqH hb0;have b0:=HXO.out.cell (k:=0) rfl;clear hS hR hC hc3 ho3 hb3 hr1 HCP hb0 hG hba hb1;go_wp2_with fail;rw [←HG.out];generalize (w3.alloc (.cells #[.slice (some ⟨q1,0,none⟩) s.blobs.length s.blobs.length,.slice (some ⟨q2,0,none⟩) s.ents.length s.ents.length,.int .i64 s.room,.int .i64 s.clock] 26))=w4 at *
 clear b0;have hb63:(s.blobs.length:Int)≤9223372036854775807:=by omega
 go_loopg [20] s.blobs.length (fun gn i wr=>∃k:Nat,gn=s.blobs.length - k∧i= .int .i64 k∧k≤s.blobs.length∧Arr wr G 26 [.slice (some ⟨q1,0,none⟩) s.blobs.length s.blobs.length,.slice (some ⟨q2,0,none⟩) s.ents.length s.ents.length,.int .i64 s.room,.int .i64 s.clock]∧OwSt wr w0.heap.size (.slice (some ⟨q1,0,none⟩) s.blobs.length s.blobs.length) (.slice (some ⟨q2,0,none⟩) s.ents.length s.ents.length) { s with blobs:=yo s.blobs k } (fun b=>b<w0.heap.size∨b=G)∧Below w0.heap.size w0 wr)
 case atStart=>exact⟨0,rfl,rfl,by omega,HXO.out,by rw [Kt];exact HOW.out,HBK.out⟩
 case round =>
  obtain⟨k,hgk,rfl,hk,hX,ho,hbk⟩:=hrel;have HGK:=sqH hgk;clear hgk HXO HOW HBK;by_cases hlt:k<s.blobs.length
  rotate_left
  ·obtain rfl:k=s.blobs.length:=by omega
   have hlb:decide (s.blobs.length<s.blobs.length)=false:=by simp
   rw [XR]at ho;have bo:=sqH ho;have bx:=sqH hX;have bk:=sqH hbk;have hGB:=HGL.out;clear ho hX hbk
   repeat' ((fail_if_success (with_reducible refine at_reg_ 10 ?_));(fail_if_success (with_reducible refine at_sreg_ 10 ?_));(fail_if_success (with_reducible refine at_ssreg_ 10 ?_));(fail_if_success at_builtin);(fail_if_success at_make);(first | go_values | go_skip | go_guarded | go_step | go_upon | go_back))
   have bb:=HB0.out.trans (bk.out.mono (show H≤w0.heap.size by omega));obtain⟨bs,br,bc⟩:=HS0.out _ bk.out;have bo:=bo.out;have bx:=bx.out;refine wp_region_held_drew (S:=(fun w'=>(w'.cell? ⟨G,0,none⟩=some (.slice (some ⟨q1,0,none⟩) s.blobs.length s.blobs.length)∧w'.cell? ⟨G,1,none⟩=some (.slice (some ⟨q2,0,none⟩) s.ents.length s.ents.length)∧w'.cell? ⟨G,2,none⟩=some (.int .i64 s.room)∧w'.cell? ⟨G,3,none⟩=some (.int .i64 s.clock))∧(w'.cell? ⟨H,0,none⟩=some (.slice A s.blobs.length c)∧w'.cell? ⟨H,1,none⟩=some (.slice B s.ents.length d)∧w'.cell? ⟨H,2,none⟩=some (.int .i64 s.room)∧w'.cell? ⟨H,3,none⟩=some (.int .i64 s.clock)))) (by kernel_rfl) ?_ (fun hHeld=> ?_)
   ·exact⟨⟨(bx.drew).cell (k:=0) rfl,(bx.drew).cell (k:=1) rfl,(bx.drew).cell (k:=2) rfl,(bx.drew).cell (k:=3) rfl⟩,⟨(bs.drew).cell (k:=0) rfl,(bs.drew).cell (k:=1) rfl,(bs.drew).cell (k:=2) rfl,(bs.drew).cell (k:=3) rfl⟩⟩
   have bx:=bx.drew;have bs:=bs.drew;have br:=br.drew;have bc:=bc.drew;have bo:=bo.drewX;have bb:=bb.drew;generalize wr.drew=wn0 at *
   refine sqTH 0 ?_;try simp only [sqP]
   refine sqTH 1 ?_;try simp only [sqP]
   refine wpAnyH_ready (rs:= [2]) (by kernel_rfl) (by simp) ?_;refine AllReadyH.cons (o:=_) rfl (fun K hK=> ?_) ?_
   ·
    go_simp;refine(yd A B c d s (s.room:Int) (s.clock:Int) wn0 HGD.out.rts (HRD.out _ bb)).mono ?_;rintro e5 w5 ⟨v5,L,rfl,hL,hLl,ho5,hb5⟩;obtain rfl:=hL.uni (L:=rts s) (fun x=>Iff.rfl);obtain⟨A5,c5,rfl,_,_⟩:=Rd.of_own' ho5;dsimp only;refine qJ hK ?_ (Below wn0.heap.size wn0) (fun W=>W.ownsRow H 9 1 (.slice A5 (uni (rts s)).length c5) (uni (rts s)).length (strs (uni (rts s)))) ?_ ?_ (fun wn1 hHeld hst hnew=> ?_)
    ·(exact⟨⟨(bx.below hb5).cell (k:=0) rfl,(bx.below hb5).cell (k:=1) rfl,(bx.below hb5).cell (k:=2) rfl,(bx.below hb5).cell (k:=3) rfl⟩,⟨(bs.below hb5).cell (k:=0) rfl,(bs.below hb5).cell (k:=1) rfl,(bs.below hb5).cell (k:=2) rfl,(bs.below hb5).cell (k:=3) rfl⟩⟩)
    ·(exact hb5)
    ·(exact ze ho5 (HSZ.out _ bb))
    have bx:=bx.below hst;have bs:=bs.below hst;have br:=br.below hst;have bc:=bc.below hst;have bo:=bo.below hst;have bb:=bb.trans (hst.mono (HSZ.out _ bb));have hl:=hnew;clear hnew;clear hst;clear hK K
    try simp only [sqP]
    refine sqTH 3 ?_;try simp only [sqP]
    refine wpAnyH_ready (rs:= [4]) (by kernel_rfl) (by simp) ?_;refine AllReadyH.cons (o:=_) rfl (fun K hK=> ?_) ?_
    ·
     obtain⟨f0,f1,f2,f3⟩:=sqF4 br;obtain⟨y0,y1,y2,y3⟩:=sqC4 br;go_simp;clear f0 f1 f2 f3 y0 y1 y2 y3;obtain⟨nb1,nb2⟩:=bo.nb br (by decide) (by decide);have nl:=zg hl br (by decide);have bx:=bx.other4 (g:=H+1) (by omega) (.slice (some ⟨q1,0,none⟩) s.blobs.length s.blobs.length) (.slice (some ⟨q2,0,none⟩) s.ents.length s.ents.length) (.int .i64 s.room) (.int .i64 s.clock);have bs:=bs.other4 (g:=H+1) (by omega) (.slice (some ⟨q1,0,none⟩) s.blobs.length s.blobs.length) (.slice (some ⟨q2,0,none⟩) s.ents.length s.ents.length) (.int .i64 s.room) (.int .i64 s.clock);have bc:=bc.other4 (g:=H+1) (by omega) (.slice (some ⟨q1,0,none⟩) s.blobs.length s.blobs.length) (.slice (some ⟨q2,0,none⟩) s.ents.length s.ents.length) (.int .i64 s.room) (.int .i64 s.clock);have br:=br.all4 (.slice (some ⟨q1,0,none⟩) s.blobs.length s.blobs.length) (.slice (some ⟨q2,0,none⟩) s.ents.length s.ents.length) (.int .i64 s.room) (.int .i64 s.clock);have bo:=bo.set4N (g:=H+1) (.inl (by omega)) nb1 nb2 (.slice (some ⟨q1,0,none⟩) s.blobs.length s.blobs.length) (.slice (some ⟨q2,0,none⟩) s.ents.length s.ents.length) (.int .i64 s.room) (.int .i64 s.clock);have bb:=QT (g:=H+1) bb (by omega) (.slice (some ⟨q1,0,none⟩) s.blobs.length s.blobs.length) (.slice (some ⟨q2,0,none⟩) s.ents.length s.ents.length) (.int .i64 s.room) (.int .i64 s.clock);have hl:=qc (g:=H+1) hl nl (.slice (some ⟨q1,0,none⟩) s.blobs.length s.blobs.length) (.slice (some ⟨q2,0,none⟩) s.ents.length s.ents.length) (.int .i64 s.room) (.int .i64 s.clock);refine qJ hK ?_ (fun W=>(Arr W G 26 [(.slice (some ⟨q1,0,none⟩) s.blobs.length s.blobs.length),(.slice (some ⟨q2,0,none⟩) s.ents.length s.ents.length),(.int .i64 s.room),(.int .i64 s.clock)]∧Arr W H 26 [.slice A s.blobs.length c,.slice B s.ents.length d,(.int .i64 s.room),(.int .i64 s.clock)]∧Arr W (H+1) 26 [(.slice (some ⟨q1,0,none⟩) s.blobs.length s.blobs.length),(.slice (some ⟨q2,0,none⟩) s.ents.length s.ents.length),(.int .i64 s.room),(.int .i64 s.clock)]∧Arr W (H+1+1) 29 [.int .i64 0,.slice none 0 0,.string ⟨#[]⟩])∧OwSt W w0.heap.size (.slice (some ⟨q1,0,none⟩) s.blobs.length s.blobs.length) (.slice (some ⟨q2,0,none⟩) s.ents.length s.ents.length) (qy s) (fun b=>b<w0.heap.size∨b=G)∧Below H w W∧W.ownsRow H 9 1 (.slice A5 (uni (rts s)).length c5) (uni (rts s)).length (strs (uni (rts s)))) (fun W=>True) ?_ ?_ (fun wn2 hHeld hF _=> ?_)
     ·exact⟨⟨(bx).cell (k:=0) rfl,(bx).cell (k:=1) rfl,(bx).cell (k:=2) rfl,(bx).cell (k:=3) rfl⟩,⟨(bs).cell (k:=0) rfl,(bs).cell (k:=1) rfl,(bs).cell (k:=2) rfl,(bs).cell (k:=3) rfl⟩⟩
     ·exact⟨⟨bx,bs,br,bc⟩,bo,bb,hl⟩
     ·trivial
     clear bx bs br bc bo bb hl nb1 nb2 nl;obtain⟨⟨bx,bs,br,bc⟩,bo,bb,hl⟩:=hF;clear hK K
     try simp only [sqP]
     refine wpAnyH_ready (rs:= [5]) (by kernel_rfl) (by simp) ?_;refine AllReadyH.cons (o:=_) rfl (fun K hK=> ?_) ?_
     ·
      obtain⟨f0,f1,f2⟩:=sqF3 bc;obtain⟨y0,y1,y2⟩:=sqC3 bc;go_simp;clear f0 f1 f2 y0 y1 y2;obtain⟨nb1,nb2⟩:=bo.nb bc (by decide) (by decide);have nl:=zg hl bc (by decide);have bx:=bx.other3 (g:=H+1+1) (by omega) (.int .i64 1) (.slice A5 (uni (rts s)).length c5) (.string ⟨#[]⟩);have bs:=bs.other3 (g:=H+1+1) (by omega) (.int .i64 1) (.slice A5 (uni (rts s)).length c5) (.string ⟨#[]⟩);have br:=br.other3 (g:=H+1+1) (by omega) (.int .i64 1) (.slice A5 (uni (rts s)).length c5) (.string ⟨#[]⟩);have bc:=bc.all3 (.int .i64 1) (.slice A5 (uni (rts s)).length c5) (.string ⟨#[]⟩);have bo:=bo.set3N (g:=H+1+1) (.inl (by omega)) nb1 nb2 (.int .i64 1) (.slice A5 (uni (rts s)).length c5) (.string ⟨#[]⟩);have bb:=Km (g:=H+1+1) bb (by omega) (.int .i64 1) (.slice A5 (uni (rts s)).length c5) (.string ⟨#[]⟩);have hl:=qx (g:=H+1+1) hl nl (.int .i64 1) (.slice A5 (uni (rts s)).length c5) (.string ⟨#[]⟩);refine qJ hK ?_ (fun W=>(Arr W G 26 [(.slice (some ⟨q1,0,none⟩) s.blobs.length s.blobs.length),(.slice (some ⟨q2,0,none⟩) s.ents.length s.ents.length),(.int .i64 s.room),(.int .i64 s.clock)]∧Arr W H 26 [.slice A s.blobs.length c,.slice B s.ents.length d,(.int .i64 s.room),(.int .i64 s.clock)]∧Arr W (H+1) 26 [(.slice (some ⟨q1,0,none⟩) s.blobs.length s.blobs.length),(.slice (some ⟨q2,0,none⟩) s.ents.length s.ents.length),(.int .i64 s.room),(.int .i64 s.clock)]∧Arr W (H+1+1) 29 [.int .i64 1,(.slice A5 (uni (rts s)).length c5),.string ⟨#[]⟩])∧OwSt W w0.heap.size (.slice (some ⟨q1,0,none⟩) s.blobs.length s.blobs.length) (.slice (some ⟨q2,0,none⟩) s.ents.length s.ents.length) (qy s) (fun b=>b<w0.heap.size∨b=G)∧Below H w W∧W.ownsRow H 9 1 (.slice A5 (uni (rts s)).length c5) (uni (rts s)).length (strs (uni (rts s)))) (fun W=>True) ?_ ?_ (fun wn3 hHeld hF _=> ?_)
      ·exact⟨⟨(bx).cell (k:=0) rfl,(bx).cell (k:=1) rfl,(bx).cell (k:=2) rfl,(bx).cell (k:=3) rfl⟩,⟨(bs).cell (k:=0) rfl,(bs).cell (k:=1) rfl,(bs).cell (k:=2) rfl,(bs).cell (k:=3) rfl⟩⟩
      ·exact⟨⟨bx,bs,br,bc⟩,bo,bb,hl⟩
      ·trivial
      clear bx bs br bc bo bb hl nb1 nb2 nl;obtain⟨⟨bx,bs,br,bc⟩,bo,bb,hl⟩:=hF;clear hK K
      try simp only [sqP]
      refine sqTH 6 ?_;try simp only [sqP]
      refine wpAnyH_done (by kernel_rfl) ?_ _;dsimp only [Exit.then];clear hHeld;go_wp2_with fail;refine bodyPost_ret (zJ rfl _ _ (H+1) (H+1+1) _ _ _ _ _ _ _ _ (by rfl) br Tryz.underlying26 rfl (by kernel_rfl) (by rfl) bc Tryz.underlying29 rfl (by kernel_rfl)) rfl ?_;exact⟨_,_,_,rfl,(bo.lower (base':=H) (by omega)).mono (fun b hb=> .inl (by omega)),hl,bb⟩
     exact AllReadyH.nil
    exact AllReadyH.nil
   exact AllReadyH.nil
  have hlb:decide (k<s.blobs.length)=true:=decide_eq_true hlt;have hk0:(0:Int)≤(k:Int):=by omega
  have hk1:(k:Int)<(s.blobs.length:Int):=by omega
  have hkl:k<(yo s.blobs k).length:=by rw [Zi];exact hlt
  have h5:=ho.setB' (i:=k) (j:=3) (y:= { s.blobs[k] with mark:=false }) (u:= .bool false) (Zi s.blobs k).symm hkl (by omega) (fun W cs h=>by
   rw [VR s.blobs k hlt hkl]at h;exact vP _ false W cs h) (qY false)
  obtain⟨⟨v0,c3⟩,f3,ho2,hg2⟩:=h5;have hsu:=K5 s.blobs k hlt;have HO2:=sqH (show OwSt (wr.setCell ⟨q1,k*4+3,none⟩ (.bool false)) w0.heap.size (.slice (some ⟨q1,0,none⟩) s.blobs.length s.blobs.length) (.slice (some ⟨q2,0,none⟩) s.ents.length s.ents.length) { s with blobs:=yo s.blobs (k+1) } (fun b=>b<w0.heap.size∨b=G) from by rw [←hsu];exact ho2);have hne:(Value.slice (some ⟨q1,0,none⟩) s.blobs.length s.blobs.length).ownBlock≠some G:=(ho.nb hX (by decide) (by decide)).1;have hX2:=hX.grown hg2 hne;have hbk2:=hbk.grown hg2 hbk.size (fun b e=>by cases e;exact(ho.b.rwo.blk rfl).1);have HX2:=sqH hX2;have HBK2:=sqH hbk2;have x0:=hX.cell (k:=0) rfl;have HKL:=sqH hlt;clear hsu ho2 hg2 hne ho hX hX2 hbk hbk2 hkl;go_wp2_with fail;go_roundg (s.blobs.length - (k+1))
  case measure=>have:=HGK.out;have:=HKL.out;omega
  case rel=>exact⟨k+1,rfl,by go_num,by have:=HKL.out;omega,HX2.out,HO2.out,HBK2.out⟩
structure StpW (W:World) (H base:Nat) (v1 v2:Value) (r k:Nat) (t:StoP) (cc:List Value) (N:Nat→Prop):Prop where
 s:Arr W H 26 [v1,v2,.int .i64 r,.int .i64 k]
 c:Arr W (H+1) 29 cc
 r:Arr W (H+1+1) 26 [.slice none 0 0,.slice none 0 0,.int .i64 0,.int .i64 0]
 d:Arr W (H+1+1+1) 29 [.int .i64 0,.slice none 0 0,.string ⟨#[]⟩]
 o:OwSt W base v1 v2 t (fun b=>N b∨(H≤b∧b≤H+3))
theorem StpW.below {W W':World} {H base r k:Nat} {v1 v2:Value} {t:StoP} {cc:List Value} {N:Nat→Prop} (h:StpW W H base v1 v2 r k t cc N) (hb:Below W.heap.size W W'):StpW W' H base v1 v2 r k t cc N :=
 ⟨h.s.below hb,h.c.below hb,h.r.below hb,h.d.below hb,h.o.below hb⟩
theorem JP (r:Option Nat):∃z ee:Int,jN r= .tuple #[.int .i64 z,.int .i64 ee]∧((r=none∧ee=5)∨∃i,r=some i∧z=(i:Int)∧ee=0):=by
 cases r with
 | none=>exact⟨0,5,rfl,.inl ⟨rfl,rfl⟩⟩
 | some i=>exact⟨_,_,rfl,.inr ⟨i,rfl,rfl,rfl⟩⟩
theorem U8 (base q1 q2:Nat) (Ag:Option Addr) (ng:Nat) (s:StoP) (c:ColP) (w:World) (N:Nat→Prop) (hg:GoodS s) (hp:c.phase=1) (hat:c.at_= []) (hgl:c.grey.length≤1000)
  (ho:OwSt w base (.slice (some ⟨q1,0,none⟩) s.blobs.length s.blobs.length) (.slice (some ⟨q2,0,none⟩) s.ents.length s.ents.length) s N) (hc:RdC w Ag ng c) :
  Calls Tryz.prog 125 #[stV (.slice (some ⟨q1,0,none⟩) s.blobs.length s.blobs.length) (.slice (some ⟨q2,0,none⟩) s.ents.length s.ents.length) s,coV (.slice Ag c.grey.length ng) c] w fun e w' =>
   ∃v3,e= .returned (.tuple #[stV (.slice (some ⟨q1,0,none⟩) s.blobs.length s.blobs.length) (.slice (some ⟨q2,0,none⟩) s.ents.length s.ents.length) s,coV v3 (zm s c).2]) ∧
    OwSt w' base (.slice (some ⟨q1,0,none⟩) s.blobs.length s.blobs.length) (.slice (some ⟨q2,0,none⟩) s.ents.length s.ents.length) (zm s c).1 N∧w'.ownsRow w.heap.size 9 1 v3 (zm s c).2.grey.length (strs (zm s c).2.grey)∧w.grownBy w' (some q1):=by
 have hlb:s.blobs.length≤24:=hg.b.len;have HGD:=sqH hg;have HMW:=sqH (qi s c);obtain⟨phase,grey,at_⟩:=c;simp only at hp hat hgl;subst hp hat
 obtain⟨w0,hw0,hS,hC,hR,hD,hb0⟩:=zU w 26 29 [.slice (some ⟨q1,0,none⟩) s.blobs.length s.blobs.length,.slice (some ⟨q2,0,none⟩) s.ents.length s.ents.length,.int .i64 s.room,.int .i64 s.clock] [.int .i64 1,.slice Ag grey.length ng,.string ⟨#[]⟩] [.slice none 0 0,.slice none 0 0,.int .i64 0,.int .i64 0] [.int .i64 0,.slice none 0 0,.string ⟨#[]⟩];have hrg:=hc.rd.below hb0;have hgc:=hc.cap;have hgm:=hc.max;simp only at hrg hgc hgm;have ho0:=(ho.wider (N':=fun b=>N b∨(w.heap.size≤b∧b≤w.heap.size+3)) (fun b hb=>hb.imp id (fun e=>e.1))).below hb0;have hq1:q1<w.heap.size:=(ho.b.rwo.blk rfl).2;have HOO:=sqH ho;obtain⟨H,hH⟩:∃H,H=w.heap.size:=⟨_,rfl⟩
 rw [←hH]at hS hC hR hD ho0 hq1;have x0:=hC.cell (k:=1) rfl;obtain⟨x1,x2,x3,x4⟩:=sqC4 hS;have sw:StpW w0 H base (.slice (some ⟨q1,0,none⟩) s.blobs.length s.blobs.length) (.slice (some ⟨q2,0,none⟩) s.ents.length s.ents.length) s.room s.clock s [.int .i64 1,.slice Ag grey.length ng,.string ⟨#[]⟩] N:=⟨hS,hC,hR,hD,ho0⟩
 have hgr:w.grownBy w0 (some q1):=kq hb0;rw [hw0,hH]at x0 x1 x2 x3 x4;clear hg hc hS hC hR hD ho0 hb0 ho;have HH:=sqH hH;cases grey with
 | nil =>
  obtain⟨_,HM⟩:_∧Hid (zm s ⟨1, [], []⟩=(s,⟨2, [], []⟩)):=⟨trivial,Lib.hid rfl⟩
  rw [HM.out];simp only [List.length_nil] at *
  clear x0 x1 x2 x3 x4 hw0 hrg sw hgr;obtain⟨W,hW,_,_,hR,hD,hb⟩:=zU w 26 29 [.slice (some ⟨q1,0,none⟩) s.blobs.length s.blobs.length,.slice (some ⟨q2,0,none⟩) s.ents.length s.ents.length,.int .i64 s.room,.int .i64 s.clock] [.int .i64 1,.slice Ag 0 ng,.string ⟨#[]⟩] [.slice (some ⟨q1,0,none⟩) s.blobs.length s.blobs.length,.slice (some ⟨q2,0,none⟩) s.ents.length s.ents.length,.int .i64 s.room,.int .i64 s.clock] [.int .i64 2,.slice none 0 0,.string ⟨#[]⟩];go_enter Tryz.func125,Tryz.ntmps125
  repeat' (fail_if_success (first|at_builtin|at_make));first|go_values|go_skip|go_guarded|go_step|go_upon|go_back
  rw [←hW];refine bodyPost_ret (qR rfl _ _ (w.heap.size+1+1) (w.heap.size+1+1+1) _ _ _ _ _ _ _ _ (by rfl) hR Tryz.underlying26 rfl (by kernel_rfl) (by rfl) hD Tryz.underlying29 rfl (by kernel_rfl)) rfl ?_;exact⟨.slice none 0 0,rfl,HOO.out.below hb,World.ownsRow_nil _ _ _ _,kq hb⟩
 | cons d rest =>
  have hln0:((((d::rest).length:Nat):Int)==0)=false:=by rw [beq_eq_false_iff_ne];simp only [List.length_cons];omega
  obtain⟨n1,hn1⟩:∃n,n=(d::rest).length:=⟨_,rfl⟩
  have hn1p:0<n1:=by rw [hn1];simp
  rw [←hn1]at hln0 x0 sw hgc hgl hw0 ⊢
  have HRG:=sqH hrg;have HN1:=sqH hn1;clear hrg hn1;go_enter Tryz.func125,Tryz.ntmps125
  repeat' ((fail_if_success (with_reducible refine at_reg_ 3 ?_));(fail_if_success (with_reducible refine at_sreg_ 3 ?_));(fail_if_success (with_reducible refine at_ssreg_ 3 ?_));(fail_if_success at_builtin);(fail_if_success at_make);(first | go_values | go_skip | go_guarded | go_step | go_upon | go_back))
  rw [←hw0];rw [←hH];clear x0 x1 x2 x3 x4 hw0 hH;have HRB:=sqH (show Rw BlobS w0 (some ⟨q1,0,none⟩) s.blobs from by
   obtain⟨A9,c9,B9,d9,e1,_,hrd⟩:=sw.o.rows;cases e1;exact hrd.b)
  obtain⟨bq,oq,e1,hbq,hcq⟩:=HRG.out.2 (by simp);subst e1;have c00:=hcq 0 _ rfl;rw [Nat.add_zero]at c00;have HSB:=sqH (show ∀W,Below w0.heap.size w0 W→W.cell? ⟨H,0,none⟩=some (.slice (some ⟨q1,0,none⟩) s.blobs.length s.blobs.length)∧W.cell? ⟨H+1,1,none⟩=some (.slice (some ⟨bq,oq,none⟩) n1 ng)∧W.cell? ⟨bq,oq,none⟩=some (.string ⟨d.toArray⟩) from fun W h=>⟨(sw.s.below h).cell (k:=0) rfl,(sw.c.below h).cell (k:=1) rfl,(h.cell (p:=⟨bq,oq,none⟩) hbq).trans c00⟩);obtain⟨z,ee,hfn,hway⟩:=JP (s.blobs.findIdx? (fun x=>x.dig==d));have HFN:=sqH hfn;have HSZ:=sqH (show w.heap.size≤w0.heap.size from hgr.size);have HWAY:=sqH hway;have hn63:(n1:Int)≤9223372036854775807:=by omega
  have hn0:(0:Int)<(n1:Int):=by omega
  clear hcq c00 hfn hway hbq;refine wp_region_held_drew (S:=(fun w'=>w'.cell? ⟨H,0,none⟩=some (.slice (some ⟨q1,0,none⟩) s.blobs.length s.blobs.length)∧w'.cell? ⟨H+1,1,none⟩=some (.slice (some ⟨bq,oq,none⟩) n1 ng)∧w'.cell? ⟨bq,oq,none⟩=some (.string ⟨d.toArray⟩))) (by kernel_rfl) ?_ (fun hHeld=> ?_)
  ·exact HSB.out _ (Below.refl _ w0).drew
  have hB:=(Below.refl w0.heap.size w0).drew;generalize w0.drew=wn0 at *
  refine sqTH 0 ?_;try simp only [sqP]
  refine sqTH 1 ?_;try simp only [sqP]
  refine sqTH 2 ?_;try simp only [sqP]
  refine sqTH 3 ?_;try simp only [sqP]
  refine sqTH 4 ?_;try simp only [sqP]
  refine sqTH 5 ?_;try simp only [sqP]
  refine wpAnyH_ready (rs:= [6]) (by kernel_rfl) (by simp) ?_;refine AllReadyH.cons (o:=_) rfl (fun K hK=> ?_) ?_
  ·
   go_simp;refine(yh (some ⟨q1,0,none⟩) s.blobs.length s.blobs d wn0 (by omega) (HRB.out.below hB)).mono ?_;rintro e5 w5 ⟨rfl,hb5⟩;rw [HFN.out];dsimp only;refine qJ hK ?_ (Below wn0.heap.size wn0) (fun W=>True) ?_ ?_ (fun wn1 hHeld hst hnew=> ?_)
   ·(exact HSB.out _ (hB.trans (hb5.mono hB.size)))
   ·(exact hb5)
   ·(trivial)
   have hB:=hB.trans (hst.mono hB.size);clear hst;clear hK K
   try simp only [sqP]
   refine sqTH 7 ?_;try simp only [sqP]
   refine sqTH 8 ?_;try simp only [sqP]
   refine sqTH 9 ?_;try simp only [sqP]
   refine sqTH 10 ?_;try simp only [sqP]
   refine sqTH 11 ?_;try simp only [sqP]
   refine wpAnyH_done (by kernel_rfl) ?_ _;dsimp only [Exit.then];clear hHeld;have sw:=sw.below hB;have hgr:=kw hgr hB;have hrg:=HRG.out.below hB;have hs5:=hB.size;clear hB HSB;generalize wn1=w5 at *
   have q1c:=sw.c.cell (k:=1) rfl;have g1:decide ((1:Int)≤(n1:Int))=true:=decide_eq_true (by omega);have g2:(1:Int)≤(ng:Int):=by omega
   have g3:(ng:Int)≤9223372036854775807:=by have:maxLen=9223372036854775807:=rfl;omega
   have hrl:rest.length=n1 - 1:=by rw [HN1.out];simp
   have hcl:=kK (if ng=1 then some ⟨bq,oq,none⟩ else some ⟨bq,oq+1,none⟩) (ng - 1) rest w5 (by omega) (by
    have h:=hrg.cut (k:=1) (cap:=ng) (by simp) (by rw [←HN1.out];exact hgc);exact h)
   rw [hrl]at hcl;have HCL:=sqH hcl;have HRL:=sqH hrl;clear hcl hrl hrg
   repeat' (fail_if_success (first|at_builtin|at_make));first|go_values|go_skip|go_guarded|go_step|go_upon|go_back
   clear q1c g1 g2 g3;refine HCL.out.mono ?_;rintro e_ w6 ⟨v6,rfl,ho6,hb6⟩;dsimp only;rw [←HRL.out]at ho6;obtain⟨A6,c6,rfl,_,_⟩:=Rd.of_own' ho6;have sw:=sw.below hb6;have hgr:=kw hgr hb6;have hrow:=ze ho6 (show w.heap.size≤w5.heap.size from Nat.le_trans HSZ.out hs5);rcases HWAY.out with ⟨hf,rfl⟩ | ⟨i,hf,rfl,rfl⟩
   ·have HM:=sqH (show zm s ⟨1,d::rest, []⟩=(s,⟨1,rest, []⟩) from by unfold zm;simp only [hf]);clear hf ho6 hb6;obtain⟨f0,f1,f2,f3⟩:=sqF4 sw.r;obtain⟨y0,y1,y2,y3⟩:=sqC4 sw.r;obtain⟨g0,g1,g2⟩:=sqF3 sw.d;obtain⟨x0,x1,x2⟩:=sqC3 sw.d;obtain⟨s0,s1,s2,s3⟩:=sqC4 sw.s;have hF1:=sqH (zW (h:=H+1+1+1) (u0:= .slice (some ⟨q1,0,none⟩) s.blobs.length s.blobs.length) (u1:= .slice (some ⟨q2,0,none⟩) s.ents.length s.ents.length) (u2:= .int .i64 s.room) (u3:= .int .i64 s.clock) (x0:= .int .i64 1) (x1:=(.slice A6 rest.length c6)) (x2:= .string ⟨#[]⟩) sw.r (by omega));have hF2:=sqH (zY (g:=H+1+1) (u0:= .slice (some ⟨q1,0,none⟩) s.blobs.length s.blobs.length) (u1:= .slice (some ⟨q2,0,none⟩) s.ents.length s.ents.length) (u2:= .int .i64 s.room) (u3:= .int .i64 s.clock) (x0:= .int .i64 1) (x1:=(.slice A6 rest.length c6)) (x2:= .string ⟨#[]⟩) sw.d (by omega));have hF3:=sqH (zT (u0:= .slice (some ⟨q1,0,none⟩) s.blobs.length s.blobs.length) (u1:= .slice (some ⟨q2,0,none⟩) s.ents.length s.ents.length) (u2:= .int .i64 s.room) (u3:= .int .i64 s.clock) (x0:= .int .i64 1) (x1:=(.slice A6 rest.length c6)) (x2:= .string ⟨#[]⟩) sw.o (g:=H+1+1) (h:=H+1+1+1) (.inr (by omega)) (.inr (by omega)) (sw.o.nb sw.r (by decide) (by decide)).1 (sw.o.nb sw.r (by decide) (by decide)).2 (sw.o.nb sw.d (by decide) (by decide)).1 (sw.o.nb sw.d (by decide) (by decide)).2);have hF4:=sqH (zN (g:=H+1+1) (h:=H+1+1+1) (u0:= .slice (some ⟨q1,0,none⟩) s.blobs.length s.blobs.length) (u1:= .slice (some ⟨q2,0,none⟩) s.ents.length s.ents.length) (u2:= .int .i64 s.room) (u3:= .int .i64 s.clock) (x0:= .int .i64 1) (x1:=(.slice A6 rest.length c6)) (x2:= .string ⟨#[]⟩) hrow (zg hrow sw.r (by decide)) (zg hrow sw.d (by decide)));have hF5:=sqH (xH (g:=H+1+1) (h:=H+1+1+1) (u0:= .slice (some ⟨q1,0,none⟩) s.blobs.length s.blobs.length) (u1:= .slice (some ⟨q2,0,none⟩) s.ents.length s.ents.length) (u2:= .int .i64 s.room) (u3:= .int .i64 s.clock) (x0:= .int .i64 1) (x1:=(.slice A6 rest.length c6)) (x2:= .string ⟨#[]⟩) hgr (by rw [←HH.out];omega) (by rw [←HH.out];omega));clear sw hrow hgr
    repeat' (fail_if_success (first|at_builtin|at_make));first|go_values|go_skip|go_guarded|go_step|go_upon|go_back
    refine bodyPost_ret (qR rfl _ _ (H+1+1) (H+1+1+1) _ _ _ _ _ _ _ _ (by rfl) hF1.out Tryz.underlying26 rfl (by kernel_rfl) (by rfl) hF2.out Tryz.underlying29 rfl (by kernel_rfl)) rfl ?_;rw [HM.out];exact⟨_,rfl,hF3.out.mono (fun b hb=> .inl hb),hF4.out,hF5.out⟩
   ·have hi:i<s.blobs.length:=(List.findIdx?_eq_some_iff_getElem.1 hf).1;have hd:s.blobs[i].dig=d:=by simpa using (List.findIdx?_eq_some_iff_getElem.1 hf).2.1
    have hbl:=(show Rw BlobS w6 (some ⟨q1,0,none⟩) s.blobs from by
     obtain⟨A9,c9,B9,d9,e1,_,hrd⟩:=sw.o.rows;cases e1;exact hrd.b).blob_at i hi
    obtain⟨bb,off,Bx,cx,e9,hbb,y0,y1,y2,y3,hsl⟩:=hbl;cases e9
    simp only [Nat.zero_add]at y0 y1 y2 y3;have hi0:(0:Int)≤(i:Int):=by omega
    have hi1:(i:Int)<(s.blobs.length:Int):=by omega
    have q0s:=sw.s.cell (k:=0) rfl;cases hm:s.blobs[i].mark with
    | true =>
     have HM:=sqH (show zm s ⟨1,d::rest, []⟩=(s,⟨1,rest, []⟩) from by
      unfold zm;simp only [hf,List.getElem?_eq_getElem hi,hm,if_true])
     rw [hm]at y3;clear hf ho6 hb6 hd hm hsl y0 y1 y2 hbb;obtain⟨f0,f1,f2,f3⟩:=sqF4 sw.r;obtain⟨y0,y1,y2,y3⟩:=sqC4 sw.r;obtain⟨g0,g1,g2⟩:=sqF3 sw.d;obtain⟨x0,x1,x2⟩:=sqC3 sw.d;obtain⟨s0,s1,s2,s3⟩:=sqC4 sw.s;have hF1:=sqH (zW (h:=H+1+1+1) (u0:= .slice (some ⟨q1,0,none⟩) s.blobs.length s.blobs.length) (u1:= .slice (some ⟨q2,0,none⟩) s.ents.length s.ents.length) (u2:= .int .i64 s.room) (u3:= .int .i64 s.clock) (x0:= .int .i64 1) (x1:=(.slice A6 rest.length c6)) (x2:= .string ⟨#[]⟩) sw.r (by omega));have hF2:=sqH (zY (g:=H+1+1) (u0:= .slice (some ⟨q1,0,none⟩) s.blobs.length s.blobs.length) (u1:= .slice (some ⟨q2,0,none⟩) s.ents.length s.ents.length) (u2:= .int .i64 s.room) (u3:= .int .i64 s.clock) (x0:= .int .i64 1) (x1:=(.slice A6 rest.length c6)) (x2:= .string ⟨#[]⟩) sw.d (by omega));have hF3:=sqH (zT (u0:= .slice (some ⟨q1,0,none⟩) s.blobs.length s.blobs.length) (u1:= .slice (some ⟨q2,0,none⟩) s.ents.length s.ents.length) (u2:= .int .i64 s.room) (u3:= .int .i64 s.clock) (x0:= .int .i64 1) (x1:=(.slice A6 rest.length c6)) (x2:= .string ⟨#[]⟩) sw.o (g:=H+1+1) (h:=H+1+1+1) (.inr (by omega)) (.inr (by omega)) (sw.o.nb sw.r (by decide) (by decide)).1 (sw.o.nb sw.r (by decide) (by decide)).2 (sw.o.nb sw.d (by decide) (by decide)).1 (sw.o.nb sw.d (by decide) (by decide)).2);have hF4:=sqH (zN (g:=H+1+1) (h:=H+1+1+1) (u0:= .slice (some ⟨q1,0,none⟩) s.blobs.length s.blobs.length) (u1:= .slice (some ⟨q2,0,none⟩) s.ents.length s.ents.length) (u2:= .int .i64 s.room) (u3:= .int .i64 s.clock) (x0:= .int .i64 1) (x1:=(.slice A6 rest.length c6)) (x2:= .string ⟨#[]⟩) hrow (zg hrow sw.r (by decide)) (zg hrow sw.d (by decide)));have hF5:=sqH (xH (g:=H+1+1) (h:=H+1+1+1) (u0:= .slice (some ⟨q1,0,none⟩) s.blobs.length s.blobs.length) (u1:= .slice (some ⟨q2,0,none⟩) s.ents.length s.ents.length) (u2:= .int .i64 s.room) (u3:= .int .i64 s.clock) (x0:= .int .i64 1) (x1:=(.slice A6 rest.length c6)) (x2:= .string ⟨#[]⟩) hgr (by rw [←HH.out];omega) (by rw [←HH.out];omega));clear sw hrow hgr
     repeat' (fail_if_success (first|at_builtin|at_make));first|go_values|go_skip|go_guarded|go_step|go_upon|go_back
     refine bodyPost_ret (qR rfl _ _ (H+1+1) (H+1+1+1) _ _ _ _ _ _ _ _ (by rfl) hF1.out Tryz.underlying26 rfl (by kernel_rfl) (by rfl) hF2.out Tryz.underlying29 rfl (by kernel_rfl)) rfl ?_;rw [HM.out];exact⟨_,rfl,hF3.out.mono (fun b hb=> .inl hb),hF4.out,hF5.out⟩
    | false =>
     have HM:=sqH (show zm s ⟨1,d::rest, []⟩=({ s with blobs:=s.blobs.set i { s.blobs[i] with mark:=true } },⟨1,uni (rest++(qK s.blobs[i].data).1.map (·.dig)), []⟩) from by
      unfold zm;simp only [hf,List.getElem?_eq_getElem hi,hm,Bool.false_eq_true,if_false])
     rw [hm]at y3;obtain⟨_,f3,ho7,hg7⟩:=sw.o.setB (i:=i) (j:=3) (y:= { s.blobs[i] with mark:=true }) (u:= .bool true) hi (by omega) (fun W cs h=>vP _ true W cs h) (qY true);have sw7:StpW _ H base (.slice (some ⟨q1,0,none⟩) s.blobs.length s.blobs.length) (.slice (some ⟨q2,0,none⟩) s.ents.length s.ents.length) s.room s.clock { s with blobs:=s.blobs.set i { s.blobs[i] with mark:=true } } [.int .i64 1,.slice (some ⟨bq,oq,none⟩) n1 ng,.string ⟨#[]⟩] N:=⟨sw.s.grown hg7 (fun e=>by injection e with e;omega),sw.c.grown hg7 (fun e=>by injection e with e;omega),sw.r.grown hg7 (fun e=>by injection e with e;omega),sw.d.grown hg7 (fun e=>by injection e with e;omega),ho7⟩
     have hgr7:=hgr.trans hg7;have hrow7:=hrow.kept hg7 (.inr (fun e=>by have:=(ho6.lt q1 e).1;have:=HH.out;have:=HSZ.out;omega));have hbl7:=(show Rw BlobS _ (some ⟨q1,0,none⟩) (s.blobs.set i { s.blobs[i] with mark:=true }) from by
      obtain⟨A9,c9,B9,d9,e1,_,hrd⟩:=ho7.rows;injection e1 with e11 _ _;subst e11;exact hrd.b).blob_at i (by rw [List.length_set];exact hi)
     rw [List.getElem_set_self]at hbl7;generalize s.blobs[i]=q at *
     have HSW:=sqH sw7;have HGR:=sqH hgr7;have HRW:=sqH hrow7;have HBL:=sqH hbl7;have q0t:=(sw7.s).cell (k:=0) rfl;clear sw sw7 hgr hgr7 hrow hrow7 hbl7 hf ho6 hb6 hd hm hsl y0 y1 y2 hbb ho7 hg7 q0t
     repeat' ((fail_if_success at_builtin);(fail_if_success at_make);(fail_if_success (with_reducible refine zl 63 ?_));(fail_if_success (with_reducible refine zr 63 ?_));(fail_if_success (with_reducible refine zt ?_));(first | go_values | go_skip | go_guarded | go_step | go_upon | go_back))
     clear q0s y3 f3;generalize (w6.setCell ⟨q1,i*4+3,none⟩ (.bool true))=w7 at *
     obtain⟨bb,off,Bx,cx,e9,hbb,y0,y1,y2,y3,hsl⟩:=HBL.out;cases e9
     simp only [Nat.zero_add]at y0 y1 y2 y3;have q0s:=HSW.out.s.cell (k:=0) rfl;have HPT:=sqH (vG ⟨q.dig.toArray⟩ Bx q.data.length cx q.data (q.pins:Int) true w7 rfl hsl.cap hsl.max hsl.rd);have hk8:=yc q.data;clear hsl hbb
     repeat' (fail_if_success (first|at_builtin|at_make));first|go_values|go_skip|go_guarded|go_step|go_upon|go_back
     clear y0 y1 y2 y3 q0s;refine HPT.out.mono ?_;rintro e_ w8 ⟨v8,rfl,ho8,hb8⟩;dsimp only;rw [vo,show(qK q.data).1.length=((qK q.data).1.map (·.dig)).length from(List.length_map _).symm]at ho8;obtain⟨A8,c8,rfl,hc8,hr8⟩:=Rd.of_own' ho8;have sw8:=HSW.out.below hb8;have hgr8:=kw HGR.out hb8;have hrow8:=z8 HRW.out hb8;obtain⟨_,_,e10,hc6,hr6⟩:=Rd.of_own' hrow8;injection e10 with e11 _ e13;subst e11 e13;have hAD:=Ur A6 A8 c6 c8 rest ((qK q.data).1.map (·.dig)) w8 hc6 hc8 (by have:=HRL.out;omega) (by rw [List.length_map];omega) hr6 hr8;rw [List.length_map]at hAD;have HAD:=sqH hAD;clear hAD ho8 hb8 hrow8 hr6 hr8
     repeat' (fail_if_success (first|at_builtin|at_make));first|go_values|go_skip|go_guarded|go_step|go_upon|go_back
     refine HAD.out.mono ?_;rintro e_ w9 ⟨v9,N9,rfl,hN9,hNl,ho9,hb9⟩;dsimp only;obtain rfl:=hN9.uni (L:=rest++(qK q.data).1.map (·.dig)) (fun x=>List.mem_append.symm);obtain⟨A9,c9,rfl,_,_⟩:=Rd.of_own' ho9;have hrow:=ze ho9 hgr8.size;have sw:=sw8.below hb9;have hgr:=kw hgr8 hb9;clear sw8 hgr8 ho9 hb9 HSW HGR HRW HBL HAD hN9 hNl;obtain⟨f0,f1,f2,f3⟩:=sqF4 sw.r;obtain⟨y0,y1,y2,y3⟩:=sqC4 sw.r;obtain⟨g0,g1,g2⟩:=sqF3 sw.d;obtain⟨x0,x1,x2⟩:=sqC3 sw.d;obtain⟨s0,s1,s2,s3⟩:=sqC4 sw.s;have hF1:=sqH (zW (h:=H+1+1+1) (u0:= .slice (some ⟨q1,0,none⟩) s.blobs.length s.blobs.length) (u1:= .slice (some ⟨q2,0,none⟩) s.ents.length s.ents.length) (u2:= .int .i64 s.room) (u3:= .int .i64 s.clock) (x0:= .int .i64 1) (x1:=(.slice A9 (uni (rest++(qK q.data).1.map (·.dig))).length c9)) (x2:= .string ⟨#[]⟩) sw.r (by omega));have hF2:=sqH (zY (g:=H+1+1) (u0:= .slice (some ⟨q1,0,none⟩) s.blobs.length s.blobs.length) (u1:= .slice (some ⟨q2,0,none⟩) s.ents.length s.ents.length) (u2:= .int .i64 s.room) (u3:= .int .i64 s.clock) (x0:= .int .i64 1) (x1:=(.slice A9 (uni (rest++(qK q.data).1.map (·.dig))).length c9)) (x2:= .string ⟨#[]⟩) sw.d (by omega));have hF3:=sqH (zT (u0:= .slice (some ⟨q1,0,none⟩) s.blobs.length s.blobs.length) (u1:= .slice (some ⟨q2,0,none⟩) s.ents.length s.ents.length) (u2:= .int .i64 s.room) (u3:= .int .i64 s.clock) (x0:= .int .i64 1) (x1:=(.slice A9 (uni (rest++(qK q.data).1.map (·.dig))).length c9)) (x2:= .string ⟨#[]⟩) sw.o (g:=H+1+1) (h:=H+1+1+1) (.inr (by omega)) (.inr (by omega)) (sw.o.nb sw.r (by decide) (by decide)).1 (sw.o.nb sw.r (by decide) (by decide)).2 (sw.o.nb sw.d (by decide) (by decide)).1 (sw.o.nb sw.d (by decide) (by decide)).2);have hF4:=sqH (zN (g:=H+1+1) (h:=H+1+1+1) (u0:= .slice (some ⟨q1,0,none⟩) s.blobs.length s.blobs.length) (u1:= .slice (some ⟨q2,0,none⟩) s.ents.length s.ents.length) (u2:= .int .i64 s.room) (u3:= .int .i64 s.clock) (x0:= .int .i64 1) (x1:=(.slice A9 (uni (rest++(qK q.data).1.map (·.dig))).length c9)) (x2:= .string ⟨#[]⟩) hrow (zg hrow sw.r (by decide)) (zg hrow sw.d (by decide)));have hF5:=sqH (xH (g:=H+1+1) (h:=H+1+1+1) (u0:= .slice (some ⟨q1,0,none⟩) s.blobs.length s.blobs.length) (u1:= .slice (some ⟨q2,0,none⟩) s.ents.length s.ents.length) (u2:= .int .i64 s.room) (u3:= .int .i64 s.clock) (x0:= .int .i64 1) (x1:=(.slice A9 (uni (rest++(qK q.data).1.map (·.dig))).length c9)) (x2:= .string ⟨#[]⟩) hgr (by rw [←HH.out];omega) (by rw [←HH.out];omega));clear sw hrow hgr
     repeat' (fail_if_success (first|at_builtin|at_make));first|go_values|go_skip|go_guarded|go_step|go_upon|go_back
     refine bodyPost_ret (qR rfl _ _ (H+1+1) (H+1+1+1) _ _ _ _ _ _ _ _ (by rfl) hF1.out Tryz.underlying26 rfl (by kernel_rfl) (by rfl) hF2.out Tryz.underlying29 rfl (by kernel_rfl)) rfl ?_;rw [HM.out];exact⟨_,rfl,hF3.out.mono (fun b hb=> .inl hb),hF4.out,hF5.out⟩
  exact AllReadyH.nil
abbrev qv (g n:Nat):Value:= .slice (some ⟨g,0,none⟩) n n
abbrev z4:List Value:= [.slice none 0 0,.slice none 0 0,.int .i64 0,.int .i64 0]
abbrev z3:List Value:= [.int .i64 0,.slice none 0 0,.string ⟨#[]⟩]
abbrev ms (s:StoP) (grey:List (List UInt8)):StoP×ColP:=zm s ⟨1,grey, []⟩
theorem kJ {P Q:Prop} (h:Hid P→Q) (p:P):Q:=h (Lib.hid p)
theorem QE (A:Option Addr) (c:Nat) (B:Option Addr) (d:Nat) (s:StoP) (Ag:Option Addr) (ng:Nat) (cp:ColP) (w:World) (hg:GoodS s) (hr:RdSt w A c B d s) (hp:cp.phase=1) (hat:cp.at_= []) (hgl:cp.grey.length≤1000) (hc:RdC w Ag ng cp) :
  Calls Tryz.prog 72 #[.agg #[.slice A s.blobs.length c,.slice B s.ents.length d,.int .i64 s.room,.int .i64 s.clock],coV (.slice Ag cp.grey.length ng) cp] w fun e w' =>
   ∃v1 v2 v3,e= .returned (.tuple #[stV v1 v2 s,coV v3 (zm s cp).2,.int .i64 0])∧OwSt w' w.heap.size v1 v2 (zm s cp).1 (fun b=>b<w.heap.size)∧w'.ownsRow w.heap.size 9 1 v3 (zm s cp).2.grey.length (strs (zm s cp).2.grey)∧Below w.heap.size w w':=by
 obtain⟨phase,grey,at_⟩:=cp;simp only at hp hat hgl;subst hp hat
 have hlb:s.blobs.length≤24:=hg.b.len;have hle:s.ents.length≤10:=hg.e.len;have HGD:=sqH hg;obtain⟨w0,hw0,hS,hC,hR,hD,hb0⟩:=zU w 26 29 [.slice A s.blobs.length c,.slice B s.ents.length d,.int .i64 s.room,.int .i64 s.clock] [.int .i64 1,.slice Ag grey.length ng,.string ⟨#[]⟩] [.slice none 0 0,.slice none 0 0,.int .i64 0,.int .i64 0] [.int .i64 0,.slice none 0 0,.string ⟨#[]⟩];have hr0:=hr.below hb0;have hc0:=hc.below hb0;obtain⟨H,hH⟩:∃H,H=w.heap.size:=⟨_,rfl⟩
 have HCK:=sqH (zF A c B d s w0 hg hr0);rw [←hH]at hS hC hR hD hb0 ⊢
 have hHl:H+1+1+1<w0.heap.size:=hD.lt;obtain⟨x0,x1,x2,x3⟩:=sqC4 hS;rw [hw0,hH]at x0 x1 x2 x3;have HPL:=sqH (show ∀b∈s.blobs,b.data.length≤1000000 from fun b hb=>by have:=(hg.b.one b hb).2.1;omega);have HQL:=sqH (show ∀x∈s.ents,x.parts.length≤1000000 from fun x hx=>by have:=(zj (hg.e.one x hx).2.1).1;omega);clear hg hr hc;go_enter Tryz.func72,Tryz.ntmps72;go_wp2_with fail;rw [←hw0,←hH];have HH:=sqH hH;clear hw0 hH x0 x1 x2 x3;refine HCK.out.mono ?_;rintro e_ w1 ⟨rfl,hb1⟩;dsimp only;have hr1:=hr0.below hb1;have hc1:=hc0.below hb1;have hS1:=hS.below hb1;have hC1:=hC.below hb1;have hR1:=hR.below hb1;have hD1:=hD.below hb1;have hs1:=hb1.size;have hb01:=hb0.trans (hb1.mono (by omega));have x0:=hC1.cell (k:=0) rfl;clear hr0 hc0 hS hC hR hD hb0 hb1 HCK
 repeat' ((fail_if_success (with_reducible refine at_reg_ 6 ?_));(fail_if_success (with_reducible refine at_sreg_ 6 ?_));(fail_if_success (with_reducible refine at_ssreg_ 6 ?_));(fail_if_success at_builtin);(fail_if_success at_make);(first | go_values | go_skip | go_guarded | go_step | go_upon | go_back))
 clear x0;have HSB:=sqH (show ∀W,Below w1.heap.size w1 W→(W.cell? ⟨H,0,none⟩=some (.slice A s.blobs.length c)∧W.cell? ⟨H,1,none⟩=some (.slice B s.ents.length d)∧W.cell? ⟨H,2,none⟩=some (.int .i64 s.room)∧W.cell? ⟨H,3,none⟩=some (.int .i64 s.clock))∧(W.cell? ⟨H+1,0,none⟩=some (.int .i64 1)∧W.cell? ⟨H+1,1,none⟩=some (.slice Ag grey.length ng)∧W.cell? ⟨H+1,2,none⟩=some (.string ⟨#[]⟩)) from fun W h=>⟨⟨(hS1.below h).cell (k:=0) rfl,(hS1.below h).cell (k:=1) rfl,(hS1.below h).cell (k:=2) rfl,(hS1.below h).cell (k:=3) rfl⟩,(hC1.below h).cell (k:=0) rfl,(hC1.below h).cell (k:=1) rfl,(hC1.below h).cell (k:=2) rfl⟩);have HCP:=sqH (fun W (h:Below w1.heap.size w1 W)=>qe A c B d s W (by omega) (by omega) HPL.out HQL.out (hr1.below h));have HST:=sqH (fun W base q1 q2 N (ho:OwSt W base _ _ s N) (h:Below w1.heap.size w1 W)=>U8 base q1 q2 Ag ng s ⟨1,grey, []⟩ W N HGD.out rfl rfl hgl ho (hc1.below h));have HRD:=sqH (show ∀W,Below w1.heap.size w1 W→Arr W (H+1+1) 26 [.slice none 0 0,.slice none 0 0,.int .i64 0,.int .i64 0]∧Arr W (H+1+1+1) 29 [.int .i64 0,.slice none 0 0,.string ⟨#[]⟩] from fun W h=>⟨hR1.below h,hD1.below h⟩);clear hr1 hc1 hS1 hC1 hR1 hD1;apply kJ;intro REST;apply kJ;intro Rm1;apply kJ;intro Rm2;apply kJ;intro Rm3;apply kJ;intro Rm4;apply kJ;intro Rm5;apply kJ;intro Rm6;apply kJ;intro Rm7;refine zk [9,10] (S:=(fun w'=>(w'.cell? ⟨H,0,none⟩=some (.slice A s.blobs.length c)∧w'.cell? ⟨H,1,none⟩=some (.slice B s.ents.length d)∧w'.cell? ⟨H,2,none⟩=some (.int .i64 s.room)∧w'.cell? ⟨H,3,none⟩=some (.int .i64 s.clock))∧(w'.cell? ⟨H+1,0,none⟩=some (.int .i64 1)∧w'.cell? ⟨H+1,1,none⟩=some (.slice Ag grey.length ng)∧w'.cell? ⟨H+1,2,none⟩=some (.string ⟨#[]⟩)))) (by kernel_rfl) ?_ (fun hHeld=> ?_)
 ·exact HSB.out _ (((Below.refl w1.heap.size w1)).drew)
 have hB:=((Below.refl w1.heap.size w1)).drew;generalize w1.drew=wn0 at *
 refine tkU 0 ?_
 try simp only [sqP]
 refine tkU 2 ?_
 try simp only [sqP]
 refine z7 (rs:= [1,7,8]) (by kernel_rfl) (by simp) ?_;refine z6.cons (o:=_) rfl (fun K hK=> ?_) ?_
 ·
  go_simp;refine(HCP.out wn0 hB).mono ?_;rintro e5 w5 ⟨q1,q2,rfl,ho5,hb5⟩;dsimp only;refine qI hK ?_ (fun W=>Below w1.heap.size w1 W∧OwSt W w1.heap.size (qv q1 s.blobs.length) (qv q2 s.ents.length) s (fun b=>b<w1.heap.size)) (fun W=>True) ?_ ?_ (fun wn1 hHeld2 hF _=> ?_)
  ·exact HSB.out _ ((hB.trans (hb5.mono hB.size)))
  ·exact⟨hB.trans (hb5.mono hB.size),(ho5.lower (base':=w1.heap.size) hB.size).mono (N':=(fun b=>b<w1.heap.size)) (fun b hb=>Nat.lt_of_lt_of_le hb hB.size)⟩
  ·trivial
  clear hB hHeld;have hHeld:=hHeld2;clear hHeld2;obtain⟨hB,ho⟩:=hF;clear hb5 ho5;clear hK K
  try simp only [sqP]
  refine z7 (rs:= [3,7,8]) (by kernel_rfl) (by simp) ?_;refine z6.cons (o:=_) rfl (fun K hK=> ?_) ?_
  ·
   go_simp;refine(HST.out wn1 _ q1 q2 _ ho hB).mono ?_;rintro e5 w5 ⟨v3,rfl,ho5,hl5,hg5⟩;obtain⟨A3,c3,rfl, -, -⟩:=Rd.of_own' hl5;have hq1:=(ho.b.rwo.blk rfl).1;dsimp only;refine qI hK ?_ (fun W=>Below w1.heap.size w1 W∧OwSt W w1.heap.size (qv q1 s.blobs.length) (qv q2 s.ents.length) (ms s grey).1 (fun b=>b<w1.heap.size)∧W.ownsRow w1.heap.size 9 1 (.slice A3 (ms s grey).2.grey.length c3) (ms s grey).2.grey.length (strs (ms s grey).2.grey)) (fun W=>True) ?_ ?_ (fun wn2 hHeld2 hF _=> ?_)
   ·exact HSB.out _ ((hB.grown hg5 hB.size (fun b e=>by cases e;exact hq1)))
   ·exact⟨(hB.grown hg5 hB.size (fun b e=>by cases e;exact hq1)),ho5,(ze hl5 hB.size)⟩
   ·trivial
   clear ho hB hHeld;have hHeld:=hHeld2;clear hHeld2;obtain⟨hB,hm,hl⟩:=hF;clear ho5 hl5 hg5 hq1;clear hK K
   try simp only [sqP]
   refine tkP 4 ?_
   try simp only [sqP]
   refine tkP 5 ?_
   try simp only [sqP]
   refine tkP 6 ?_
   try simp only [sqP]
   refine z7 (rs:= [7,8]) (by kernel_rfl) (by simp) ?_;refine z6.cons (o:=_) rfl (fun K hK=> ?_) ?_
   ·
    have hba:=(Below.refl wn2.heap.size wn2).alloc (Nat.le_refl _) (.cells #[.slice none 0 0,.slice none 0 0,.int .i64 0,.int .i64 0] 26);have hn:=Arr.new wn2 26 [.slice none 0 0,.slice none 0 0,.int .i64 0,.int .i64 0];have hnl:w1.heap.size≤wn2.heap.size:=hB.size;obtain⟨g8,hge⟩:∃g,g=wn2.heap.size:=⟨_,rfl⟩
    have hN:∀b,b=g8→wn2.heap.size≤b:=fun b h=>by rw [h,hge];exact Nat.le_refl _
    rw [←hge]at hn hnl;go_simp;rw [←hge];clear hge;refine qI hK ?_ (fun W=>Below w1.heap.size w1 W∧Arr W g8 26 [.slice none 0 0,.slice none 0 0,.int .i64 0,.int .i64 0]∧w1.heap.size≤g8∧OwSt W w1.heap.size (qv q1 s.blobs.length) (qv q2 s.ents.length) (ms s grey).1 (fun b=>b<w1.heap.size∨b=g8)∧W.ownsRow w1.heap.size 9 1 (.slice A3 (ms s grey).2.grey.length c3) (ms s grey).2.grey.length (strs (ms s grey).2.grey)) (fun W=>True) ?_ ?_ (fun wn3 hHeld2 hF _=> ?_)
    ·exact HSB.out _ ((hB.trans (hba.mono hB.size)))
    ·exact⟨hB.trans (hba.mono hB.size),hn,hnl,(hm.wider (N':=(fun b=>b<w1.heap.size∨b=g8)) (fun b hb=>hb.elim (fun hb=> .inl hb) (fun hb=> .inr (hN _ hb)))).below hba,z8 hl hba⟩
    ·trivial
    clear hl hm hB hHeld;have hHeld:=hHeld2;clear hHeld2;obtain⟨hB,h8,h8l,hm,hl⟩:=hF;clear hba hn hnl hN;clear hK K
    try simp only [sqP]
    have hall:=And.intro hB (And.intro h8 (And.intro h8l (And.intro hm (And.intro hl hHeld))));clear hHeld hl hm h8l h8 hB;generalize wn3=wz at hall ⊢
    revert hall;revert wz;revert g8;revert c3;revert A3;revert q2;revert q1;exact Rm2.out
   refine z6.cons (o:=_) rfl (fun K hK=> ?_) ?_
   ·
    have hba:=(Below.refl wn2.heap.size wn2).alloc (Nat.le_refl _) (.cells #[.int .i64 0,.slice none 0 0,.string ⟨#[]⟩] 29);have hn:=Arr.new wn2 29 [.int .i64 0,.slice none 0 0,.string ⟨#[]⟩];have hnl:w1.heap.size≤wn2.heap.size:=hB.size;obtain⟨g9,hge⟩:∃g,g=wn2.heap.size:=⟨_,rfl⟩
    have hN:∀b,b=g9→wn2.heap.size≤b:=fun b h=>by rw [h,hge];exact Nat.le_refl _
    rw [←hge]at hn hnl;go_simp;rw [←hge];clear hge;refine qI hK ?_ (fun W=>Below w1.heap.size w1 W∧Arr W g9 29 [.int .i64 0,.slice none 0 0,.string ⟨#[]⟩]∧w1.heap.size≤g9∧OwSt W w1.heap.size (qv q1 s.blobs.length) (qv q2 s.ents.length) (ms s grey).1 (fun b=>b<w1.heap.size∨b=g9)∧W.ownsRow w1.heap.size 9 1 (.slice A3 (ms s grey).2.grey.length c3) (ms s grey).2.grey.length (strs (ms s grey).2.grey)) (fun W=>True) ?_ ?_ (fun wn4 hHeld2 hF _=> ?_)
    ·exact HSB.out _ ((hB.trans (hba.mono hB.size)))
    ·exact⟨hB.trans (hba.mono hB.size),hn,hnl,(hm.wider (N':=(fun b=>b<w1.heap.size∨b=g9)) (fun b hb=>hb.elim (fun hb=> .inl hb) (fun hb=> .inr (hN _ hb)))).below hba,z8 hl hba⟩
    ·trivial
    clear hl hm hB hHeld;have hHeld:=hHeld2;clear hHeld2;obtain⟨hB,h9,h9l,hm,hl⟩:=hF;clear hba hn hnl hN;clear hK K
    try simp only [sqP]
    have hall:=And.intro hB (And.intro h9 (And.intro h9l (And.intro hm (And.intro hl hHeld))));clear hHeld hl hm h9l h9 hB;generalize wn4=wz at hall ⊢
    revert hall;revert wz;revert g9;revert c3;revert A3;revert q2;revert q1;exact Rm3.out
   exact z6.nil
  refine z6.cons (o:=_) rfl (fun K hK=> ?_) ?_
  ·
   have hba:=(Below.refl wn1.heap.size wn1).alloc (Nat.le_refl _) (.cells #[.slice none 0 0,.slice none 0 0,.int .i64 0,.int .i64 0] 26);have hn:=Arr.new wn1 26 [.slice none 0 0,.slice none 0 0,.int .i64 0,.int .i64 0];have hnl:w1.heap.size≤wn1.heap.size:=hB.size;obtain⟨g8,hge⟩:∃g,g=wn1.heap.size:=⟨_,rfl⟩
   have hN:∀b,b=g8→wn1.heap.size≤b:=fun b h=>by rw [h,hge];exact Nat.le_refl _
   rw [←hge]at hn hnl;go_simp;rw [←hge];clear hge;refine qI hK ?_ (fun W=>Below w1.heap.size w1 W∧Arr W g8 26 [.slice none 0 0,.slice none 0 0,.int .i64 0,.int .i64 0]∧w1.heap.size≤g8∧OwSt W w1.heap.size (qv q1 s.blobs.length) (qv q2 s.ents.length) s (fun b=>b<w1.heap.size∨b=g8)) (fun W=>True) ?_ ?_ (fun wn5 hHeld2 hF _=> ?_)
   ·exact HSB.out _ ((hB.trans (hba.mono hB.size)))
   ·exact⟨hB.trans (hba.mono hB.size),hn,hnl,(ho.wider (N':=(fun b=>b<w1.heap.size∨b=g8)) (fun b hb=>hb.elim (fun hb=> .inl hb) (fun hb=> .inr (hN _ hb)))).below hba⟩
   ·trivial
   clear ho hB hHeld;have hHeld:=hHeld2;clear hHeld2;obtain⟨hB,h8,h8l,ho⟩:=hF;clear hba hn hnl hN;clear hK K
   try simp only [sqP]
   have hall:=And.intro hB (And.intro h8 (And.intro h8l (And.intro ho hHeld)));clear hHeld ho h8l h8 hB;generalize wn5=wz at hall ⊢
   revert hall;revert wz;revert g8;revert q2;revert q1;exact Rm5.out
  refine z6.cons (o:=_) rfl (fun K hK=> ?_) ?_
  ·
   have hba:=(Below.refl wn1.heap.size wn1).alloc (Nat.le_refl _) (.cells #[.int .i64 0,.slice none 0 0,.string ⟨#[]⟩] 29);have hn:=Arr.new wn1 29 [.int .i64 0,.slice none 0 0,.string ⟨#[]⟩];have hnl:w1.heap.size≤wn1.heap.size:=hB.size;obtain⟨g9,hge⟩:∃g,g=wn1.heap.size:=⟨_,rfl⟩
   have hN:∀b,b=g9→wn1.heap.size≤b:=fun b h=>by rw [h,hge];exact Nat.le_refl _
   rw [←hge]at hn hnl;go_simp;rw [←hge];clear hge;refine qI hK ?_ (fun W=>Below w1.heap.size w1 W∧Arr W g9 29 [.int .i64 0,.slice none 0 0,.string ⟨#[]⟩]∧w1.heap.size≤g9∧OwSt W w1.heap.size (qv q1 s.blobs.length) (qv q2 s.ents.length) s (fun b=>b<w1.heap.size∨b=g9)) (fun W=>True) ?_ ?_ (fun wn6 hHeld2 hF _=> ?_)
   ·exact HSB.out _ ((hB.trans (hba.mono hB.size)))
   ·exact⟨hB.trans (hba.mono hB.size),hn,hnl,(ho.wider (N':=(fun b=>b<w1.heap.size∨b=g9)) (fun b hb=>hb.elim (fun hb=> .inl hb) (fun hb=> .inr (hN _ hb)))).below hba⟩
   ·trivial
   clear ho hB hHeld;have hHeld:=hHeld2;clear hHeld2;obtain⟨hB,h9,h9l,ho⟩:=hF;clear hba hn hnl hN;clear hK K
   try simp only [sqP]
   have hall:=And.intro hB (And.intro h9 (And.intro h9l (And.intro ho hHeld)));clear hHeld ho h9l h9 hB;generalize wn6=wz at hall ⊢
   revert hall;revert wz;revert g9;revert q2;revert q1;exact Rm6.out
  exact z6.nil
 refine z6.cons (o:=_) rfl (fun K hK=> ?_) ?_
 ·
  have hba:=(Below.refl wn0.heap.size wn0).alloc (Nat.le_refl _) (.cells #[.slice none 0 0,.slice none 0 0,.int .i64 0,.int .i64 0] 26);have hn:=Arr.new wn0 26 [.slice none 0 0,.slice none 0 0,.int .i64 0,.int .i64 0];have hnl:w1.heap.size≤wn0.heap.size:=hB.size;obtain⟨g8,hge⟩:∃g,g=wn0.heap.size:=⟨_,rfl⟩
  have hN:∀b,b=g8→wn0.heap.size≤b:=fun b h=>by rw [h,hge];exact Nat.le_refl _
  rw [←hge]at hn hnl;go_simp;rw [←hge];clear hge;refine qI hK ?_ (fun W=>Below w1.heap.size w1 W∧Arr W g8 26 [.slice none 0 0,.slice none 0 0,.int .i64 0,.int .i64 0]∧w1.heap.size≤g8) (fun W=>True) ?_ ?_ (fun wn7 hHeld2 hF _=> ?_)
  ·exact HSB.out _ ((hB.trans (hba.mono hB.size)))
  ·exact⟨hB.trans (hba.mono hB.size),hn,hnl⟩
  ·trivial
  clear hB hHeld;have hHeld:=hHeld2;clear hHeld2;obtain⟨hB,h8,h8l⟩:=hF;clear hba hn hnl hN;clear hK K
  try simp only [sqP]
  refine z7 (rs:= [1,8]) (by kernel_rfl) (by simp) ?_;refine z6.cons (o:=_) rfl (fun K hK=> ?_) ?_
  ·
   go_simp;refine(HCP.out wn7 hB).mono ?_;rintro e5 w5 ⟨q1,q2,rfl,ho5,hb5⟩;dsimp only;refine qI hK ?_ (fun W=>Below w1.heap.size w1 W∧Arr W g8 26 [.slice none 0 0,.slice none 0 0,.int .i64 0,.int .i64 0]∧w1.heap.size≤g8∧OwSt W w1.heap.size (qv q1 s.blobs.length) (qv q2 s.ents.length) s (fun b=>b<w1.heap.size∨b=g8)) (fun W=>True) ?_ ?_ (fun wn8 hHeld2 hF _=> ?_)
   ·exact HSB.out _ ((hB.trans (hb5.mono hB.size)))
   ·exact⟨hB.trans (hb5.mono hB.size),h8.below hb5,h8l,(ho5.lower (base':=w1.heap.size) hB.size).mono (N':=(fun b=>b<w1.heap.size∨b=g8)) (fun b hb=>hb.elim (fun hb=>Nat.lt_of_lt_of_le hb hB.size) (fun hb=>(by rw [hb];exact h8.lt)))⟩
   ·trivial
   clear h8l h8 hB hHeld;have hHeld:=hHeld2;clear hHeld2;obtain⟨hB,h8,h8l,ho⟩:=hF;clear hb5 ho5;clear hK K
   try simp only [sqP]
   have hall:=And.intro hB (And.intro h8 (And.intro h8l (And.intro ho hHeld)));clear hHeld ho h8l h8 hB;generalize wn8=wz at hall ⊢
   revert hall;revert wz;revert g8;revert q2;revert q1;exact Rm5.out
  refine z6.cons (o:=_) rfl (fun K hK=> ?_) ?_
  ·
   have hba:=(Below.refl wn7.heap.size wn7).alloc (Nat.le_refl _) (.cells #[.int .i64 0,.slice none 0 0,.string ⟨#[]⟩] 29);have hn:=Arr.new wn7 29 [.int .i64 0,.slice none 0 0,.string ⟨#[]⟩];have hnl:w1.heap.size≤wn7.heap.size:=hB.size;obtain⟨g9,hge⟩:∃g,g=wn7.heap.size:=⟨_,rfl⟩
   have hN:∀b,b=g9→wn7.heap.size≤b:=fun b h=>by rw [h,hge];exact Nat.le_refl _
   rw [←hge]at hn hnl;go_simp;rw [←hge];clear hge;refine qI hK ?_ (fun W=>Below w1.heap.size w1 W∧Arr W g8 26 [.slice none 0 0,.slice none 0 0,.int .i64 0,.int .i64 0]∧w1.heap.size≤g8∧Arr W g9 29 [.int .i64 0,.slice none 0 0,.string ⟨#[]⟩]∧w1.heap.size≤g9∧g8≠g9) (fun W=>True) ?_ ?_ (fun wn9 hHeld2 hF _=> ?_)
   ·exact HSB.out _ ((hB.trans (hba.mono hB.size)))
   ·exact⟨hB.trans (hba.mono hB.size),h8.below hba,h8l,hn,hnl,(fun e=>Nat.lt_irrefl _ (by have h1:=h8.lt;rw [e]at h1;exact Nat.lt_of_lt_of_le h1 (hN _ rfl)))⟩
   ·trivial
   clear h8l h8 hB hHeld;have hHeld:=hHeld2;clear hHeld2;obtain⟨hB,h8,h8l,h9,h9l,h89n⟩:=hF;clear hba hn hnl hN;clear hK K
   try simp only [sqP]
   have hall:=And.intro hB (And.intro h8 (And.intro h8l (And.intro h9 (And.intro h9l (And.intro h89n hHeld)))));clear hHeld h89n h9l h9 h8l h8 hB;generalize wn9=wz at hall ⊢
   revert hall;revert wz;revert g9;revert g8;exact Rm7.out
  exact z6.nil
 refine z6.cons (o:=_) rfl (fun K hK=> ?_) ?_
 ·
  have hba:=(Below.refl wn0.heap.size wn0).alloc (Nat.le_refl _) (.cells #[.int .i64 0,.slice none 0 0,.string ⟨#[]⟩] 29);have hn:=Arr.new wn0 29 [.int .i64 0,.slice none 0 0,.string ⟨#[]⟩];have hnl:w1.heap.size≤wn0.heap.size:=hB.size;obtain⟨g9,hge⟩:∃g,g=wn0.heap.size:=⟨_,rfl⟩
  have hN:∀b,b=g9→wn0.heap.size≤b:=fun b h=>by rw [h,hge];exact Nat.le_refl _
  rw [←hge]at hn hnl;go_simp;rw [←hge];clear hge;refine qI hK ?_ (fun W=>Below w1.heap.size w1 W∧Arr W g9 29 [.int .i64 0,.slice none 0 0,.string ⟨#[]⟩]∧w1.heap.size≤g9) (fun W=>True) ?_ ?_ (fun wn10 hHeld2 hF _=> ?_)
  ·exact HSB.out _ ((hB.trans (hba.mono hB.size)))
  ·exact⟨hB.trans (hba.mono hB.size),hn,hnl⟩
  ·trivial
  clear hB hHeld;have hHeld:=hHeld2;clear hHeld2;obtain⟨hB,h9,h9l⟩:=hF;clear hba hn hnl hN;clear hK K
  try simp only [sqP]
  refine z7 (rs:= [1,7]) (by kernel_rfl) (by simp) ?_;refine z6.cons (o:=_) rfl (fun K hK=> ?_) ?_
  ·
   go_simp;refine(HCP.out wn10 hB).mono ?_;rintro e5 w5 ⟨q1,q2,rfl,ho5,hb5⟩;dsimp only;refine qI hK ?_ (fun W=>Below w1.heap.size w1 W∧Arr W g9 29 [.int .i64 0,.slice none 0 0,.string ⟨#[]⟩]∧w1.heap.size≤g9∧OwSt W w1.heap.size (qv q1 s.blobs.length) (qv q2 s.ents.length) s (fun b=>b<w1.heap.size∨b=g9)) (fun W=>True) ?_ ?_ (fun wn11 hHeld2 hF _=> ?_)
   ·exact HSB.out _ ((hB.trans (hb5.mono hB.size)))
   ·exact⟨hB.trans (hb5.mono hB.size),h9.below hb5,h9l,(ho5.lower (base':=w1.heap.size) hB.size).mono (N':=(fun b=>b<w1.heap.size∨b=g9)) (fun b hb=>hb.elim (fun hb=>Nat.lt_of_lt_of_le hb hB.size) (fun hb=>(by rw [hb];exact h9.lt)))⟩
   ·trivial
   clear h9l h9 hB hHeld;have hHeld:=hHeld2;clear hHeld2;obtain⟨hB,h9,h9l,ho⟩:=hF;clear hb5 ho5;clear hK K
   try simp only [sqP]
   have hall:=And.intro hB (And.intro h9 (And.intro h9l (And.intro ho hHeld)));clear hHeld ho h9l h9 hB;generalize wn11=wz at hall ⊢
   revert hall;revert wz;revert g9;revert q2;revert q1;exact Rm6.out
  refine z6.cons (o:=_) rfl (fun K hK=> ?_) ?_
  ·
   have hba:=(Below.refl wn10.heap.size wn10).alloc (Nat.le_refl _) (.cells #[.slice none 0 0,.slice none 0 0,.int .i64 0,.int .i64 0] 26);have hn:=Arr.new wn10 26 [.slice none 0 0,.slice none 0 0,.int .i64 0,.int .i64 0];have hnl:w1.heap.size≤wn10.heap.size:=hB.size;obtain⟨g8,hge⟩:∃g,g=wn10.heap.size:=⟨_,rfl⟩
   have hN:∀b,b=g8→wn10.heap.size≤b:=fun b h=>by rw [h,hge];exact Nat.le_refl _
   rw [←hge]at hn hnl;go_simp;rw [←hge];clear hge;refine qI hK ?_ (fun W=>Below w1.heap.size w1 W∧Arr W g8 26 [.slice none 0 0,.slice none 0 0,.int .i64 0,.int .i64 0]∧w1.heap.size≤g8∧Arr W g9 29 [.int .i64 0,.slice none 0 0,.string ⟨#[]⟩]∧w1.heap.size≤g9∧g8≠g9) (fun W=>True) ?_ ?_ (fun wn12 hHeld2 hF _=> ?_)
   ·exact HSB.out _ ((hB.trans (hba.mono hB.size)))
   ·exact⟨hB.trans (hba.mono hB.size),hn,hnl,h9.below hba,h9l,(fun e=>Nat.lt_irrefl _ (by have h1:=h9.lt;rw [←e]at h1;exact Nat.lt_of_lt_of_le h1 (hN _ rfl)))⟩
   ·trivial
   clear h9l h9 hB hHeld;have hHeld:=hHeld2;clear hHeld2;obtain⟨hB,h8,h8l,h9,h9l,h89n⟩:=hF;clear hba hn hnl hN;clear hK K
   try simp only [sqP]
   have hall:=And.intro hB (And.intro h8 (And.intro h8l (And.intro h9 (And.intro h9l (And.intro h89n hHeld)))));clear hHeld h89n h9l h9 h8l h8 hB;generalize wn12=wz at hall ⊢
   revert hall;revert wz;revert g9;revert g8;exact Rm7.out
  exact z6.nil
 exact z6.nil;intro g8 g9 wRm7 hall;obtain⟨hB,h8,h8l,h9,h9l,h89n,hHeld⟩:=hall;refine z7 (rs:= [1]) (by kernel_rfl) (by simp) ?_;refine z6.cons (o:=_) rfl (fun K hK=> ?_) ?_
 ·
  go_simp;refine(HCP.out wRm7 hB).mono ?_;rintro e5 w5 ⟨q1,q2,rfl,ho5,hb5⟩;dsimp only;refine qI hK ?_ (fun W=>Below w1.heap.size w1 W∧Arr W g8 26 [.slice none 0 0,.slice none 0 0,.int .i64 0,.int .i64 0]∧w1.heap.size≤g8∧Arr W g9 29 [.int .i64 0,.slice none 0 0,.string ⟨#[]⟩]∧w1.heap.size≤g9∧g8≠g9∧OwSt W w1.heap.size (qv q1 s.blobs.length) (qv q2 s.ents.length) s (fun b=>b<w1.heap.size∨b=g8∨b=g9)) (fun W=>True) ?_ ?_ (fun wn13 hHeld2 hF _=> ?_)
  ·exact HSB.out _ ((hB.trans (hb5.mono hB.size)))
  ·exact⟨hB.trans (hb5.mono hB.size),h8.below hb5,h8l,h9.below hb5,h9l,h89n,(ho5.lower (base':=w1.heap.size) hB.size).mono (N':=(fun b=>b<w1.heap.size∨b=g8∨b=g9)) (fun b hb=>hb.elim (fun hb=>Nat.lt_of_lt_of_le hb hB.size) (fun hb=>hb.elim (fun hb=>by rw [hb];exact h8.lt) (fun hb=>(by rw [hb];exact h9.lt))))⟩
  ·trivial
  clear h89n h9l h9 h8l h8 hB hHeld;have hHeld:=hHeld2;clear hHeld2;obtain⟨hB,h8,h8l,h9,h9l,h89n,ho⟩:=hF;clear hb5 ho5;clear hK K
  try simp only [sqP]
  have hall:=And.intro hB (And.intro h8 (And.intro h8l (And.intro h9 (And.intro h9l (And.intro h89n (And.intro ho hHeld))))));clear hHeld ho h89n h9l h9 h8l h8 hB;generalize wn13=wz at hall ⊢
  revert hall;revert wz;revert g9;revert g8;revert q2;revert q1;exact Rm4.out
 exact z6.nil;intro q1 q2 g9 wRm6 hall;obtain⟨hB,h9,h9l,ho,hHeld⟩:=hall;refine z7 (rs:= [3,7]) (by kernel_rfl) (by simp) ?_;refine z6.cons (o:=_) rfl (fun K hK=> ?_) ?_
 ·
  go_simp;refine(HST.out wRm6 _ q1 q2 _ ho hB).mono ?_;rintro e5 w5 ⟨v3,rfl,ho5,hl5,hg5⟩;obtain⟨A3,c3,rfl, -, -⟩:=Rd.of_own' hl5;have hq1:=(ho.b.rwo.blk rfl).1;dsimp only;refine qI hK ?_ (fun W=>Below w1.heap.size w1 W∧Arr W g9 29 [.int .i64 0,.slice none 0 0,.string ⟨#[]⟩]∧w1.heap.size≤g9∧OwSt W w1.heap.size (qv q1 s.blobs.length) (qv q2 s.ents.length) (ms s grey).1 (fun b=>b<w1.heap.size∨b=g9)∧W.ownsRow w1.heap.size 9 1 (.slice A3 (ms s grey).2.grey.length c3) (ms s grey).2.grey.length (strs (ms s grey).2.grey)) (fun W=>True) ?_ ?_ (fun wn14 hHeld2 hF _=> ?_)
  ·exact HSB.out _ ((hB.grown hg5 hB.size (fun b e=>by cases e;exact hq1)))
  ·exact⟨(hB.grown hg5 hB.size (fun b e=>by cases e;exact hq1)),(h9.grown hg5 (fun e=>(ho.nb h9 (by decide) (by decide)).1 (by simpa [Value.ownBlock] using e))),h9l,ho5,(ze hl5 hB.size)⟩
  ·trivial
  clear ho h9l h9 hB hHeld;have hHeld:=hHeld2;clear hHeld2;obtain⟨hB,h9,h9l,hm,hl⟩:=hF;clear ho5 hl5 hg5 hq1;clear hK K
  try simp only [sqP]
  refine tkP 4 ?_
  try simp only [sqP]
  refine tkP 5 ?_
  try simp only [sqP]
  refine tkP 6 ?_
  try simp only [sqP]
  have hall:=And.intro hB (And.intro h9 (And.intro h9l (And.intro hm (And.intro hl hHeld))));clear hHeld hl hm h9l h9 hB;generalize wn14=wz at hall ⊢
  revert hall;revert wz;revert g9;revert c3;revert A3;revert q2;revert q1;exact Rm3.out
 refine z6.cons (o:=_) rfl (fun K hK=> ?_) ?_
 ·
  have hba:=(Below.refl wRm6.heap.size wRm6).alloc (Nat.le_refl _) (.cells #[.slice none 0 0,.slice none 0 0,.int .i64 0,.int .i64 0] 26);have hn:=Arr.new wRm6 26 [.slice none 0 0,.slice none 0 0,.int .i64 0,.int .i64 0];have hnl:w1.heap.size≤wRm6.heap.size:=hB.size;obtain⟨g8,hge⟩:∃g,g=wRm6.heap.size:=⟨_,rfl⟩
  have hN:∀b,b=g8→wRm6.heap.size≤b:=fun b h=>by rw [h,hge];exact Nat.le_refl _
  rw [←hge]at hn hnl;go_simp;rw [←hge];clear hge;refine qI hK ?_ (fun W=>Below w1.heap.size w1 W∧Arr W g8 26 [.slice none 0 0,.slice none 0 0,.int .i64 0,.int .i64 0]∧w1.heap.size≤g8∧Arr W g9 29 [.int .i64 0,.slice none 0 0,.string ⟨#[]⟩]∧w1.heap.size≤g9∧g8≠g9∧OwSt W w1.heap.size (qv q1 s.blobs.length) (qv q2 s.ents.length) s (fun b=>b<w1.heap.size∨b=g8∨b=g9)) (fun W=>True) ?_ ?_ (fun wn15 hHeld2 hF _=> ?_)
  ·exact HSB.out _ ((hB.trans (hba.mono hB.size)))
  ·exact⟨hB.trans (hba.mono hB.size),hn,hnl,h9.below hba,h9l,(fun e=>Nat.lt_irrefl _ (by have h1:=h9.lt;rw [←e]at h1;exact Nat.lt_of_lt_of_le h1 (hN _ rfl))),(ho.wider (N':=(fun b=>b<w1.heap.size∨b=g8∨b=g9)) (fun b hb=>hb.elim (fun hb=> .inl (.inl hb)) (fun hb=>hb.elim (fun hb=> .inr (hN _ hb)) (fun hb=> .inl (.inr hb))))).below hba⟩
  ·trivial
  clear ho h9l h9 hB hHeld;have hHeld:=hHeld2;clear hHeld2;obtain⟨hB,h8,h8l,h9,h9l,h89n,ho⟩:=hF;clear hba hn hnl hN;clear hK K
  try simp only [sqP]
  have hall:=And.intro hB (And.intro h8 (And.intro h8l (And.intro h9 (And.intro h9l (And.intro h89n (And.intro ho hHeld))))));clear hHeld ho h89n h9l h9 h8l h8 hB;generalize wn15=wz at hall ⊢
  revert hall;revert wz;revert g9;revert g8;revert q2;revert q1;exact Rm4.out
 exact z6.nil;intro q1 q2 g8 wRm5 hall;obtain⟨hB,h8,h8l,ho,hHeld⟩:=hall;refine z7 (rs:= [3,8]) (by kernel_rfl) (by simp) ?_;refine z6.cons (o:=_) rfl (fun K hK=> ?_) ?_
 ·
  go_simp;refine(HST.out wRm5 _ q1 q2 _ ho hB).mono ?_;rintro e5 w5 ⟨v3,rfl,ho5,hl5,hg5⟩;obtain⟨A3,c3,rfl, -, -⟩:=Rd.of_own' hl5;have hq1:=(ho.b.rwo.blk rfl).1;dsimp only;refine qI hK ?_ (fun W=>Below w1.heap.size w1 W∧Arr W g8 26 [.slice none 0 0,.slice none 0 0,.int .i64 0,.int .i64 0]∧w1.heap.size≤g8∧OwSt W w1.heap.size (qv q1 s.blobs.length) (qv q2 s.ents.length) (ms s grey).1 (fun b=>b<w1.heap.size∨b=g8)∧W.ownsRow w1.heap.size 9 1 (.slice A3 (ms s grey).2.grey.length c3) (ms s grey).2.grey.length (strs (ms s grey).2.grey)) (fun W=>True) ?_ ?_ (fun wn16 hHeld2 hF _=> ?_)
  ·exact HSB.out _ ((hB.grown hg5 hB.size (fun b e=>by cases e;exact hq1)))
  ·exact⟨(hB.grown hg5 hB.size (fun b e=>by cases e;exact hq1)),(h8.grown hg5 (fun e=>(ho.nb h8 (by decide) (by decide)).1 (by simpa [Value.ownBlock] using e))),h8l,ho5,(ze hl5 hB.size)⟩
  ·trivial
  clear ho h8l h8 hB hHeld;have hHeld:=hHeld2;clear hHeld2;obtain⟨hB,h8,h8l,hm,hl⟩:=hF;clear ho5 hl5 hg5 hq1;clear hK K
  try simp only [sqP]
  refine tkP 4 ?_
  try simp only [sqP]
  refine tkP 5 ?_
  try simp only [sqP]
  refine tkP 6 ?_
  try simp only [sqP]
  have hall:=And.intro hB (And.intro h8 (And.intro h8l (And.intro hm (And.intro hl hHeld))));clear hHeld hl hm h8l h8 hB;generalize wn16=wz at hall ⊢
  revert hall;revert wz;revert g8;revert c3;revert A3;revert q2;revert q1;exact Rm2.out
 refine z6.cons (o:=_) rfl (fun K hK=> ?_) ?_
 ·
  have hba:=(Below.refl wRm5.heap.size wRm5).alloc (Nat.le_refl _) (.cells #[.int .i64 0,.slice none 0 0,.string ⟨#[]⟩] 29);have hn:=Arr.new wRm5 29 [.int .i64 0,.slice none 0 0,.string ⟨#[]⟩];have hnl:w1.heap.size≤wRm5.heap.size:=hB.size;obtain⟨g9,hge⟩:∃g,g=wRm5.heap.size:=⟨_,rfl⟩
  have hN:∀b,b=g9→wRm5.heap.size≤b:=fun b h=>by rw [h,hge];exact Nat.le_refl _
  rw [←hge]at hn hnl;go_simp;rw [←hge];clear hge;refine qI hK ?_ (fun W=>Below w1.heap.size w1 W∧Arr W g8 26 [.slice none 0 0,.slice none 0 0,.int .i64 0,.int .i64 0]∧w1.heap.size≤g8∧Arr W g9 29 [.int .i64 0,.slice none 0 0,.string ⟨#[]⟩]∧w1.heap.size≤g9∧g8≠g9∧OwSt W w1.heap.size (qv q1 s.blobs.length) (qv q2 s.ents.length) s (fun b=>b<w1.heap.size∨b=g8∨b=g9)) (fun W=>True) ?_ ?_ (fun wn17 hHeld2 hF _=> ?_)
  ·exact HSB.out _ ((hB.trans (hba.mono hB.size)))
  ·exact⟨hB.trans (hba.mono hB.size),h8.below hba,h8l,hn,hnl,(fun e=>Nat.lt_irrefl _ (by have h1:=h8.lt;rw [e]at h1;exact Nat.lt_of_lt_of_le h1 (hN _ rfl))),(ho.wider (N':=(fun b=>b<w1.heap.size∨b=g8∨b=g9)) (fun b hb=>hb.elim (fun hb=> .inl (.inl hb)) (fun hb=>hb.elim (fun hb=> .inl (.inr hb)) (fun hb=> .inr (hN _ hb))))).below hba⟩
  ·trivial
  clear ho h8l h8 hB hHeld;have hHeld:=hHeld2;clear hHeld2;obtain⟨hB,h8,h8l,h9,h9l,h89n,ho⟩:=hF;clear hba hn hnl hN;clear hK K
  try simp only [sqP]
  have hall:=And.intro hB (And.intro h8 (And.intro h8l (And.intro h9 (And.intro h9l (And.intro h89n (And.intro ho hHeld))))));clear hHeld ho h89n h9l h9 h8l h8 hB;generalize wn17=wz at hall ⊢
  revert hall;revert wz;revert g9;revert g8;revert q2;revert q1;exact Rm4.out
 exact z6.nil;intro q1 q2 g8 g9 wRm4 hall;obtain⟨hB,h8,h8l,h9,h9l,h89n,ho,hHeld⟩:=hall;refine z7 (rs:= [3]) (by kernel_rfl) (by simp) ?_;refine z6.cons (o:=_) rfl (fun K hK=> ?_) ?_
 ·
  go_simp;refine(HST.out wRm4 _ q1 q2 _ ho hB).mono ?_;rintro e5 w5 ⟨v3,rfl,ho5,hl5,hg5⟩;obtain⟨A3,c3,rfl, -, -⟩:=Rd.of_own' hl5;have hq1:=(ho.b.rwo.blk rfl).1;dsimp only;refine qI hK ?_ (fun W=>Below w1.heap.size w1 W∧Arr W g8 26 [.slice none 0 0,.slice none 0 0,.int .i64 0,.int .i64 0]∧w1.heap.size≤g8∧Arr W g9 29 [.int .i64 0,.slice none 0 0,.string ⟨#[]⟩]∧w1.heap.size≤g9∧g8≠g9∧OwSt W w1.heap.size (qv q1 s.blobs.length) (qv q2 s.ents.length) (ms s grey).1 (fun b=>b<w1.heap.size∨b=g8∨b=g9)∧W.ownsRow w1.heap.size 9 1 (.slice A3 (ms s grey).2.grey.length c3) (ms s grey).2.grey.length (strs (ms s grey).2.grey)) (fun W=>True) ?_ ?_ (fun wn18 hHeld2 hF _=> ?_)
  ·exact HSB.out _ ((hB.grown hg5 hB.size (fun b e=>by cases e;exact hq1)))
  ·exact⟨(hB.grown hg5 hB.size (fun b e=>by cases e;exact hq1)),(h8.grown hg5 (fun e=>(ho.nb h8 (by decide) (by decide)).1 (by simpa [Value.ownBlock] using e))),h8l,(h9.grown hg5 (fun e=>(ho.nb h9 (by decide) (by decide)).1 (by simpa [Value.ownBlock] using e))),h9l,h89n,ho5,(ze hl5 hB.size)⟩
  ·trivial
  clear ho h89n h9l h9 h8l h8 hB hHeld;have hHeld:=hHeld2;clear hHeld2;obtain⟨hB,h8,h8l,h9,h9l,h89n,hm,hl⟩:=hF;clear ho5 hl5 hg5 hq1;clear hK K
  try simp only [sqP]
  refine tkP 4 ?_
  try simp only [sqP]
  refine tkP 5 ?_
  try simp only [sqP]
  refine tkP 6 ?_
  try simp only [sqP]
  have hall:=And.intro hB (And.intro h8 (And.intro h8l (And.intro h9 (And.intro h9l (And.intro h89n (And.intro hm (And.intro hl hHeld)))))));clear hHeld hl hm h89n h9l h9 h8l h8 hB;generalize wn18=wz at hall ⊢
  revert hall;revert wz;revert g9;revert g8;revert c3;revert A3;revert q2;revert q1;exact Rm1.out
 exact z6.nil;intro q1 q2 A3 c3 g9 wRm3 hall;obtain⟨hB,h9,h9l,hm,hl,hHeld⟩:=hall;refine z7 (rs:= [7]) (by kernel_rfl) (by simp) ?_;refine z6.cons (o:=_) rfl (fun K hK=> ?_) ?_
 ·
  have hba:=(Below.refl wRm3.heap.size wRm3).alloc (Nat.le_refl _) (.cells #[.slice none 0 0,.slice none 0 0,.int .i64 0,.int .i64 0] 26);have hn:=Arr.new wRm3 26 [.slice none 0 0,.slice none 0 0,.int .i64 0,.int .i64 0];have hnl:w1.heap.size≤wRm3.heap.size:=hB.size;obtain⟨g8,hge⟩:∃g,g=wRm3.heap.size:=⟨_,rfl⟩
  have hN:∀b,b=g8→wRm3.heap.size≤b:=fun b h=>by rw [h,hge];exact Nat.le_refl _
  rw [←hge]at hn hnl;go_simp;rw [←hge];clear hge;refine qI hK ?_ (fun W=>Below w1.heap.size w1 W∧Arr W g8 26 [.slice none 0 0,.slice none 0 0,.int .i64 0,.int .i64 0]∧w1.heap.size≤g8∧Arr W g9 29 [.int .i64 0,.slice none 0 0,.string ⟨#[]⟩]∧w1.heap.size≤g9∧g8≠g9∧OwSt W w1.heap.size (qv q1 s.blobs.length) (qv q2 s.ents.length) (ms s grey).1 (fun b=>b<w1.heap.size∨b=g8∨b=g9)∧W.ownsRow w1.heap.size 9 1 (.slice A3 (ms s grey).2.grey.length c3) (ms s grey).2.grey.length (strs (ms s grey).2.grey)) (fun W=>True) ?_ ?_ (fun wn19 hHeld2 hF _=> ?_)
  ·exact HSB.out _ ((hB.trans (hba.mono hB.size)))
  ·exact⟨hB.trans (hba.mono hB.size),hn,hnl,h9.below hba,h9l,(fun e=>Nat.lt_irrefl _ (by have h1:=h9.lt;rw [←e]at h1;exact Nat.lt_of_lt_of_le h1 (hN _ rfl))),(hm.wider (N':=(fun b=>b<w1.heap.size∨b=g8∨b=g9)) (fun b hb=>hb.elim (fun hb=> .inl (.inl hb)) (fun hb=>hb.elim (fun hb=> .inr (hN _ hb)) (fun hb=> .inl (.inr hb))))).below hba,z8 hl hba⟩
  ·trivial
  clear hl hm h9l h9 hB hHeld;have hHeld:=hHeld2;clear hHeld2;obtain⟨hB,h8,h8l,h9,h9l,h89n,hm,hl⟩:=hF;clear hba hn hnl hN;clear hK K
  try simp only [sqP]
  have hall:=And.intro hB (And.intro h8 (And.intro h8l (And.intro h9 (And.intro h9l (And.intro h89n (And.intro hm (And.intro hl hHeld)))))));clear hHeld hl hm h89n h9l h9 h8l h8 hB;generalize wn19=wz at hall ⊢
  revert hall;revert wz;revert g9;revert g8;revert c3;revert A3;revert q2;revert q1;exact Rm1.out
 exact z6.nil;intro q1 q2 A3 c3 g8 wRm2 hall;obtain⟨hB,h8,h8l,hm,hl,hHeld⟩:=hall;refine z7 (rs:= [8]) (by kernel_rfl) (by simp) ?_;refine z6.cons (o:=_) rfl (fun K hK=> ?_) ?_
 ·
  have hba:=(Below.refl wRm2.heap.size wRm2).alloc (Nat.le_refl _) (.cells #[.int .i64 0,.slice none 0 0,.string ⟨#[]⟩] 29);have hn:=Arr.new wRm2 29 [.int .i64 0,.slice none 0 0,.string ⟨#[]⟩];have hnl:w1.heap.size≤wRm2.heap.size:=hB.size;obtain⟨g9,hge⟩:∃g,g=wRm2.heap.size:=⟨_,rfl⟩
  have hN:∀b,b=g9→wRm2.heap.size≤b:=fun b h=>by rw [h,hge];exact Nat.le_refl _
  rw [←hge]at hn hnl;go_simp;rw [←hge];clear hge;refine qI hK ?_ (fun W=>Below w1.heap.size w1 W∧Arr W g8 26 [.slice none 0 0,.slice none 0 0,.int .i64 0,.int .i64 0]∧w1.heap.size≤g8∧Arr W g9 29 [.int .i64 0,.slice none 0 0,.string ⟨#[]⟩]∧w1.heap.size≤g9∧g8≠g9∧OwSt W w1.heap.size (qv q1 s.blobs.length) (qv q2 s.ents.length) (ms s grey).1 (fun b=>b<w1.heap.size∨b=g8∨b=g9)∧W.ownsRow w1.heap.size 9 1 (.slice A3 (ms s grey).2.grey.length c3) (ms s grey).2.grey.length (strs (ms s grey).2.grey)) (fun W=>True) ?_ ?_ (fun wn20 hHeld2 hF _=> ?_)
  ·exact HSB.out _ ((hB.trans (hba.mono hB.size)))
  ·exact⟨hB.trans (hba.mono hB.size),h8.below hba,h8l,hn,hnl,(fun e=>Nat.lt_irrefl _ (by have h1:=h8.lt;rw [e]at h1;exact Nat.lt_of_lt_of_le h1 (hN _ rfl))),(hm.wider (N':=(fun b=>b<w1.heap.size∨b=g8∨b=g9)) (fun b hb=>hb.elim (fun hb=> .inl (.inl hb)) (fun hb=>hb.elim (fun hb=> .inl (.inr hb)) (fun hb=> .inr (hN _ hb))))).below hba,z8 hl hba⟩
  ·trivial
  clear hl hm h8l h8 hB hHeld;have hHeld:=hHeld2;clear hHeld2;obtain⟨hB,h8,h8l,h9,h9l,h89n,hm,hl⟩:=hF;clear hba hn hnl hN;clear hK K
  try simp only [sqP]
  have hall:=And.intro hB (And.intro h8 (And.intro h8l (And.intro h9 (And.intro h9l (And.intro h89n (And.intro hm (And.intro hl hHeld)))))));clear hHeld hl hm h89n h9l h9 h8l h8 hB;generalize wn20=wz at hall ⊢
  revert hall;revert wz;revert g9;revert g8;revert c3;revert A3;revert q2;revert q1;exact Rm1.out
 exact z6.nil;intro q1 q2 A3 c3 g8 g9 wRm1 hall;obtain⟨hB,h8,h8l,h9,h9l,h89n,hm,hl,hHeld⟩:=hall;refine z7 (rs:= [9]) (by kernel_rfl) (by simp) ?_;refine z6.store (o:=_) rfl (by rfl) (fun K hK=> ?_) ?_
 ·
  have hqhm:=hm.nb h8 (by decide) (by decide);have hqhl:=zg hl h8 (by decide);have z0:=h8.cell (k:=0) rfl;have f0:=h8.frozen 0;have z1:=h8.cell (k:=1) rfl;have f1:=h8.frozen 1;have z2:=h8.cell (k:=2) rfl;have f2:=h8.frozen 2;have z3:=h8.cell (k:=3) rfl;have f3:=h8.frozen 3;go_simp;clear z0 f0 z1 f1 z2 f2 z3 f3;refine vY hK (fun W=>Below w1.heap.size w1 W∧Arr W g8 26 [(qv q1 s.blobs.length),(qv q2 s.ents.length),.int .i64 s.room,.int .i64 s.clock]∧w1.heap.size≤g8∧Arr W g9 29 [.int .i64 0,.slice none 0 0,.string ⟨#[]⟩]∧w1.heap.size≤g9∧g8≠g9∧OwSt W w1.heap.size (qv q1 s.blobs.length) (qv q2 s.ents.length) (ms s grey).1 (fun b=>b<w1.heap.size∨b=g8∨b=g9)∧W.ownsRow w1.heap.size 9 1 (.slice A3 (ms s grey).2.grey.length c3) (ms s grey).2.grey.length (strs (ms s grey).2.grey)) (fun W=>True) ?_ ?_ (fun wn21 hF _=> ?_)
  ·exact⟨((((hB).setCell (p:=⟨g8,0,none⟩) h8l _).setCell (p:=⟨g8,1,none⟩) h8l _).setCell (p:=⟨g8,2,none⟩) h8l _).setCell (p:=⟨g8,3,none⟩) h8l _,h8.all4 _ _ _ _,h8l,((((h9).other (h89n.symm) _).other (h89n.symm) _).other (h89n.symm) _).other (h89n.symm) _,h9l,h89n,hm.set4N (.inr (.inl rfl)) hqhm.1 hqhm.2 _ _ _ _,qc hl hqhl _ _ _ _⟩
  ·trivial
  clear hl hm h89n h9l h9 h8l h8 hB hHeld;obtain⟨hB,h8,h8l,h9,h9l,h89n,hm,hl⟩:=hF;clear hqhm hqhl;clear hK K
  try simp only [sqP]
  refine z7 (rs:= [10]) (by kernel_rfl) (by simp) ?_;refine z6.store (o:=_) rfl (by rfl) (fun K hK=> ?_) ?_
  ·
   have hqhm:=hm.nb h9 (by decide) (by decide);have hqhl:=zg hl h9 (by decide);have z0:=h9.cell (k:=0) rfl;have f0:=h9.frozen 0;have z1:=h9.cell (k:=1) rfl;have f1:=h9.frozen 1;have z2:=h9.cell (k:=2) rfl;have f2:=h9.frozen 2;go_simp;clear z0 f0 z1 f1 z2 f2;refine vY hK (fun W=>Below w1.heap.size w1 W∧Arr W g8 26 [(qv q1 s.blobs.length),(qv q2 s.ents.length),.int .i64 s.room,.int .i64 s.clock]∧w1.heap.size≤g8∧Arr W g9 29 [.int .i64 ((ms s grey).2.phase:Int),(.slice A3 (ms s grey).2.grey.length c3),.string ⟨(ms s grey).2.at_.toArray⟩]∧w1.heap.size≤g9∧g8≠g9∧OwSt W w1.heap.size (qv q1 s.blobs.length) (qv q2 s.ents.length) (ms s grey).1 (fun b=>b<w1.heap.size∨b=g8∨b=g9)∧W.ownsRow w1.heap.size 9 1 (.slice A3 (ms s grey).2.grey.length c3) (ms s grey).2.grey.length (strs (ms s grey).2.grey)) (fun W=>True) ?_ ?_ (fun wn22 hF _=> ?_)
   ·exact⟨(((hB).setCell (p:=⟨g9,0,none⟩) h9l _).setCell (p:=⟨g9,1,none⟩) h9l _).setCell (p:=⟨g9,2,none⟩) h9l _,(((h8).other (h89n) _).other (h89n) _).other (h89n) _,h8l,h9.all3 _ _ _,h9l,h89n,hm.set3N (.inr (.inr rfl)) hqhm.1 hqhm.2 _ _ _,qx hl hqhl _ _ _⟩
   ·trivial
   clear hl hm h89n h9l h9 h8l h8 hB;obtain⟨hB,h8,h8l,h9,h9l,h89n,hm,hl⟩:=hF;clear hqhm hqhl;clear hK K
   try simp only [sqP]
   refine zB (by kernel_rfl) ?_ _
   try dsimp only [Exit.then]
   have hall:=And.intro hB (And.intro h8 (And.intro h8l (And.intro h9 (And.intro h9l (And.intro h89n (And.intro hm hl))))));clear hl hm h89n h9l h9 h8l h8 hB;generalize wn22=wz at hall ⊢
   revert hall;revert wz;revert g9;revert g8;revert c3;revert A3;revert q2;revert q1;exact REST.out
  exact z6.nil
 exact z6.nil;intro q1 q2 A3 c3 g8 g9 wz hall;obtain⟨hB,h8,h8l,h9,h9l,h89n,hm,hl⟩:=hall;have ho:=hm.mono (N':=fun b=>b<w1.heap.size) (fun b hb=> .inl hb);have hg8:=h8l;have hg9:=h9l;clear hm h8l h9l h89n;obtain⟨hR,hD⟩:=HRD.out _ hB;obtain⟨f0,f1,f2,f3⟩:=sqF4 hR;obtain⟨y0,y1,y2,y3⟩:=sqC4 hR;obtain⟨e0,e1,e2⟩:=sqF3 hD;obtain⟨x0,x1,x2⟩:=sqC3 hD;obtain⟨s0,s1,s2,s3⟩:=sqC4 h8;obtain⟨t0,t1,t2⟩:=sqC3 h9;have hw1:=hB.size;have n9:¬(g9=H+1+1):=by omega
 have n8:¬(g8=H+1+1):=by omega
 have n9':¬(H+1+1=g9):=by omega
 have n98:g8≠g9:=Qs h8 h9 (by decide);have hF1:=sqH (zW (h:=H+1+1+1) (u0:=qv q1 s.blobs.length) (u1:=qv q2 s.ents.length) (u2:= .int .i64 s.room) (u3:= .int .i64 s.clock) (x0:= .int .i64 ((ms s grey).2.phase:Int)) (x1:=(.slice A3 (ms s grey).2.grey.length c3)) (x2:= .string ⟨(ms s grey).2.at_.toArray⟩) hR (by omega));have hF2:=sqH (zY (g:=H+1+1) (u0:=qv q1 s.blobs.length) (u1:=qv q2 s.ents.length) (u2:= .int .i64 s.room) (u3:= .int .i64 s.clock) (x0:= .int .i64 ((ms s grey).2.phase:Int)) (x1:=(.slice A3 (ms s grey).2.grey.length c3)) (x2:= .string ⟨(ms s grey).2.at_.toArray⟩) hD (by omega));have hF3:=sqH (zT (u0:=qv q1 s.blobs.length) (u1:=qv q2 s.ents.length) (u2:= .int .i64 s.room) (u3:= .int .i64 s.clock) (x0:= .int .i64 ((ms s grey).2.phase:Int)) (x1:=(.slice A3 (ms s grey).2.grey.length c3)) (x2:= .string ⟨(ms s grey).2.at_.toArray⟩) ho (g:=H+1+1) (h:=H+1+1+1) (by omega) (by omega) (ho.nb hR (by decide) (by decide)).1 (ho.nb hR (by decide) (by decide)).2 (ho.nb hD (by decide) (by decide)).1 (ho.nb hD (by decide) (by decide)).2);have hF4:=sqH (zN (g:=H+1+1) (h:=H+1+1+1) (u0:=qv q1 s.blobs.length) (u1:=qv q2 s.ents.length) (u2:= .int .i64 s.room) (u3:= .int .i64 s.clock) (x0:= .int .i64 ((ms s grey).2.phase:Int)) (x1:=(.slice A3 (ms s grey).2.grey.length c3)) (x2:= .string ⟨(ms s grey).2.at_.toArray⟩) hl (zg hl hR (by decide)) (zg hl hD (by decide)));have hF5:=sqH (zq (g:=H+1+1) (h:=H+1+1+1) (u0:=qv q1 s.blobs.length) (u1:=qv q2 s.ents.length) (u2:= .int .i64 s.room) (u3:= .int .i64 s.clock) (x0:= .int .i64 ((ms s grey).2.phase:Int)) (x1:=(.slice A3 (ms s grey).2.grey.length c3)) (x2:= .string ⟨(ms s grey).2.at_.toArray⟩) (hb01.trans (hB.mono (show H≤w1.heap.size by omega))) (by omega) (by omega));clear hR hD hB ho hl h8 h9 hg8 hg9 HSB HCP HST HRD
 repeat' ((fail_if_success (with_reducible refine at_reg_ 7 ?_));(fail_if_success (with_reducible refine at_sreg_ 7 ?_));(fail_if_success (with_reducible refine at_ssreg_ 7 ?_));(fail_if_success at_builtin);(fail_if_success at_make);(first | go_values | go_skip | go_guarded | go_step | go_upon | go_back))
 go_region
 all_goals dsimp only [Exit.then]
 go_wp2_with fail
 all_goals (refine bodyPost_ret (zJ rfl _ _ (H+1+1) (H+1+1+1) _ _ _ _ _ _ _ _ (by rfl) (Arr.drew hF1.out) Tryz.underlying26 rfl (by kernel_rfl) (by rfl) (Arr.drew hF2.out) Tryz.underlying29 rfl (by kernel_rfl)) rfl ?_)
 all_goals exact⟨_,_,_,rfl,(hF3.out.drewX.lower (base':=H) (by omega)).mono (fun b hb=>by omega),ze (z8 hF4.out (Below.refl _ _).drew) (by omega),hF5.out.drew⟩
end Go.Proofs.YtnmlbflhnnmoeaaGreat
