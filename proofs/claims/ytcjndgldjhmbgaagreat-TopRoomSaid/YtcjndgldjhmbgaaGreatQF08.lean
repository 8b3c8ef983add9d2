/- Lemmas, as stated. -/
import Derived.Test.YtcjndgldjhmbgaaGreatQF07
set_option linter.unusedVariables false
set_option linter.unusedSimpArgs false
set_option maxRecDepth 100000
set_option maxHeartbeats 16000000
open Go.Proofs.Tryz
open Go.Value renaming slice->aw,int->ax,string->az
open Go.IntKind renaming i64->ay
open Go.Obj renaming cells->aA
open Option renaming none->aB,some->aC
open And renaming intro->aD
namespace Go.Proofs.YtcjndgldjhmbgaaGreat
open Go.RowKit Go.Maps
variable {c:ColP} {fn:Func} {base n size:Nat} {P:Program} {s:StoP} {p q u:Tmp} {t ty ty2:TypeId} {v v1 v2:Value} {w w0:World} {ys:af} {N:ai}
theorem qo (w:World) (e1 e2:TypeId) (c1 c2 c3 c4:af):∃W,W=(((w.alloc (.cells c1.toArray e1)).alloc (.cells c2.toArray e2)).alloc (.cells c3.toArray e1)).alloc (.cells c4.toArray e2)/\Arr W w.heap.size e1 c1/\Arr W (w.heap.size+1) e2 c2/\Arr W (w.heap.size+1+1) e1 c3/\Arr W (w.heap.size+1+1+1) e2 c4/\Below w.heap.size w W:=by
 have b1:=wi w (.cells c1.toArray e1);have b2:=b1.alloc b1.size (.cells c2.toArray e2);have b3:=b2.alloc b2.size (.cells c3.toArray e1);have b4:=b3.alloc b3.size (.cells c4.toArray e2);have a1:=((((Arr.new w e1 c1)).alloc (.cells c2.toArray e2)).alloc (.cells c3.toArray e1)).alloc (.cells c4.toArray e2);have a2:=((Arr.new (w.alloc (.cells c1.toArray e1)) e2 c2).alloc (.cells c3.toArray e1)).alloc (.cells c4.toArray e2);have a3:=(Arr.new ((w.alloc (.cells c1.toArray e1)).alloc (.cells c2.toArray e2)) e1 c3).alloc (.cells c4.toArray e2);have a4:=Arr.new (((w.alloc (.cells c1.toArray e1)).alloc (.cells c2.toArray e2)).alloc (.cells c3.toArray e1)) e2 c4;simp only [World.size_alloc]at a2 a3 a4;exact⟨_,rfl,a1,a2,a3,a4,b4⟩
theorem VJ (w:World) (e1 e2:TypeId) (c1 c3 c4:af):∃W,W=((w.alloc (.cells c1.toArray e1)).alloc (.cells c3.toArray e1)).alloc (.cells c4.toArray e2)/\Arr W w.heap.size e1 c1/\Arr W (w.heap.size+1) e1 c3/\Arr W (w.heap.size+1+1) e2 c4/\Below w.heap.size w W:=by
 have b1:=wi w (.cells c1.toArray e1);have b3:=b1.alloc b1.size (.cells c3.toArray e1);have b4:=b3.alloc b3.size (.cells c4.toArray e2);have a1:=(((Arr.new w e1 c1)).alloc (.cells c3.toArray e1)).alloc (.cells c4.toArray e2);have a3:=(Arr.new (w.alloc (.cells c1.toArray e1)) e1 c3).alloc (.cells c4.toArray e2);have a4:=Arr.new ((w.alloc (.cells c1.toArray e1)).alloc (.cells c3.toArray e1)) e2 c4;simp only [World.size_alloc]at a3 a4;exact⟨_,rfl,a1,a3,a4,b4⟩
theorem kF (h:fn.results=#[.cell p ty,.cell q ty2]) (tmps:Array Value) (w:World) (g g2:Nat) (t t2:TypeId) (cs cs2:Array Value) (fr fr2:Nat×Nat) (d d2:TypeDesc)
  (hp:tmps.getD p undef= .pointer (aC ⟨g,0,aB⟩)) (hg:w.heap[g]?=aC (.cells cs t fr))
  (hu:P.underlying ty=aC d) (hd:(match d with | .struct _ | .array _ _=>true | _=>false)=true) (hi:(P.info? ty).map (·.size)=aC cs.size)
  (hp2:tmps.getD q undef= .pointer (aC ⟨g2,0,aB⟩)) (hg2:w.heap[g2]?=aC (.cells cs2 t2 fr2))
  (hu2:P.underlying ty2=aC d2) (hd2:(match d2 with | .struct _ | .array _ _=>true | _=>false)=true) (hi2:(P.info? ty2).map (·.size)=aC cs2.size) :
  (results fn tmps).run P w= .ok (.tuple #[.agg cs,.agg cs2]) w:=by
 have hp':tmps[p]?.getD undef= .pointer (aC ⟨g,0,aB⟩):=by simpa using hp
 have hp2':tmps[q]?.getD undef= .pointer (aC ⟨g2,0,aB⟩):=by simpa using hp2
 simp [results,h,hp',hp2',asAddr,run_loadVar_row w g t ty cs fr d hg hu hd hi,run_loadVar_row w g2 t2 ty2 cs2 fr2 d2 hg2 hu2 hd2 hi2]
theorem qf (h:fn.results=#[.cell p ty,.cell q ty2,.tmp u]) (tmps:Array Value) (w:World) (g g2:Nat) (t t2:TypeId) (cs cs2:Array Value) (fr fr2:Nat×Nat) (d d2:TypeDesc)
  (hp:tmps.getD p undef= .pointer (aC ⟨g,0,aB⟩)) (hg:w.heap[g]?=aC (.cells cs t fr))
  (hu:P.underlying ty=aC d) (hd:(match d with | .struct _ | .array _ _=>true | _=>false)=true) (hi:(P.info? ty).map (·.size)=aC cs.size)
  (hp2:tmps.getD q undef= .pointer (aC ⟨g2,0,aB⟩)) (hg2:w.heap[g2]?=aC (.cells cs2 t2 fr2))
  (hu2:P.underlying ty2=aC d2) (hd2:(match d2 with | .struct _ | .array _ _=>true | _=>false)=true) (hi2:(P.info? ty2).map (·.size)=aC cs2.size) :
  (results fn tmps).run P w= .ok (.tuple #[.agg cs,.agg cs2,tmps.getD u undef]) w:=by
 have hp':tmps[p]?.getD undef= .pointer (aC ⟨g,0,aB⟩):=by simpa using hp
 have hp2':tmps[q]?.getD undef= .pointer (aC ⟨g2,0,aB⟩):=by simpa using hp2
 simp [results,h,hp',hp2',asAddr,run_loadVar_row w g t ty cs fr d hg hu hd hi,run_loadVar_row w g2 t2 ty2 cs2 fr2 d2 hg2 hu2 hd2 hi2]
theorem q5 {z:Tmp} (h:fn.results=#[.cell p ty,.cell q ty2,.tmp u,.tmp z]) (tmps:Array Value) (w:World) (g g2:Nat) (t t2:TypeId) (cs cs2:Array Value) (fr fr2:Nat×Nat) (d d2:TypeDesc)
  (hp:tmps.getD p undef= .pointer (aC ⟨g,0,aB⟩)) (hg:w.heap[g]?=aC (.cells cs t fr))
  (hu:P.underlying ty=aC d) (hd:(match d with | .struct _ | .array _ _=>true | _=>false)=true) (hi:(P.info? ty).map (·.size)=aC cs.size)
  (hp2:tmps.getD q undef= .pointer (aC ⟨g2,0,aB⟩)) (hg2:w.heap[g2]?=aC (.cells cs2 t2 fr2))
  (hu2:P.underlying ty2=aC d2) (hd2:(match d2 with | .struct _ | .array _ _=>true | _=>false)=true) (hi2:(P.info? ty2).map (·.size)=aC cs2.size) :
  (results fn tmps).run P w= .ok (.tuple #[.agg cs,.agg cs2,tmps.getD u undef,tmps.getD z undef]) w:=by
 have hp':tmps[p]?.getD undef= .pointer (aC ⟨g,0,aB⟩):=by simpa using hp
 have hp2':tmps[q]?.getD undef= .pointer (aC ⟨g2,0,aB⟩):=by simpa using hp2
 simp [results,h,hp',hp2',asAddr,run_loadVar_row w g t ty cs fr d hg hu hd hi,run_loadVar_row w g2 t2 ty2 cs2 fr2 d2 hg2 hu2 hd2 hi2]
abbrev z2j (w:World) (g h:Nat) (u0 u1 u2 u3 x0 x1 x2:Value):World :=
 ((((((w.setCell ⟨g,0,aB⟩ u0).setCell ⟨g,1,aB⟩ u1).setCell ⟨g,2,aB⟩ u2).setCell ⟨g,3,aB⟩ u3).setCell ⟨h,0,aB⟩ x0).setCell ⟨h,1,aB⟩ x1).setCell ⟨h,2,aB⟩ x2
section
variable {w w':World} {g h B:Nat} {e e':TypeId} {u0 u1 u2 u3 x0 x1 x2 a0 a1 a2 a3 b0 b1 b2:Value}
theorem Arr.all3 (hA:Arr w h e' [b0,b1,b2]) (x0 x1 x2:Value):Arr (((w.setCell ⟨h,0,aB⟩ x0).setCell ⟨h,1,aB⟩ x1).setCell ⟨h,2,aB⟩ x2) h e' [x0,x1,x2] :=
 ((hA.set (k:=0) ws x0).set (k:=1) ws x1).set (k:=2) ws x2
theorem qT (hA:Arr w g e [a0,a1,a2,a3]) (hne:g≠h):Arr (z2j w g h u0 u1 u2 u3 x0 x1 x2) g e [u0,u1,u2,u3] :=
 (((hA.all4 u0 u1 u2 u3).other hne x0).other hne x1).other hne x2
theorem qU (hA:Arr w h e' [b0,b1,b2]) (hne:g≠h):Arr (z2j w g h u0 u1 u2 u3 x0 x1 x2) h e' [x0,x1,x2] :=
 ((((hA.other hne.symm u0).other hne.symm u1).other hne.symm u2).other hne.symm u3).all3 x0 x1 x2
theorem qE (ho:OwSt w base v1 v2 s N) (hg:N g) (hh:N h) (h1:v1.ownBlock≠aC g) (h2:v2.ownBlock≠aC g) (h3:v1.ownBlock≠aC h) (h4:v2.ownBlock≠aC h):OwSt (z2j w g h u0 u1 u2 u3 x0 x1 x2) base v1 v2 s N :=
 ((((((ho.setX hg h1 h2 u0).setX hg h1 h2 u1).setX hg h1 h2 u2).setX hg h1 h2 u3).setX hh h3 h4 x0).setX hh h3 h4 x1).setX hh h3 h4 x2
theorem qQ {xs:af} (ho:w.ownsRow base t size v n xs) (h1:v.ownBlock≠aC g) (h2:v.ownBlock≠aC h):(z2j w g h u0 u1 u2 u3 x0 x1 x2).ownsRow base t size v n xs :=
 zd (zd (zd (zd (zd (zd (zd ho h1) h1) h1) h1) h2) h2) h2
theorem zL (hb:Below B w0 w) (hg:B<=g) (hh:B<=h):Below B w0 (z2j w g h u0 u1 u2 u3 x0 x1 x2) :=
 Below.setCell (Below.setCell (Below.setCell (Below.setCell (Below.setCell (Below.setCell (Below.setCell hb hg u0) hg u1) hg u2) hg u3) hh x0) hh x1) hh x2
theorem xV {r:Option Nat} (hb:w0.grownBy w r) (hg:w0.heap.size<=g) (hh:w0.heap.size<=h):w0.grownBy (z2j w g h u0 u1 u2 u3 x0 x1 x2) r :=
 zt (zt (zt (zt (zt (zt (zt hb hg) hg) hg) hg) hh) hh) hh
end
abbrev Z7 (w:World) (g:Nat) (u0 u1 u2 u3:Value):World:=(((w.setCell ⟨g,0,aB⟩ u0).setCell ⟨g,1,aB⟩ u1).setCell ⟨g,2,aB⟩ u2).setCell ⟨g,3,aB⟩ u3
abbrev z4f (w:World) (g:Nat) (u0 u1 u2:Value):World:=((w.setCell ⟨g,0,aB⟩ u0).setCell ⟨g,1,aB⟩ u1).setCell ⟨g,2,aB⟩ u2
section
variable {w w':World} {g h B:Nat} {e:TypeId} {xs:af}
theorem Arr.other4 (hA:Arr w h e xs) (hne:h≠g) (u0 u1 u2 u3:Value):Arr (Z7 w g u0 u1 u2 u3) h e xs:=(((hA.other hne u0).other hne u1).other hne u2).other hne u3
theorem Arr.other3 (hA:Arr w h e xs) (hne:h≠g) (u0 u1 u2:Value):Arr (z4f w g u0 u1 u2) h e xs:=((hA.other hne u0).other hne u1).other hne u2
theorem OwSt.set4N (ho:OwSt w base v1 v2 s N) (hg:N g) (h1:v1.ownBlock≠aC g) (h2:v2.ownBlock≠aC g) (u0 u1 u2 u3:Value):OwSt (Z7 w g u0 u1 u2 u3) base v1 v2 s N :=
 (((ho.setX hg h1 h2 u0).setX hg h1 h2 u1).setX hg h1 h2 u2).setX hg h1 h2 u3
theorem OwSt.set3N (ho:OwSt w base v1 v2 s N) (hg:N g) (h1:v1.ownBlock≠aC g) (h2:v2.ownBlock≠aC g) (u0 u1 u2:Value):OwSt (z4f w g u0 u1 u2) base v1 v2 s N :=
 ((ho.setX hg h1 h2 u0).setX hg h1 h2 u1).setX hg h1 h2 u2
theorem qA (ho:w.ownsRow base t size v n ys) (h1:v.ownBlock≠aC g) (u0 u1 u2 u3:Value):(Z7 w g u0 u1 u2 u3).ownsRow base t size v n ys:=zd (zd (zd (zd ho h1) h1) h1) h1
theorem kv (ho:w.ownsRow base t size v n ys) (h1:v.ownBlock≠aC g) (u0 u1 u2:Value):(z4f w g u0 u1 u2).ownsRow base t size v n ys:=zd (zd (zd ho h1) h1) h1
theorem yH (hb:Below B w0 w) (hg:B<=g) (u0 u1 u2 u3:Value):Below B w0 (Z7 w g u0 u1 u2 u3):=Below.setCell (Below.setCell (Below.setCell (Below.setCell hb hg u0) hg u1) hg u2) hg u3
theorem Ya (hb:Below B w0 w) (hg:B<=g) (u0 u1 u2:Value):Below B w0 (z4f w g u0 u1 u2):=Below.setCell (Below.setCell (Below.setCell hb hg u0) hg u1) hg u2
theorem OwSt.drewX (ho:OwSt w base v1 v2 s N):OwSt w.drew base v1 v2 s N:=ho.below (Below.refl _ _).drew
theorem RwX.own_m {α:Type} {S:Shp α} {w:World} {e:TypeId} {l:List α} (h:RwX S e w base v l N):∃xs,w.ownsRow base e S.size v l.length xs:=by
 obtain⟨ps,_,_,h3,_⟩:=h;exact⟨_,h3⟩
theorem OwSt.nb (ho:OwSt w base v1 v2 s N) (hA:Arr w g e xs) (h1:88≠e) (h2:109≠e):v1.ownBlock≠aC g/\v2.ownBlock≠aC g:=by
 obtain⟨xs1,hx⟩:=ho.b.own_m;obtain⟨xs2,hy⟩:=ho.e.own_m;exact⟨zf hx hA h1,zf hy hA h2⟩
end
structure RdC (w:World) (A:ae) (n:Nat) (c:ColP):Prop where
 rd:Rd w 1 A c.aI.length (strs c.aI)
 cap:c.aI.length<=n
 max:n<=maxLen
theorem RdC.below {w':World} {A:ae} (h:RdC w A n c) (hb:Below w.heap.size w w'):RdC w' A n c:=⟨h.rd.below hb,h.cap,h.max⟩
theorem RdC.of_own (h:w.ownsRow base 9 1 v c.aI.length (strs c.aI)):∃A n,v= aw A c.aI.length n/\RdC w A n c:=by
 obtain⟨A,n,rfl,hs,_⟩:=Sl.of_own h;exact⟨A,n,rfl,hs.rd,hs.cap,hs.max⟩
abbrev coV (v:Value) (c:ColP):Value:= .agg #[ax ay c.aJ,v,az ⟨c.at_.toArray⟩]
def yO (bl:List BlobP) (k:Nat):List BlobP:=Jp (bl.take k)++bl.drop k
theorem Q7 (bl:List BlobP) (k:Nat):(yO bl k).length=bl.length:=by
 unfold yO Jp;rw [List.length_append,List.length_map,List.length_take,List.length_drop];omega
theorem YA (bl:List BlobP):yO bl 0=bl:=by simp [yO,Jp]
theorem VP (bl:List BlobP):yO bl bl.length=Jp bl:=by simp [yO]
theorem Jq (bl:List BlobP) (k:Nat) (h:k<bl.length) (h':k<(yO bl k).length):(yO bl k)[k]=bl[k]:=by
 have e:(yO bl k)[k]?=bl[k]?:=by
  unfold yO Jp;rw [List.getElem?_append_right aa];simp only [List.length_map,List.length_take,List.getElem?_drop]
  congr 1;omega
 rw [List.getElem?_eq_getElem h',List.getElem?_eq_getElem h]at e;exact Option.some.inj e
theorem Yz (bl:List BlobP) (k:Nat) (h:k<bl.length):(yO bl k).set k { bl[k] with mark:=false }=yO bl (k+1):=by
 unfold yO Jp;have hl:(List.map (fun b:BlobP=> { b with mark:=false }) (bl.take k)).length=k:=by rw [List.length_map,List.length_take];omega
 rw [List.set_append_right _ _ wj,hl,Nat.sub_self,List.take_succ_eq_append_getElem h,List.map_append,List.append_assoc]
 congr 1
 rw [List.drop_eq_getElem_cons h];rfl
theorem OwSt.setB' {g cap i j:Nat} {u:Value} {y:BlobP} (h:OwSt w base (aw (aC ⟨g,0,aB⟩) n cap) v2 s N) (hn:n=s.aE.length) (hi:i<s.aE.length) (hj:j<4)
  (hR:∀W cs,BlobS.R W s.aE[i] cs->BlobS.R W y (cs.set j u)) (hlead:∀b,¬leads b [u]) :
  (∃v0,w.cell? ⟨g,i*4+j,aB⟩=aC v0)/\w.frozen? ⟨g,i*4+j,aB⟩=false /\
   OwSt (w.setCell ⟨g,i*4+j,aB⟩ u) base (aw (aC ⟨g,0,aB⟩) n cap) v2 { s with aE:=s.aE.set i y } N/\w.grownBy (w.setCell ⟨g,i*4+j,aB⟩ u) (aC g):=by
 subst hn;exact h.setB hi hj hR hlead
theorem VV (A:ae) (c:Nat) (B:ae) (d:Nat) (s:StoP) (w:World) (hg:GoodS s) (hr:RdSt w A c B d s) :
  Calls Tryz.prog 30 #[.agg #[aw A s.aE.length c,aw B s.aF.length d,ax ay s.aH,ax ay s.aG]] w fun e w'=>∃v1 v2 v3,e= .returned (.tuple #[stV v1 v2 s,coV v3 (UE s),ax ay 0])/\OwSt w' w.heap.size v1 v2 (Xo s) (fun b=>b<w.heap.size)/\w'.ownsRow w.heap.size 9 1 v3 (UE s).aI.length (strs (UE s).aI)/\Below w.heap.size w w':=by
 have hlb:s.aE.length<=24:=hg.b.len;have hle:s.aF.length<=10:=hg.e.len;have HGD:=sqH hg;obtain⟨w0,hw0,hS,hR,hC,hb0⟩:=VJ w 27 30 [aw A s.aE.length c,aw B s.aF.length d,ax ay s.aH,ax ay s.aG] [aw aB 0 0,aw aB 0 0,ax ay 0,ax ay 0] [ax ay 0,aw aB 0 0,az ⟨#[]⟩];have hr0:=hr.below hb0;obtain⟨H,hH⟩:=wU w.heap.size
 obtain⟨HCK,HRD,HSZ⟩:=sqJ3 (zF A c B d s w0 hg hr0) (show ∀W,Below H w W->RdSt W A c B d s from fun W h=>hr.below (hH▸h)) (show ∀W,Below H w W->H<=W.heap.size from fun W h=>hH▸h.size);rw [<-hH]at hS hR hC hb0 ⊢
 have hHc:H+1+1<w0.heap.size:=hC.lt;obtain⟨x0,x1,x2,x3⟩:=sqC4 hS;rw [hw0,hH]at x0 x1 x2 x3;have HPL:=sqH (show ∀b∈s.aE,b.data.length<=1000000 from fun b hb=>by have:=(hg.b.one b hb).2.1;omega);have HQL:=sqH (show ∀x∈s.aF,x.aL.length<=1000000 from fun x hx=>by have:=(zk (hg.e.one x hx).2.1).1;omega);clear hg hr;go_enter func30,ntmps30;go_wp2_with fail;rw [<-hw0,<-hH];have HH:=sqH hH;clear hw0 hH x0 x1 x2 x3;refine wV HCK.o fun w1 hb1=>?_;dsimp only;have hr1:=hr0.below hb1;have hS1:=hS.below hb1;obtain⟨z0,z1,z2,z3⟩:=sqC4 hS1;have HCP:=sqH (qM A c B d s w1 wj wj HPL.o HQL.o hr1);clear hr0 hS1 HCK;go_wp2_with fail;clear z0 z1 z2 z3;refine HCP.o.mono ?_;rintro e_ w3 ⟨q1,q2,rfl,ho3,hb3⟩;dsimp only;have hc3:=wg hb1 hb3;have ho3:=ho3.lower (base':=w0.heap.size) hb1.size;obtain⟨G,hG⟩:=wU w3.heap.size
 have hba:=wi w3 (aA #[aw (aC ⟨q1,0,aB⟩) s.aE.length s.aE.length,aw (aC ⟨q2,0,aB⟩) s.aF.length s.aF.length,ax ay s.aH,ax ay s.aG] 27);have HXO:=sqH (show Arr (w3.alloc (aA #[aw (aC ⟨q1,0,aB⟩) s.aE.length s.aE.length,aw (aC ⟨q2,0,aB⟩) s.aF.length s.aF.length,ax ay s.aH,ax ay s.aG] 27)) G 27 [aw (aC ⟨q1,0,aB⟩) s.aE.length s.aE.length,aw (aC ⟨q2,0,aB⟩) s.aF.length s.aF.length,ax ay s.aH,ax ay s.aG] from by rw [hG];exact Arr.new w3 27 _);have HOW:=sqH (show OwSt (w3.alloc (aA #[aw (aC ⟨q1,0,aB⟩) s.aE.length s.aE.length,aw (aC ⟨q2,0,aB⟩) s.aF.length s.aF.length,ax ay s.aH,ax ay s.aG] 27)) w0.heap.size (aw (aC ⟨q1,0,aB⟩) s.aE.length s.aE.length) (aw (aC ⟨q2,0,aB⟩) s.aF.length s.aF.length) s (fun b=>b<w0.heap.size\/b=G) from
  (ho3.wider fun b hb=>by
   rcases hb with hb | hb
   ·exact .inl (Nat.lt_of_lt_of_le hb hb1.size)
   ·exact .inr (by rw [hb,hG];exact Nat.le_refl _)).below hba)
 obtain⟨HBK,HGL,HG,HS0,HB0⟩:=sqJ5 (wg hc3 hba) (show w0.heap.size<=G from by rw [hG];exact hc3.size) hG (show ∀W,Below w0.heap.size w0 W->Arr W H 27 [aw A s.aE.length c,aw B s.aF.length d,ax ay s.aH,ax ay s.aG]/\Arr W (H+1) 27 [aw aB 0 0,aw aB 0 0,ax ay 0,ax ay 0]/\Arr W (H+1+1) 30 [ax ay 0,aw aB 0 0,az ⟨#[]⟩] from fun W h=>⟨hS.below h,hR.below h,hC.below h⟩) hb0;have b0:=HXO.o.c0;clear hS hR hC hc3 ho3 hb3 hr1 HCP hb0 hG hba hb1;go_wp2_with fail;rw [<-HG.o];generalize (w3.alloc (aA #[aw (aC ⟨q1,0,aB⟩) s.aE.length s.aE.length,aw (aC ⟨q2,0,aB⟩) s.aF.length s.aF.length,ax ay s.aH,ax ay s.aG] 27))=w4 at *
 clear b0;have hb63:(s.aE.length:Int)<=9223372036854775807:=wj;go_loopg [20] s.aE.length (fun gn i wr=>∃k:Nat,gn=s.aE.length - k/\i= ax ay k/\k<=s.aE.length/\Arr wr G 27 [aw (aC ⟨q1,0,aB⟩) s.aE.length s.aE.length,aw (aC ⟨q2,0,aB⟩) s.aF.length s.aF.length,ax ay s.aH,ax ay s.aG]/\OwSt wr w0.heap.size (aw (aC ⟨q1,0,aB⟩) s.aE.length s.aE.length) (aw (aC ⟨q2,0,aB⟩) s.aF.length s.aF.length) { s with aE:=yO s.aE k } (fun b=>b<w0.heap.size\/b=G)/\Below w0.heap.size w0 wr)
 case atStart=>exact⟨0,rfl,rfl,wj,HXO.o,by rw [YA];exact HOW.o,HBK.o⟩
 case round =>
  obtain⟨k,hgk,rfl,hk,hX,ho,hbk⟩:=hrel;have HGK:=sqH hgk;clear hgk HXO HOW HBK;by_cases hlt:k<s.aE.length
  rotate_left
  ·obtain rfl:k=s.aE.length:=by omega
   have hlb:decide (s.aE.length<s.aE.length)=false:=ws;rw [VP]at ho;obtain⟨bo,bx,bk⟩:=sqJ3 ho hX hbk;have hGB:=HGL.o;clear ho hX hbk
   refine wH ?_;intros;have bb:=HB0.o.trans (bk.o.mono (show H<=w0.heap.size by omega));obtain⟨bs,br,bc⟩:=HS0.o _ bk.o;have bo:=bo.o;have bx:=bx.o;refine wp_region_held_drew (S:=(fun w'=>(wD w' G (aw (aC ⟨q1,0,aB⟩) s.aE.length s.aE.length) (aw (aC ⟨q2,0,aB⟩) s.aF.length s.aF.length) (ax ay s.aH) (ax ay s.aG))/\(wD w' H (aw A s.aE.length c) (aw B s.aF.length d) (ax ay s.aH) (ax ay s.aG)))) wm ?_ (fun hHeld=> ?_)
   ·exact⟨sqC4 (bx.drew),sqC4 (bs.drew)⟩
   have bx:=bx.drew;have bs:=bs.drew;have br:=br.drew;have bc:=bc.drew;have bo:=bo.drewX;have bb:=bb.drew;generalize wr.drew=wn0 at *
   refine wM 0 ?_;refine wM 1 ?_;refine wQ 2 fun K hK=>?_;go_simp;refine(xi A B c d s (s.aH:Int) (s.aG:Int) wn0 HGD.o.rts (HRD.o _ bb)).mono ?_;rintro e5 w5 ⟨v5,L,rfl,hL,hLl,ho5,hb5⟩;obtain rfl:=hL.uni (L:=rts s) (fun x=>Iff.rfl);obtain⟨A5,c5,rfl,_,_⟩:=Rd.of_own' ho5;dsimp only;refine ka hK ?_ (Below wn0.heap.size wn0) (fun W=>W.ownsRow H 9 1 (aw A5 (uni (rts s)).length c5) (uni (rts s)).length (strs (uni (rts s)))) ?_ ?_ (fun wn1 hHeld hst hnew=> ?_)
   ·(exact⟨sqC4 (bx.below hb5),sqC4 (bs.below hb5)⟩)
   ·(exact hb5)
   ·(exact zb ho5 (HSZ.o _ bb))
   have bx:=bx.below hst;have bs:=bs.below hst;have br:=br.below hst;have bc:=bc.below hst;have bo:=bo.below hst;have bb:=bb.trans (hst.mono (HSZ.o _ bb));have hl:=hnew;clear hnew;clear hst;clear hK K
   refine wM 3 ?_;refine wQ 4 fun K hK=>?_;obtain⟨f0,f1,f2,f3⟩:=sqF4 br;obtain⟨y0,y1,y2,y3⟩:=sqC4 br;go_simp;clear f0 f1 f2 f3 y0 y1 y2 y3;obtain⟨nb1,nb2⟩:=bo.nb br wo wo;have nl:=zf hl br wo;have bx:=bx.other4 (g:=H+1) wj (aw (aC ⟨q1,0,aB⟩) s.aE.length s.aE.length) (aw (aC ⟨q2,0,aB⟩) s.aF.length s.aF.length) (ax ay s.aH) (ax ay s.aG);have bs:=bs.other4 (g:=H+1) wj (aw (aC ⟨q1,0,aB⟩) s.aE.length s.aE.length) (aw (aC ⟨q2,0,aB⟩) s.aF.length s.aF.length) (ax ay s.aH) (ax ay s.aG);have bc:=bc.other4 (g:=H+1) wj (aw (aC ⟨q1,0,aB⟩) s.aE.length s.aE.length) (aw (aC ⟨q2,0,aB⟩) s.aF.length s.aF.length) (ax ay s.aH) (ax ay s.aG);have br:=br.all4 (aw (aC ⟨q1,0,aB⟩) s.aE.length s.aE.length) (aw (aC ⟨q2,0,aB⟩) s.aF.length s.aF.length) (ax ay s.aH) (ax ay s.aG);have bo:=bo.set4N (g:=H+1) (.inl wj) nb1 nb2 (aw (aC ⟨q1,0,aB⟩) s.aE.length s.aE.length) (aw (aC ⟨q2,0,aB⟩) s.aF.length s.aF.length) (ax ay s.aH) (ax ay s.aG);have bb:=yH (g:=H+1) bb wj (aw (aC ⟨q1,0,aB⟩) s.aE.length s.aE.length) (aw (aC ⟨q2,0,aB⟩) s.aF.length s.aF.length) (ax ay s.aH) (ax ay s.aG);have hl:=qA (g:=H+1) hl nl (aw (aC ⟨q1,0,aB⟩) s.aE.length s.aE.length) (aw (aC ⟨q2,0,aB⟩) s.aF.length s.aF.length) (ax ay s.aH) (ax ay s.aG);refine ka hK ?_ (fun W=>(Arr W G 27 [(aw (aC ⟨q1,0,aB⟩) s.aE.length s.aE.length),(aw (aC ⟨q2,0,aB⟩) s.aF.length s.aF.length),(ax ay s.aH),(ax ay s.aG)]/\Arr W H 27 [aw A s.aE.length c,aw B s.aF.length d,(ax ay s.aH),(ax ay s.aG)]/\Arr W (H+1) 27 [(aw (aC ⟨q1,0,aB⟩) s.aE.length s.aE.length),(aw (aC ⟨q2,0,aB⟩) s.aF.length s.aF.length),(ax ay s.aH),(ax ay s.aG)]/\Arr W (H+1+1) 30 [ax ay 0,aw aB 0 0,az ⟨#[]⟩])/\OwSt W w0.heap.size (aw (aC ⟨q1,0,aB⟩) s.aE.length s.aE.length) (aw (aC ⟨q2,0,aB⟩) s.aF.length s.aF.length) (Xo s) (fun b=>b<w0.heap.size\/b=G)/\Below H w W/\W.ownsRow H 9 1 (aw A5 (uni (rts s)).length c5) (uni (rts s)).length (strs (uni (rts s)))) (fun W=>True) ?_ ?_ (fun wn2 hHeld hF _=> ?_)
   ·exact⟨sqC4 (bx),sqC4 (bs)⟩
   ·exact⟨⟨bx,bs,br,bc⟩,bo,bb,hl⟩
   ·trivial
   clear bx bs br bc bo bb hl nb1 nb2 nl;obtain⟨⟨bx,bs,br,bc⟩,bo,bb,hl⟩:=hF;clear hK K
   try simp only [sqP]
   refine wQ 5 fun K hK=>?_;obtain⟨f0,f1,f2⟩:=sqF3 bc;obtain⟨y0,y1,y2⟩:=sqC3 bc;go_simp;clear f0 f1 f2 y0 y1 y2;obtain⟨nb1,nb2⟩:=bo.nb bc wo wo;have nl:=zf hl bc wo;have bx:=bx.other3 (g:=H+1+1) wj (ax ay 1) (aw A5 (uni (rts s)).length c5) (az ⟨#[]⟩);have bs:=bs.other3 (g:=H+1+1) wj (ax ay 1) (aw A5 (uni (rts s)).length c5) (az ⟨#[]⟩);have br:=br.other3 (g:=H+1+1) wj (ax ay 1) (aw A5 (uni (rts s)).length c5) (az ⟨#[]⟩);have bc:=bc.all3 (ax ay 1) (aw A5 (uni (rts s)).length c5) (az ⟨#[]⟩);have bo:=bo.set3N (g:=H+1+1) (.inl wj) nb1 nb2 (ax ay 1) (aw A5 (uni (rts s)).length c5) (az ⟨#[]⟩);have bb:=Ya (g:=H+1+1) bb wj (ax ay 1) (aw A5 (uni (rts s)).length c5) (az ⟨#[]⟩);have hl:=kv (g:=H+1+1) hl nl (ax ay 1) (aw A5 (uni (rts s)).length c5) (az ⟨#[]⟩);refine ka hK ?_ (fun W=>(Arr W G 27 [(aw (aC ⟨q1,0,aB⟩) s.aE.length s.aE.length),(aw (aC ⟨q2,0,aB⟩) s.aF.length s.aF.length),(ax ay s.aH),(ax ay s.aG)]/\Arr W H 27 [aw A s.aE.length c,aw B s.aF.length d,(ax ay s.aH),(ax ay s.aG)]/\Arr W (H+1) 27 [(aw (aC ⟨q1,0,aB⟩) s.aE.length s.aE.length),(aw (aC ⟨q2,0,aB⟩) s.aF.length s.aF.length),(ax ay s.aH),(ax ay s.aG)]/\Arr W (H+1+1) 30 [ax ay 1,(aw A5 (uni (rts s)).length c5),az ⟨#[]⟩])/\OwSt W w0.heap.size (aw (aC ⟨q1,0,aB⟩) s.aE.length s.aE.length) (aw (aC ⟨q2,0,aB⟩) s.aF.length s.aF.length) (Xo s) (fun b=>b<w0.heap.size\/b=G)/\Below H w W/\W.ownsRow H 9 1 (aw A5 (uni (rts s)).length c5) (uni (rts s)).length (strs (uni (rts s)))) (fun W=>True) ?_ ?_ (fun wn3 hHeld hF _=> ?_)
   ·exact⟨sqC4 (bx),sqC4 (bs)⟩
   ·exact⟨⟨bx,bs,br,bc⟩,bo,bb,hl⟩
   ·trivial
   clear bx bs br bc bo bb hl nb1 nb2 nl;obtain⟨⟨bx,bs,br,bc⟩,bo,bb,hl⟩:=hF;clear hK K
   refine wM 6 ?_;refine wpAnyH_done wm ?_ _;dsimp only [Exit.then];clear hHeld;go_wp2_with fail;refine bodyPost_ret (qf rfl _ _ (H+1) (H+1+1) _ _ _ _ _ _ _ _ wu br underlying27 rfl wm wu bc underlying30 rfl wm) rfl ?_;exact⟨_,_,_,rfl,(bo.lower (base':=H) wj).mono (fun b hb=> .inl wj),hl,bb⟩
  have hlb:decide (k<s.aE.length)=true:=decide_eq_true hlt;have hk0:=wX k
  have hk1:(k:Int)<(s.aE.length:Int):=wj;have hkl:k<(yO s.aE k).length:=by rw [Q7];exact hlt
  have h5:=ho.setB' (i:=k) (j:=3) (y:= { s.aE[k] with mark:=false }) (u:= .bool false) (Q7 s.aE k).symm hkl wj (fun W cs h=>by
   rw [Jq s.aE k hlt hkl]at h;exact vU _ false W cs h) (kM false)
  obtain⟨⟨v0,c3⟩,f3,ho2,hg2⟩:=h5;have hsu:=Yz s.aE k hlt;have HO2:=sqH (show OwSt (wr.setCell ⟨q1,k*4+3,aB⟩ (.bool false)) w0.heap.size (aw (aC ⟨q1,0,aB⟩) s.aE.length s.aE.length) (aw (aC ⟨q2,0,aB⟩) s.aF.length s.aF.length) { s with aE:=yO s.aE (k+1) } (fun b=>b<w0.heap.size\/b=G) from by rw [<-hsu];exact ho2);have hne:(aw (aC ⟨q1,0,aB⟩) s.aE.length s.aE.length).ownBlock≠aC G:=(ho.nb hX wo wo).1;have hX2:=hX.grown hg2 hne;have hbk2:=hbk.grown hg2 hbk.size (fun b e=>by cases e;exact(ho.b.rwo.blk rfl).1);have HX2:=sqH hX2;have HBK2:=sqH hbk2;have x0:=hX.c0;have HKL:=sqH hlt;clear hsu ho2 hg2 hne ho hX hX2 hbk hbk2 hkl;go_wp2_with fail;go_roundg (s.aE.length - (k+1))
  case measure=>have:=HGK.o;have:=HKL.o;omega
  case rel=>exact⟨k+1,rfl,by go_num,by have:=HKL.o;omega,HX2.o,HO2.o,HBK2.o⟩
structure StpW (W:World) (H base:Nat) (v1 v2:Value) (r k:Nat) (t:StoP) (cc:af) (N:ai):Prop where
 s:Arr W H 27 [v1,v2,ax ay r,ax ay k]
 c:Arr W (H+1) 30 cc
 r:Arr W (H+1+1) 27 [aw aB 0 0,aw aB 0 0,ax ay 0,ax ay 0]
 d:Arr W (H+1+1+1) 30 [ax ay 0,aw aB 0 0,az ⟨#[]⟩]
 o:OwSt W base v1 v2 t (fun b=>N b\/(H<=b/\b<=H+3))
theorem StpW.below {W W':World} {H r k:Nat} {t:StoP} {cc:af} (h:StpW W H base v1 v2 r k t cc N) (hb:Below W.heap.size W W'):StpW W' H base v1 v2 r k t cc N :=
 ⟨h.s.below hb,h.c.below hb,h.r.below hb,h.d.below hb,h.o.below hb⟩
theorem z3f (r:Option Nat):∃z ee:Int,xn r= .tuple #[ax ay z,ax ay ee]/\((r=aB/\ee=5)\/∃i,r=aC i/\z=(i:Int)/\ee=0):=by
 cases r with
 | none=>exact⟨0,5,rfl,.inl ⟨rfl,rfl⟩⟩
 | some i=>exact⟨_,_,rfl,.inr ⟨i,rfl,rfl,rfl⟩⟩
theorem Ja (base q1 q2:Nat) (Ag:ae) (ng:Nat) (s:StoP) (c:ColP) (w:World) (N:ai) (hg:GoodS s) (hp:c.aJ=1) (hat:c.at_= []) (hgl:c.aI.length<=1000)
  (ho:OwSt w base (aw (aC ⟨q1,0,aB⟩) s.aE.length s.aE.length) (aw (aC ⟨q2,0,aB⟩) s.aF.length s.aF.length) s N) (hc:RdC w Ag ng c) :
  Calls Tryz.prog 104 #[stV (aw (aC ⟨q1,0,aB⟩) s.aE.length s.aE.length) (aw (aC ⟨q2,0,aB⟩) s.aF.length s.aF.length) s,coV (aw Ag c.aI.length ng) c] w fun e w' =>
   ∃v3,e= .returned (.tuple #[stV (aw (aC ⟨q1,0,aB⟩) s.aE.length s.aE.length) (aw (aC ⟨q2,0,aB⟩) s.aF.length s.aF.length) s,coV v3 (zS s c).2]) /\
    OwSt w' base (aw (aC ⟨q1,0,aB⟩) s.aE.length s.aE.length) (aw (aC ⟨q2,0,aB⟩) s.aF.length s.aF.length) (zS s c).1 N/\w'.ownsRow w.heap.size 9 1 v3 (zS s c).2.aI.length (strs (zS s c).2.aI)/\w.grownBy w' (aC q1):=by
 have hlb:s.aE.length<=24:=hg.b.len;have HGD:=sqH hg;have HMW:=sqH (ky s c);obtain⟨aJ,aI,at_⟩:=c;simp only at hp hat hgl;subst hp hat
 obtain⟨w0,hw0,hS,hC,hR,hD,hb0⟩:=qo w 27 30 [aw (aC ⟨q1,0,aB⟩) s.aE.length s.aE.length,aw (aC ⟨q2,0,aB⟩) s.aF.length s.aF.length,ax ay s.aH,ax ay s.aG] [ax ay 1,aw Ag aI.length ng,az ⟨#[]⟩] [aw aB 0 0,aw aB 0 0,ax ay 0,ax ay 0] [ax ay 0,aw aB 0 0,az ⟨#[]⟩];have hrg:=hc.rd.below hb0;have hgc:=hc.cap;have hgm:=hc.max;simp only at hrg hgc hgm;have ho0:=(ho.wider (N':=fun b=>N b\/(w.heap.size<=b/\b<=w.heap.size+3)) (fun b hb=>hb.imp id (fun e=>e.1))).below hb0;have hq1:q1<w.heap.size:=(ho.b.rwo.blk rfl).2;have HOO:=sqH ho;obtain⟨H,hH⟩:=wU w.heap.size
 rw [<-hH]at hS hC hR hD ho0 hq1;have x0:=hC.c1;obtain⟨x1,x2,x3,x4⟩:=sqC4 hS;have sw:StpW w0 H base (aw (aC ⟨q1,0,aB⟩) s.aE.length s.aE.length) (aw (aC ⟨q2,0,aB⟩) s.aF.length s.aF.length) s.aH s.aG s [ax ay 1,aw Ag aI.length ng,az ⟨#[]⟩] N:=⟨hS,hC,hR,hD,ho0⟩
 have hgr:w.grownBy w0 (aC q1):=kA hb0;rw [hw0,hH]at x0 x1 x2 x3 x4;clear hg hc hS hC hR hD ho0 hb0 ho;have HH:=sqH hH;cases aI with
 | nil =>
  obtain⟨_,HM⟩:_/\Hid (zS s ⟨1, [], []⟩=(s,⟨2, [], []⟩)):=⟨trivial,Lib.hid rfl⟩
  rw [HM.o];simp only [List.length_nil] at *
  clear x0 x1 x2 x3 x4 hw0 hrg sw hgr;obtain⟨W,hW,_,_,hR,hD,hb⟩:=qo w 27 30 [aw (aC ⟨q1,0,aB⟩) s.aE.length s.aE.length,aw (aC ⟨q2,0,aB⟩) s.aF.length s.aF.length,ax ay s.aH,ax ay s.aG] [ax ay 1,aw Ag 0 ng,az ⟨#[]⟩] [aw (aC ⟨q1,0,aB⟩) s.aE.length s.aE.length,aw (aC ⟨q2,0,aB⟩) s.aF.length s.aF.length,ax ay s.aH,ax ay s.aG] [ax ay 2,aw aB 0 0,az ⟨#[]⟩];go_enter func104,ntmps104
  refine wH ?_;intros;rw [<-hW];refine bodyPost_ret (kF rfl _ _ (w.heap.size+1+1) (w.heap.size+1+1+1) _ _ _ _ _ _ _ _ wu hR underlying27 rfl wm wu hD underlying30 rfl wm) rfl ?_;exact⟨aw aB 0 0,rfl,HOO.o.below hb,World.ownsRow_nil _ _ _ _,kA hb⟩
 | cons d rest =>
  have hln0:((((d::rest).length:Nat):Int)==0)=false:=by rw [beq_eq_false_iff_ne];simp only [List.length_cons];omega
  obtain⟨n1,hn1⟩:=wU ((d::rest).length)
  have hn1p:0<n1:=by rw [hn1];simp
  rw [<-hn1]at hln0 x0 sw hgc hgl hw0 ⊢
  have HRG:=sqH hrg;have HN1:=sqH hn1;clear hrg hn1;go_enter func104,ntmps104
  refine wH ?_;intros;rw [<-hw0];rw [<-hH];clear x0 x1 x2 x3 x4 hw0 hH;have HRB:=sqH (show Rw BlobS w0 (aC ⟨q1,0,aB⟩) s.aE from by
   obtain⟨A9,c9,B9,d9,e1,_,hrd⟩:=sw.o.rows;cases e1;exact hrd.b)
  obtain⟨bq,oq,e1,hbq,hcq⟩:=HRG.o.2 ws;subst e1;have c00:=hcq 0 _ rfl;rw [Nat.add_zero]at c00;have HSB:=sqH (show ∀W,Below w0.heap.size w0 W->W.cell? ⟨H,0,aB⟩=aC (aw (aC ⟨q1,0,aB⟩) s.aE.length s.aE.length)/\W.cell? ⟨H+1,1,aB⟩=aC (aw (aC ⟨bq,oq,aB⟩) n1 ng)/\W.cell? ⟨bq,oq,aB⟩=aC (az ⟨d.toArray⟩) from fun W h=>⟨(sw.s.below h).c0,(sw.c.below h).c1,(h.cell (p:=⟨bq,oq,aB⟩) hbq).trans c00⟩);obtain⟨z,ee,hfn,hway⟩:=z3f (s.aE.findIdx? (fun x=>x.dig==d));obtain⟨HFN,HSZ,HWAY⟩:=sqJ3 hfn (show w.heap.size<=w0.heap.size from hgr.size) hway;have hn63:(n1:Int)<=9223372036854775807:=wj;have hn0:(0:Int)<(n1:Int):=wj;clear hcq c00 hfn hway hbq;refine wp_region_held_drew (S:=(fun w'=>w'.cell? ⟨H,0,aB⟩=aC (aw (aC ⟨q1,0,aB⟩) s.aE.length s.aE.length)/\w'.cell? ⟨H+1,1,aB⟩=aC (aw (aC ⟨bq,oq,aB⟩) n1 ng)/\w'.cell? ⟨bq,oq,aB⟩=aC (az ⟨d.toArray⟩))) wm ?_ (fun hHeld=> ?_)
  ·exact HSB.o _ (Below.refl _ w0).drew
  have hB:=(Below.refl w0.heap.size w0).drew;generalize w0.drew=wn0 at *
  refine wM 0 ?_;refine wM 1 ?_;refine wM 2 ?_;refine wM 3 ?_;refine wM 4 ?_;refine wM 5 ?_;refine wQ 6 fun K hK=>?_;go_simp;refine(ku (aC ⟨q1,0,aB⟩) s.aE.length s.aE d wn0 wj (HRB.o.below hB)).mono ?_;rintro e5 w5 ⟨rfl,hb5⟩;rw [HFN.o];dsimp only;refine ka hK ?_ (Below wn0.heap.size wn0) (fun W=>True) ?_ ?_ (fun wn1 hHeld hst hnew=> ?_)
  ·(exact HSB.o _ (wg hB hb5))
  ·(exact hb5)
  ·(trivial)
  have hB:=wg hB hst;clear hst;clear hK K
  refine wM 7 ?_;refine wM 8 ?_;refine wM 9 ?_;refine wM 10 ?_;refine wM 11 ?_;refine wpAnyH_done wm ?_ _;dsimp only [Exit.then];clear hHeld;have sw:=sw.below hB;have hgr:=zP hgr hB;have hrg:=HRG.o.below hB;have hs5:=hB.size;clear hB HSB;generalize wn1=w5 at *
  have q1c:=sw.c.c1;have g1:decide ((1:Int)<=(n1:Int))=true:=decide_eq_true wj;have g2:(1:Int)<=(ng:Int):=wj;have g3:(ng:Int)<=9223372036854775807:=by have:maxLen=9223372036854775807:=rfl;omega
  have hrl:rest.length=n1 - 1:=by rw [HN1.o];simp
  have hcl:=kO (if ng=1 then aC ⟨bq,oq,aB⟩ else aC ⟨bq,oq+1,aB⟩) (ng - 1) rest w5 wj (by
   have h:=hrg.cut (k:=1) (cap:=ng) ws (by rw [<-HN1.o];exact hgc);exact h)
  rw [hrl]at hcl;have HCL:=sqH hcl;have HRL:=sqH hrl;clear hcl hrl hrg
  refine wH ?_;intros;clear q1c g1 g2 g3;refine HCL.o.mono ?_;rintro e_ w6 ⟨v6,rfl,ho6,hb6⟩;dsimp only;rw [<-HRL.o]at ho6;obtain⟨A6,c6,rfl,_,_⟩:=Rd.of_own' ho6;have sw:=sw.below hb6;have hgr:=zP hgr hb6;have hrow:=zb ho6 (show w.heap.size<=w5.heap.size from Nat.le_trans HSZ.o hs5);rcases HWAY.o with ⟨hf,rfl⟩ | ⟨i,hf,rfl,rfl⟩
  ·have HM:=sqH (show zS s ⟨1,d::rest, []⟩=(s,⟨1,rest, []⟩) from by unfold zS;simp only [hf]);clear hf ho6 hb6;obtain⟨f0,f1,f2,f3⟩:=sqF4 sw.r;obtain⟨y0,y1,y2,y3⟩:=sqC4 sw.r;obtain⟨g0,g1,g2⟩:=sqF3 sw.d;obtain⟨x0,x1,x2⟩:=sqC3 sw.d;obtain⟨s0,s1,s2,s3⟩:=sqC4 sw.s;obtain⟨hF1,hF2,hF3,hF4,hF5⟩:=sqJ5 (qT (h:=H+1+1+1) (u0:= aw (aC ⟨q1,0,aB⟩) s.aE.length s.aE.length) (u1:= aw (aC ⟨q2,0,aB⟩) s.aF.length s.aF.length) (u2:= ax ay s.aH) (u3:= ax ay s.aG) (x0:= ax ay 1) (x1:=(aw A6 rest.length c6)) (x2:= az ⟨#[]⟩) sw.r wj) (qU (g:=H+1+1) (u0:= aw (aC ⟨q1,0,aB⟩) s.aE.length s.aE.length) (u1:= aw (aC ⟨q2,0,aB⟩) s.aF.length s.aF.length) (u2:= ax ay s.aH) (u3:= ax ay s.aG) (x0:= ax ay 1) (x1:=(aw A6 rest.length c6)) (x2:= az ⟨#[]⟩) sw.d wj) (qE (u0:= aw (aC ⟨q1,0,aB⟩) s.aE.length s.aE.length) (u1:= aw (aC ⟨q2,0,aB⟩) s.aF.length s.aF.length) (u2:= ax ay s.aH) (u3:= ax ay s.aG) (x0:= ax ay 1) (x1:=(aw A6 rest.length c6)) (x2:= az ⟨#[]⟩) sw.o (g:=H+1+1) (h:=H+1+1+1) (.inr wj) (.inr wj) (sw.o.nb sw.r wo wo).1 (sw.o.nb sw.r wo wo).2 (sw.o.nb sw.d wo wo).1 (sw.o.nb sw.d wo wo).2) (qQ (g:=H+1+1) (h:=H+1+1+1) (u0:= aw (aC ⟨q1,0,aB⟩) s.aE.length s.aE.length) (u1:= aw (aC ⟨q2,0,aB⟩) s.aF.length s.aF.length) (u2:= ax ay s.aH) (u3:= ax ay s.aG) (x0:= ax ay 1) (x1:=(aw A6 rest.length c6)) (x2:= az ⟨#[]⟩) hrow (zf hrow sw.r wo) (zf hrow sw.d wo)) (xV (g:=H+1+1) (h:=H+1+1+1) (u0:= aw (aC ⟨q1,0,aB⟩) s.aE.length s.aE.length) (u1:= aw (aC ⟨q2,0,aB⟩) s.aF.length s.aF.length) (u2:= ax ay s.aH) (u3:= ax ay s.aG) (x0:= ax ay 1) (x1:=(aw A6 rest.length c6)) (x2:= az ⟨#[]⟩) hgr (by rw [<-HH.o];omega) (by rw [<-HH.o];omega));clear sw hrow hgr
   refine wH ?_;intros;refine bodyPost_ret (kF rfl _ _ (H+1+1) (H+1+1+1) _ _ _ _ _ _ _ _ wu hF1.o underlying27 rfl wm wu hF2.o underlying30 rfl wm) rfl ?_;rw [HM.o];exact⟨_,rfl,hF3.o.mono (fun b hb=> .inl hb),hF4.o,hF5.o⟩
  ·have hi:i<s.aE.length:=(List.findIdx?_eq_some_iff_getElem.1 hf).1;have hd:s.aE[i].dig=d:=by simpa using (List.findIdx?_eq_some_iff_getElem.1 hf).2.1
   have hbl:=(show Rw BlobS w6 (aC ⟨q1,0,aB⟩) s.aE from by
    obtain⟨A9,c9,B9,d9,e1,_,hrd⟩:=sw.o.rows;cases e1;exact hrd.b).blob_at i hi
   obtain⟨bb,off,Bx,cx,e9,hbb,y0,y1,y2,y3,hsl⟩:=hbl;cases e9
   simp only [Nat.zero_add]at y0 y1 y2 y3;have hi0:=wX i
   have hi1:(i:Int)<(s.aE.length:Int):=wj;have q0s:=sw.s.c0;cases hm:s.aE[i].mark with
   | true =>
    have HM:=sqH (show zS s ⟨1,d::rest, []⟩=(s,⟨1,rest, []⟩) from by
     unfold zS;simp only [hf,List.getElem?_eq_getElem hi,hm,if_true])
    rw [hm]at y3;clear hf ho6 hb6 hd hm hsl y0 y1 y2 hbb;obtain⟨f0,f1,f2,f3⟩:=sqF4 sw.r;obtain⟨y0,y1,y2,y3⟩:=sqC4 sw.r;obtain⟨g0,g1,g2⟩:=sqF3 sw.d;obtain⟨x0,x1,x2⟩:=sqC3 sw.d;obtain⟨s0,s1,s2,s3⟩:=sqC4 sw.s;obtain⟨hF1,hF2,hF3,hF4,hF5⟩:=sqJ5 (qT (h:=H+1+1+1) (u0:= aw (aC ⟨q1,0,aB⟩) s.aE.length s.aE.length) (u1:= aw (aC ⟨q2,0,aB⟩) s.aF.length s.aF.length) (u2:= ax ay s.aH) (u3:= ax ay s.aG) (x0:= ax ay 1) (x1:=(aw A6 rest.length c6)) (x2:= az ⟨#[]⟩) sw.r wj) (qU (g:=H+1+1) (u0:= aw (aC ⟨q1,0,aB⟩) s.aE.length s.aE.length) (u1:= aw (aC ⟨q2,0,aB⟩) s.aF.length s.aF.length) (u2:= ax ay s.aH) (u3:= ax ay s.aG) (x0:= ax ay 1) (x1:=(aw A6 rest.length c6)) (x2:= az ⟨#[]⟩) sw.d wj) (qE (u0:= aw (aC ⟨q1,0,aB⟩) s.aE.length s.aE.length) (u1:= aw (aC ⟨q2,0,aB⟩) s.aF.length s.aF.length) (u2:= ax ay s.aH) (u3:= ax ay s.aG) (x0:= ax ay 1) (x1:=(aw A6 rest.length c6)) (x2:= az ⟨#[]⟩) sw.o (g:=H+1+1) (h:=H+1+1+1) (.inr wj) (.inr wj) (sw.o.nb sw.r wo wo).1 (sw.o.nb sw.r wo wo).2 (sw.o.nb sw.d wo wo).1 (sw.o.nb sw.d wo wo).2) (qQ (g:=H+1+1) (h:=H+1+1+1) (u0:= aw (aC ⟨q1,0,aB⟩) s.aE.length s.aE.length) (u1:= aw (aC ⟨q2,0,aB⟩) s.aF.length s.aF.length) (u2:= ax ay s.aH) (u3:= ax ay s.aG) (x0:= ax ay 1) (x1:=(aw A6 rest.length c6)) (x2:= az ⟨#[]⟩) hrow (zf hrow sw.r wo) (zf hrow sw.d wo)) (xV (g:=H+1+1) (h:=H+1+1+1) (u0:= aw (aC ⟨q1,0,aB⟩) s.aE.length s.aE.length) (u1:= aw (aC ⟨q2,0,aB⟩) s.aF.length s.aF.length) (u2:= ax ay s.aH) (u3:= ax ay s.aG) (x0:= ax ay 1) (x1:=(aw A6 rest.length c6)) (x2:= az ⟨#[]⟩) hgr (by rw [<-HH.o];omega) (by rw [<-HH.o];omega));clear sw hrow hgr
    refine wH ?_;intros;refine bodyPost_ret (kF rfl _ _ (H+1+1) (H+1+1+1) _ _ _ _ _ _ _ _ wu hF1.o underlying27 rfl wm wu hF2.o underlying30 rfl wm) rfl ?_;rw [HM.o];exact⟨_,rfl,hF3.o.mono (fun b hb=> .inl hb),hF4.o,hF5.o⟩
   | false =>
    have HM:=sqH (show zS s ⟨1,d::rest, []⟩=({ s with aE:=s.aE.set i { s.aE[i] with mark:=true } },⟨1,uni (rest++(kw s.aE[i].data).1.map (·.dig)), []⟩) from by
     unfold zS;simp only [hf,List.getElem?_eq_getElem hi,hm,Bool.false_eq_true,if_false])
    rw [hm]at y3;obtain⟨_,f3,ho7,hg7⟩:=sw.o.setB (i:=i) (j:=3) (y:= { s.aE[i] with mark:=true }) (u:= .bool true) hi wj (fun W cs h=>vU _ true W cs h) (kM true);have sw7:StpW _ H base (aw (aC ⟨q1,0,aB⟩) s.aE.length s.aE.length) (aw (aC ⟨q2,0,aB⟩) s.aF.length s.aF.length) s.aH s.aG { s with aE:=s.aE.set i { s.aE[i] with mark:=true } } [ax ay 1,aw (aC ⟨bq,oq,aB⟩) n1 ng,az ⟨#[]⟩] N:=⟨sw.s.grown hg7 (fun e=>by injection e with e;omega),sw.c.grown hg7 (fun e=>by injection e with e;omega),sw.r.grown hg7 (fun e=>by injection e with e;omega),sw.d.grown hg7 (fun e=>by injection e with e;omega),ho7⟩
    have hgr7:=hgr.trans hg7;have hrow7:=hrow.kept hg7 (.inr (fun e=>by have:=(ho6.lt q1 e).1;have:=HH.o;have:=HSZ.o;omega));have hbl7:=(show Rw BlobS _ (aC ⟨q1,0,aB⟩) (s.aE.set i { s.aE[i] with mark:=true }) from by
     obtain⟨A9,c9,B9,d9,e1,_,hrd⟩:=ho7.rows;injection e1 with e11 _ _;subst e11;exact hrd.b).blob_at i (by rw [List.length_set];exact hi)
    rw [List.getElem_set_self]at hbl7;generalize s.aE[i]=q at *
    obtain⟨HSW,HGR,HRW,HBL⟩:=sqJ4 sw7 hgr7 hrow7 hbl7;have q0t:=(sw7.s).c0;clear sw sw7 hgr hgr7 hrow hrow7 hbl7 hf ho6 hb6 hd hm hsl y0 y1 y2 hbb ho7 hg7 q0t
    refine wK 88 ?_;intros;clear q0s y3 f3;generalize (w6.setCell ⟨q1,i*4+3,aB⟩ (.bool true))=w7 at *
    obtain⟨bb,off,Bx,cx,e9,hbb,y0,y1,y2,y3,hsl⟩:=HBL.o;cases e9
    simp only [Nat.zero_add]at y0 y1 y2 y3;have q0s:=HSW.o.s.c0;have HPT:=sqH (vR ⟨q.dig.toArray⟩ Bx q.data.length cx q.data (q.aM:Int) true w7 rfl hsl.cap hsl.max hsl.rd);have hk8:=yJ q.data;clear hsl hbb
    refine wH ?_;intros;clear y0 y1 y2 y3 q0s;refine HPT.o.mono ?_;rintro e_ w8 ⟨v8,rfl,ho8,hb8⟩;dsimp only;rw [vC,show(kw q.data).1.length=((kw q.data).1.map (·.dig)).length from(List.length_map _).symm]at ho8;obtain⟨A8,c8,rfl,hc8,hr8⟩:=Rd.of_own' ho8;have sw8:=HSW.o.below hb8;have hgr8:=zP HGR.o hb8;have hrow8:=zc HRW.o hb8;obtain⟨_,_,e10,hc6,hr6⟩:=Rd.of_own' hrow8;injection e10 with e11 _ e13;subst e11 e13;have hAD:=Jw A6 A8 c6 c8 rest ((kw q.data).1.map (·.dig)) w8 hc6 hc8 (wW HRL) (by rw [List.length_map];omega) hr6 hr8;rw [List.length_map]at hAD;have HAD:=sqH hAD;clear hAD ho8 hb8 hrow8 hr6 hr8
    refine wH ?_;intros;refine HAD.o.mono ?_;rintro e_ w9 ⟨v9,N9,rfl,hN9,hNl,ho9,hb9⟩;dsimp only;obtain rfl:=hN9.uni (L:=rest++(kw q.data).1.map (·.dig)) (fun x=>List.mem_append.symm);obtain⟨A9,c9,rfl,_,_⟩:=Rd.of_own' ho9;have hrow:=zb ho9 hgr8.size;have sw:=sw8.below hb9;have hgr:=zP hgr8 hb9;clear sw8 hgr8 ho9 hb9 HSW HGR HRW HBL HAD hN9 hNl;obtain⟨f0,f1,f2,f3⟩:=sqF4 sw.r;obtain⟨y0,y1,y2,y3⟩:=sqC4 sw.r;obtain⟨g0,g1,g2⟩:=sqF3 sw.d;obtain⟨x0,x1,x2⟩:=sqC3 sw.d;obtain⟨s0,s1,s2,s3⟩:=sqC4 sw.s;obtain⟨hF1,hF2,hF3,hF4,hF5⟩:=sqJ5 (qT (h:=H+1+1+1) (u0:= aw (aC ⟨q1,0,aB⟩) s.aE.length s.aE.length) (u1:= aw (aC ⟨q2,0,aB⟩) s.aF.length s.aF.length) (u2:= ax ay s.aH) (u3:= ax ay s.aG) (x0:= ax ay 1) (x1:=(aw A9 (uni (rest++(kw q.data).1.map (·.dig))).length c9)) (x2:= az ⟨#[]⟩) sw.r wj) (qU (g:=H+1+1) (u0:= aw (aC ⟨q1,0,aB⟩) s.aE.length s.aE.length) (u1:= aw (aC ⟨q2,0,aB⟩) s.aF.length s.aF.length) (u2:= ax ay s.aH) (u3:= ax ay s.aG) (x0:= ax ay 1) (x1:=(aw A9 (uni (rest++(kw q.data).1.map (·.dig))).length c9)) (x2:= az ⟨#[]⟩) sw.d wj) (qE (u0:= aw (aC ⟨q1,0,aB⟩) s.aE.length s.aE.length) (u1:= aw (aC ⟨q2,0,aB⟩) s.aF.length s.aF.length) (u2:= ax ay s.aH) (u3:= ax ay s.aG) (x0:= ax ay 1) (x1:=(aw A9 (uni (rest++(kw q.data).1.map (·.dig))).length c9)) (x2:= az ⟨#[]⟩) sw.o (g:=H+1+1) (h:=H+1+1+1) (.inr wj) (.inr wj) (sw.o.nb sw.r wo wo).1 (sw.o.nb sw.r wo wo).2 (sw.o.nb sw.d wo wo).1 (sw.o.nb sw.d wo wo).2) (qQ (g:=H+1+1) (h:=H+1+1+1) (u0:= aw (aC ⟨q1,0,aB⟩) s.aE.length s.aE.length) (u1:= aw (aC ⟨q2,0,aB⟩) s.aF.length s.aF.length) (u2:= ax ay s.aH) (u3:= ax ay s.aG) (x0:= ax ay 1) (x1:=(aw A9 (uni (rest++(kw q.data).1.map (·.dig))).length c9)) (x2:= az ⟨#[]⟩) hrow (zf hrow sw.r wo) (zf hrow sw.d wo)) (xV (g:=H+1+1) (h:=H+1+1+1) (u0:= aw (aC ⟨q1,0,aB⟩) s.aE.length s.aE.length) (u1:= aw (aC ⟨q2,0,aB⟩) s.aF.length s.aF.length) (u2:= ax ay s.aH) (u3:= ax ay s.aG) (x0:= ax ay 1) (x1:=(aw A9 (uni (rest++(kw q.data).1.map (·.dig))).length c9)) (x2:= az ⟨#[]⟩) hgr (by rw [<-HH.o];omega) (by rw [<-HH.o];omega));clear sw hrow hgr
    refine wH ?_;intros;refine bodyPost_ret (kF rfl _ _ (H+1+1) (H+1+1+1) _ _ _ _ _ _ _ _ wu hF1.o underlying27 rfl wm wu hF2.o underlying30 rfl wm) rfl ?_;rw [HM.o];exact⟨_,rfl,hF3.o.mono (fun b hb=> .inl hb),hF4.o,hF5.o⟩
abbrev qv (g n:Nat):Value:= aw (aC ⟨g,0,aB⟩) n n
abbrev z4:af:= [aw aB 0 0,aw aB 0 0,ax ay 0,ax ay 0]
abbrev z3:af:= [ax ay 0,aw aB 0 0,az ⟨#[]⟩]
abbrev ms (s:StoP) (aI:List ac):StoP×ColP:=zS s ⟨1,aI, []⟩
theorem yF {P Q:Prop} (h:Hid P->Q) (p:P):Q:=h (Lib.hid p)
theorem Um (A:ae) (c:Nat) (B:ae) (d:Nat) (s:StoP) (Ag:ae) (ng:Nat) (cp:ColP) (w:World) (hg:GoodS s) (hr:RdSt w A c B d s) (hp:cp.aJ=1) (hat:cp.at_= []) (hgl:cp.aI.length<=1000) (hc:RdC w Ag ng cp) :
  Calls Tryz.prog 54 #[.agg #[aw A s.aE.length c,aw B s.aF.length d,ax ay s.aH,ax ay s.aG],coV (aw Ag cp.aI.length ng) cp] w fun e w' =>
   ∃v1 v2 v3,e= .returned (.tuple #[stV v1 v2 s,coV v3 (zS s cp).2,ax ay 0])/\OwSt w' w.heap.size v1 v2 (zS s cp).1 (fun b=>b<w.heap.size)/\w'.ownsRow w.heap.size 9 1 v3 (zS s cp).2.aI.length (strs (zS s cp).2.aI)/\Below w.heap.size w w':=by
 obtain⟨aJ,aI,at_⟩:=cp;simp only at hp hat hgl;subst hp hat
 have hlb:s.aE.length<=24:=hg.b.len;have hle:s.aF.length<=10:=hg.e.len;have HGD:=sqH hg;obtain⟨w0,hw0,hS,hC,hR,hD,hb0⟩:=qo w 27 30 [aw A s.aE.length c,aw B s.aF.length d,ax ay s.aH,ax ay s.aG] [ax ay 1,aw Ag aI.length ng,az ⟨#[]⟩] [aw aB 0 0,aw aB 0 0,ax ay 0,ax ay 0] [ax ay 0,aw aB 0 0,az ⟨#[]⟩];have hr0:=hr.below hb0;have hc0:=hc.below hb0;obtain⟨H,hH⟩:=wU w.heap.size
 have HCK:=sqH (zF A c B d s w0 hg hr0);rw [<-hH]at hS hC hR hD hb0 ⊢
 have hHl:H+1+1+1<w0.heap.size:=hD.lt;obtain⟨x0,x1,x2,x3⟩:=sqC4 hS;rw [hw0,hH]at x0 x1 x2 x3;have HPL:=sqH (show ∀b∈s.aE,b.data.length<=1000000 from fun b hb=>by have:=(hg.b.one b hb).2.1;omega);have HQL:=sqH (show ∀x∈s.aF,x.aL.length<=1000000 from fun x hx=>by have:=(zk (hg.e.one x hx).2.1).1;omega);clear hg hr hc;go_enter func54,ntmps54;go_wp2_with fail;rw [<-hw0,<-hH];have HH:=sqH hH;clear hw0 hH x0 x1 x2 x3;refine wV HCK.o fun w1 hb1=>?_;dsimp only;have hr1:=hr0.below hb1;have hc1:=hc0.below hb1;have hS1:=hS.below hb1;have hC1:=hC.below hb1;have hR1:=hR.below hb1;have hD1:=hD.below hb1;have hs1:=hb1.size;have hb01:=hb0.trans (hb1.mono wj);have x0:=hC1.c0;clear hr0 hc0 hS hC hR hD hb0 hb1 HCK
 refine wH ?_;intros;clear x0;obtain⟨HSB,HCP,HST,HRD⟩:=sqJ4 (show ∀W,Below w1.heap.size w1 W->(wD W H (aw A s.aE.length c) (aw B s.aF.length d) (ax ay s.aH) (ax ay s.aG))/\(wC W (H+1) (ax ay 1) (aw Ag aI.length ng) (az ⟨#[]⟩)) from fun W h=>⟨sqC4 (hS1.below h),sqC3 (hC1.below h)⟩) (fun W (h:Below w1.heap.size w1 W)=>qM A c B d s W wj wj HPL.o HQL.o (hr1.below h)) (fun W base q1 q2 N (ho:OwSt W base _ _ s N) (h:Below w1.heap.size w1 W)=>Ja base q1 q2 Ag ng s ⟨1,aI, []⟩ W N HGD.o rfl rfl hgl ho (hc1.below h)) (show ∀W,Below w1.heap.size w1 W->Arr W (H+1+1) 27 [aw aB 0 0,aw aB 0 0,ax ay 0,ax ay 0]/\Arr W (H+1+1+1) 30 [ax ay 0,aw aB 0 0,az ⟨#[]⟩] from fun W h=>⟨hR1.below h,hD1.below h⟩);clear hr1 hc1 hS1 hC1 hR1 hD1;apply yF;intro REST;apply yF;intro Rm1;apply yF;intro Rm2;apply yF;intro Rm3;apply yF;intro Rm4;apply yF;intro Rm5;apply yF;intro Rm6;apply yF;intro Rm7;refine ze [9,10] (S:=(fun w'=>(wD w' H (aw A s.aE.length c) (aw B s.aF.length d) (ax ay s.aH) (ax ay s.aG))/\(wC w' (H+1) (ax ay 1) (aw Ag aI.length ng) (az ⟨#[]⟩)))) wm ?_ (fun hHeld=> ?_)
 ·exact HSB.o _ (((wh w1)).drew)
 have hB:=((wh w1)).drew;generalize w1.drew=wn0 at *
 refine wO 0 ?_;refine wO 2 ?_;refine za (rs:= [1,7,8]) wm ws ?_;refine z8.cons (o:=_) rfl (fun K hK=> ?_) ?_
 ·
  go_simp;refine(HCP.o wn0 hB).mono ?_;rintro e5 w5 ⟨q1,q2,rfl,ho5,hb5⟩;dsimp only;refine zR hK ?_ (fun W=>Below w1.heap.size w1 W/\OwSt W w1.heap.size (qv q1 s.aE.length) (qv q2 s.aF.length) s (fun b=>b<w1.heap.size)) (fun W=>True) ?_ ?_ (fun wn1 hHeld2 hF _=> ?_)
  ·exact HSB.o _ ((wg hB hb5))
  ·exact⟨wg hB hb5,(ho5.lower (base':=w1.heap.size) hB.size).mono (N':=(fun b=>b<w1.heap.size)) (fun b hb=>Nat.lt_of_lt_of_le hb hB.size)⟩
  ·trivial
  clear hB hHeld;have hHeld:=hHeld2;clear hHeld2;obtain⟨hB,ho⟩:=hF;clear hb5 ho5;clear hK K
  try simp only [sqP]
  refine za (rs:= [3,7,8]) wm ws ?_;refine z8.cons (o:=_) rfl (fun K hK=> ?_) ?_
  ·
   go_simp;refine(HST.o wn1 _ q1 q2 _ ho hB).mono ?_;rintro e5 w5 ⟨v3,rfl,ho5,hl5,hg5⟩;obtain⟨A3,c3,rfl, -, -⟩:=Rd.of_own' hl5;have hq1:=(ho.b.rwo.blk rfl).1;dsimp only;refine zR hK ?_ (fun W=>Below w1.heap.size w1 W/\OwSt W w1.heap.size (qv q1 s.aE.length) (qv q2 s.aF.length) (ms s aI).1 (fun b=>b<w1.heap.size)/\W.ownsRow w1.heap.size 9 1 (aw A3 (ms s aI).2.aI.length c3) (ms s aI).2.aI.length (strs (ms s aI).2.aI)) (fun W=>True) ?_ ?_ (fun wn2 hHeld2 hF _=> ?_)
   ·exact HSB.o _ ((hB.grown hg5 hB.size (fun b e=>by cases e;exact hq1)))
   ·exact⟨(hB.grown hg5 hB.size (fun b e=>by cases e;exact hq1)),ho5,(zb hl5 hB.size)⟩
   ·trivial
   clear ho hB hHeld;have hHeld:=hHeld2;clear hHeld2;obtain⟨hB,hm,hl⟩:=hF;clear ho5 hl5 hg5 hq1;clear hK K
   refine wP 4 ?_;refine wP 5 ?_;refine wP 6 ?_;refine za (rs:= [7,8]) wm ws ?_;refine z8.cons (o:=_) rfl (fun K hK=> ?_) ?_
   ·
    have hba:=wi wn2 (aA #[aw aB 0 0,aw aB 0 0,ax ay 0,ax ay 0] 27);have hn:=Arr.new wn2 27 [aw aB 0 0,aw aB 0 0,ax ay 0,ax ay 0];have hnl:w1.heap.size<=wn2.heap.size:=hB.size;obtain⟨g8,hge⟩:=wU wn2.heap.size
    have hN:∀b,b=g8->wn2.heap.size<=b:=fun b h=>by rw [h,hge];exact Nat.le_refl _
    rw [<-hge]at hn hnl;go_simp;rw [<-hge];clear hge;refine zR hK ?_ (fun W=>Below w1.heap.size w1 W/\Arr W g8 27 [aw aB 0 0,aw aB 0 0,ax ay 0,ax ay 0]/\w1.heap.size<=g8/\OwSt W w1.heap.size (qv q1 s.aE.length) (qv q2 s.aF.length) (ms s aI).1 (fun b=>b<w1.heap.size\/b=g8)/\W.ownsRow w1.heap.size 9 1 (aw A3 (ms s aI).2.aI.length c3) (ms s aI).2.aI.length (strs (ms s aI).2.aI)) (fun W=>True) ?_ ?_ (fun wn3 hHeld2 hF _=> ?_)
    ·exact HSB.o _ ((wg hB hba))
    ·exact⟨wg hB hba,hn,hnl,(hm.wider (N':=(fun b=>b<w1.heap.size\/b=g8)) (fun b hb=>hb.elim (fun hb=> .inl hb) (fun hb=> .inr (hN _ hb)))).below hba,zc hl hba⟩
    ·trivial
    clear hl hm hB hHeld;have hHeld:=hHeld2;clear hHeld2;obtain⟨hB,h8,h8l,hm,hl⟩:=hF;clear hba hn hnl hN;clear hK K
    try simp only [sqP]
    have hall:=aD hB (aD h8 (aD h8l (aD hm (aD hl hHeld))));clear hHeld hl hm h8l h8 hB;generalize wn3=wz at hall ⊢
    revert hall;revert wz;revert g8;revert c3;revert A3;revert q2;revert q1;exact Rm2.o
   refine z8.cons (o:=_) rfl (fun K hK=> ?_) ?_
   ·
    have hba:=wi wn2 (aA #[ax ay 0,aw aB 0 0,az ⟨#[]⟩] 30);have hn:=Arr.new wn2 30 [ax ay 0,aw aB 0 0,az ⟨#[]⟩];have hnl:w1.heap.size<=wn2.heap.size:=hB.size;obtain⟨g9,hge⟩:=wU wn2.heap.size
    have hN:∀b,b=g9->wn2.heap.size<=b:=fun b h=>by rw [h,hge];exact Nat.le_refl _
    rw [<-hge]at hn hnl;go_simp;rw [<-hge];clear hge;refine zR hK ?_ (fun W=>Below w1.heap.size w1 W/\Arr W g9 30 [ax ay 0,aw aB 0 0,az ⟨#[]⟩]/\w1.heap.size<=g9/\OwSt W w1.heap.size (qv q1 s.aE.length) (qv q2 s.aF.length) (ms s aI).1 (fun b=>b<w1.heap.size\/b=g9)/\W.ownsRow w1.heap.size 9 1 (aw A3 (ms s aI).2.aI.length c3) (ms s aI).2.aI.length (strs (ms s aI).2.aI)) (fun W=>True) ?_ ?_ (fun wn4 hHeld2 hF _=> ?_)
    ·exact HSB.o _ ((wg hB hba))
    ·exact⟨wg hB hba,hn,hnl,(hm.wider (N':=(fun b=>b<w1.heap.size\/b=g9)) (fun b hb=>hb.elim (fun hb=> .inl hb) (fun hb=> .inr (hN _ hb)))).below hba,zc hl hba⟩
    ·trivial
    clear hl hm hB hHeld;have hHeld:=hHeld2;clear hHeld2;obtain⟨hB,h9,h9l,hm,hl⟩:=hF;clear hba hn hnl hN;clear hK K
    try simp only [sqP]
    have hall:=aD hB (aD h9 (aD h9l (aD hm (aD hl hHeld))));clear hHeld hl hm h9l h9 hB;generalize wn4=wz at hall ⊢
    revert hall;revert wz;revert g9;revert c3;revert A3;revert q2;revert q1;exact Rm3.o
   exact z8.nil
  refine z8.cons (o:=_) rfl (fun K hK=> ?_) ?_
  ·
   have hba:=wi wn1 (aA #[aw aB 0 0,aw aB 0 0,ax ay 0,ax ay 0] 27);have hn:=Arr.new wn1 27 [aw aB 0 0,aw aB 0 0,ax ay 0,ax ay 0];have hnl:w1.heap.size<=wn1.heap.size:=hB.size;obtain⟨g8,hge⟩:=wU wn1.heap.size
   have hN:∀b,b=g8->wn1.heap.size<=b:=fun b h=>by rw [h,hge];exact Nat.le_refl _
   rw [<-hge]at hn hnl;go_simp;rw [<-hge];clear hge;refine zR hK ?_ (fun W=>Below w1.heap.size w1 W/\Arr W g8 27 [aw aB 0 0,aw aB 0 0,ax ay 0,ax ay 0]/\w1.heap.size<=g8/\OwSt W w1.heap.size (qv q1 s.aE.length) (qv q2 s.aF.length) s (fun b=>b<w1.heap.size\/b=g8)) (fun W=>True) ?_ ?_ (fun wn5 hHeld2 hF _=> ?_)
   ·exact HSB.o _ ((wg hB hba))
   ·exact⟨wg hB hba,hn,hnl,(ho.wider (N':=(fun b=>b<w1.heap.size\/b=g8)) (fun b hb=>hb.elim (fun hb=> .inl hb) (fun hb=> .inr (hN _ hb)))).below hba⟩
   ·trivial
   clear ho hB hHeld;have hHeld:=hHeld2;clear hHeld2;obtain⟨hB,h8,h8l,ho⟩:=hF;clear hba hn hnl hN;clear hK K
   try simp only [sqP]
   have hall:=aD hB (aD h8 (aD h8l (aD ho hHeld)));clear hHeld ho h8l h8 hB;generalize wn5=wz at hall ⊢
   revert hall;revert wz;revert g8;revert q2;revert q1;exact Rm5.o
  refine z8.cons (o:=_) rfl (fun K hK=> ?_) ?_
  ·
   have hba:=wi wn1 (aA #[ax ay 0,aw aB 0 0,az ⟨#[]⟩] 30);have hn:=Arr.new wn1 30 [ax ay 0,aw aB 0 0,az ⟨#[]⟩];have hnl:w1.heap.size<=wn1.heap.size:=hB.size;obtain⟨g9,hge⟩:=wU wn1.heap.size
   have hN:∀b,b=g9->wn1.heap.size<=b:=fun b h=>by rw [h,hge];exact Nat.le_refl _
   rw [<-hge]at hn hnl;go_simp;rw [<-hge];clear hge;refine zR hK ?_ (fun W=>Below w1.heap.size w1 W/\Arr W g9 30 [ax ay 0,aw aB 0 0,az ⟨#[]⟩]/\w1.heap.size<=g9/\OwSt W w1.heap.size (qv q1 s.aE.length) (qv q2 s.aF.length) s (fun b=>b<w1.heap.size\/b=g9)) (fun W=>True) ?_ ?_ (fun wn6 hHeld2 hF _=> ?_)
   ·exact HSB.o _ ((wg hB hba))
   ·exact⟨wg hB hba,hn,hnl,(ho.wider (N':=(fun b=>b<w1.heap.size\/b=g9)) (fun b hb=>hb.elim (fun hb=> .inl hb) (fun hb=> .inr (hN _ hb)))).below hba⟩
   ·trivial
   clear ho hB hHeld;have hHeld:=hHeld2;clear hHeld2;obtain⟨hB,h9,h9l,ho⟩:=hF;clear hba hn hnl hN;clear hK K
   try simp only [sqP]
   have hall:=aD hB (aD h9 (aD h9l (aD ho hHeld)));clear hHeld ho h9l h9 hB;generalize wn6=wz at hall ⊢
   revert hall;revert wz;revert g9;revert q2;revert q1;exact Rm6.o
  exact z8.nil
 refine z8.cons (o:=_) rfl (fun K hK=> ?_) ?_
 ·
  have hba:=wi wn0 (aA #[aw aB 0 0,aw aB 0 0,ax ay 0,ax ay 0] 27);have hn:=Arr.new wn0 27 [aw aB 0 0,aw aB 0 0,ax ay 0,ax ay 0];have hnl:w1.heap.size<=wn0.heap.size:=hB.size;obtain⟨g8,hge⟩:=wU wn0.heap.size
  have hN:∀b,b=g8->wn0.heap.size<=b:=fun b h=>by rw [h,hge];exact Nat.le_refl _
  rw [<-hge]at hn hnl;go_simp;rw [<-hge];clear hge;refine zR hK ?_ (fun W=>Below w1.heap.size w1 W/\Arr W g8 27 [aw aB 0 0,aw aB 0 0,ax ay 0,ax ay 0]/\w1.heap.size<=g8) (fun W=>True) ?_ ?_ (fun wn7 hHeld2 hF _=> ?_)
  ·exact HSB.o _ ((wg hB hba))
  ·exact⟨wg hB hba,hn,hnl⟩
  ·trivial
  clear hB hHeld;have hHeld:=hHeld2;clear hHeld2;obtain⟨hB,h8,h8l⟩:=hF;clear hba hn hnl hN;clear hK K
  try simp only [sqP]
  refine za (rs:= [1,8]) wm ws ?_;refine z8.cons (o:=_) rfl (fun K hK=> ?_) ?_
  ·
   go_simp;refine(HCP.o wn7 hB).mono ?_;rintro e5 w5 ⟨q1,q2,rfl,ho5,hb5⟩;dsimp only;refine zR hK ?_ (fun W=>Below w1.heap.size w1 W/\Arr W g8 27 [aw aB 0 0,aw aB 0 0,ax ay 0,ax ay 0]/\w1.heap.size<=g8/\OwSt W w1.heap.size (qv q1 s.aE.length) (qv q2 s.aF.length) s (fun b=>b<w1.heap.size\/b=g8)) (fun W=>True) ?_ ?_ (fun wn8 hHeld2 hF _=> ?_)
   ·exact HSB.o _ ((wg hB hb5))
   ·exact⟨wg hB hb5,h8.below hb5,h8l,(ho5.lower (base':=w1.heap.size) hB.size).mono (N':=(fun b=>b<w1.heap.size\/b=g8)) (fun b hb=>hb.elim (fun hb=>Nat.lt_of_lt_of_le hb hB.size) (fun hb=>(by rw [hb];exact h8.lt)))⟩
   ·trivial
   clear h8l h8 hB hHeld;have hHeld:=hHeld2;clear hHeld2;obtain⟨hB,h8,h8l,ho⟩:=hF;clear hb5 ho5;clear hK K
   try simp only [sqP]
   have hall:=aD hB (aD h8 (aD h8l (aD ho hHeld)));clear hHeld ho h8l h8 hB;generalize wn8=wz at hall ⊢
   revert hall;revert wz;revert g8;revert q2;revert q1;exact Rm5.o
  refine z8.cons (o:=_) rfl (fun K hK=> ?_) ?_
  ·
   have hba:=wi wn7 (aA #[ax ay 0,aw aB 0 0,az ⟨#[]⟩] 30);have hn:=Arr.new wn7 30 [ax ay 0,aw aB 0 0,az ⟨#[]⟩];have hnl:w1.heap.size<=wn7.heap.size:=hB.size;obtain⟨g9,hge⟩:=wU wn7.heap.size
   have hN:∀b,b=g9->wn7.heap.size<=b:=fun b h=>by rw [h,hge];exact Nat.le_refl _
   rw [<-hge]at hn hnl;go_simp;rw [<-hge];clear hge;refine zR hK ?_ (fun W=>Below w1.heap.size w1 W/\Arr W g8 27 [aw aB 0 0,aw aB 0 0,ax ay 0,ax ay 0]/\w1.heap.size<=g8/\Arr W g9 30 [ax ay 0,aw aB 0 0,az ⟨#[]⟩]/\w1.heap.size<=g9/\g8≠g9) (fun W=>True) ?_ ?_ (fun wn9 hHeld2 hF _=> ?_)
   ·exact HSB.o _ ((wg hB hba))
   ·exact⟨wg hB hba,h8.below hba,h8l,hn,hnl,(fun e=>Nat.lt_irrefl _ (by have h1:=h8.lt;rw [e]at h1;exact Nat.lt_of_lt_of_le h1 (hN _ rfl)))⟩
   ·trivial
   clear h8l h8 hB hHeld;have hHeld:=hHeld2;clear hHeld2;obtain⟨hB,h8,h8l,h9,h9l,h89n⟩:=hF;clear hba hn hnl hN;clear hK K
   try simp only [sqP]
   have hall:=aD hB (aD h8 (aD h8l (aD h9 (aD h9l (aD h89n hHeld)))));clear hHeld h89n h9l h9 h8l h8 hB;generalize wn9=wz at hall ⊢
   revert hall;revert wz;revert g9;revert g8;exact Rm7.o
  exact z8.nil
 refine z8.cons (o:=_) rfl (fun K hK=> ?_) ?_
 ·
  have hba:=wi wn0 (aA #[ax ay 0,aw aB 0 0,az ⟨#[]⟩] 30);have hn:=Arr.new wn0 30 [ax ay 0,aw aB 0 0,az ⟨#[]⟩];have hnl:w1.heap.size<=wn0.heap.size:=hB.size;obtain⟨g9,hge⟩:=wU wn0.heap.size
  have hN:∀b,b=g9->wn0.heap.size<=b:=fun b h=>by rw [h,hge];exact Nat.le_refl _
  rw [<-hge]at hn hnl;go_simp;rw [<-hge];clear hge;refine zR hK ?_ (fun W=>Below w1.heap.size w1 W/\Arr W g9 30 [ax ay 0,aw aB 0 0,az ⟨#[]⟩]/\w1.heap.size<=g9) (fun W=>True) ?_ ?_ (fun wn10 hHeld2 hF _=> ?_)
  ·exact HSB.o _ ((wg hB hba))
  ·exact⟨wg hB hba,hn,hnl⟩
  ·trivial
  clear hB hHeld;have hHeld:=hHeld2;clear hHeld2;obtain⟨hB,h9,h9l⟩:=hF;clear hba hn hnl hN;clear hK K
  try simp only [sqP]
  refine za (rs:= [1,7]) wm ws ?_;refine z8.cons (o:=_) rfl (fun K hK=> ?_) ?_
  ·
   go_simp;refine(HCP.o wn10 hB).mono ?_;rintro e5 w5 ⟨q1,q2,rfl,ho5,hb5⟩;dsimp only;refine zR hK ?_ (fun W=>Below w1.heap.size w1 W/\Arr W g9 30 [ax ay 0,aw aB 0 0,az ⟨#[]⟩]/\w1.heap.size<=g9/\OwSt W w1.heap.size (qv q1 s.aE.length) (qv q2 s.aF.length) s (fun b=>b<w1.heap.size\/b=g9)) (fun W=>True) ?_ ?_ (fun wn11 hHeld2 hF _=> ?_)
   ·exact HSB.o _ ((wg hB hb5))
   ·exact⟨wg hB hb5,h9.below hb5,h9l,(ho5.lower (base':=w1.heap.size) hB.size).mono (N':=(fun b=>b<w1.heap.size\/b=g9)) (fun b hb=>hb.elim (fun hb=>Nat.lt_of_lt_of_le hb hB.size) (fun hb=>(by rw [hb];exact h9.lt)))⟩
   ·trivial
   clear h9l h9 hB hHeld;have hHeld:=hHeld2;clear hHeld2;obtain⟨hB,h9,h9l,ho⟩:=hF;clear hb5 ho5;clear hK K
   try simp only [sqP]
   have hall:=aD hB (aD h9 (aD h9l (aD ho hHeld)));clear hHeld ho h9l h9 hB;generalize wn11=wz at hall ⊢
   revert hall;revert wz;revert g9;revert q2;revert q1;exact Rm6.o
  refine z8.cons (o:=_) rfl (fun K hK=> ?_) ?_
  ·
   have hba:=wi wn10 (aA #[aw aB 0 0,aw aB 0 0,ax ay 0,ax ay 0] 27);have hn:=Arr.new wn10 27 [aw aB 0 0,aw aB 0 0,ax ay 0,ax ay 0];have hnl:w1.heap.size<=wn10.heap.size:=hB.size;obtain⟨g8,hge⟩:=wU wn10.heap.size
   have hN:∀b,b=g8->wn10.heap.size<=b:=fun b h=>by rw [h,hge];exact Nat.le_refl _
   rw [<-hge]at hn hnl;go_simp;rw [<-hge];clear hge;refine zR hK ?_ (fun W=>Below w1.heap.size w1 W/\Arr W g8 27 [aw aB 0 0,aw aB 0 0,ax ay 0,ax ay 0]/\w1.heap.size<=g8/\Arr W g9 30 [ax ay 0,aw aB 0 0,az ⟨#[]⟩]/\w1.heap.size<=g9/\g8≠g9) (fun W=>True) ?_ ?_ (fun wn12 hHeld2 hF _=> ?_)
   ·exact HSB.o _ ((wg hB hba))
   ·exact⟨wg hB hba,hn,hnl,h9.below hba,h9l,(fun e=>Nat.lt_irrefl _ (by have h1:=h9.lt;rw [<-e]at h1;exact Nat.lt_of_lt_of_le h1 (hN _ rfl)))⟩
   ·trivial
   clear h9l h9 hB hHeld;have hHeld:=hHeld2;clear hHeld2;obtain⟨hB,h8,h8l,h9,h9l,h89n⟩:=hF;clear hba hn hnl hN;clear hK K
   try simp only [sqP]
   have hall:=aD hB (aD h8 (aD h8l (aD h9 (aD h9l (aD h89n hHeld)))));clear hHeld h89n h9l h9 h8l h8 hB;generalize wn12=wz at hall ⊢
   revert hall;revert wz;revert g9;revert g8;exact Rm7.o
  exact z8.nil
 exact z8.nil;intro g8 g9 wRm7 hall;obtain⟨hB,h8,h8l,h9,h9l,h89n,hHeld⟩:=hall;refine za (rs:= [1]) wm ws ?_;refine z8.cons (o:=_) rfl (fun K hK=> ?_) ?_
 ·
  go_simp;refine(HCP.o wRm7 hB).mono ?_;rintro e5 w5 ⟨q1,q2,rfl,ho5,hb5⟩;dsimp only;refine zR hK ?_ (fun W=>Below w1.heap.size w1 W/\Arr W g8 27 [aw aB 0 0,aw aB 0 0,ax ay 0,ax ay 0]/\w1.heap.size<=g8/\Arr W g9 30 [ax ay 0,aw aB 0 0,az ⟨#[]⟩]/\w1.heap.size<=g9/\g8≠g9/\OwSt W w1.heap.size (qv q1 s.aE.length) (qv q2 s.aF.length) s (fun b=>b<w1.heap.size\/b=g8\/b=g9)) (fun W=>True) ?_ ?_ (fun wn13 hHeld2 hF _=> ?_)
  ·exact HSB.o _ ((wg hB hb5))
  ·exact⟨wg hB hb5,h8.below hb5,h8l,h9.below hb5,h9l,h89n,(ho5.lower (base':=w1.heap.size) hB.size).mono (N':=(fun b=>b<w1.heap.size\/b=g8\/b=g9)) (fun b hb=>hb.elim (fun hb=>Nat.lt_of_lt_of_le hb hB.size) (fun hb=>hb.elim (fun hb=>by rw [hb];exact h8.lt) (fun hb=>(by rw [hb];exact h9.lt))))⟩
  ·trivial
  clear h89n h9l h9 h8l h8 hB hHeld;have hHeld:=hHeld2;clear hHeld2;obtain⟨hB,h8,h8l,h9,h9l,h89n,ho⟩:=hF;clear hb5 ho5;clear hK K
  try simp only [sqP]
  have hall:=aD hB (aD h8 (aD h8l (aD h9 (aD h9l (aD h89n (aD ho hHeld))))));clear hHeld ho h89n h9l h9 h8l h8 hB;generalize wn13=wz at hall ⊢
  revert hall;revert wz;revert g9;revert g8;revert q2;revert q1;exact Rm4.o
 exact z8.nil;intro q1 q2 g9 wRm6 hall;obtain⟨hB,h9,h9l,ho,hHeld⟩:=hall;refine za (rs:= [3,7]) wm ws ?_;refine z8.cons (o:=_) rfl (fun K hK=> ?_) ?_
 ·
  go_simp;refine(HST.o wRm6 _ q1 q2 _ ho hB).mono ?_;rintro e5 w5 ⟨v3,rfl,ho5,hl5,hg5⟩;obtain⟨A3,c3,rfl, -, -⟩:=Rd.of_own' hl5;have hq1:=(ho.b.rwo.blk rfl).1;dsimp only;refine zR hK ?_ (fun W=>Below w1.heap.size w1 W/\Arr W g9 30 [ax ay 0,aw aB 0 0,az ⟨#[]⟩]/\w1.heap.size<=g9/\OwSt W w1.heap.size (qv q1 s.aE.length) (qv q2 s.aF.length) (ms s aI).1 (fun b=>b<w1.heap.size\/b=g9)/\W.ownsRow w1.heap.size 9 1 (aw A3 (ms s aI).2.aI.length c3) (ms s aI).2.aI.length (strs (ms s aI).2.aI)) (fun W=>True) ?_ ?_ (fun wn14 hHeld2 hF _=> ?_)
  ·exact HSB.o _ ((hB.grown hg5 hB.size (fun b e=>by cases e;exact hq1)))
  ·exact⟨(hB.grown hg5 hB.size (fun b e=>by cases e;exact hq1)),(h9.grown hg5 (fun e=>(ho.nb h9 wo wo).1 (by simpa [Value.ownBlock] using e))),h9l,ho5,(zb hl5 hB.size)⟩
  ·trivial
  clear ho h9l h9 hB hHeld;have hHeld:=hHeld2;clear hHeld2;obtain⟨hB,h9,h9l,hm,hl⟩:=hF;clear ho5 hl5 hg5 hq1;clear hK K
  refine wP 4 ?_;refine wP 5 ?_;refine wP 6 ?_;have hall:=aD hB (aD h9 (aD h9l (aD hm (aD hl hHeld))));clear hHeld hl hm h9l h9 hB;generalize wn14=wz at hall ⊢
  revert hall;revert wz;revert g9;revert c3;revert A3;revert q2;revert q1;exact Rm3.o
 refine z8.cons (o:=_) rfl (fun K hK=> ?_) ?_
 ·
  have hba:=wi wRm6 (aA #[aw aB 0 0,aw aB 0 0,ax ay 0,ax ay 0] 27);have hn:=Arr.new wRm6 27 [aw aB 0 0,aw aB 0 0,ax ay 0,ax ay 0];have hnl:w1.heap.size<=wRm6.heap.size:=hB.size;obtain⟨g8,hge⟩:=wU wRm6.heap.size
  have hN:∀b,b=g8->wRm6.heap.size<=b:=fun b h=>by rw [h,hge];exact Nat.le_refl _
  rw [<-hge]at hn hnl;go_simp;rw [<-hge];clear hge;refine zR hK ?_ (fun W=>Below w1.heap.size w1 W/\Arr W g8 27 [aw aB 0 0,aw aB 0 0,ax ay 0,ax ay 0]/\w1.heap.size<=g8/\Arr W g9 30 [ax ay 0,aw aB 0 0,az ⟨#[]⟩]/\w1.heap.size<=g9/\g8≠g9/\OwSt W w1.heap.size (qv q1 s.aE.length) (qv q2 s.aF.length) s (fun b=>b<w1.heap.size\/b=g8\/b=g9)) (fun W=>True) ?_ ?_ (fun wn15 hHeld2 hF _=> ?_)
  ·exact HSB.o _ ((wg hB hba))
  ·exact⟨wg hB hba,hn,hnl,h9.below hba,h9l,(fun e=>Nat.lt_irrefl _ (by have h1:=h9.lt;rw [<-e]at h1;exact Nat.lt_of_lt_of_le h1 (hN _ rfl))),(ho.wider (N':=(fun b=>b<w1.heap.size\/b=g8\/b=g9)) (fun b hb=>hb.elim (fun hb=> .inl (.inl hb)) (fun hb=>hb.elim (fun hb=> .inr (hN _ hb)) (fun hb=> .inl (.inr hb))))).below hba⟩
  ·trivial
  clear ho h9l h9 hB hHeld;have hHeld:=hHeld2;clear hHeld2;obtain⟨hB,h8,h8l,h9,h9l,h89n,ho⟩:=hF;clear hba hn hnl hN;clear hK K
  try simp only [sqP]
  have hall:=aD hB (aD h8 (aD h8l (aD h9 (aD h9l (aD h89n (aD ho hHeld))))));clear hHeld ho h89n h9l h9 h8l h8 hB;generalize wn15=wz at hall ⊢
  revert hall;revert wz;revert g9;revert g8;revert q2;revert q1;exact Rm4.o
 exact z8.nil;intro q1 q2 g8 wRm5 hall;obtain⟨hB,h8,h8l,ho,hHeld⟩:=hall;refine za (rs:= [3,8]) wm ws ?_;refine z8.cons (o:=_) rfl (fun K hK=> ?_) ?_
 ·
  go_simp;refine(HST.o wRm5 _ q1 q2 _ ho hB).mono ?_;rintro e5 w5 ⟨v3,rfl,ho5,hl5,hg5⟩;obtain⟨A3,c3,rfl, -, -⟩:=Rd.of_own' hl5;have hq1:=(ho.b.rwo.blk rfl).1;dsimp only;refine zR hK ?_ (fun W=>Below w1.heap.size w1 W/\Arr W g8 27 [aw aB 0 0,aw aB 0 0,ax ay 0,ax ay 0]/\w1.heap.size<=g8/\OwSt W w1.heap.size (qv q1 s.aE.length) (qv q2 s.aF.length) (ms s aI).1 (fun b=>b<w1.heap.size\/b=g8)/\W.ownsRow w1.heap.size 9 1 (aw A3 (ms s aI).2.aI.length c3) (ms s aI).2.aI.length (strs (ms s aI).2.aI)) (fun W=>True) ?_ ?_ (fun wn16 hHeld2 hF _=> ?_)
  ·exact HSB.o _ ((hB.grown hg5 hB.size (fun b e=>by cases e;exact hq1)))
  ·exact⟨(hB.grown hg5 hB.size (fun b e=>by cases e;exact hq1)),(h8.grown hg5 (fun e=>(ho.nb h8 wo wo).1 (by simpa [Value.ownBlock] using e))),h8l,ho5,(zb hl5 hB.size)⟩
  ·trivial
  clear ho h8l h8 hB hHeld;have hHeld:=hHeld2;clear hHeld2;obtain⟨hB,h8,h8l,hm,hl⟩:=hF;clear ho5 hl5 hg5 hq1;clear hK K
  refine wP 4 ?_;refine wP 5 ?_;refine wP 6 ?_;have hall:=aD hB (aD h8 (aD h8l (aD hm (aD hl hHeld))));clear hHeld hl hm h8l h8 hB;generalize wn16=wz at hall ⊢
  revert hall;revert wz;revert g8;revert c3;revert A3;revert q2;revert q1;exact Rm2.o
 refine z8.cons (o:=_) rfl (fun K hK=> ?_) ?_
 ·
  have hba:=wi wRm5 (aA #[ax ay 0,aw aB 0 0,az ⟨#[]⟩] 30);have hn:=Arr.new wRm5 30 [ax ay 0,aw aB 0 0,az ⟨#[]⟩];have hnl:w1.heap.size<=wRm5.heap.size:=hB.size;obtain⟨g9,hge⟩:=wU wRm5.heap.size
  have hN:∀b,b=g9->wRm5.heap.size<=b:=fun b h=>by rw [h,hge];exact Nat.le_refl _
  rw [<-hge]at hn hnl;go_simp;rw [<-hge];clear hge;refine zR hK ?_ (fun W=>Below w1.heap.size w1 W/\Arr W g8 27 [aw aB 0 0,aw aB 0 0,ax ay 0,ax ay 0]/\w1.heap.size<=g8/\Arr W g9 30 [ax ay 0,aw aB 0 0,az ⟨#[]⟩]/\w1.heap.size<=g9/\g8≠g9/\OwSt W w1.heap.size (qv q1 s.aE.length) (qv q2 s.aF.length) s (fun b=>b<w1.heap.size\/b=g8\/b=g9)) (fun W=>True) ?_ ?_ (fun wn17 hHeld2 hF _=> ?_)
  ·exact HSB.o _ ((wg hB hba))
  ·exact⟨wg hB hba,h8.below hba,h8l,hn,hnl,(fun e=>Nat.lt_irrefl _ (by have h1:=h8.lt;rw [e]at h1;exact Nat.lt_of_lt_of_le h1 (hN _ rfl))),(ho.wider (N':=(fun b=>b<w1.heap.size\/b=g8\/b=g9)) (fun b hb=>hb.elim (fun hb=> .inl (.inl hb)) (fun hb=>hb.elim (fun hb=> .inl (.inr hb)) (fun hb=> .inr (hN _ hb))))).below hba⟩
  ·trivial
  clear ho h8l h8 hB hHeld;have hHeld:=hHeld2;clear hHeld2;obtain⟨hB,h8,h8l,h9,h9l,h89n,ho⟩:=hF;clear hba hn hnl hN;clear hK K
  try simp only [sqP]
  have hall:=aD hB (aD h8 (aD h8l (aD h9 (aD h9l (aD h89n (aD ho hHeld))))));clear hHeld ho h89n h9l h9 h8l h8 hB;generalize wn17=wz at hall ⊢
  revert hall;revert wz;revert g9;revert g8;revert q2;revert q1;exact Rm4.o
 exact z8.nil;intro q1 q2 g8 g9 wRm4 hall;obtain⟨hB,h8,h8l,h9,h9l,h89n,ho,hHeld⟩:=hall;refine za (rs:= [3]) wm ws ?_;refine z8.cons (o:=_) rfl (fun K hK=> ?_) ?_
 ·
  go_simp;refine(HST.o wRm4 _ q1 q2 _ ho hB).mono ?_;rintro e5 w5 ⟨v3,rfl,ho5,hl5,hg5⟩;obtain⟨A3,c3,rfl, -, -⟩:=Rd.of_own' hl5;have hq1:=(ho.b.rwo.blk rfl).1;dsimp only;refine zR hK ?_ (fun W=>Below w1.heap.size w1 W/\Arr W g8 27 [aw aB 0 0,aw aB 0 0,ax ay 0,ax ay 0]/\w1.heap.size<=g8/\Arr W g9 30 [ax ay 0,aw aB 0 0,az ⟨#[]⟩]/\w1.heap.size<=g9/\g8≠g9/\OwSt W w1.heap.size (qv q1 s.aE.length) (qv q2 s.aF.length) (ms s aI).1 (fun b=>b<w1.heap.size\/b=g8\/b=g9)/\W.ownsRow w1.heap.size 9 1 (aw A3 (ms s aI).2.aI.length c3) (ms s aI).2.aI.length (strs (ms s aI).2.aI)) (fun W=>True) ?_ ?_ (fun wn18 hHeld2 hF _=> ?_)
  ·exact HSB.o _ ((hB.grown hg5 hB.size (fun b e=>by cases e;exact hq1)))
  ·exact⟨(hB.grown hg5 hB.size (fun b e=>by cases e;exact hq1)),(h8.grown hg5 (fun e=>(ho.nb h8 wo wo).1 (by simpa [Value.ownBlock] using e))),h8l,(h9.grown hg5 (fun e=>(ho.nb h9 wo wo).1 (by simpa [Value.ownBlock] using e))),h9l,h89n,ho5,(zb hl5 hB.size)⟩
  ·trivial
  clear ho h89n h9l h9 h8l h8 hB hHeld;have hHeld:=hHeld2;clear hHeld2;obtain⟨hB,h8,h8l,h9,h9l,h89n,hm,hl⟩:=hF;clear ho5 hl5 hg5 hq1;clear hK K
  refine wP 4 ?_;refine wP 5 ?_;refine wP 6 ?_;have hall:=aD hB (aD h8 (aD h8l (aD h9 (aD h9l (aD h89n (aD hm (aD hl hHeld)))))));clear hHeld hl hm h89n h9l h9 h8l h8 hB;generalize wn18=wz at hall ⊢
  revert hall;revert wz;revert g9;revert g8;revert c3;revert A3;revert q2;revert q1;exact Rm1.o
 exact z8.nil;intro q1 q2 A3 c3 g9 wRm3 hall;obtain⟨hB,h9,h9l,hm,hl,hHeld⟩:=hall;refine za (rs:= [7]) wm ws ?_;refine z8.cons (o:=_) rfl (fun K hK=> ?_) ?_
 ·
  have hba:=wi wRm3 (aA #[aw aB 0 0,aw aB 0 0,ax ay 0,ax ay 0] 27);have hn:=Arr.new wRm3 27 [aw aB 0 0,aw aB 0 0,ax ay 0,ax ay 0];have hnl:w1.heap.size<=wRm3.heap.size:=hB.size;obtain⟨g8,hge⟩:=wU wRm3.heap.size
  have hN:∀b,b=g8->wRm3.heap.size<=b:=fun b h=>by rw [h,hge];exact Nat.le_refl _
  rw [<-hge]at hn hnl;go_simp;rw [<-hge];clear hge;refine zR hK ?_ (fun W=>Below w1.heap.size w1 W/\Arr W g8 27 [aw aB 0 0,aw aB 0 0,ax ay 0,ax ay 0]/\w1.heap.size<=g8/\Arr W g9 30 [ax ay 0,aw aB 0 0,az ⟨#[]⟩]/\w1.heap.size<=g9/\g8≠g9/\OwSt W w1.heap.size (qv q1 s.aE.length) (qv q2 s.aF.length) (ms s aI).1 (fun b=>b<w1.heap.size\/b=g8\/b=g9)/\W.ownsRow w1.heap.size 9 1 (aw A3 (ms s aI).2.aI.length c3) (ms s aI).2.aI.length (strs (ms s aI).2.aI)) (fun W=>True) ?_ ?_ (fun wn19 hHeld2 hF _=> ?_)
  ·exact HSB.o _ ((wg hB hba))
  ·exact⟨wg hB hba,hn,hnl,h9.below hba,h9l,(fun e=>Nat.lt_irrefl _ (by have h1:=h9.lt;rw [<-e]at h1;exact Nat.lt_of_lt_of_le h1 (hN _ rfl))),(hm.wider (N':=(fun b=>b<w1.heap.size\/b=g8\/b=g9)) (fun b hb=>hb.elim (fun hb=> .inl (.inl hb)) (fun hb=>hb.elim (fun hb=> .inr (hN _ hb)) (fun hb=> .inl (.inr hb))))).below hba,zc hl hba⟩
  ·trivial
  clear hl hm h9l h9 hB hHeld;have hHeld:=hHeld2;clear hHeld2;obtain⟨hB,h8,h8l,h9,h9l,h89n,hm,hl⟩:=hF;clear hba hn hnl hN;clear hK K
  try simp only [sqP]
  have hall:=aD hB (aD h8 (aD h8l (aD h9 (aD h9l (aD h89n (aD hm (aD hl hHeld)))))));clear hHeld hl hm h89n h9l h9 h8l h8 hB;generalize wn19=wz at hall ⊢
  revert hall;revert wz;revert g9;revert g8;revert c3;revert A3;revert q2;revert q1;exact Rm1.o
 exact z8.nil;intro q1 q2 A3 c3 g8 wRm2 hall;obtain⟨hB,h8,h8l,hm,hl,hHeld⟩:=hall;refine za (rs:= [8]) wm ws ?_;refine z8.cons (o:=_) rfl (fun K hK=> ?_) ?_
 ·
  have hba:=wi wRm2 (aA #[ax ay 0,aw aB 0 0,az ⟨#[]⟩] 30);have hn:=Arr.new wRm2 30 [ax ay 0,aw aB 0 0,az ⟨#[]⟩];have hnl:w1.heap.size<=wRm2.heap.size:=hB.size;obtain⟨g9,hge⟩:=wU wRm2.heap.size
  have hN:∀b,b=g9->wRm2.heap.size<=b:=fun b h=>by rw [h,hge];exact Nat.le_refl _
  rw [<-hge]at hn hnl;go_simp;rw [<-hge];clear hge;refine zR hK ?_ (fun W=>Below w1.heap.size w1 W/\Arr W g8 27 [aw aB 0 0,aw aB 0 0,ax ay 0,ax ay 0]/\w1.heap.size<=g8/\Arr W g9 30 [ax ay 0,aw aB 0 0,az ⟨#[]⟩]/\w1.heap.size<=g9/\g8≠g9/\OwSt W w1.heap.size (qv q1 s.aE.length) (qv q2 s.aF.length) (ms s aI).1 (fun b=>b<w1.heap.size\/b=g8\/b=g9)/\W.ownsRow w1.heap.size 9 1 (aw A3 (ms s aI).2.aI.length c3) (ms s aI).2.aI.length (strs (ms s aI).2.aI)) (fun W=>True) ?_ ?_ (fun wn20 hHeld2 hF _=> ?_)
  ·exact HSB.o _ ((wg hB hba))
  ·exact⟨wg hB hba,h8.below hba,h8l,hn,hnl,(fun e=>Nat.lt_irrefl _ (by have h1:=h8.lt;rw [e]at h1;exact Nat.lt_of_lt_of_le h1 (hN _ rfl))),(hm.wider (N':=(fun b=>b<w1.heap.size\/b=g8\/b=g9)) (fun b hb=>hb.elim (fun hb=> .inl (.inl hb)) (fun hb=>hb.elim (fun hb=> .inl (.inr hb)) (fun hb=> .inr (hN _ hb))))).below hba,zc hl hba⟩
  ·trivial
  clear hl hm h8l h8 hB hHeld;have hHeld:=hHeld2;clear hHeld2;obtain⟨hB,h8,h8l,h9,h9l,h89n,hm,hl⟩:=hF;clear hba hn hnl hN;clear hK K
  try simp only [sqP]
  have hall:=aD hB (aD h8 (aD h8l (aD h9 (aD h9l (aD h89n (aD hm (aD hl hHeld)))))));clear hHeld hl hm h89n h9l h9 h8l h8 hB;generalize wn20=wz at hall ⊢
  revert hall;revert wz;revert g9;revert g8;revert c3;revert A3;revert q2;revert q1;exact Rm1.o
 exact z8.nil;intro q1 q2 A3 c3 g8 g9 wRm1 hall;obtain⟨hB,h8,h8l,h9,h9l,h89n,hm,hl,hHeld⟩:=hall;refine za (rs:= [9]) wm ws ?_;refine z8.store (o:=_) rfl wu (fun K hK=> ?_) ?_
 ·
  have hqhm:=hm.nb h8 wo wo;have hqhl:=zf hl h8 wo;obtain⟨z0,f0,z1,f1,z2,f2,z3,f3⟩:=wY h8;go_simp;clear z0 f0 z1 f1 z2 f2 z3 f3;refine vt hK (fun W=>Below w1.heap.size w1 W/\Arr W g8 27 [(qv q1 s.aE.length),(qv q2 s.aF.length),ax ay s.aH,ax ay s.aG]/\w1.heap.size<=g8/\Arr W g9 30 [ax ay 0,aw aB 0 0,az ⟨#[]⟩]/\w1.heap.size<=g9/\g8≠g9/\OwSt W w1.heap.size (qv q1 s.aE.length) (qv q2 s.aF.length) (ms s aI).1 (fun b=>b<w1.heap.size\/b=g8\/b=g9)/\W.ownsRow w1.heap.size 9 1 (aw A3 (ms s aI).2.aI.length c3) (ms s aI).2.aI.length (strs (ms s aI).2.aI)) (fun W=>True) ?_ ?_ (fun wn21 hF _=> ?_)
  ·exact⟨((((hB).setCell (p:=⟨g8,0,aB⟩) h8l _).setCell (p:=⟨g8,1,aB⟩) h8l _).setCell (p:=⟨g8,2,aB⟩) h8l _).setCell (p:=⟨g8,3,aB⟩) h8l _,h8.all4 _ _ _ _,h8l,((((h9).other (h89n.symm) _).other (h89n.symm) _).other (h89n.symm) _).other (h89n.symm) _,h9l,h89n,hm.set4N (.inr (.inl rfl)) hqhm.1 hqhm.2 _ _ _ _,qA hl hqhl _ _ _ _⟩
  ·trivial
  clear hl hm h89n h9l h9 h8l h8 hB hHeld;obtain⟨hB,h8,h8l,h9,h9l,h89n,hm,hl⟩:=hF;clear hqhm hqhl;clear hK K
  try simp only [sqP]
  refine wS 10 fun K hK=>?_;have hqhm:=hm.nb h9 wo wo;have hqhl:=zf hl h9 wo;obtain⟨z0,f0,z1,f1,z2,f2⟩:=wZ h9;go_simp;clear z0 f0 z1 f1 z2 f2;refine vt hK (fun W=>Below w1.heap.size w1 W/\Arr W g8 27 [(qv q1 s.aE.length),(qv q2 s.aF.length),ax ay s.aH,ax ay s.aG]/\w1.heap.size<=g8/\Arr W g9 30 [ax ay ((ms s aI).2.aJ:Int),(aw A3 (ms s aI).2.aI.length c3),az ⟨(ms s aI).2.at_.toArray⟩]/\w1.heap.size<=g9/\g8≠g9/\OwSt W w1.heap.size (qv q1 s.aE.length) (qv q2 s.aF.length) (ms s aI).1 (fun b=>b<w1.heap.size\/b=g8\/b=g9)/\W.ownsRow w1.heap.size 9 1 (aw A3 (ms s aI).2.aI.length c3) (ms s aI).2.aI.length (strs (ms s aI).2.aI)) (fun W=>True) ?_ ?_ (fun wn22 hF _=> ?_)
  ·exact⟨(((hB).setCell (p:=⟨g9,0,aB⟩) h9l _).setCell (p:=⟨g9,1,aB⟩) h9l _).setCell (p:=⟨g9,2,aB⟩) h9l _,(((h8).other (h89n) _).other (h89n) _).other (h89n) _,h8l,h9.all3 _ _ _,h9l,h89n,hm.set3N (.inr (.inr rfl)) hqhm.1 hqhm.2 _ _ _,kv hl hqhl _ _ _⟩
  ·trivial
  clear hl hm h89n h9l h9 h8l h8 hB;obtain⟨hB,h8,h8l,h9,h9l,h89n,hm,hl⟩:=hF;clear hqhm hqhl;clear hK K
  try simp only [sqP]
  refine zp wm ?_ _
  try dsimp only [Exit.then]
  have hall:=aD hB (aD h8 (aD h8l (aD h9 (aD h9l (aD h89n (aD hm hl))))));clear hl hm h89n h9l h9 h8l h8 hB;generalize wn22=wz at hall ⊢
  revert hall;revert wz;revert g9;revert g8;revert c3;revert A3;revert q2;revert q1;exact REST.o
 exact z8.nil;intro q1 q2 A3 c3 g8 g9 wz hall;obtain⟨hB,h8,h8l,h9,h9l,h89n,hm,hl⟩:=hall;have ho:=hm.mono (N':=fun b=>b<w1.heap.size) (fun b hb=> .inl hb);have hg8:=h8l;have hg9:=h9l;clear hm h8l h9l h89n;obtain⟨hR,hD⟩:=HRD.o _ hB;obtain⟨f0,f1,f2,f3⟩:=sqF4 hR;obtain⟨y0,y1,y2,y3⟩:=sqC4 hR;obtain⟨e0,e1,e2⟩:=sqF3 hD;obtain⟨x0,x1,x2⟩:=sqC3 hD;obtain⟨s0,s1,s2,s3⟩:=sqC4 h8;obtain⟨t0,t1,t2⟩:=sqC3 h9;have hw1:=hB.size;have n9:¬(g9=H+1+1):=wj;have n8:¬(g8=H+1+1):=wj;have n9':¬(H+1+1=g9):=wj;have n98:g8≠g9:=Jz h8 h9 wo;obtain⟨hF1,hF2,hF3,hF4,hF5⟩:=sqJ5 (qT (h:=H+1+1+1) (u0:=qv q1 s.aE.length) (u1:=qv q2 s.aF.length) (u2:= ax ay s.aH) (u3:= ax ay s.aG) (x0:= ax ay ((ms s aI).2.aJ:Int)) (x1:=(aw A3 (ms s aI).2.aI.length c3)) (x2:= az ⟨(ms s aI).2.at_.toArray⟩) hR wj) (qU (g:=H+1+1) (u0:=qv q1 s.aE.length) (u1:=qv q2 s.aF.length) (u2:= ax ay s.aH) (u3:= ax ay s.aG) (x0:= ax ay ((ms s aI).2.aJ:Int)) (x1:=(aw A3 (ms s aI).2.aI.length c3)) (x2:= az ⟨(ms s aI).2.at_.toArray⟩) hD wj) (qE (u0:=qv q1 s.aE.length) (u1:=qv q2 s.aF.length) (u2:= ax ay s.aH) (u3:= ax ay s.aG) (x0:= ax ay ((ms s aI).2.aJ:Int)) (x1:=(aw A3 (ms s aI).2.aI.length c3)) (x2:= az ⟨(ms s aI).2.at_.toArray⟩) ho (g:=H+1+1) (h:=H+1+1+1) wj wj (ho.nb hR wo wo).1 (ho.nb hR wo wo).2 (ho.nb hD wo wo).1 (ho.nb hD wo wo).2) (qQ (g:=H+1+1) (h:=H+1+1+1) (u0:=qv q1 s.aE.length) (u1:=qv q2 s.aF.length) (u2:= ax ay s.aH) (u3:= ax ay s.aG) (x0:= ax ay ((ms s aI).2.aJ:Int)) (x1:=(aw A3 (ms s aI).2.aI.length c3)) (x2:= az ⟨(ms s aI).2.at_.toArray⟩) hl (zf hl hR wo) (zf hl hD wo)) (zL (g:=H+1+1) (h:=H+1+1+1) (u0:=qv q1 s.aE.length) (u1:=qv q2 s.aF.length) (u2:= ax ay s.aH) (u3:= ax ay s.aG) (x0:= ax ay ((ms s aI).2.aJ:Int)) (x1:=(aw A3 (ms s aI).2.aI.length c3)) (x2:= az ⟨(ms s aI).2.at_.toArray⟩) (hb01.trans (hB.mono (show H<=w1.heap.size by omega))) wj wj);clear hR hD hB ho hl h8 h9 hg8 hg9 HSB HCP HST HRD
 refine wH ?_;intros;go_region
 all_goals dsimp only [Exit.then]
 go_wp2_with fail
 all_goals (refine bodyPost_ret (qf rfl _ _ (H+1+1) (H+1+1+1) _ _ _ _ _ _ _ _ wu (Arr.drew hF1.o) underlying27 rfl wm wu (Arr.drew hF2.o) underlying30 rfl wm) rfl ?_)
 all_goals exact⟨_,_,_,rfl,(hF3.o.drewX.lower (base':=H) wj).mono (fun b hb=>wj),zb (zc hF4.o (Below.refl _ _).drew) wj,hF5.o.drew⟩
end Go.Proofs.YtcjndgldjhmbgaaGreat
