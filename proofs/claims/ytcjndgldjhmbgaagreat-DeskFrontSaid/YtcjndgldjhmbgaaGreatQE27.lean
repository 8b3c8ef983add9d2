/- Lemmas, as stated. -/
import Derived.Test.YtcjndgldjhmbgaaGreatQE25
import Derived.Test.YtcjndgldjhmbgaaGreatQE26
set_option linter.unusedVariables false
set_option linter.unusedSimpArgs false
set_option maxRecDepth 100000
set_option maxHeartbeats 8000000
open Go.Proofs.Tryz
open Go.Proofs.Tryz renaming prog->zZZ
open Go.Value renaming slice->aw,int->ax,string->az
open Go.IntKind renaming i64->ay
open Option renaming none->aB,some->aC
open And renaming intro->aD
namespace Go.Proofs.YtcjndgldjhmbgaaGreat
open Go.RowKit Go.Maps
variable {fs:List FlP} {l:LoP} {base k:Nat} {e:TypeId} {v v1 v2 v3 v4 x0 x1 x2 x3 x4 x5 x6 x7:Value} {w:World} {xs:af} {N:ai}
abbrev JF (w:World) (g:Nat) (u0 u1 u2 u3 u4 u5 u6 u7:Value):World:=(((((((w.setCell ⟨g,0,aB⟩ u0).setCell ⟨g,1,aB⟩ u1).setCell ⟨g,2,aB⟩ u2).setCell ⟨g,3,aB⟩ u3).setCell ⟨g,4,aB⟩ u4).setCell ⟨g,5,aB⟩ u5).setCell ⟨g,6,aB⟩ u6).setCell ⟨g,7,aB⟩ u7
section
variable {w:World} {g base:Nat}
theorem Arr.all8 (h:Arr w g e [x0,x1,x2,x3,x4,x5,x6,x7]) (u0 u1 u2 u3 u4 u5 u6 u7:Value):Arr (JF w g u0 u1 u2 u3 u4 u5 u6 u7) g e [u0,u1,u2,u3,u4,u5,u6,u7] :=
 (((((((h.set (k:=0) ws u0).set (k:=1) ws u1).set (k:=2) ws u2).set (k:=3) ws u3).set (k:=4) ws u4).set (k:=5) ws u5).set (k:=6) ws u6).set (k:=7) ws u7
theorem q8 {n size:Nat} {t:TypeId} {ys:af} (ho:w.ownsRow base t size v n ys) (h1:v.ownBlock≠aC g) (u0 u1 u2 u3 u4 u5 u6 u7:Value):(JF w g u0 u1 u2 u3 u4 u5 u6 u7).ownsRow base t size v n ys :=
 zd (zd (zd (zd (zd (zd (zd (zd ho h1) h1) h1) h1) h1) h1) h1) h1
theorem FlsO.set8 (h:FlsO w base v fs) (hA:Arr w g e xs) (h1:95≠e) (h2:3≠e) (u0 u1 u2 u3 u4 u5 u6 u7:Value):FlsO (JF w g u0 u1 u2 u3 u4 u5 u6 u7) base v fs:=by
 obtain⟨As,hl,ho,hr,hd⟩:=h;exact⟨As,hl,q8 ho (zf ho hA h1) _ _ _ _ _ _ _ _,fun k p a hp ha=>⟨q8 (hr k p a hp ha).1 (zf (hr k p a hp ha).1 hA h2) _ _ _ _ _ _ _ _,(hr k p a hp ha).2⟩,hd⟩
theorem OwSt.set8N {s:StoP} (ho:OwSt w base v1 v2 s N) (hg:N g) (h1:v1.ownBlock≠aC g) (h2:v2.ownBlock≠aC g) (u0 u1 u2 u3 u4 u5 u6 u7:Value):OwSt (JF w g u0 u1 u2 u3 u4 u5 u6 u7) base v1 v2 s N :=
 (((((((ho.setX hg h1 h2 u0).setX hg h1 h2 u1).setX hg h1 h2 u2).setX hg h1 h2 u3).setX hg h1 h2 u4).setX hg h1 h2 u5).setX hg h1 h2 u6).setX hg h1 h2 u7
end
structure OwLo (w:World) (base:Nat) (v1 v2 v3 v4:Value) (l:LoP) (N:ai):Prop where
 s:OwSt w base v1 v2 l.st N
 c:w.ownsRow base 9 1 v3 l.co.aI.length (strs l.co.aI)
 f:FlsO w base v4 l.fs
abbrev Yc (v1 v2 v3 v4:Value) (l:LoP):Value:= .agg #[v1,v2,ax ay l.st.aH,ax ay l.st.aG,ax ay l.co.aJ,v3,az ⟨l.co.at_.toArray⟩,v4]
theorem OwLo.below {w':World} (h:OwLo w base v1 v2 v3 v4 l N) (hb:Below w.heap.size w w'):OwLo w' base v1 v2 v3 v4 l N:=⟨h.s.below hb,zc h.c hb,h.f.below hb⟩
theorem OwLo.rd (h:OwLo w base v1 v2 v3 v4 l N):∃p:LoW,v1= aw p.X l.st.aE.length p.cX/\v2= aw p.Y l.st.aF.length p.dY/\v3= aw p.G l.co.aI.length p.ng/\v4= aw p.F l.fs.length p.cF/\RdLo w p l:=by
 obtain⟨X,cX,Y,dY,e1,e2,h3⟩:=h.s.rows;obtain⟨G,ng,e3,h4⟩:=RdC.of_own (c:=l.co) h.c;obtain⟨F,cF,e4,h5,h6⟩:=h.f.fls;obtain⟨As,_,hro,_⟩:=h.f;have h7:cF<=maxLen:=by
  rw [e4]at hro;rcases hro.2 with ⟨h1,h2⟩ | ⟨_,cap,_,h1,_,_,h2,h3,_⟩
  ·injection h1 with _ _ h3;subst h3;simp [maxLen]
  ·injection h1 with _ _ h4;subst h4;exact h3
 exact⟨⟨X,cX,Y,dY,G,ng,F,cF⟩,e1,e2,e3,e4,⟨h3,h4,h6,h5,h7⟩⟩
theorem vR (p:LoW) (l:LoP) (w:World) (hg:GoodL l) (hr:RdLo w p l) :
  Calls zZZ 166 #[loV p l] w fun e w'=>∃v1 v2 v3 v4,e= .returned (Yc v1 v2 v3 v4 l)/\OwLo w' w.heap.size v1 v2 v3 v4 l (fun b=>b<w.heap.size)/\Below w.heap.size w w':=by
 obtain⟨X,cX,Y,dY,G,ng,F,cF⟩:=p;obtain⟨s,co,fs⟩:=l;obtain⟨gb,hgb⟩:=wU w.heap.size
 obtain⟨w1,hw1⟩:=wU (w.alloc (.cells #[aw X s.aE.length cX,aw Y s.aF.length dY,ax ay s.aH,ax ay s.aG,ax ay co.aJ,aw G co.aI.length ng,az ⟨co.at_.toArray⟩,aw F fs.length cF] 33))
 have hP1:Arr w1 gb 33 [aw X s.aE.length cX,aw Y s.aF.length dY,ax ay s.aH,ax ay s.aG,ax ay co.aJ,aw G co.aI.length ng,az ⟨co.at_.toArray⟩,aw F fs.length cF]:=by rw [hw1,hgb];exact Arr.new w 33 _
 have hb01:Below w.heap.size w w1:=by rw [hw1];exact(Below.refl _ _).alloc ab _
 have hs1:w1.heap.size=gb+1:=by rw [hw1,hgb];exact World.size_alloc _ _
 obtain⟨gr,hgr⟩:=wU (gb+1)
 obtain⟨w2,hw2⟩:=wU (w1.alloc (.cells #[aw aB 0 0,aw aB 0 0,ax ay 0,ax ay 0,ax ay 0,aw aB 0 0,az ⟨#[]⟩,aw aB 0 0] 33))
 have hR2:Arr w2 gr 33 [aw aB 0 0,aw aB 0 0,ax ay 0,ax ay 0,ax ay 0,aw aB 0 0,az ⟨#[]⟩,aw aB 0 0]:=by rw [hw2,hgr,<-hs1];exact Arr.new w1 33 _
 have hb12:Below w1.heap.size w1 w2:=by rw [hw2];exact(Below.refl _ _).alloc ab _
 have hr1:=hr.below hb01;have HPB:=sqH (show ∀W,Below w1.heap.size w1 W->(wF W gb (aw X s.aE.length cX) (aw Y s.aF.length dY) (ax ay s.aH) (ax ay s.aG) (ax ay co.aJ) (aw G co.aI.length ng) (az ⟨co.at_.toArray⟩) (aw F fs.length cF)) from fun W h =>
  sqC8 (hP1.below h))
 obtain⟨HCP,HCL,HFC,HB12,HB01,HR,HRL⟩:=sqJ7 (fun W (h:Below w1.heap.size w1 W)=>qI X cX Y dY s W (by have:s.aE.length<=24:=hg.s.b.len;omega) (by have:s.aF.length<=10:=hg.s.e.len;omega) (fun b hb=>by have:b.data.length<=300:=(hg.s.b.one b hb).2.1;omega) (fun x hx=>by have:=(zk (hg.s.e.one x hx).2.1).1;omega) (hr1.s.below h)) (fun W (h:Below w1.heap.size w1 W)=>kK G ng co.aI W (by have:co.aI.length<=1000:=hg.g;omega) (hr1.c.rd.below h)) (fun W (h:Below w1.heap.size w1 W)=>ko F cF fs W (by have:fs.length<=6:=hg.f.len;omega) (fun p hp=>by have:=(hg.f.all p hp).2.1;omega) (hr1.f.below h) hr1.fc) hb12 hb01 hR2 (show w1.heap.size<=gr by rw [hgr,hs1];exact Nat.le_refl _);clear hg hr hr1 hP1 hb01 hb12 hR2;go_enter func166,ntmps166;go_wp2_with fail;rw [<-hw1,<-hw2,<-hgb,<-hgr];have HGB:=sqH hgb;clear hw1 hw2 hgr hgb hs1;apply zE;intro REST;refine ze [18] (S:=(fun w'=>(wF w' gb (aw X s.aE.length cX) (aw Y s.aF.length dY) (ax ay s.aH) (ax ay s.aG) (ax ay co.aJ) (aw G co.aI.length ng) (az ⟨co.at_.toArray⟩) (aw F fs.length cF)))) wm ?_ (fun hHeld=> ?_)
 ·exact HPB.o _ ((HB12.o).drew)
 have hB:=(HB12.o).drew;have hR:=HR.o.below (Below.refl w2.heap.size w2).drew;have hRl:=HRL.o;generalize w2.drew=wn0 at *
 refine wP 0 ?_;refine wO 1 ?_;refine wP 3 ?_;refine wP 4 ?_;refine wO 5 ?_;refine wP 6 ?_;refine wP 7 ?_;refine wO 8 ?_;refine wP 10 ?_;refine wP 11 ?_;refine wO 12 ?_;refine wP 14 ?_;refine wO 15 ?_;refine za (rs:= [2]) wm ws ?_;refine z8.cons (o:=_) rfl (fun K hK=> ?_) ?_
 ·
  go_simp;refine(HCP.o wn0 hB).mono ?_;rintro e5 w5 ⟨g1,g2,rfl,ho5,hb5⟩;dsimp only;refine zR hK ?_ (fun W=>Below w1.heap.size w1 W/\Arr W gr 33 [aw aB 0 0,aw aB 0 0,ax ay 0,ax ay 0,ax ay 0,aw aB 0 0,az ⟨#[]⟩,aw aB 0 0]/\w1.heap.size<=gr/\OwSt W w1.heap.size (aw (aC ⟨g1,0,aB⟩) s.aE.length s.aE.length) (aw (aC ⟨g2,0,aB⟩) s.aF.length s.aF.length) s (fun b=>b<w1.heap.size\/b=gr)) (fun W=>True) ?_ ?_ (fun wn1 hHeld2 hF _=> ?_)
  ·exact HPB.o _ ((wg hB hb5))
  ·exact⟨wg hB hb5,hR.below hb5,hRl,(ho5.lower (base':=w1.heap.size) hB.size).mono (N':=(fun b=>b<w1.heap.size\/b=gr)) (fun b hb=>hb.elim (fun hb=>Nat.lt_of_lt_of_le hb hB.size) (fun hb=>(by rw [hb];exact hR.lt)))⟩
  ·trivial
  clear hRl hR hB hHeld;have hHeld:=hHeld2;clear hHeld2;obtain⟨hB,hR,hRl,ho⟩:=hF;clear hb5 ho5;clear hK K
  try simp only [sqP]
  refine wT 9 fun K hK=>?_;go_simp;refine(HCL.o wn1 hB).mono ?_;rintro e5 w5 ⟨v5,rfl,hl5,hb5⟩;obtain⟨A3,n3,rfl, -, -⟩:=Rd.of_own' hl5;dsimp only;refine zR hK ?_ (fun W=>Below w1.heap.size w1 W/\Arr W gr 33 [aw aB 0 0,aw aB 0 0,ax ay 0,ax ay 0,ax ay 0,aw aB 0 0,az ⟨#[]⟩,aw aB 0 0]/\w1.heap.size<=gr/\OwSt W w1.heap.size (aw (aC ⟨g1,0,aB⟩) s.aE.length s.aE.length) (aw (aC ⟨g2,0,aB⟩) s.aF.length s.aF.length) s (fun b=>b<w1.heap.size\/b=gr)/\W.ownsRow w1.heap.size 9 1 (aw A3 co.aI.length n3) co.aI.length (strs co.aI)) (fun W=>True) ?_ ?_ (fun wn2 hHeld2 hF _=> ?_)
  ·exact HPB.o _ ((wg hB hb5))
  ·exact⟨wg hB hb5,hR.below hb5,hRl,ho.below hb5,zb hl5 hB.size⟩
  ·trivial
  clear ho hRl hR hB hHeld;have hHeld:=hHeld2;clear hHeld2;obtain⟨hB,hR,hRl,ho,hl⟩:=hF;clear hb5 hl5;clear hK K
  refine wP 13 ?_;refine wT 16 fun K hK=>?_;go_simp;refine(HFC.o wn2 hB).mono ?_;rintro e5 w5 ⟨v5,rfl,hz5,hb5⟩;obtain⟨A6,c6,rfl, -, -⟩:=hz5.fls;dsimp only;refine zR hK ?_ (fun W=>Below w1.heap.size w1 W/\Arr W gr 33 [aw aB 0 0,aw aB 0 0,ax ay 0,ax ay 0,ax ay 0,aw aB 0 0,az ⟨#[]⟩,aw aB 0 0]/\w1.heap.size<=gr/\OwSt W w1.heap.size (aw (aC ⟨g1,0,aB⟩) s.aE.length s.aE.length) (aw (aC ⟨g2,0,aB⟩) s.aF.length s.aF.length) s (fun b=>b<w1.heap.size\/b=gr)/\W.ownsRow w1.heap.size 9 1 (aw A3 co.aI.length n3) co.aI.length (strs co.aI)/\FlsO W w1.heap.size (aw A6 fs.length c6) fs) (fun W=>True) ?_ ?_ (fun wn3 hHeld2 hF _=> ?_)
  ·exact HPB.o _ ((wg hB hb5))
  ·exact⟨wg hB hb5,hR.below hb5,hRl,ho.below hb5,zc hl hb5,hz5.lower hB.size⟩
  ·trivial
  clear hl ho hRl hR hB hHeld;have hHeld:=hHeld2;clear hHeld2;obtain⟨hB,hR,hRl,ho,hl,hf⟩:=hF;clear hb5 hz5;clear hK K
  refine wP 17 ?_;refine wS 18 fun K hK=>?_;have hqho:=ho.nb hR wo wo;have hqhl:=zf hl hR wo;obtain⟨z0,f0,z1,f1,z2,f2,z3,f3,z4,f4,z5,f5,z6,f6,z7,f7⟩:=wc hR;go_simp;clear z0 f0 z1 f1 z2 f2 z3 f3 z4 f4 z5 f5 z6 f6 z7 f7;refine vt hK (fun W=>Below w1.heap.size w1 W/\Arr W gr 33 [(aw (aC ⟨g1,0,aB⟩) s.aE.length s.aE.length),(aw (aC ⟨g2,0,aB⟩) s.aF.length s.aF.length),ax ay s.aH,ax ay s.aG,ax ay co.aJ,(aw A3 co.aI.length n3),az ⟨co.at_.toArray⟩,(aw A6 fs.length c6)]/\w1.heap.size<=gr/\OwSt W w1.heap.size (aw (aC ⟨g1,0,aB⟩) s.aE.length s.aE.length) (aw (aC ⟨g2,0,aB⟩) s.aF.length s.aF.length) s (fun b=>b<w1.heap.size\/b=gr)/\W.ownsRow w1.heap.size 9 1 (aw A3 co.aI.length n3) co.aI.length (strs co.aI)/\FlsO W w1.heap.size (aw A6 fs.length c6) fs) (fun W=>True) ?_ ?_ (fun wn4 hF _=> ?_)
  ·exact⟨((((((((hB).setCell (p:=⟨gr,0,aB⟩) hRl _).setCell (p:=⟨gr,1,aB⟩) hRl _).setCell (p:=⟨gr,2,aB⟩) hRl _).setCell (p:=⟨gr,3,aB⟩) hRl _).setCell (p:=⟨gr,4,aB⟩) hRl _).setCell (p:=⟨gr,5,aB⟩) hRl _).setCell (p:=⟨gr,6,aB⟩) hRl _).setCell (p:=⟨gr,7,aB⟩) hRl _,hR.all8 _ _ _ _ _ _ _ _,hRl,ho.set8N (.inr rfl) hqho.1 hqho.2 _ _ _ _ _ _ _ _,q8 hl hqhl _ _ _ _ _ _ _ _,hf.set8 hR wo wo _ _ _ _ _ _ _ _⟩
  ·trivial
  clear hf hl ho hRl hR hB hHeld;obtain⟨hB,hR,hRl,ho,hl,hf⟩:=hF;clear hqho hqhl;clear hK K
  try simp only [sqP]
  refine zp wm ?_ _
  try dsimp only [Exit.then]
  have hall:=aD hB (aD hR (aD hRl (aD ho (aD hl hf))));clear hf hl ho hRl hR hB;generalize wn4=wz at hall ⊢
  revert hall;revert wz;revert c6;revert A6;revert n3;revert A3;revert g2;revert g1;exact REST.o
 exact z8.nil;intro g1 g2 A3 n3 A6 c6 w3 hall;obtain⟨hB,hR,hRl,ho,hl,hf⟩:=hall;go_wp2_with fail;have hb01:Below w.heap.size w w1:=HB01.o;have hsz:w.heap.size<=w1.heap.size:=hb01.size;refine bodyPost_ret (results_cell_row rfl _ _ gr _ _ _ _ wu hR underlying33 rfl wm) rfl ?_;exact⟨_,_,_,_,rfl,⟨(ho.lower hsz).mono (fun b hb=> .inl (Nat.lt_of_lt_of_le hb hsz)),zb hl hsz,hf.lower hsz⟩,hb01.trans (hB.mono hsz)⟩
theorem yi {P:Program} {fn:Func} {p u z y:Tmp} {ty:TypeId} (h:fn.results=#[.cell p ty,.tmp u,.tmp z,.tmp y]) (tmps:Array Value) (w:World) (g:Nat) (t:TypeId) (cs:Array Value) (fr:Nat×Nat) (d:TypeDesc)
  (hp:tmps.getD p undef= .pointer (aC ⟨g,0,aB⟩)) (hg:w.heap[g]?=aC (.cells cs t fr))
  (hu:P.underlying ty=aC d) (hd:(match d with | .struct _ | .array _ _=>true | _=>false)=true) (hi:(P.info? ty).map (·.size)=aC cs.size) :
  (results fn tmps).run P w= .ok (.tuple #[.agg cs,tmps.getD u undef,tmps.getD z undef,tmps.getD y undef]) w:=by
 have hp':tmps[p]?.getD undef= .pointer (aC ⟨g,0,aB⟩):=by simpa using hp
 simp [results,h,hp',asAddr,run_loadVar_row w g t ty cs fr d hg hu hd hi]
section
variable {w:World} {g base:Nat} {v1 v2 v3 v4:Value} {l:LoP} {N N':ai}
theorem OwLo.mono (h:OwLo w base v1 v2 v3 v4 l N) (hN:∀b,N' b->N b):OwLo w base v1 v2 v3 v4 l N':=⟨h.s.mono hN,h.c,h.f⟩
theorem OwLo.wider (h:OwLo w base v1 v2 v3 v4 l N) (hN:∀b,N' b->N b\/w.heap.size<=b):OwLo w base v1 v2 v3 v4 l N':=⟨h.s.wider hN,h.c,h.f⟩
theorem OwLo.lower {b':Nat} (h:OwLo w base v1 v2 v3 v4 l N) (hb:b'<=base):OwLo w b' v1 v2 v3 v4 l N:=⟨h.s.lower hb,zb h.c hb,h.f.lower hb⟩
theorem OwLo.set8 (h:OwLo w base v1 v2 v3 v4 l N) (hA:Arr w g 33 xs) (hN:N g) (u0 u1 u2 u3 u4 u5 u6 u7:Value):OwLo (JF w g u0 u1 u2 u3 u4 u5 u6 u7) base v1 v2 v3 v4 l N :=
 ⟨h.s.set8N hN (h.s.nb hA wo wo).1 (h.s.nb hA wo wo).2 _ _ _ _ _ _ _ _,q8 h.c (zf h.c hA wo) _ _ _ _ _ _ _ _,h.f.set8 hA wo wo _ _ _ _ _ _ _ _⟩
theorem FlsO.set1 (h:FlsO w base v fs) (hA:Arr w g e xs) (h1:95≠e) (h2:3≠e) (u:Value):FlsO (w.setCell ⟨g,k,aB⟩ u) base v fs:=by
 obtain⟨As,hl,ho,hr,hd⟩:=h;exact⟨As,hl,zd ho (zf ho hA h1),fun k p a hp ha=>⟨zd (hr k p a hp ha).1 (zf (hr k p a hp ha).1 hA h2),(hr k p a hp ha).2⟩,hd⟩
theorem OwLo.set1 (h:OwLo w base v1 v2 v3 v4 l N) (hA:Arr w g 33 xs) (hN:N g) (u:Value):OwLo (w.setCell ⟨g,k,aB⟩ u) base v1 v2 v3 v4 l N:=by
 refine⟨h.s.setX hN (h.s.nb hA wo wo).1 (h.s.nb hA wo wo).2 _,zd h.c (zf h.c hA wo),h.f.set1 hA wo wo u⟩
theorem Arr.fst4 (h:Arr w g e [x0,x1,x2,x3,x4,x5,x6,x7]) (u0 u1 u2 u3:Value):Arr (Z6 w g u0 u1 u2 u3) g e [u0,u1,u2,u3,x4,x5,x6,x7] :=
 (((h.set (k:=0) ws u0).set (k:=1) ws u1).set (k:=2) ws u2).set (k:=3) ws u3
theorem OwLo.set4 (h:OwLo w base v1 v2 v3 v4 l N) (hA:Arr w g 33 [x0,x1,x2,x3,x4,x5,x6,x7]) (hN:N g) (u0 u1 u2 u3:Value):OwLo (Z6 w g u0 u1 u2 u3) base v1 v2 v3 v4 l N :=
 (((h.set1 hA hN u0).set1 (hA.set (k:=0) ws u0) hN u1).set1 ((hA.set (k:=0) ws u0).set (k:=1) ws u1) hN u2).set1 (((hA.set (k:=0) ws u0).set (k:=1) ws u1).set (k:=2) ws u2) hN u3
theorem Kv (hA:Arr w k e xs) (h1:k≠g) (u0 u1 u2 u3 u4 u5 u6 u7:Value):Arr (JF w g u0 u1 u2 u3 u4 u5 u6 u7) k e xs :=
 (((((((hA.other h1 u0).other h1 u1).other h1 u2).other h1 u3).other h1 u4).other h1 u5).other h1 u6).other h1 u7
theorem zO {B:Nat} {w0:World} (hb:Below B w0 w) (hg:B<=g) (u0 u1 u2 u3 u4 u5 u6 u7:Value):Below B w0 (JF w g u0 u1 u2 u3 u4 u5 u6 u7):=Below.setCell (Below.setCell (Below.setCell (Below.setCell (Below.setCell (Below.setCell (Below.setCell (Below.setCell hb hg u0) hg u1) hg u2) hg u3) hg u4) hg u5) hg u6) hg u7
theorem OwLo.nil_:OwLo w base (aw aB 0 0) (aw aB 0 0) (aw aB 0 0) (aw aB 0 0) loZ N :=
 ⟨⟨RwX.nil_ (World.ownsRow_nil _ _ _ _),RwX.nil_ (World.ownsRow_nil _ _ _ _),fun g h=>by cases h⟩,World.ownsRow_nil _ _ _ _,FlsO.nil_ _ _ _ (World.ownsRow_nil _ _ _ _)⟩
end
theorem YE (p:LoW) (l:LoP) (key:ac) (n:Int) (i:Nat) (x:EntP) (w:World) (hg:GoodL l) (hr:RdLo w p l) (hx:l.st.aF[i]?=aC x) (hf:l.st.aF.findIdx? (fun x=>x.key==key)=aC i) (h1:1<=n) (h2:n<=1000) (hclk:l.st.aG<1099511627776) :
  Calls zZZ 131 #[loV p l,az ⟨key.toArray⟩,ax ay n] w fun e w'=>∃v1 v2 v3 v4 vp,e= .returned (.tuple #[Yc v1 v2 v3 v4 { l with st:=kz l.st i x },vp,.bool false,ax ay 0])/\OwLo w' w.heap.size v1 v2 v3 v4 { l with st:=kz l.st i x } (fun b=>b<w.heap.size)/\w'.ownsRow w.heap.size 51 3 vp x.parts.length (pcs x.parts)/\Below w.heap.size w w':=by
 obtain⟨X,cX,Y,dY,G,ng,F,cF⟩:=p;obtain⟨s,co,fs⟩:=l;have hgs:GoodS s:=hg.s;have hlb:s.aE.length<=24:=hgs.b.len;have hle:s.aF.length<=10:=hgs.e.len;have hlf:fs.length<=6:=hg.f.len;have hcm:cF<=maxLen:=hr.fm;obtain⟨w1,hw1,hP,hR,hbx⟩:=zn w 33 33 [aw X s.aE.length cX,aw Y s.aF.length dY,ax ay s.aH,ax ay s.aG,ax ay co.aJ,aw G co.aI.length ng,az ⟨co.at_.toArray⟩,aw F fs.length cF] [aw aB 0 0,aw aB 0 0,ax ay 0,ax ay 0,ax ay 0,aw aB 0 0,az ⟨#[]⟩,aw aB 0 0];have hr1:=hr.below hbx;have HCK:=sqH (vQ ⟨X,cX,Y,dY,G,ng,F,cF⟩ ⟨s,co,fs⟩ w1 hg hr1);have HRD:=sqH (fun W (h:Below w1.heap.size w1 W)=>hr1.below h);obtain⟨gb,hgb⟩:=wU w.heap.size
 rw [<-hgb]at hP hR hbx ⊢
 have HPX:=sqH (show ∀W,Below w1.heap.size w1 W->Arr W gb 33 [aw X s.aE.length cX,aw Y s.aF.length dY,ax ay s.aH,ax ay s.aG,ax ay co.aJ,aw G co.aI.length ng,az ⟨co.at_.toArray⟩,aw F fs.length cF]/\Arr W (gb+1) 33 [aw aB 0 0,aw aB 0 0,ax ay 0,ax ay 0,ax ay 0,aw aB 0 0,az ⟨#[]⟩,aw aB 0 0] from fun W h=>⟨hP.below h,hR.below h⟩);have hg1:gb+1<w1.heap.size:=hR.lt;obtain⟨HG,HGS,HBX,HW1,HGB⟩:=sqJ5 hg hgs hbx hw1 hgb;clear hg hgs hr hr1 hP hR hbx hw1 hgb;go_enter func131,ntmps131;go_wp2_with fail;rw [<-HW1.o,<-HGB.o];clear HW1;refine wV HCK.o fun w2 hb2=>?_;dsimp only;clear HCK;have HB2:=sqH hb2;have HCP:=sqH (vR ⟨X,cX,Y,dY,G,ng,F,cF⟩ ⟨s,co,fs⟩ w2 HG.o (HRD.o w2 HB2.o));obtain⟨x0,x1,x2,x3,x4,x5,x6,x7⟩:=sqC8 ((HPX.o _ HB2.o).1);go_wp2_with fail;refine HCP.o.mono ?_;rintro e_ w3 ⟨v1,v2,v3,v4,rfl,ho3,hb3⟩;dsimp only;obtain⟨⟨X3,cX3,Y3,dY3,G3,ng3,F3,cF3⟩,rfl,rfl,rfl,rfl,hrd3⟩:=ho3.rd;clear x0 x1 x2 x3 x4 x5 x6 x7 HCP;obtain⟨w4,hw4⟩:=wU (w3.alloc (.cells #[aw X3 s.aE.length cX3,aw Y3 s.aF.length dY3,ax ay s.aH,ax ay s.aG,ax ay co.aJ,aw G3 co.aI.length ng3,az ⟨co.at_.toArray⟩,aw F3 fs.length cF3] 33))
 have hO4:Arr w4 w3.heap.size 33 [aw X3 s.aE.length cX3,aw Y3 s.aF.length dY3,ax ay s.aH,ax ay s.aG,ax ay co.aJ,aw G3 co.aI.length ng3,az ⟨co.at_.toArray⟩,aw F3 fs.length cF3]:=by rw [hw4];exact Arr.new w3 33 _
 have hb34:Below w3.heap.size w3 w4:=by rw [hw4];exact(Below.refl _ _).alloc ab _
 have hb13:=wg HB2.o hb3;have hb14:=wg hb13 hb34;obtain⟨go,hgo⟩:=wU w3.heap.size
 rw [<-hgo]at hO4;have hgl:w1.heap.size<=go:=by rw [hgo];exact hb13.size
 have hgl4:go<w4.heap.size:=hO4.lt;have ho4:=((ho3.wider (N':=fun b=>b<w1.heap.size\/b=go) (fun b hb=>hb.elim (fun h=> .inl (Nat.lt_of_lt_of_le h HB2.o.size)) (fun h=> .inr (by rw [h,hgo];exact Nat.le_refl _)))).below hb34).lower (b':=w1.heap.size) HB2.o.size;obtain⟨HO4,HOB,HB14,HBO,HW4,HGO⟩:=sqJ6 ho4 hO4 hb14 (wg hb3 hb34) hw4 hgo;clear ho3 hb3 hrd3 hO4 hb34 hb13 hb14 ho4 hw4 hgo
 refine wJ 5 ?_;intros
 rw [<-HW4.o,<-HGO.o];clear HW4;have hfe:=kG Y dY s.aF key w4 wj (HRD.o w4 HB14.o).s.e;rw [hf]at hfe;dsimp only [xn]at hfe;obtain⟨hi,hke⟩:=jV hf;have hxe:s.aF[i]=x:=by rw [List.getElem?_eq_getElem hi]at hx;injection hx
 have hgt:=fun W (h:Below w1.heap.size w1 W)=>YI X cX Y dY s key i W HGS.o (HRD.o W h).s hi hke hclk;obtain⟨k1,hk1⟩:=wU (((s.aG+1:Nat):Int):Int)
 simp only [hxe,<-hk1]at hgt;obtain⟨HK1,HFE,HGT⟩:=sqJ3 hk1 hfe hgt;have hn1:decide (n<1)=false:=decide_eq_false wj;have hn2:decide (n>1000)=false:=decide_eq_false wj;have hn3:decide (1000<n)=false:=decide_eq_false wj;clear hfe hgt hf hke hxe hi hx hclk h1 h2 hk1;obtain⟨x0,x1,x2,x3,x4,x5,x6,x7⟩:=sqC8 ((HPX.o _ HB14.o).1);go_wp2_with fail;refine wV HFE.o fun w5 hb5=>?_;dsimp only;have hb15:=wg HB14.o hb5;clear x0 x1 x2 x3 x4 x5 x6 x7;obtain⟨x0,x1,x2,x3,x4,x5,x6,x7⟩:=sqC8 ((HPX.o _ hb15).1);obtain⟨HGT5,HB15,HOB5,HO5⟩:=sqJ4 (HGT.o w5 hb15) hb15 (HOB.o.below hb5) (HO4.o.below hb5);have hgl5:go<w5.heap.size:=HOB5.o.lt;clear hb5 hb15 HGT HFE HOB HO4;go_wp2_with fail;clear x0 x1 x2 x3 x4 x5 x6 x7;refine HGT5.o.mono ?_;rintro e_ w6 ⟨v5,v6,v7,rfl,ho6,hp6,hb6⟩;dsimp only;obtain⟨X6,cX6,Y6,dY6,rfl,rfl,hr6⟩:=ho6.rows;obtain⟨P6,p6,rfl,_,_⟩:=Sl.of_own hp6;obtain⟨w7,hw7⟩:=wU (w6.alloc (.cells #[aw X6 (kz s i x).aE.length cX6,aw Y6 (kz s i x).aF.length dY6,ax ay s.aH,ax ay k1] 27))
 have hS7:Arr w7 w6.heap.size 27 [aw X6 (kz s i x).aE.length cX6,aw Y6 (kz s i x).aF.length dY6,ax ay s.aH,ax ay k1]:=by rw [hw7];exact Arr.new w6 27 _
 have hb67:Below w6.heap.size w6 w7:=by rw [hw7];exact(Below.refl _ _).alloc ab _
 have hb57:=wg hb6 hb67;obtain⟨gs,hgs⟩:=wU w6.heap.size
 rw [<-hgs]at hS7;obtain⟨HW7,HGS7,HS7,HO6,HP6,HO7,HOB7,HB17⟩:=sqJ8 hw7 hgs hS7 (ho6.below hb67) (zc hp6 hb67) (HO5.o.below hb57) (HOB5.o.below hb57) (wg HB15.o hb57);have hs57:w5.heap.size<=w7.heap.size:=hb57.size;clear ho6 hp6 hb6 hr6 hw7 hS7 hb67 hb57 hgs HGT5 HO5 HOB5
 refine wJ 12 ?_;intros
 rw [<-HW7.o,<-HGS7.o];clear HW7;obtain⟨s0,s1,s2,s3⟩:=sqC4 HS7.o;have hO7:=HOB7.o;obtain⟨o0,o1,o2,o3,o4,o5,o6,o7⟩:=sqC8 hO7;obtain⟨m0,m1,m2,m3,m4,m5,m6,m7⟩:=sqF8 hO7;have hR7:=(HPX.o _ HB17.o).2;have hbg:gb+1≠go:=wj
 have hgo1:gb<=go:=wj
 obtain⟨HO8,HR8,HL8,HS8,HP8,HB8⟩:=sqJ6 (hO7.fst4 (aw X6 (kz s i x).aE.length cX6) (aw Y6 (kz s i x).aF.length dY6) (ax ay s.aH) (ax ay k1)) (xC (aw X6 (kz s i x).aE.length cX6) (aw Y6 (kz s i x).aF.length dY6) (ax ay s.aH) (ax ay k1) hR7 hbg) (HO7.o.set4 hO7 (.inr rfl) (aw X6 (kz s i x).aE.length cX6) (aw Y6 (kz s i x).aF.length dY6) (ax ay s.aH) (ax ay k1)) (HO6.o.set4N hgl5 (HO6.o.nb hO7 wo wo).1 (HO6.o.nb hO7 wo wo).2 (aw X6 (kz s i x).aE.length cX6) (aw Y6 (kz s i x).aF.length dY6) (ax ay s.aH) (ax ay k1)) (qu HP6.o (zf HP6.o hO7 wo) (aw X6 (kz s i x).aE.length cX6) (aw Y6 (kz s i x).aF.length dY6) (ax ay s.aH) (ax ay k1)) (yE (HBX.o.trans (HB17.o.mono wj)) hgo1 (aw X6 (kz s i x).aE.length cX6) (aw Y6 (kz s i x).aF.length dY6) (ax ay s.aH) (ax ay k1));clear hO7 hR7 HO6 HO7 HOB7 HP6 HS7
 refine wJ 13 ?_;intros
 clear s0 s1 s2 s3 o0 o1 o2 o3 o4 o5 o6 o7 m0 m1 m2 m3 m4 m5 m6 m7;dsimp only [Z6]at HO8 HR8 HL8 HS8 HP8 HB8;generalize (((w7.setCell ⟨go,0,aB⟩ (aw X6 (kz s i x).aE.length cX6)).setCell ⟨go,1,aB⟩ (aw Y6 (kz s i x).aF.length dY6)).setCell ⟨go,2,aB⟩ (ax ay s.aH)).setCell ⟨go,3,aB⟩ (ax ay k1)=w8 at *
 have hO:=HO8.o;have hR:=HR8.o;obtain⟨o0,o1,o2,o3,o4,o5,o6,o7⟩:=sqC8 hO;obtain⟨m0,m1,m2,m3,m4,m5,m6,m7⟩:=sqF8 hO;obtain⟨y0,y1,y2,y3,y4,y5,y6,y7⟩:=sqC8 hR;obtain⟨f0,f1,f2,f3,f4,f5,f6,f7⟩:=sqF8 hR;obtain⟨HFN,HS9,HC9,HF9,HP9,HB9⟩:=sqJ6 (hR.all8 (aw X6 (kz s i x).aE.length cX6) (aw Y6 (kz s i x).aF.length dY6) (ax ay s.aH) (ax ay k1) (ax ay co.aJ) (aw G3 co.aI.length ng3) (az ⟨co.at_.toArray⟩) (aw F3 fs.length cF3)) (HS8.o.set8N (show gb+1<w5.heap.size by omega) (HS8.o.nb hR wo wo).1 (HS8.o.nb hR wo wo).2 (aw X6 (kz s i x).aE.length cX6) (aw Y6 (kz s i x).aF.length dY6) (ax ay s.aH) (ax ay k1) (ax ay co.aJ) (aw G3 co.aI.length ng3) (az ⟨co.at_.toArray⟩) (aw F3 fs.length cF3)) (q8 HL8.o.c (zf HL8.o.c hR wo) (aw X6 (kz s i x).aE.length cX6) (aw Y6 (kz s i x).aF.length dY6) (ax ay s.aH) (ax ay k1) (ax ay co.aJ) (aw G3 co.aI.length ng3) (az ⟨co.at_.toArray⟩) (aw F3 fs.length cF3)) (HL8.o.f.set8 hR wo wo (aw X6 (kz s i x).aE.length cX6) (aw Y6 (kz s i x).aF.length dY6) (ax ay s.aH) (ax ay k1) (ax ay co.aJ) (aw G3 co.aI.length ng3) (az ⟨co.at_.toArray⟩) (aw F3 fs.length cF3)) (q8 HP8.o (zf HP8.o hR wo) (aw X6 (kz s i x).aE.length cX6) (aw Y6 (kz s i x).aF.length dY6) (ax ay s.aH) (ax ay k1) (ax ay co.aJ) (aw G3 co.aI.length ng3) (az ⟨co.at_.toArray⟩) (aw F3 fs.length cF3)) (zO HB8.o (show gb<=gb+1 by omega) (aw X6 (kz s i x).aE.length cX6) (aw Y6 (kz s i x).aF.length dY6) (ax ay s.aH) (ax ay k1) (ax ay co.aJ) (aw G3 co.aI.length ng3) (az ⟨co.at_.toArray⟩) (aw F3 fs.length cF3));clear hO hR;go_wp2_with fail;have hk1:k1=(((kz s i x).aG:Nat):Int):=HK1.o;clear HK1;subst hk1;have hb5:gb<=w5.heap.size:=wj
 have hb1:gb<=w1.heap.size:=wj
 refine bodyPost_ret (yi rfl _ _ (gb+1) _ _ _ _ wu HFN.o underlying33 rfl wm) rfl ?_;exact⟨_,_,_,_,_,rfl,⟨(HS9.o.lower hb5).mono (fun b hb=>wj),zb HC9.o hb1,HF9.o.lower hb1⟩,zb HP9.o hb5,HB9.o⟩
theorem U8 (A:ae) (c:Nat) (fs:List FlP) (key:ac) (n:Int) (w:World) (hG:GoodF fs) (hf:Fls w A fs) (hc:fs.length<=c) (hm:c<=maxLen) (hk:hexC key=0) (hks:key.length<=1000) (h1:1<=n) (h2:n<=1000) :
  Calls zZZ 167 #[aw A fs.length c,az ⟨key.toArray⟩,ax ay n] w fun e w'=>∃v,e= .returned (.tuple #[v,.bool (ym fs key n).2.1,ax ay ((ym fs key n).2.2:Int)])/\FlsO w' w.heap.size v (ym fs key n).1/\Below w.heap.size w w':=by
 have hkk:(⟨key.toArray⟩:ByteArray).data.toList=key:=List.toList_toArray;have hsz:(⟨key.toArray⟩:ByteArray).size<=140737488351232:=by show key.toArray.size<=_;rw [List.size_toArray];omega
 have hno:∀ {w':World},FlsO w' w.heap.size (aw aB 0 0) []:=fun {w'}=>FlsO.nil_ _ _ _ (World.ownsRow_nil _ _ _ _);unfold ym;cases hfn:fnd 0 fs key with
 | none =>
  simp only;by_cases h6:fs.length=6
  ·rw [if_pos h6];exact(YM A c fs ⟨key.toArray⟩ n w hG hf hc hm (by rw [hkk];exact hk) hsz h1 h2 (by rw [hkk];exact hfn) h6).mono fun e w' ⟨he,hb⟩=>⟨_,he,hno,hb⟩
  ·rw [if_neg h6];have h:=U9 A c fs ⟨key.toArray⟩ n w hG hf hc hm (by rw [hkk];exact hk) hsz h1 h2 (by rw [hkk];exact hfn) (by have:=hG.len;omega);rw [hkk]at h;exact h
 | some i =>
  obtain⟨hi,_⟩:=yd hfn;simp only [List.getElem?_eq_getElem hi];by_cases hin:(fs[i].lead::fs[i].wait).contains n=true
  ·rw [if_pos hin];exact(z01 A c fs ⟨key.toArray⟩ n i w hG hf hc hm (by rw [hkk];exact hk) hsz h1 h2 (by rw [hkk];exact hfn) hi hin).mono fun e w' ⟨he,hb⟩=>⟨_,he,hno,hb⟩
  ·rw [if_neg hin];have hin':(fs[i].lead::fs[i].wait).contains n=false:=by simpa using hin
   by_cases h5:fs[i].wait.length=5
   ·rw [if_pos h5];exact(YN A c fs ⟨key.toArray⟩ n i w hG hf hc hm (by rw [hkk];exact hk) hsz h1 h2 (by rw [hkk];exact hfn) hi hin' h5).mono fun e w' ⟨he,hb⟩=>⟨_,he,hno,hb⟩
   ·rw [if_neg h5];exact YO A c fs ⟨key.toArray⟩ n i w hG hf hc hm (by rw [hkk];exact hk) hsz h1 h2 (by rw [hkk];exact hfn) hi hin' (by have:=hG.few i hi;omega)
theorem KH (p:LoW) (l:LoP) (key:ac) (n:Int) (w:World) (hg:GoodL l) (hr:RdLo w p l) (hf:l.st.aF.findIdx? (fun x=>x.key==key)=aB) (hk:hexC key=0) (hkl:key.length<=1000) (h1:1<=n) (h2:n<=1000) (fs2:List FlP) (lead:Bool) (q:Nat) (hj:ym l.fs key n=(fs2,lead,q)) :
  Calls zZZ 131 #[loV p l,az ⟨key.toArray⟩,ax ay n] w fun e w'=>∃v1 v2 v3 v4,e= .returned (.tuple #[Yc v1 v2 v3 v4 (if q=0 then { l with fs:=fs2 } else loZ),aw aB 0 0,.bool (if q=0 then lead else false),ax ay q])/\OwLo w' w.heap.size v1 v2 v3 v4 (if q=0 then { l with fs:=fs2 } else loZ) (fun b=>b<w.heap.size)/\Below w.heap.size w w':=by
 obtain⟨X,cX,Y,dY,G,ng,F,cF⟩:=p;obtain⟨s,co,fs⟩:=l;have hgs:GoodS s:=hg.s;have hlb:s.aE.length<=24:=hgs.b.len;have hle:s.aF.length<=10:=hgs.e.len;have hlf:fs.length<=6:=hg.f.len;have hcm:cF<=maxLen:=hr.fm;obtain⟨w1,hw1,hP,hR,hbx⟩:=zn w 33 33 [aw X s.aE.length cX,aw Y s.aF.length dY,ax ay s.aH,ax ay s.aG,ax ay co.aJ,aw G co.aI.length ng,az ⟨co.at_.toArray⟩,aw F fs.length cF] [aw aB 0 0,aw aB 0 0,ax ay 0,ax ay 0,ax ay 0,aw aB 0 0,az ⟨#[]⟩,aw aB 0 0];have hr1:=hr.below hbx;have HCK:=sqH (vQ ⟨X,cX,Y,dY,G,ng,F,cF⟩ ⟨s,co,fs⟩ w1 hg hr1);have HRD:=sqH (fun W (h:Below w1.heap.size w1 W)=>hr1.below h);obtain⟨gb,hgb⟩:=wU w.heap.size
 rw [<-hgb]at hP hR hbx ⊢
 have HPX:=sqH (show ∀W,Below w1.heap.size w1 W->Arr W gb 33 [aw X s.aE.length cX,aw Y s.aF.length dY,ax ay s.aH,ax ay s.aG,ax ay co.aJ,aw G co.aI.length ng,az ⟨co.at_.toArray⟩,aw F fs.length cF]/\Arr W (gb+1) 33 [aw aB 0 0,aw aB 0 0,ax ay 0,ax ay 0,ax ay 0,aw aB 0 0,az ⟨#[]⟩,aw aB 0 0] from fun W h=>⟨hP.below h,hR.below h⟩);have hg1:gb+1<w1.heap.size:=hR.lt;obtain⟨HG,HGS,HBX,HW1,HGB⟩:=sqJ5 hg hgs hbx hw1 hgb;clear hg hgs hr hr1 hP hR hbx hw1 hgb;go_enter func131,ntmps131
 refine wH ?_;intros
 rw [<-HW1.o,<-HGB.o];clear HW1;refine wV HCK.o fun w2 hb2=>?_;dsimp only;clear HCK;have HB2:=sqH hb2;have HCP:=sqH (vR ⟨X,cX,Y,dY,G,ng,F,cF⟩ ⟨s,co,fs⟩ w2 HG.o (HRD.o w2 HB2.o));obtain⟨x0,x1,x2,x3,x4,x5,x6,x7⟩:=sqC8 ((HPX.o _ HB2.o).1)
 refine wH ?_;intros
 refine HCP.o.mono ?_;rintro e_ w3 ⟨v1,v2,v3,v4,rfl,ho3,hb3⟩;dsimp only;obtain⟨⟨X3,cX3,Y3,dY3,G3,ng3,F3,cF3⟩,rfl,rfl,rfl,rfl,hrd3⟩:=ho3.rd;clear x0 x1 x2 x3 x4 x5 x6 x7 HCP;obtain⟨w4,hw4⟩:=wU (w3.alloc (.cells #[aw X3 s.aE.length cX3,aw Y3 s.aF.length dY3,ax ay s.aH,ax ay s.aG,ax ay co.aJ,aw G3 co.aI.length ng3,az ⟨co.at_.toArray⟩,aw F3 fs.length cF3] 33))
 have hO4:Arr w4 w3.heap.size 33 [aw X3 s.aE.length cX3,aw Y3 s.aF.length dY3,ax ay s.aH,ax ay s.aG,ax ay co.aJ,aw G3 co.aI.length ng3,az ⟨co.at_.toArray⟩,aw F3 fs.length cF3]:=by rw [hw4];exact Arr.new w3 33 _
 have hb34:Below w3.heap.size w3 w4:=by rw [hw4];exact(Below.refl _ _).alloc ab _
 have hb13:=wg HB2.o hb3;have hb14:=wg hb13 hb34;obtain⟨go,hgo⟩:=wU w3.heap.size
 rw [<-hgo]at hO4;have hgl:w1.heap.size<=go:=by rw [hgo];exact hb13.size
 have hgl4:go<w4.heap.size:=hO4.lt;have ho4:=((ho3.wider (N':=fun b=>b<w1.heap.size\/b=go) (fun b hb=>hb.elim (fun h=> .inl (Nat.lt_of_lt_of_le h HB2.o.size)) (fun h=> .inr (by rw [h,hgo];exact Nat.le_refl _)))).below hb34).lower (b':=w1.heap.size) HB2.o.size;obtain⟨HO4,HOB,HB14,HBO,HW4,HGO⟩:=sqJ6 ho4 hO4 hb14 (wg hb3 hb34) hw4 hgo;clear ho3 hb3 hrd3 hO4 hb34 hb13 hb14 ho4 hw4 hgo
 refine wJ 5 ?_;intros
 rw [<-HW4.o,<-HGO.o];clear HW4;have hfe:=kG Y dY s.aF key w4 wj (HRD.o w4 HB14.o).s.e;rw [hf]at hfe;dsimp only [xn]at hfe;have hjn:=fun W (h:Below w1.heap.size w1 W)=>U8 F cF fs key n W HG.o.f (HRD.o W h).f (HRD.o W h).fc (HRD.o W h).fm hk hkl h1 h2;dsimp only at hj;simp only [hj]at hjn;have HFE:=sqH hfe;have HJN:=sqH hjn;clear hfe hjn hf hk hkl h1 h2 hj;obtain⟨x0,x1,x2,x3,x4,x5,x6,x7⟩:=sqC8 ((HPX.o _ HB14.o).1)
 refine wH ?_;intros
 refine wV HFE.o fun w5 hb5=>?_;dsimp only;have hb15:=wg HB14.o hb5;clear x0 x1 x2 x3 x4 x5 x6 x7;obtain⟨x0,x1,x2,x3,x4,x5,x6,x7⟩:=sqC8 ((HPX.o _ hb15).1);obtain⟨HJN5,HB15,HOB5,HO5⟩:=sqJ4 (HJN.o w5 hb15) hb15 (HOB.o.below hb5) (HO4.o.below hb5);have hgl5:go<w5.heap.size:=HOB5.o.lt;clear hb5 hb15 HJN HFE HOB HO4
 refine wH ?_;intros
 clear x0 x1 x2 x3 x4 x5 x6 x7;refine HJN5.o.mono ?_;rintro e_ w6 ⟨v5,rfl,hf6,hb6⟩;dsimp only;obtain⟨F6,c6,rfl,_,_⟩:=hf6.fls;have hb16:=wg HB15.o hb6;by_cases hq:q=0
 rotate_left
 ·have hq1:((q:Int) != 0)=true:=by rw [bne_iff_ne];omega
  have HQ:=sqH hq;clear hq;have hR:=(HPX.o _ hb16).2;obtain⟨y0,y1,y2,y3,y4,y5,y6,y7⟩:=sqC8 hR;obtain⟨f0,f1,f2,f3,f4,f5,f6,f7⟩:=sqF8 hR;have HFN:=sqH (hR.all8 (aw aB 0 0) (aw aB 0 0) (ax ay 0) (ax ay 0) (ax ay 0) (aw aB 0 0) (az ⟨#[]⟩) (aw aB 0 0));have HB9:=sqH (zO (HBX.o.trans (Below.mono hb16 wj)) (show gb<=gb+1 by omega) (aw aB 0 0) (aw aB 0 0) (ax ay 0) (ax ay 0) (ax ay 0) (aw aB 0 0) (az ⟨#[]⟩) (aw aB 0 0));clear hR
  refine wH ?_;intros
  refine bodyPost_ret (yi rfl _ _ (gb+1) _ _ _ _ wu HFN.o underlying33 rfl wm) rfl ?_;rw [if_neg HQ.o,if_neg HQ.o];exact⟨_,_,_,_,rfl,OwLo.nil_,HB9.o⟩
 subst hq;have hO6:=HOB5.o.below hb6;have hR6:=(HPX.o _ hb16).2;have hbg:gb+1≠go:=wj
 have hgo1:gb<=go:=wj
 obtain⟨o0,o1,o2,o3,o4,o5,o6,o7⟩:=sqC8 hO6;obtain⟨m0,m1,m2,m3,m4,m5,m6,m7⟩:=sqF8 hO6;obtain⟨HO7,HR7,HL7,HF7,HB7⟩:=sqJ5 (hO6.set (k:=7) ws (aw F6 fs2.length c6)) (hR6.other hbg (k:=7) (aw F6 fs2.length c6)) ((HO5.o.below hb6).set1 (k:=7) hO6 (.inr rfl) (aw F6 fs2.length c6)) (hf6.set1 (k:=7) hO6 wo wo (aw F6 fs2.length c6)) (Below.setCell (p:=⟨go,7,aB⟩) (HBX.o.trans (hb16.mono wj)) hgo1 (aw F6 fs2.length c6));clear hO6 hR6 hf6 hb6 hb16 HJN5 HO5 HOB5
 refine wJ 18 ?_;intros
 clear o0 o1 o2 o3 o4 o5 o6 o7 m0 m1 m2 m3 m4 m5 m6 m7;generalize w6.setCell ⟨go,7,aB⟩ (aw F6 fs2.length c6)=w8 at *
 have hO:=HO7.o;have hR:=HR7.o;obtain⟨o0,o1,o2,o3,o4,o5,o6,o7⟩:=sqC8 hO;obtain⟨m0,m1,m2,m3,m4,m5,m6,m7⟩:=sqF8 hO;obtain⟨y0,y1,y2,y3,y4,y5,y6,y7⟩:=sqC8 hR;obtain⟨f0,f1,f2,f3,f4,f5,f6,f7⟩:=sqF8 hR;obtain⟨HFN,HL9,HF9,HB9⟩:=sqJ4 (hR.all8 (aw X3 s.aE.length cX3) (aw Y3 s.aF.length dY3) (ax ay s.aH) (ax ay s.aG) (ax ay co.aJ) (aw G3 co.aI.length ng3) (az ⟨co.at_.toArray⟩) (aw F6 fs2.length c6)) (HL7.o.set8 hR (.inl wj) (aw X3 s.aE.length cX3) (aw Y3 s.aF.length dY3) (ax ay s.aH) (ax ay s.aG) (ax ay co.aJ) (aw G3 co.aI.length ng3) (az ⟨co.at_.toArray⟩) (aw F6 fs2.length c6)) (HF7.o.set8 hR wo wo (aw X3 s.aE.length cX3) (aw Y3 s.aF.length dY3) (ax ay s.aH) (ax ay s.aG) (ax ay co.aJ) (aw G3 co.aI.length ng3) (az ⟨co.at_.toArray⟩) (aw F6 fs2.length c6)) (zO HB7.o (show gb<=gb+1 by omega) (aw X3 s.aE.length cX3) (aw Y3 s.aF.length dY3) (ax ay s.aH) (ax ay s.aG) (ax ay co.aJ) (aw G3 co.aI.length ng3) (az ⟨co.at_.toArray⟩) (aw F6 fs2.length c6));clear hO hR
 refine wH ?_;intros
 have hb5:gb<=w5.heap.size:=wj
 have hb1:gb<=w1.heap.size:=wj
 refine bodyPost_ret (yi rfl _ _ (gb+1) _ _ _ _ wu HFN.o underlying33 rfl wm) rfl ?_;rw [if_pos rfl,if_pos rfl];exact⟨_,_,_,_,rfl,⟨(HL9.o.s.lower hb1).mono (fun b hb=> .inl wj),zb HL9.o.c hb1,HF9.o.lower hb5⟩,HB9.o⟩
theorem VW (p:LoW) (l:LoP) (key:ac) (n:Int) (w:World) (hg:GoodL l) (hr:RdLo w p l) (hk:hexC key=0) (hkl:key.length<=1000) (h1:1<=n) (h2:n<=1000) (hclk:l.st.aG<1099511627776) :
  Calls zZZ 131 #[loV p l,az ⟨key.toArray⟩,ax ay n] w fun e w'=>∃v1 v2 v3 v4 vp,e= .returned (.tuple #[Yc v1 v2 v3 v4 (Zc l key n).1,vp,.bool (Zc l key n).2.2.1,ax ay ((Zc l key n).2.2.2:Int)])/\OwLo w' w.heap.size v1 v2 v3 v4 (Zc l key n).1 (fun b=>b<w.heap.size)/\w'.ownsRow w.heap.size 51 3 vp (Zc l key n).2.1.length (pcs (Zc l key n).2.1)/\Below w.heap.size w w':=by
 unfold Zc;cases hf:l.st.aF.findIdx? (fun x=>x.key==key) with
 | some i =>
  obtain⟨hi,_⟩:=jV hf;simp only [List.getElem?_eq_getElem hi];exact YE p l key n i l.st.aF[i] w hg hr (List.getElem?_eq_getElem hi) hf h1 h2 hclk
 | none =>
  simp only;refine(KH p l key n w hg hr hf hk hkl h1 h2 (ym l.fs key n).1 (ym l.fs key n).2.1 (ym l.fs key n).2.2 rfl).mono ?_;rintro e w' ⟨v1,v2,v3,v4,he,ho,hb⟩;by_cases hq:(ym l.fs key n).2.2=0
  ·rw [if_pos hq];rw [if_pos hq,if_pos hq]at he;rw [if_pos hq]at ho;rw [hq]at he;exact⟨v1,v2,v3,v4,_,he,ho,World.ownsRow_nil _ _ _ _,hb⟩
  ·rw [if_neg hq];rw [if_neg hq,if_neg hq]at he;rw [if_neg hq]at ho;exact⟨v1,v2,v3,v4,_,he,ho,World.ownsRow_nil _ _ _ _,hb⟩
theorem YD (A:ae) (c:Nat) (fs:List FlP) (key:ac) (w:World) (hG:GoodF fs) (hf:Fls w A fs) (hc:fs.length<=c) (hm:c<=maxLen) :
  Calls zZZ 168 #[aw A fs.length c,az ⟨key.toArray⟩] w fun e w'=>∃v u,e= .returned (.tuple #[v,u,ax ay ((xJ fs key).2.2:Int)])/\FlsO w' w.heap.size v (xJ fs key).1/\w'.ownsRow w.heap.size 3 1 u (xJ fs key).2.1.length (ins (xJ fs key).2.1)/\Below w.heap.size w w':=by
 have hkk:(⟨key.toArray⟩:ByteArray).data.toList=key:=List.toList_toArray;unfold xJ;cases hfn:fnd 0 fs key with
 | none =>
  exact(VR A c fs ⟨key.toArray⟩ w hG hf hc hm (by rw [hkk];exact hfn)).mono fun e w' ⟨he,hb⟩=>⟨_,_,he,FlsO.nil_ _ _ _ (World.ownsRow_nil _ _ _ _),World.ownsRow_nil _ _ _ _,hb⟩
 | some i =>
  obtain⟨hi,_⟩:=yd hfn;simp only [List.getElem?_eq_getElem hi];exact z2k A c fs ⟨key.toArray⟩ i w hG hf hc hm (by rw [hkk];exact hfn) hi
theorem Q9 (p:LoW) (l:LoP) (key:ac) (w:World) (hg:GoodL l) (hr:RdLo w p l) (fs2:List FlP) (who:List Int) (q:Nat) (hj:xJ l.fs key=(fs2,who,q)) :
  Calls zZZ 134 #[loV p l,az ⟨key.toArray⟩] w fun e w'=>∃v1 v2 v3 v4 u,e= .returned (.tuple #[Yc v1 v2 v3 v4 (if q=0 then { l with fs:=fs2 } else loZ),u,ax ay q])/\OwLo w' w.heap.size v1 v2 v3 v4 (if q=0 then { l with fs:=fs2 } else loZ) (fun b=>b<w.heap.size)/\w'.ownsRow w.heap.size 3 1 u (if q=0 then who else []).length (ins (if q=0 then who else []))/\Below w.heap.size w w':=by
 obtain⟨X,cX,Y,dY,G,ng,F,cF⟩:=p;obtain⟨s,co,fs⟩:=l;have hgs:GoodS s:=hg.s;have hlb:s.aE.length<=24:=hgs.b.len;have hle:s.aF.length<=10:=hgs.e.len;have hlf:fs.length<=6:=hg.f.len;have hcm:cF<=maxLen:=hr.fm;obtain⟨w1,hw1,hP,hR,hbx⟩:=zn w 33 33 [aw X s.aE.length cX,aw Y s.aF.length dY,ax ay s.aH,ax ay s.aG,ax ay co.aJ,aw G co.aI.length ng,az ⟨co.at_.toArray⟩,aw F fs.length cF] [aw aB 0 0,aw aB 0 0,ax ay 0,ax ay 0,ax ay 0,aw aB 0 0,az ⟨#[]⟩,aw aB 0 0];have hr1:=hr.below hbx;have HCK:=sqH (vQ ⟨X,cX,Y,dY,G,ng,F,cF⟩ ⟨s,co,fs⟩ w1 hg hr1);have HRD:=sqH (fun W (h:Below w1.heap.size w1 W)=>hr1.below h);obtain⟨gb,hgb⟩:=wU w.heap.size
 rw [<-hgb]at hP hR hbx ⊢
 have HPX:=sqH (show ∀W,Below w1.heap.size w1 W->Arr W gb 33 [aw X s.aE.length cX,aw Y s.aF.length dY,ax ay s.aH,ax ay s.aG,ax ay co.aJ,aw G co.aI.length ng,az ⟨co.at_.toArray⟩,aw F fs.length cF]/\Arr W (gb+1) 33 [aw aB 0 0,aw aB 0 0,ax ay 0,ax ay 0,ax ay 0,aw aB 0 0,az ⟨#[]⟩,aw aB 0 0] from fun W h=>⟨hP.below h,hR.below h⟩);have hg1:gb+1<w1.heap.size:=hR.lt;obtain⟨HG,HGS,HBX,HW1,HGB⟩:=sqJ5 hg hgs hbx hw1 hgb;clear hg hgs hr hr1 hP hR hbx hw1 hgb;go_enter func134,ntmps134
 refine wH ?_;intros
 rw [<-HW1.o,<-HGB.o];clear HW1;refine wV HCK.o fun w2 hb2=>?_;dsimp only;clear HCK;have HB2:=sqH hb2;have hen:=YD F cF fs key w2 HG.o.f (HRD.o w2 hb2).f (HRD.o w2 hb2).fc (HRD.o w2 hb2).fm;dsimp only at hj;simp only [hj]at hen;have HEN:=sqH hen;clear hen hj;obtain⟨x0,x1,x2,x3,x4,x5,x6,x7⟩:=sqC8 ((HPX.o _ hb2).1)
 refine wH ?_;intros
 clear x0 x1 x2 x3 x4 x5 x6 x7;refine HEN.o.mono ?_;rintro e_ wE ⟨v5,u5,rfl,hf6,hu6,hb6⟩;dsimp only;obtain⟨F6,c6,rfl,_,_⟩:=hf6.fls;obtain⟨U6,d6,rfl,_,_⟩:=Rd.of_own' hu6;have hbE:=wg hb2 hb6;have hsE:w2.heap.size<=wE.heap.size:=hb6.size;have hs2:w1.heap.size<=w2.heap.size:=hb2.size;by_cases hq:q=0
 rotate_left
 ·have hq1:((q:Int) != 0)=true:=by rw [bne_iff_ne];omega
  have HQ:=sqH hq;clear hq;have hR:=(HPX.o _ hbE).2;obtain⟨y0,y1,y2,y3,y4,y5,y6,y7⟩:=sqC8 hR;obtain⟨f0,f1,f2,f3,f4,f5,f6,f7⟩:=sqF8 hR;have HFN:=sqH (hR.all8 (aw aB 0 0) (aw aB 0 0) (ax ay 0) (ax ay 0) (ax ay 0) (aw aB 0 0) (az ⟨#[]⟩) (aw aB 0 0));have HB9:=sqH (zO (HBX.o.trans (Below.mono hbE wj)) (show gb<=gb+1 by omega) (aw aB 0 0) (aw aB 0 0) (ax ay 0) (ax ay 0) (ax ay 0) (aw aB 0 0) (az ⟨#[]⟩) (aw aB 0 0));clear hR
  refine wH ?_;intros
  refine bodyPost_ret (zz rfl _ _ (gb+1) _ _ _ _ wu HFN.o underlying33 rfl wm) rfl ?_;rw [if_neg HQ.o,if_neg HQ.o];exact⟨_,_,_,_,_,rfl,OwLo.nil_,World.ownsRow_nil _ _ _ _,HB9.o⟩
 subst hq;obtain⟨HBE,HF6,HU6⟩:=sqJ3 hbE hf6 hu6;clear hf6 hu6 hb6 HEN;have HCP:=sqH (vR ⟨X,cX,Y,dY,G,ng,F,cF⟩ ⟨s,co,fs⟩ wE HG.o (HRD.o wE HBE.o));obtain⟨x0,x1,x2,x3,x4,x5,x6,x7⟩:=sqC8 ((HPX.o _ HBE.o).1)
 refine wH ?_;intros
 refine HCP.o.mono ?_;rintro e_ w3 ⟨v1,v2,v3,v4,rfl,ho3,hb3⟩;dsimp only;obtain⟨⟨X3,cX3,Y3,dY3,G3,ng3,F3,cF3⟩,rfl,rfl,rfl,rfl,hrd3⟩:=ho3.rd;clear x0 x1 x2 x3 x4 x5 x6 x7 HCP;obtain⟨w4,hw4⟩:=wU (w3.alloc (.cells #[aw X3 s.aE.length cX3,aw Y3 s.aF.length dY3,ax ay s.aH,ax ay s.aG,ax ay co.aJ,aw G3 co.aI.length ng3,az ⟨co.at_.toArray⟩,aw F3 fs.length cF3] 33))
 have hO4:Arr w4 w3.heap.size 33 [aw X3 s.aE.length cX3,aw Y3 s.aF.length dY3,ax ay s.aH,ax ay s.aG,ax ay co.aJ,aw G3 co.aI.length ng3,az ⟨co.at_.toArray⟩,aw F3 fs.length cF3]:=by rw [hw4];exact Arr.new w3 33 _
 have hb34:Below w3.heap.size w3 w4:=by rw [hw4];exact(Below.refl _ _).alloc ab _
 have hb13:=wg HBE.o hb3;have hb14:=wg hb13 hb34;obtain⟨go,hgo⟩:=wU w3.heap.size
 rw [<-hgo]at hO4;have hgl:w1.heap.size<=go:=by rw [hgo];exact hb13.size
 have hgl4:go<w4.heap.size:=hO4.lt;have ho4:=((ho3.wider (N':=fun b=>b<w1.heap.size\/b=go) (fun b hb=>hb.elim (fun h=> .inl (Nat.lt_of_lt_of_le h HBE.o.size)) (fun h=> .inr (by rw [h,hgo];exact Nat.le_refl _)))).below hb34).lower (b':=w1.heap.size) HBE.o.size;obtain⟨HO4,HOB,HB14,HBO,HW4,HGO⟩:=sqJ6 ho4 hO4 hb14 (wg hb3 hb34) hw4 hgo;clear ho3 hb3 hrd3 hO4 hb34 hb13 hb14 ho4 hw4 hgo
 refine wJ 8 ?_;intros
 rw [<-HW4.o,<-HGO.o];clear HW4;have hO4:=HOB.o;have hR4:=(HPX.o _ HB14.o).2;have hbg:gb+1≠go:=wj
 have hgo1:gb<=go:=wj
 obtain⟨o0,o1,o2,o3,o4,o5,o6,o7⟩:=sqC8 hO4;obtain⟨m0,m1,m2,m3,m4,m5,m6,m7⟩:=sqF8 hO4;have hfe:=HF6.o.below HBO.o;have hue:=zc HU6.o HBO.o;obtain⟨HO7,HR7,HL7,HF7,HU7,HB7⟩:=sqJ6 (hO4.set (k:=7) ws (aw F6 fs2.length c6)) (hR4.other hbg (k:=7) (aw F6 fs2.length c6)) (HO4.o.set1 (k:=7) hO4 (.inr rfl) (aw F6 fs2.length c6)) (hfe.set1 (k:=7) hO4 wo wo (aw F6 fs2.length c6)) (zd hue (zf hue hO4 wo) (k:=7) (u:= aw F6 fs2.length c6)) (Below.setCell (p:=⟨go,7,aB⟩) (HBX.o.trans (HB14.o.mono wj)) hgo1 (aw F6 fs2.length c6));clear hO4 hR4 hfe hue
 refine wJ 9 ?_;intros
 clear o0 o1 o2 o3 o4 o5 o6 o7 m0 m1 m2 m3 m4 m5 m6 m7;generalize w4.setCell ⟨go,7,aB⟩ (aw F6 fs2.length c6)=w8 at *
 have hO:=HO7.o;have hR:=HR7.o;obtain⟨o0,o1,o2,o3,o4,o5,o6,o7⟩:=sqC8 hO;obtain⟨m0,m1,m2,m3,m4,m5,m6,m7⟩:=sqF8 hO;obtain⟨y0,y1,y2,y3,y4,y5,y6,y7⟩:=sqC8 hR;obtain⟨f0,f1,f2,f3,f4,f5,f6,f7⟩:=sqF8 hR;obtain⟨HFN,HL9,HF9,HU9,HB9⟩:=sqJ5 (hR.all8 (aw X3 s.aE.length cX3) (aw Y3 s.aF.length dY3) (ax ay s.aH) (ax ay s.aG) (ax ay co.aJ) (aw G3 co.aI.length ng3) (az ⟨co.at_.toArray⟩) (aw F6 fs2.length c6)) (HL7.o.set8 hR (.inl wj) (aw X3 s.aE.length cX3) (aw Y3 s.aF.length dY3) (ax ay s.aH) (ax ay s.aG) (ax ay co.aJ) (aw G3 co.aI.length ng3) (az ⟨co.at_.toArray⟩) (aw F6 fs2.length c6)) (HF7.o.set8 hR wo wo (aw X3 s.aE.length cX3) (aw Y3 s.aF.length dY3) (ax ay s.aH) (ax ay s.aG) (ax ay co.aJ) (aw G3 co.aI.length ng3) (az ⟨co.at_.toArray⟩) (aw F6 fs2.length c6)) (q8 HU7.o (zf HU7.o hR wo) (aw X3 s.aE.length cX3) (aw Y3 s.aF.length dY3) (ax ay s.aH) (ax ay s.aG) (ax ay co.aJ) (aw G3 co.aI.length ng3) (az ⟨co.at_.toArray⟩) (aw F6 fs2.length c6)) (zO HB7.o (show gb<=gb+1 by omega) (aw X3 s.aE.length cX3) (aw Y3 s.aF.length dY3) (ax ay s.aH) (ax ay s.aG) (ax ay co.aJ) (aw G3 co.aI.length ng3) (az ⟨co.at_.toArray⟩) (aw F6 fs2.length c6));clear hO hR
 refine wH ?_;intros
 have hb5:gb<=w2.heap.size:=wj
 have hb1:gb<=w1.heap.size:=wj
 refine bodyPost_ret (zz rfl _ _ (gb+1) _ _ _ _ wu HFN.o underlying33 rfl wm) rfl ?_;rw [if_pos rfl,if_pos rfl];exact⟨_,_,_,_,_,rfl,⟨(HL9.o.s.lower hb1).mono (fun b hb=> .inl wj),zb HL9.o.c hb1,HF9.o.lower hb5⟩,zb HU9.o hb5,HB9.o⟩
theorem QP (A:ae) (c:Nat) (B:ae) (d:Nat) (s:StoP) (Ag:ae) (ng:Nat) (cp:ColP) (key:ac) (ps:List PartP) (PA:ae) (pc:Nat) (w:World) (hg:GoodS s) (hr:RdSt w A c B d s) (hgl:cp.aI.length<=1000) (hgc:GoodC s cp) (hc:RdC w Ag ng cp) (hk:hexC key=0) (hpz:chk ps=0) (hclk:s.aG<1099511627776) (hlen:s.aF.length<10) (hP:Sl w 3 PA ps.length pc (pcs ps)) :
  Calls zZZ 161 #[.agg #[aw A s.aE.length c,aw B s.aF.length d,ax ay s.aH,ax ay s.aG],coV (aw Ag cp.aI.length ng) cp,az ⟨key.toArray⟩,aw PA ps.length pc] w fun e w' =>
   ∃v1 v2 v3,e= .returned (.tuple #[stV v1 v2 (qX s cp key ps).1,coV v3 (qX s cp key ps).2.1,ax ay ((qX s cp key ps).2.2:Int)])/\OwSt w' w.heap.size v1 v2 (qX s cp key ps).1 (fun b=>b<w.heap.size)/\w'.ownsRow w.heap.size 9 1 v3 (qX s cp key ps).2.1.aI.length (strs (qX s cp key ps).2.1.aI)/\Below w.heap.size w w':=by
 unfold qX;by_cases hh:qQ s.aE ps=0
 ·rw [if_pos hh];refine(JK A c B d s Ag ng cp key ps PA pc w hg hr hgl hgc hc hk hpz hh hclk hlen hP _ rfl (jd hg hk hpz (yz hh) hclk hlen)).mono ?_;rintro e w' ⟨v1,v2,v3,he,ho,hl,hb⟩;obtain⟨r1,r2⟩:=jX (vu s key ps) cp (ps.map (·.dig));refine⟨v1,v2,v3,?_,ho,hl,hb⟩;rw [he];simp only [stV];rw [r1,r2];rfl
 ·rw [if_neg hh];refine(JJ A c B d s Ag ng cp key ps.length pc PA (qQ s.aE ps:Int) w hg hr hgl hgc hc wj (fun W h=>Qk A c B d s key ps PA pc _ W hg (hr.below h) hk hpz rfl hh (hP.below h))).mono ?_;rintro e w' ⟨he,hb⟩;exact⟨aw aB 0 0,aw aB 0 0,aw aB 0 0,he,⟨RwX.nil_ (World.ownsRow_nil _ _ _ _),RwX.nil_ (World.ownsRow_nil _ _ _ _),fun g h=>by cases h⟩,World.ownsRow_nil _ _ _ _,hb⟩
theorem YF (p:LoW) (l:LoP) (key:ac) (ps:List PartP) (PA:ae) (pc:Nat) (w:World) (hg:GoodL l) (hr:RdLo w p l) (hk:hexC key=0) (hpz:chk ps=0) (hclk:l.st.aG<1099511627776) (hlen:l.st.aF.length<10) (hP:Sl w 3 PA ps.length pc (pcs ps)) (fs2:List FlP) (who:List Int) (q:Nat) (hj:xJ l.fs key=(fs2,who,q)) (t:StoP) (c2:ColP) (z:Nat) (hbj:qX l.st l.co key ps=(t,c2,z)) (b:Bool) (hb:b=decide (q=0/\z=0)) :
  Calls zZZ 133 #[loV p l,az ⟨key.toArray⟩,aw PA ps.length pc] w fun e w'=>∃v1 v2 v3 v4 u,e= .returned (.tuple #[Yc v1 v2 v3 v4 (if b then ⟨t,c2,fs2⟩ else loZ),u,ax ay ((if q=0 then z else q:Nat):Int)])/\OwLo w' w.heap.size v1 v2 v3 v4 (if b then ⟨t,c2,fs2⟩ else loZ) (fun b=>b<w.heap.size)/\w'.ownsRow w.heap.size 3 1 u (if b then who else []).length (ins (if b then who else []))/\Below w.heap.size w w':=by
 obtain⟨HPS0,HKX,HBD⟩:=sqJ3 (fun W (h:Below w.heap.size w W)=>hP.below h) (aD hk (aD hpz (aD hclk hlen))) hb;clear hP hk hpz hclk hlen hb;obtain⟨X,cX,Y,dY,G,ng,F,cF⟩:=p;obtain⟨s,co,fs⟩:=l;have hgs:GoodS s:=hg.s;have hlb:s.aE.length<=24:=hgs.b.len;have hle:s.aF.length<=10:=hgs.e.len;have hlf:fs.length<=6:=hg.f.len;have hcm:cF<=maxLen:=hr.fm;obtain⟨w1,hw1,hP,hR,hbx⟩:=zn w 33 33 [aw X s.aE.length cX,aw Y s.aF.length dY,ax ay s.aH,ax ay s.aG,ax ay co.aJ,aw G co.aI.length ng,az ⟨co.at_.toArray⟩,aw F fs.length cF] [aw aB 0 0,aw aB 0 0,ax ay 0,ax ay 0,ax ay 0,aw aB 0 0,az ⟨#[]⟩,aw aB 0 0];have hr1:=hr.below hbx;have HCK:=sqH (vQ ⟨X,cX,Y,dY,G,ng,F,cF⟩ ⟨s,co,fs⟩ w1 hg hr1);have HRD:=sqH (fun W (h:Below w1.heap.size w1 W)=>hr1.below h);obtain⟨gb,hgb⟩:=wU w.heap.size
 rw [<-hgb]at hP hR hbx ⊢
 have HPX:=sqH (show ∀W,Below w1.heap.size w1 W->Arr W gb 33 [aw X s.aE.length cX,aw Y s.aF.length dY,ax ay s.aH,ax ay s.aG,ax ay co.aJ,aw G co.aI.length ng,az ⟨co.at_.toArray⟩,aw F fs.length cF]/\Arr W (gb+1) 33 [aw aB 0 0,aw aB 0 0,ax ay 0,ax ay 0,ax ay 0,aw aB 0 0,az ⟨#[]⟩,aw aB 0 0] from fun W h=>⟨hP.below h,hR.below h⟩);have hg1:gb+1<w1.heap.size:=hR.lt;obtain⟨HG,HGS,HBX,HW1,HGB⟩:=sqJ5 hg hgs hbx hw1 hgb;clear hg hgs hr hr1 hP hR hbx hw1 hgb;go_enter func133,ntmps133
 refine wH ?_;intros
 rw [<-HW1.o,<-HGB.o];clear HW1;refine wV HCK.o fun w2 hb2=>?_;dsimp only;clear HCK;obtain⟨HB2,HPS,HBJ⟩:=sqJ3 hb2 (fun W (h:Below gb w W)=>HPS0.o W (by rw [<-HGB.o];exact h)) hbj;have hen:=YD F cF fs key w2 HG.o.f (HRD.o w2 hb2).f (HRD.o w2 hb2).fc (HRD.o w2 hb2).fm;dsimp only at hj;simp only [hj]at hen;have HEN:=sqH hen;clear hen hj hbj HPS0;obtain⟨x0,x1,x2,x3,x4,x5,x6,x7⟩:=sqC8 ((HPX.o _ hb2).1)
 refine wH ?_;intros
 clear x0 x1 x2 x3 x4 x5 x6 x7;refine HEN.o.mono ?_;rintro e_ wE ⟨v5,u5,rfl,hf6,hu6,hb6⟩;dsimp only;obtain⟨F6,c6,rfl,_,_⟩:=hf6.fls;obtain⟨U6,d6,rfl,_,_⟩:=Rd.of_own' hu6;have hbE:=wg hb2 hb6;have hsE:w2.heap.size<=wE.heap.size:=hb6.size;have hs2:w1.heap.size<=w2.heap.size:=hb2.size;by_cases hq:q=0
 rotate_left
 ·have hq1:((q:Int) != 0)=true:=by rw [bne_iff_ne];omega
  have HQ:=sqH hq;clear hq;have hR:=(HPX.o _ hbE).2;obtain⟨y0,y1,y2,y3,y4,y5,y6,y7⟩:=sqC8 hR;obtain⟨f0,f1,f2,f3,f4,f5,f6,f7⟩:=sqF8 hR;have HFN:=sqH (hR.all8 (aw aB 0 0) (aw aB 0 0) (ax ay 0) (ax ay 0) (ax ay 0) (aw aB 0 0) (az ⟨#[]⟩) (aw aB 0 0));have HB9:=sqH (zO (HBX.o.trans (Below.mono hbE wj)) (show gb<=gb+1 by omega) (aw aB 0 0) (aw aB 0 0) (ax ay 0) (ax ay 0) (ax ay 0) (aw aB 0 0) (az ⟨#[]⟩) (aw aB 0 0));clear hR
  refine wH ?_;intros
  refine bodyPost_ret (zz rfl _ _ (gb+1) _ _ _ _ wu HFN.o underlying33 rfl wm) rfl ?_;have hbb:b=false:=by rw [HBD.o];exact decide_eq_false (fun h=>HQ.o h.1)
  rw [hbb,if_neg HQ.o];exact⟨_,_,_,_,_,rfl,OwLo.nil_,World.ownsRow_nil _ _ _ _,HB9.o⟩
 subst hq;obtain⟨HBE,HF6,HU6⟩:=sqJ3 hbE hf6 hu6;have hbw:=HBX.o.trans (hbE.mono (show gb<=w1.heap.size by omega));clear hf6 hu6 hb6 HEN;have hbp:=QP X cX Y dY s G ng co key ps PA pc wE HGS.o (HRD.o _ hbE).s HG.o.g HG.o.c (HRD.o _ hbE).c HKX.o.1 HKX.o.2.1 HKX.o.2.2.1 HKX.o.2.2.2 (HPS.o _ hbw);simp only [HBJ.o]at hbp;have HBP:=sqH hbp;clear hbp;obtain⟨x0,x1,x2,x3,x4,x5,x6,x7⟩:=sqC8 ((HPX.o _ hbE).1)
 refine wH ?_;intros
 clear x0 x1 x2 x3 x4 x5 x6 x7;refine HBP.o.mono ?_;rintro e_ w7 ⟨v7,u7,t7,rfl,ho7,hl7,hb7⟩;dsimp only;obtain⟨X7,cX7,Y7,dY7,rfl,rfl,hr7⟩:=ho7.rows;obtain⟨G7,ng7,rfl,hc7⟩:=RdC.of_own (c:=c2) hl7;obtain⟨w9,hw9,hS9,hC9,hb79⟩:=zn w7 27 30 [aw X7 t.aE.length cX7,aw Y7 t.aF.length dY7,ax ay t.aH,ax ay t.aG] [ax ay c2.aJ,aw G7 c2.aI.length ng7,az ⟨c2.at_.toArray⟩];have hbq:=wg hb7 hb79;have hb19:=(hbE).trans (hbq.mono (hbE).size);have HW9:=sqH hw9;obtain⟨gs,hgs⟩:=wU w7.heap.size
 have HGQ:=sqH hgs;rw [<-hgs]at hS9 hC9;obtain⟨HSC,HO9,HL9,HBQ,HB19⟩:=sqJ5 (show ∀W,Below w9.heap.size w9 W->Arr W gs 27 [aw X7 t.aE.length cX7,aw Y7 t.aF.length dY7,ax ay t.aH,ax ay t.aG]/\Arr W (gs+1) 30 [ax ay c2.aJ,aw G7 c2.aI.length ng7,az ⟨c2.at_.toArray⟩] from fun W h=>⟨hS9.below h,hC9.below h⟩) (ho7.below hb79) (zc hl7 hb79) hbq hb19;clear hw9 hgs hS9 hC9 ho7 hl7 hr7 hc7 hb7 hb79 hbq hb19 HBP
 refine wJ 8 ?_;intros
 rw [<-HW9.o,<-HGQ.o];clear HW9;by_cases hz:z=0
 rotate_left
 ·have hz1:((z:Int) != 0)=true:=by rw [bne_iff_ne];omega
  have HZ:=sqH hz;clear hz;have hR:=(HPX.o _ HB19.o).2;obtain⟨y0,y1,y2,y3,y4,y5,y6,y7⟩:=sqC8 hR;obtain⟨f0,f1,f2,f3,f4,f5,f6,f7⟩:=sqF8 hR;have HFN:=sqH (hR.all8 (aw aB 0 0) (aw aB 0 0) (ax ay 0) (ax ay 0) (ax ay 0) (aw aB 0 0) (az ⟨#[]⟩) (aw aB 0 0));have HB9:=sqH (zO (HBX.o.trans (Below.mono HB19.o wj)) (show gb<=gb+1 by omega) (aw aB 0 0) (aw aB 0 0) (ax ay 0) (ax ay 0) (ax ay 0) (aw aB 0 0) (az ⟨#[]⟩) (aw aB 0 0));clear hR
  refine wH ?_;intros
  refine bodyPost_ret (zz rfl _ _ (gb+1) _ _ _ _ wu HFN.o underlying33 rfl wm) rfl ?_;have hbb:b=false:=by rw [HBD.o];exact decide_eq_false (fun h=>HZ.o h.2)
  rw [hbb,if_pos rfl];exact⟨_,_,_,_,_,rfl,OwLo.nil_,World.ownsRow_nil _ _ _ _,HB9.o⟩
 subst hz;have hsc:=HSC.o _ (Below.refl _ _);obtain⟨s0,s1,s2,s3⟩:=sqC4 hsc.1;obtain⟨t0,t1,t2⟩:=sqC3 hsc.2;have hR:=(HPX.o _ HB19.o).2;obtain⟨y0,y1,y2,y3,y4,y5,y6,y7⟩:=sqC8 hR;obtain⟨f0,f1,f2,f3,f4,f5,f6,f7⟩:=sqF8 hR;have hse:=HBQ.o.size;have hfe:=HF6.o.below HBQ.o;have hue:=zc HU6.o HBQ.o;obtain⟨HFN,HS9,HC9,HF9,HU9,HB9⟩:=sqJ6 (hR.all8 (aw X7 t.aE.length cX7) (aw Y7 t.aF.length dY7) (ax ay t.aH) (ax ay t.aG) (ax ay c2.aJ) (aw G7 c2.aI.length ng7) (az ⟨c2.at_.toArray⟩) (aw F6 fs2.length c6)) (HO9.o.set8N (show gb+1<wE.heap.size by omega) (HO9.o.nb hR wo wo).1 (HO9.o.nb hR wo wo).2 (aw X7 t.aE.length cX7) (aw Y7 t.aF.length dY7) (ax ay t.aH) (ax ay t.aG) (ax ay c2.aJ) (aw G7 c2.aI.length ng7) (az ⟨c2.at_.toArray⟩) (aw F6 fs2.length c6)) (q8 HL9.o (zf HL9.o hR wo) (aw X7 t.aE.length cX7) (aw Y7 t.aF.length dY7) (ax ay t.aH) (ax ay t.aG) (ax ay c2.aJ) (aw G7 c2.aI.length ng7) (az ⟨c2.at_.toArray⟩) (aw F6 fs2.length c6)) (hfe.set8 hR wo wo (aw X7 t.aE.length cX7) (aw Y7 t.aF.length dY7) (ax ay t.aH) (ax ay t.aG) (ax ay c2.aJ) (aw G7 c2.aI.length ng7) (az ⟨c2.at_.toArray⟩) (aw F6 fs2.length c6)) (q8 hue (zf hue hR wo) (aw X7 t.aE.length cX7) (aw Y7 t.aF.length dY7) (ax ay t.aH) (ax ay t.aG) (ax ay c2.aJ) (aw G7 c2.aI.length ng7) (az ⟨c2.at_.toArray⟩) (aw F6 fs2.length c6)) (zO (HBX.o.trans (HB19.o.mono wj)) (show gb<=gb+1 by omega) (aw X7 t.aE.length cX7) (aw Y7 t.aF.length dY7) (ax ay t.aH) (ax ay t.aG) (ax ay c2.aJ) (aw G7 c2.aI.length ng7) (az ⟨c2.at_.toArray⟩) (aw F6 fs2.length c6));clear hR hsc hfe hue
 refine wH ?_;intros
 have hb5:gb<=w2.heap.size:=wj
 have hbE:gb<=wE.heap.size:=wj
 have hbb:b=true:=by rw [HBD.o];exact decide_eq_true ⟨rfl,rfl⟩
 refine bodyPost_ret (zz rfl _ _ (gb+1) _ _ _ _ wu HFN.o underlying33 rfl wm) rfl ?_;rw [hbb,if_pos rfl];exact⟨_,_,_,_,_,rfl,⟨(HS9.o.lower hbE).mono (fun b hb=>wj),zb HC9.o hbE,HF9.o.lower hb5⟩,zb HU9.o hb5,HB9.o⟩
theorem KI (p:LoW) (l:LoP) (key:ac) (PA:ae) (pn pc:Nat) (w:World) (hg:GoodL l) (hr:RdLo w p l) (i:Nat) (hf:fnd 0 l.fs key=some i) :
  Calls zZZ 127 #[loV p l,az ⟨key.toArray⟩,aw PA pn pc] w fun e w'=>e= .returned (.tuple #[Yc (aw aB 0 0) (aw aB 0 0) (aw aB 0 0) (aw aB 0 0) loZ,ax ay 10])/\Below w.heap.size w w':=by
 have hkk:(⟨key.toArray⟩:ByteArray).data.toList=key:=List.toList_toArray;obtain⟨X,cX,Y,dY,G,ng,F,cF⟩:=p;obtain⟨s,co,fs⟩:=l;have hgs:GoodS s:=hg.s;have hlb:s.aE.length<=24:=hgs.b.len;have hle:s.aF.length<=10:=hgs.e.len;have hlf:fs.length<=6:=hg.f.len;have hcm:cF<=maxLen:=hr.fm;obtain⟨w1,hw1,hP,hR,hbx⟩:=zn w 33 33 [aw X s.aE.length cX,aw Y s.aF.length dY,ax ay s.aH,ax ay s.aG,ax ay co.aJ,aw G co.aI.length ng,az ⟨co.at_.toArray⟩,aw F fs.length cF] [aw aB 0 0,aw aB 0 0,ax ay 0,ax ay 0,ax ay 0,aw aB 0 0,az ⟨#[]⟩,aw aB 0 0];have hr1:=hr.below hbx;have HCK:=sqH (vQ ⟨X,cX,Y,dY,G,ng,F,cF⟩ ⟨s,co,fs⟩ w1 hg hr1);have HRD:=sqH (fun W (h:Below w1.heap.size w1 W)=>hr1.below h);obtain⟨gb,hgb⟩:=wU w.heap.size
 rw [<-hgb]at hP hR hbx ⊢
 have HPX:=sqH (show ∀W,Below w1.heap.size w1 W->Arr W gb 33 [aw X s.aE.length cX,aw Y s.aF.length dY,ax ay s.aH,ax ay s.aG,ax ay co.aJ,aw G co.aI.length ng,az ⟨co.at_.toArray⟩,aw F fs.length cF]/\Arr W (gb+1) 33 [aw aB 0 0,aw aB 0 0,ax ay 0,ax ay 0,ax ay 0,aw aB 0 0,az ⟨#[]⟩,aw aB 0 0] from fun W h=>⟨hP.below h,hR.below h⟩);have hg1:gb+1<w1.heap.size:=hR.lt;obtain⟨HG,HGS,HBX,HW1,HGB⟩:=sqJ5 hg hgs hbx hw1 hgb;clear hg hgs hr hr1 hP hR hbx hw1 hgb;go_enter func127,ntmps127
 refine wH ?_;intros
 rw [<-HW1.o,<-HGB.o];clear HW1;refine wV HCK.o fun w2 hb2=>?_;dsimp only;clear HCK;have HB2:=sqH hb2;have hfi:=kI F cF fs ⟨key.toArray⟩ w2 wj (HRD.o w2 hb2).f;rw [hkk]at hfi;dsimp only at hf;rw [hf]at hfi;dsimp only at hfi;have HFI:=sqH hfi;clear hfi hf hkk;obtain⟨x0,x1,x2,x3,x4,x5,x6,x7⟩:=sqC8 ((HPX.o _ hb2).1)
 refine wH ?_;intros
 clear x0 x1 x2 x3 x4 x5 x6 x7;refine wV HFI.o fun wE hb6=>?_;dsimp only;have hbE:=wg hb2 hb6;have hR:=(HPX.o _ hbE).2;obtain⟨y0,y1,y2,y3,y4,y5,y6,y7⟩:=sqC8 hR;obtain⟨f0,f1,f2,f3,f4,f5,f6,f7⟩:=sqF8 hR;have HFN:=sqH (hR.all8 (aw aB 0 0) (aw aB 0 0) (ax ay 0) (ax ay 0) (ax ay 0) (aw aB 0 0) (az ⟨#[]⟩) (aw aB 0 0));have HB9:=sqH (zO (HBX.o.trans (Below.mono hbE wj)) (show gb<=gb+1 by omega) (aw aB 0 0) (aw aB 0 0) (ax ay 0) (ax ay 0) (ax ay 0) (aw aB 0 0) (az ⟨#[]⟩) (aw aB 0 0));clear hR
 refine wH ?_;intros
 refine bodyPost_ret (zI rfl _ _ (gb+1) _ _ _ _ wu HFN.o underlying33 rfl wm) rfl ?_;exact⟨rfl,HB9.o⟩
theorem VX (p:LoW) (l:LoP) (key:ac) (ps:List PartP) (PA:ae) (pc:Nat) (w:World) (hg:GoodL l) (hr:RdLo w p l) (hk:hexC key=0) (hpz:chk ps=0) (hclk:l.st.aG<1099511627776) (hlen:l.st.aF.length<10) (hP:Sl w 3 PA ps.length pc (pcs ps)) (hf:fnd 0 l.fs key=aB) (t:StoP) (c2:ColP) (z:Nat) (hbj:qX l.st l.co key ps=(t,c2,z)) :
  Calls zZZ 127 #[loV p l,az ⟨key.toArray⟩,aw PA ps.length pc] w fun e w'=>∃v1 v2 v3 v4,e= .returned (.tuple #[Yc v1 v2 v3 v4 (if z=0 then ⟨t,c2,l.fs⟩ else loZ),ax ay z])/\OwLo w' w.heap.size v1 v2 v3 v4 (if z=0 then ⟨t,c2,l.fs⟩ else loZ) (fun b=>b<w.heap.size)/\Below w.heap.size w w':=by
 have hkk:(⟨key.toArray⟩:ByteArray).data.toList=key:=List.toList_toArray;have HPS0:=sqH (fun W (h:Below w.heap.size w W)=>hP.below h);have HKX:=sqH (aD hk (aD hpz (aD hclk hlen)));clear hP hk hpz hclk hlen;obtain⟨X,cX,Y,dY,G,ng,F,cF⟩:=p;obtain⟨s,co,fs⟩:=l;have hgs:GoodS s:=hg.s;have hlb:s.aE.length<=24:=hgs.b.len;have hle:s.aF.length<=10:=hgs.e.len;have hlf:fs.length<=6:=hg.f.len;have hcm:cF<=maxLen:=hr.fm;obtain⟨w1,hw1,hP,hR,hbx⟩:=zn w 33 33 [aw X s.aE.length cX,aw Y s.aF.length dY,ax ay s.aH,ax ay s.aG,ax ay co.aJ,aw G co.aI.length ng,az ⟨co.at_.toArray⟩,aw F fs.length cF] [aw aB 0 0,aw aB 0 0,ax ay 0,ax ay 0,ax ay 0,aw aB 0 0,az ⟨#[]⟩,aw aB 0 0];have hr1:=hr.below hbx;have HCK:=sqH (vQ ⟨X,cX,Y,dY,G,ng,F,cF⟩ ⟨s,co,fs⟩ w1 hg hr1);have HRD:=sqH (fun W (h:Below w1.heap.size w1 W)=>hr1.below h);obtain⟨gb,hgb⟩:=wU w.heap.size
 rw [<-hgb]at hP hR hbx ⊢
 have HPX:=sqH (show ∀W,Below w1.heap.size w1 W->Arr W gb 33 [aw X s.aE.length cX,aw Y s.aF.length dY,ax ay s.aH,ax ay s.aG,ax ay co.aJ,aw G co.aI.length ng,az ⟨co.at_.toArray⟩,aw F fs.length cF]/\Arr W (gb+1) 33 [aw aB 0 0,aw aB 0 0,ax ay 0,ax ay 0,ax ay 0,aw aB 0 0,az ⟨#[]⟩,aw aB 0 0] from fun W h=>⟨hP.below h,hR.below h⟩);have hg1:gb+1<w1.heap.size:=hR.lt;obtain⟨HG,HGS,HBX,HW1,HGB⟩:=sqJ5 hg hgs hbx hw1 hgb;clear hg hgs hr hr1 hP hR hbx hw1 hgb;go_enter func127,ntmps127
 refine wH ?_;intros
 rw [<-HW1.o,<-HGB.o];clear HW1;refine wV HCK.o fun w2 hb2=>?_;dsimp only;clear HCK;obtain⟨HB2,HPS,HBJ⟩:=sqJ3 hb2 (fun W (h:Below gb w W)=>HPS0.o W (by rw [<-HGB.o];exact h)) hbj;have hfi:=kI F cF fs ⟨key.toArray⟩ w2 wj (HRD.o w2 hb2).f;rw [hkk]at hfi;dsimp only at hf;rw [hf]at hfi;dsimp only at hfi;have HFI:=sqH hfi;clear hfi hf hkk hbj HPS0;obtain⟨x0,x1,x2,x3,x4,x5,x6,x7⟩:=sqC8 ((HPX.o _ hb2).1)
 refine wH ?_;intros
 clear x0 x1 x2 x3 x4 x5 x6 x7;refine wV HFI.o fun wE hb6=>?_;dsimp only;have hbE:=wg hb2 hb6;have hsE:w2.heap.size<=wE.heap.size:=hb6.size;have hs2:w1.heap.size<=w2.heap.size:=hb2.size;have hbw:=HBX.o.trans (hbE.mono (show gb<=w1.heap.size by omega));clear hb6 HFI;have hbp:=QP X cX Y dY s G ng co key ps PA pc wE HGS.o (HRD.o _ hbE).s HG.o.g HG.o.c (HRD.o _ hbE).c HKX.o.1 HKX.o.2.1 HKX.o.2.2.1 HKX.o.2.2.2 (HPS.o _ hbw);simp only [HBJ.o]at hbp;have HBP:=sqH hbp;clear hbp;obtain⟨x0,x1,x2,x3,x4,x5,x6,x7⟩:=sqC8 ((HPX.o _ hbE).1)
 refine wH ?_;intros
 clear x0 x1 x2 x3 x4 x5 x6 x7;refine HBP.o.mono ?_;rintro e_ w7 ⟨v7,u7,t7,rfl,ho7,hl7,hb7⟩;dsimp only;obtain⟨X7,cX7,Y7,dY7,rfl,rfl,hr7⟩:=ho7.rows;obtain⟨G7,ng7,rfl,hc7⟩:=RdC.of_own (c:=c2) hl7;obtain⟨w9,hw9,hS9,hC9,hb79⟩:=zn w7 27 30 [aw X7 t.aE.length cX7,aw Y7 t.aF.length dY7,ax ay t.aH,ax ay t.aG] [ax ay c2.aJ,aw G7 c2.aI.length ng7,az ⟨c2.at_.toArray⟩];have hbq:=wg hb7 hb79;have hb19:=(hbE).trans (hbq.mono (hbE).size);have HW9:=sqH hw9;obtain⟨gs,hgs⟩:=wU w7.heap.size
 have HGQ:=sqH hgs;rw [<-hgs]at hS9 hC9;obtain⟨HSC,HO9,HL9,HBQ,HB19⟩:=sqJ5 (show ∀W,Below w9.heap.size w9 W->Arr W gs 27 [aw X7 t.aE.length cX7,aw Y7 t.aF.length dY7,ax ay t.aH,ax ay t.aG]/\Arr W (gs+1) 30 [ax ay c2.aJ,aw G7 c2.aI.length ng7,az ⟨c2.at_.toArray⟩] from fun W h=>⟨hS9.below h,hC9.below h⟩) (ho7.below hb79) (zc hl7 hb79) hbq hb19;clear hw9 hgs hS9 hC9 ho7 hl7 hr7 hc7 hb7 hb79 hbq hb19 HBP
 refine wJ 8 ?_;intros
 rw [<-HW9.o,<-HGQ.o];clear HW9;by_cases hz:z=0
 rotate_left
 ·have hz1:((z:Int) != 0)=true:=by rw [bne_iff_ne];omega
  have HZ:=sqH hz;clear hz;have hR:=(HPX.o _ HB19.o).2;obtain⟨y0,y1,y2,y3,y4,y5,y6,y7⟩:=sqC8 hR;obtain⟨f0,f1,f2,f3,f4,f5,f6,f7⟩:=sqF8 hR;have HFN:=sqH (hR.all8 (aw aB 0 0) (aw aB 0 0) (ax ay 0) (ax ay 0) (ax ay 0) (aw aB 0 0) (az ⟨#[]⟩) (aw aB 0 0));have HB9:=sqH (zO (HBX.o.trans (Below.mono HB19.o wj)) (show gb<=gb+1 by omega) (aw aB 0 0) (aw aB 0 0) (ax ay 0) (ax ay 0) (ax ay 0) (aw aB 0 0) (az ⟨#[]⟩) (aw aB 0 0));clear hR
  refine wH ?_;intros
  refine bodyPost_ret (zI rfl _ _ (gb+1) _ _ _ _ wu HFN.o underlying33 rfl wm) rfl ?_;rw [if_neg HZ.o];exact⟨_,_,_,_,rfl,OwLo.nil_,HB9.o⟩
 subst hz;have HFC:=sqH (fun W (h:Below w9.heap.size w9 W)=>ko F cF fs W wj (fun p hp=>by have:=(HG.o.f.all p hp).2.1;omega) (HRD.o W (wg HB19.o h)).f (HRD.o W (wg HB19.o h)).fc);have HZ9:=sqH (HBX.o.trans (HB19.o.mono (show gb<=w1.heap.size by omega)));have HRR:=sqH (HPX.o _ HB19.o).2;have hs9:wE.heap.size<=w9.heap.size:=HBQ.o.size;have HSB:=sqH (show ∀W,Below w9.heap.size w9 W->(wF W gb (aw X s.aE.length cX) (aw Y s.aF.length dY) (ax ay s.aH) (ax ay s.aG) (ax ay co.aJ) (aw G co.aI.length ng) (az ⟨co.at_.toArray⟩) (aw F fs.length cF))/\(wD W gs (aw X7 t.aE.length cX7) (aw Y7 t.aF.length dY7) (ax ay t.aH) (ax ay t.aG))/\(wC W (gs+1) (ax ay c2.aJ) (aw G7 c2.aI.length ng7) (az ⟨c2.at_.toArray⟩)) from fun W h=>by
  have h1:=(HPX.o W (wg HB19.o h)).1;obtain⟨h2,h3⟩:=HSC.o W h;exact⟨sqC8 h1,sqC4 h2,sqC3 h3⟩)
 refine wH ?_;intros
 apply zE;intro REST;refine ze [6] (S:=(fun w'=>(wF w' gb (aw X s.aE.length cX) (aw Y s.aF.length dY) (ax ay s.aH) (ax ay s.aG) (ax ay co.aJ) (aw G co.aI.length ng) (az ⟨co.at_.toArray⟩) (aw F fs.length cF))/\(wD w' gs (aw X7 t.aE.length cX7) (aw Y7 t.aF.length dY7) (ax ay t.aH) (ax ay t.aG))/\(w'.cell? ⟨(gs+1),0,aB⟩=some (ax ay c2.aJ)/\w'.cell? ⟨(gs+1),1,aB⟩=some (aw G7 c2.aI.length ng7)/\w'.cell? ⟨(gs+1),2,aB⟩=some (az ⟨c2.at_.toArray⟩)))) wm ?_ (fun hHeld=> ?_)
 ·exact HSB.o _ (((wh w9)).drew)
 have hB:=((wh w9)).drew;have hz:=HZ9.o.drew;have hR:=HRR.o.below (Below.refl w9.heap.size w9).drew;have ho:=HO9.o.below (Below.refl w9.heap.size w9).drew;have hl:=zc HL9.o (Below.refl w9.heap.size w9).drew;generalize w9.drew=wn0 at *
 refine wO 0 ?_;refine wO 1 ?_;refine wP 2 ?_;refine wO 3 ?_;refine za (rs:= [4]) wm ws ?_;refine z8.cons (o:=_) rfl (fun K hK=> ?_) ?_
 ·
  go_simp;refine(HFC.o wn0 hB).mono ?_;rintro e5 w5 ⟨v5,rfl,hz5,hb5⟩;obtain⟨A6,c6,rfl, -, -⟩:=hz5.fls;dsimp only;refine zR hK ?_ (fun W=>Below w9.heap.size w9 W/\Arr W (gb+1) 33 [aw aB 0 0,aw aB 0 0,ax ay 0,ax ay 0,ax ay 0,aw aB 0 0,az ⟨#[]⟩,aw aB 0 0]/\Below gb w W/\OwSt W wE.heap.size (aw X7 t.aE.length cX7) (aw Y7 t.aF.length dY7) t (fun b=>b<wE.heap.size)/\W.ownsRow wE.heap.size 9 1 (aw G7 c2.aI.length ng7) c2.aI.length (strs c2.aI)/\FlsO W w9.heap.size (aw A6 fs.length c6) fs) (fun W=>True) ?_ ?_ (fun wn1 hHeld2 hF _=> ?_)
  ·exact HSB.o _ ((wg hB hb5))
  ·exact⟨wg hB hb5,hR.below hb5,hz.trans (hb5.mono (Nat.le_trans (show gb<=w9.heap.size by omega) hB.size)),ho.below hb5,zc hl hb5,hz5.lower hB.size⟩
  ·trivial
  clear hl ho hz hR hB hHeld;have hHeld:=hHeld2;clear hHeld2;obtain⟨hB,hR,hz,ho,hl,hf⟩:=hF;clear hb5 hz5;clear hK K
  refine wP 5 ?_;refine wS 6 fun K hK=>?_;obtain⟨z0,f0,z1,f1,z2,f2,z3,f3,z4,f4,z5,f5,z6,f6,z7,f7⟩:=wc hR;go_simp;clear z0 f0 z1 f1 z2 f2 z3 f3 z4 f4 z5 f5 z6 f6 z7 f7;refine vt hK (fun W=>Arr W (gb+1) 33 [aw X7 t.aE.length cX7,aw Y7 t.aF.length dY7,ax ay t.aH,ax ay t.aG,ax ay c2.aJ,aw G7 c2.aI.length ng7,az ⟨c2.at_.toArray⟩,(aw A6 fs.length c6)]/\Below gb w W/\OwSt W wE.heap.size (aw X7 t.aE.length cX7) (aw Y7 t.aF.length dY7) t (fun b=>b<wE.heap.size)/\W.ownsRow wE.heap.size 9 1 (aw G7 c2.aI.length ng7) c2.aI.length (strs c2.aI)/\FlsO W w9.heap.size (aw A6 fs.length c6) fs) (fun W=>True) ?_ ?_ (fun wn2 hF _=> ?_)
  ·exact⟨hR.all8 _ _ _ _ _ _ _ _,zO hz (show gb<=gb+1 by omega) _ _ _ _ _ _ _ _,ho.set8N (show gb+1<wE.heap.size by omega) (ho.nb hR wo wo).1 (ho.nb hR wo wo).2 _ _ _ _ _ _ _ _,q8 hl (zf hl hR wo) _ _ _ _ _ _ _ _,hf.set8 hR wo wo _ _ _ _ _ _ _ _⟩
  ·trivial
  clear hf hl ho hz hR hB hHeld;obtain⟨hR,hz,ho,hl,hf⟩:=hF
  clear hK K;refine wP 7 ?_;refine zp wm ?_ _
  try dsimp only [Exit.then]
  have hall:=aD hR (aD hz (aD ho (aD hl hf)));clear hf hl ho hz hR;generalize wn2=wz at hall ⊢
  revert hall;revert wz;revert c6;revert A6;exact REST.o
 exact z8.nil;intro A6 c6 wz hall;obtain⟨hR,hz,ho,hl,hf⟩:=hall
 refine wH ?_;intros
 have hbE:gb<=wE.heap.size:=wj
 have hb9:gb<=w9.heap.size:=wj
 refine bodyPost_ret (zI rfl _ _ (gb+1) _ _ _ _ wu hR underlying33 rfl wm) rfl ?_;rw [if_pos rfl];exact⟨_,_,_,_,rfl,⟨(ho.lower hbE).mono (fun b hb=>wj),zb hl hbE,hf.lower hb9⟩,hz⟩
theorem Qa (p:LoW) (l:LoP) (key:ac) (w:World) (hg:GoodL l) (hr:RdLo w p l) :
  Calls zZZ 134 #[loV p l,az ⟨key.toArray⟩] w fun e w'=>∃v1 v2 v3 v4 u,e= .returned (.tuple #[Yc v1 v2 v3 v4 (xl l key).1,u,ax ay ((xl l key).2.2:Int)])/\OwLo w' w.heap.size v1 v2 v3 v4 (xl l key).1 (fun b=>b<w.heap.size)/\w'.ownsRow w.heap.size 3 1 u (xl l key).2.1.length (ins (xl l key).2.1)/\Below w.heap.size w w':=by
 have h:=Q9 p l key w hg hr (xJ l.fs key).1 (xJ l.fs key).2.1 (xJ l.fs key).2.2 rfl;unfold xl;by_cases hq:(xJ l.fs key).2.2=0
 ·simp only [if_pos hq]at h ⊢
  rw [hq]at h;exact h
 ·simp only [if_neg hq]at h ⊢
  exact h
theorem YG (p:LoW) (l:LoP) (key:ac) (ps:List PartP) (PA:ae) (pc:Nat) (w:World) (hg:GoodL l) (hr:RdLo w p l) (hk:hexC key=0) (hpz:chk ps=0) (hclk:l.st.aG<1099511627776) (hlen:l.st.aF.length<10) (hP:Sl w 3 PA ps.length pc (pcs ps)) :
  Calls zZZ 133 #[loV p l,az ⟨key.toArray⟩,aw PA ps.length pc] w fun e w'=>∃v1 v2 v3 v4 u,e= .returned (.tuple #[Yc v1 v2 v3 v4 (xj l key ps).1,u,ax ay ((xj l key ps).2.2:Int)])/\OwLo w' w.heap.size v1 v2 v3 v4 (xj l key ps).1 (fun b=>b<w.heap.size)/\w'.ownsRow w.heap.size 3 1 u (xj l key ps).2.1.length (ins (xj l key ps).2.1)/\Below w.heap.size w w':=by
 have h:=YF p l key ps PA pc w hg hr hk hpz hclk hlen hP (xJ l.fs key).1 (xJ l.fs key).2.1 (xJ l.fs key).2.2 rfl (qX l.st l.co key ps).1 (qX l.st l.co key ps).2.1 (qX l.st l.co key ps).2.2 rfl _ rfl;unfold xj;by_cases hq:(xJ l.fs key).2.2=0
 ·by_cases hz:(qX l.st l.co key ps).2.2=0
  ·rw [decide_eq_true ⟨hq,hz⟩]at h;simp only [if_pos hq,if_pos hz,if_true]at h ⊢
   rw [hz]at h;exact h
  ·rw [decide_eq_false (fun x=>hz x.2)]at h;simp only [if_pos hq,if_neg hz,Bool.false_eq_true,if_false]at h ⊢
   exact h
 ·rw [decide_eq_false (fun x=>hq x.1)]at h;simp only [if_neg hq,Bool.false_eq_true,if_false]at h ⊢
  exact h
theorem VY (p:LoW) (l:LoP) (key:ac) (ps:List PartP) (PA:ae) (pc:Nat) (w:World) (hg:GoodL l) (hr:RdLo w p l) (hk:hexC key=0) (hpz:chk ps=0) (hclk:l.st.aG<1099511627776) (hlen:l.st.aF.length<10) (hP:Sl w 3 PA ps.length pc (pcs ps)) :
  Calls zZZ 127 #[loV p l,az ⟨key.toArray⟩,aw PA ps.length pc] w fun e w'=>∃v1 v2 v3 v4,e= .returned (.tuple #[Yc v1 v2 v3 v4 (Vb l key ps).1,ax ay ((Vb l key ps).2:Int)])/\OwLo w' w.heap.size v1 v2 v3 v4 (Vb l key ps).1 (fun b=>b<w.heap.size)/\Below w.heap.size w w':=by
 unfold Vb;cases hf:fnd 0 l.fs key with
 | some i =>
  refine(KI p l key PA ps.length pc w hg hr i hf).mono ?_;rintro e w' ⟨he,hb⟩;exact⟨_,_,_,_,he,OwLo.nil_,hb⟩
 | none =>
  have h:=VX p l key ps PA pc w hg hr hk hpz hclk hlen hP hf (qX l.st l.co key ps).1 (qX l.st l.co key ps).2.1 (qX l.st l.co key ps).2.2 rfl;simp only [Option.isSome_none,Bool.false_eq_true,if_false];by_cases hz:(qX l.st l.co key ps).2.2=0
  ·simp only [if_pos hz]at h ⊢
   rw [hz]at h;exact h
  ·simp only [if_neg hz]at h ⊢
   exact h
end Go.Proofs.YtcjndgldjhmbgaaGreat
