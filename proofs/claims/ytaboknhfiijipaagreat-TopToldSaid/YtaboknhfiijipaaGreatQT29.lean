/- Lemmas, as stated. -/
import Derived.Test.YtaboknhfiijipaaGreatQT25
import Derived.Test.YtaboknhfiijipaaGreatQT27
import Derived.Test.YtaboknhfiijipaaGreatQT28
set_option linter.unusedVariables false
set_option linter.unusedSimpArgs false
set_option maxRecDepth 100000
set_option maxHeartbeats 16000000
open Go.Proofs.Tryz
open Go.Proofs.Tryz renaming prog->zZZ
open Go.Value renaming slice->ax,int->ay,string->aA
open Go.IntKind renaming i64->az
open Option renaming none->aC,some->aD
open Go.Obj renaming cells->aB
open And renaming intro->aE
namespace Go.Proofs.YtaboknhfiijipaaGreat
open Go.RowKit Go.Maps
variable {base g h' k n size:Nat} {s:StoP} {e:TypeId} {dv pv wv x0 x1 x2 x3 x4 x5:Value} {w w':World} {A:af} {xs:ag} {N:aj}
abbrev z0g (A:af) (c:Nat) (B:af) (d:Nat) (s:StoP):Value:= .agg #[ax A s.aF.length c,ax B s.aG.length d,ay .i64 s.aI,ay .i64 s.aH]
structure OwSC (w:World) (base:Nat) (v1 v2 v3:Value) (s:StoP) (c:ColP):Prop where
 s:OwSt w base v1 v2 s (fun b=>b<base)
 c:w.ownsRow base 9 1 v3 c.aJ.length (strs c.aJ)
theorem OwSt.z_:OwSt w base (ax none 0 0) (ax none 0 0) stZ N:=OwLo.nil_.s
theorem OwSC.z_:OwSC w base (ax none 0 0) (ax none 0 0) (ax none 0 0) stZ coZ:=⟨.z_,World.ownsRow_nil _ _ _ _⟩
theorem XV {v1 v2:Value} {t:StoP} (h:t.aI=s.aI/\t.aH=s.aH):stV v1 v2 t=stV v1 v2 s:=by
 show Value.agg _=_;rw [h.1,h.2]
section
variable (A:af) (c:Nat) (B:af) (d:Nat) (s:StoP) (Ag:af) (ng:Nat) (cp:ColP) (w:World)
theorem Vf (D:ae) (DA:af) (dc:Nat) (hg:GoodS s) (hr:RdSt w A c B d s) (hgl:cp.aJ.length<=1000) (hgc:GoodC s cp) (hc:RdC w Ag ng cp) (hd:D.length<=300) (hD:Sl w 1 DA D.length dc (bys D)) :
  Calls zZZ 111 #[z0g A c B d s,coV (ax Ag cp.aJ.length ng) cp,ax DA D.length dc] w fun e w' =>
   ∃v1 v2 v3,e= .returned (.tuple #[stV v1 v2 (pbP s cp D).1,coV v3 (pbP s cp D).2.1,aA ⟨(pbP s cp D).2.2.1.toArray⟩,ay .i64 ((pbP s cp D).2.2.2:Int)])/\OwSC w' w.heap.size v1 v2 v3 (pbP s cp D).1 (pbP s cp D).2.1/\Below w.heap.size w w':=by
 unfold pbP;by_cases hf:Fits s D
 ·rw [if_pos hf];refine(ZJ A c B d s Ag ng cp D DA dc w hg hr hgl hgc hc hf hD).mono ?_;rintro e w' ⟨v1,v2,v3,rfl,h1,h2,h3⟩;exact⟨v1,v2,v3,by rw [XV (jB (zI s D) cp [shaS D])];rfl,⟨h1,h2⟩,h3⟩
 ·rw [if_neg hf];refine(jj A c B d s Ag ng cp D DA dc w hg hr hgl hgc hc hd (JS hg hd hf) hD).mono ?_;rintro e w' ⟨rfl,h3⟩;exact⟨_,_,_,rfl,.z_,h3⟩
theorem Ve (k:ae) (hg:GoodS s) (hr:RdSt w A c B d s) :
  Calls zZZ 113 #[z0g A c B d s,aA ⟨k.toArray⟩] w fun e w' =>
   ∃v,e= .returned (.tuple #[v,ay .i64 ((gbP s k).2:Int)])/\w'.ownsRow w.heap.size 5 1 v (gbP s k).1.length (bys (gbP s k).1)/\Below w.heap.size w w':=by
 unfold gbP;cases hat:atB s k with
 | none =>
  refine(jV A c B d s k w hg hr (Qv hat)).mono ?_;rintro e w' ⟨rfl,h3⟩;exact⟨_,rfl,World.ownsRow_nil _ _ _ _,h3⟩
 | some ib =>
  obtain⟨i,b⟩:=ib;obtain⟨hi,rfl,hk,_⟩:=jq hat
  refine(Kh A c B d s k i w hg hr hi hk).mono ?_;rintro e w' ⟨v,rfl,h2,h3⟩;exact⟨v,rfl,h2,h3⟩
theorem Ui {up:Bool} (h5:n<=5):(mvB n up=true->if up then n<5 else 0<n/\n<=5)/\(¬mvB n up=true->if up then n=5 else n=0):=by
 unfold mvB;cases up<;>simp<;>omega
theorem Y2 (k:ae) (up:Bool) (hg:GoodS s) (hr:RdSt w A c B d s) (hgl:cp.aJ.length<=1000) (hgc:GoodC s cp) (hc:RdC w Ag ng cp) :
  Calls zZZ 114 #[z0g A c B d s,coV (ax Ag cp.aJ.length ng) cp,aA ⟨k.toArray⟩,.bool up] w fun e w' =>
   ∃v1 v2 v3,e= .returned (.tuple #[stV v1 v2 (hbP s cp k up).1,coV v3 (hbP s cp k up).2.1,ay .i64 ((hbP s cp k up).2.2:Int)])/\OwSC w' w.heap.size v1 v2 v3 (hbP s cp k up).1 (hbP s cp k up).2.1/\Below w.heap.size w w':=by
 unfold hbP;cases hat:atB s k with
 | none =>
  refine(Qm A c B d s Ag ng cp k up 5 w hg hr hgl hgc hc ws fun W h=>Ki A c B d s k up W hg h (Qv hat)).mono ?_;rintro e w' ⟨rfl,h3⟩;exact⟨_,_,_,rfl,.z_,h3⟩
 | some ib =>
  obtain⟨i,b⟩:=ib;obtain⟨hi,rfl,hk,_⟩:=jq hat
  dsimp only;have h5:=(hg.b.one _ (List.getElem_mem hi)).2.2;by_cases hmv:mvB s.aF[i].aN up=true
  ·rw [if_pos hmv];refine(Va A c B d s Ag ng cp k up i w hg hr hgl hgc hc hi hk ((Ui h5).1 hmv) _ rfl (uc hg hi (Xq hmv h5))).mono ?_;rintro e w' ⟨v1,v2,v3,rfl,h1,h2,h3⟩;exact⟨v1,v2,v3,by rw [XV (jB _ cp [k])];rfl,⟨h1,h2⟩,h3⟩
  ·rw [if_neg hmv];refine(Qm A c B d s Ag ng cp k up (noE up:Int) w hg hr hgl hgc hc (bne_iff_ne.1 (Xs up)) fun W h=>Vq A c B d s k up i W hg h hi hk ((Ui h5).2 hmv)).mono ?_;rintro e w' ⟨rfl,h3⟩;exact⟨_,_,_,rfl,.z_,h3⟩
theorem z3m (k:ae) (hg:GoodS s) (hr:RdSt w A c B d s) (hck:s.aH<1099511627776) :
  Calls zZZ 117 #[z0g A c B d s,aA ⟨k.toArray⟩] w fun e w' =>
   ∃v1 v2 vp,e= .returned (.tuple #[stV v1 v2 (gtP s k).1,vp,ay .i64 ((gtP s k).2.2:Int)])/\OwSt w' w.heap.size v1 v2 (gtP s k).1 (fun b=>b<w.heap.size)/\w'.ownsRow w.heap.size 85 3 vp (gtP s k).2.1.length (pcs (gtP s k).2.1)/\Below w.heap.size w w':=by
 unfold gtP;cases hat:atE s k with
 | none =>
  refine(Yb A c B d s k w hg hr (Qw hat)).mono ?_;rintro e w' ⟨rfl,h3⟩;exact⟨_,_,_,rfl,.z_,World.ownsRow_nil _ _ _ _,h3⟩
 | some ib =>
  obtain⟨i,b⟩:=ib;obtain⟨hi,rfl,hk,_⟩:=vq hat
  refine(Vo A c B d s (kr s i s.aG[i]) k s.aG[i].aM i w hg hr hi hk rfl hck rfl).mono ?_;rintro e w' ⟨A',c',B',d',A5,c5,rfl,h1,h2,h3⟩;exact⟨_,_,_,rfl,h1,h2,h3⟩
theorem z2s (k:ae) (up:Bool) (hg:GoodS s) (hr:RdSt w A c B d s) :
  Calls zZZ 118 #[z0g A c B d s,aA ⟨k.toArray⟩,.bool up] w fun e w' =>
   ∃v1 v2,e= .returned (.tuple #[stV v1 v2 (heP s k up).1,ay .i64 ((heP s k up).2:Int)])/\OwSt w' w.heap.size v1 v2 (heP s k up).1 (fun b=>b<w.heap.size)/\Below w.heap.size w w':=by
 unfold heP;cases hat:atE s k with
 | none =>
  refine(Kj A c B d s k up w hg hr (Qw hat)).mono ?_;rintro e w' ⟨rfl,h3⟩;exact⟨_,_,rfl,.z_,h3⟩
 | some ib =>
  obtain⟨i,b⟩:=ib;obtain⟨hi,rfl,hk,_⟩:=vq hat
  dsimp only;have h5:=(hg.e.one _ (List.getElem_mem hi)).2.2.1;by_cases hmv:mvB s.aG[i].aN up=true
  ·rw [if_pos hmv];refine(Vt A c B d s k up i w hg hr hi hk ((Ui h5).1 hmv)).mono ?_;rintro e w' ⟨v1,v2,rfl,h1,h3⟩;exact⟨v1,v2,rfl,h1,h3⟩
  ·rw [if_neg hmv];refine(Vs A c B d s k up i w hg hr hi hk ((Ui h5).2 hmv)).mono ?_;rintro e w' ⟨rfl,h3⟩;exact⟨_,_,rfl,.z_,h3⟩
end
section
variable {w w':World} {g base:Nat} {v v1 v2 v3 v4:Value} {l:LoP} {N:aj}
theorem Xz (h:w.ownsRow base e size v n xs) (hg:g<base):v.ownBlock≠aD g:=fun e=>by
 rcases h.2 with ⟨rfl,_⟩ | ⟨g',cap,cur,rfl,h1,_⟩
 ·cases e
 ·have e':g'=g:=by simpa [Value.ownBlock] using e
  omega
theorem kf (h:w.ownsRow base e size v n xs) (hg:w.grownBy w' (aD g)) (hb:g<base):w'.ownsRow base e size v n xs:=h.kept hg (.inr (Xz h hb))
theorem FlsO.grownE {fs:List FlP} (h:FlsO w base v fs) (hg:w.grownBy w' (aD g)) (hb:g<base):FlsO w' base v fs:=by
 obtain⟨As,h1,h2,h3,h4⟩:=h;exact⟨As,h1,kf h2 hg hb,fun k p a hp ha=>⟨kf (h3 k p a hp ha).1 hg hb,(h3 k p a hp ha).2⟩,h4⟩
theorem OwSt.grownE (h:OwSt w base v1 v2 s N) (hg:w.grownBy w' (aD g)) (hb:g<base) (hN:N g):OwSt w' base v1 v2 s N:=by
 obtain⟨xs1,hx⟩:=h.b.own_m;obtain⟨xs2,hy⟩:=h.e.own_m;have e1:∀b,aD g=aD b->v1.ownBlock≠aD b:=fun b e=>by cases e;exact Xz hx hb
 have e2:∀b,aD g=aD b->v2.ownBlock≠aD b:=fun b e=>by cases e;exact Xz hy hb
 exact⟨h.b.other hg e1 fun b e=>by cases e;exact .inl hN,h.e.other hg e2 fun b e=>by cases e;exact .inl hN,h.ne⟩
theorem OwLo.grownE (h:OwLo w base v1 v2 v3 v4 l N) (hg:w.grownBy w' (aD g)) (hb:g<base) (hN:N g):OwLo w' base v1 v2 v3 v4 l N:=⟨h.s.grownE hg hb hN,kf h.c hg hb,h.f.grownE hg hb⟩
end
structure DkB (w:World) (g:Nat) (p:LoW) (l:LoP) (N:aj):Prop where
 box:Arr w g 82 (loC p l)
 own:OwLo w (g+1) (ax p.X l.st.aF.length p.cX) (ax p.Y l.st.aG.length p.dY) (ax p.G l.co.aJ.length p.ng) (ax p.F l.fs.length p.cF) l N
section
variable {w w':World} {g B:Nat} {p:LoW} {l:LoP} {N N':aj} {v1 v2 v3 v4:Value} {s:StoP} {c:ColP}
theorem OwLo.rdAt (h:OwLo w B (ax p.X l.st.aF.length p.cX) (ax p.Y l.st.aG.length p.dY) (ax p.G l.co.aJ.length p.ng) (ax p.F l.fs.length p.cF) l N):RdLo w p l:=by
 obtain⟨q,e1,e2,e3,e4,hr⟩:=h.rd;cases p;cases q
 injection e1 with a1 _ a2;injection e2 with b1 _ b2;injection e3 with c1 _ c2;injection e4 with d1 _ d2;dsimp only at a1 a2 b1 b2 c1 c2 d1 d2;subst a1 a2 b1 b2 c1 c2 d1 d2;exact hr
theorem DkB.rd (h:DkB w g p l N):RdLo w p l:=h.own.rdAt
theorem DkB.below (h:DkB w g p l N) (hb:Below w.heap.size w w'):DkB w' g p l N:=⟨h.box.below hb,h.own.below hb⟩
theorem DkB.lt (h:DkB w g p l N):g<w.heap.size:=h.box.lt
theorem DkB.mono (h:DkB w g p l N) (hN:∀b,N' b->N b):DkB w g p l N':=⟨h.box,h.own.mono hN⟩
theorem DkB.wider (h:DkB w g p l N) (hN:∀b,N' b->N b\/w.heap.size<=b):DkB w g p l N':=⟨h.box,h.own.wider hN⟩
theorem DkB.set (h:DkB w g p l N) (hA:Arr w h' 47 xs) (hN:N h') (hne:g≠h') (u:Value):DkB (w.setCell ⟨h',k,aC⟩ u) g p l N :=
 ⟨h.box.other hne u,⟨h.own.s.setX hN (h.own.s.nb hA ws ws).1 (h.own.s.nb hA ws ws).2 _,zd h.own.c (zg h.own.c hA ws),h.own.f.set1 hA ws ws u⟩⟩
theorem DkB.mk' (h:OwLo w (g+1) v1 v2 v3 v4 l N) (hb:Arr w g 82 [v1,v2,ay az l.st.aI,ay az l.st.aH,ay az l.co.aK,v3,aA ⟨l.co.at_.toArray⟩,v4]):∃p,DkB w g p l N:=by
 obtain⟨p,rfl,rfl,rfl,rfl,_⟩:=h.rd;exact⟨p,hb,h⟩
end
structure OwSD (w:World) (g:Nat) (v1 v2 v3:Value) (s:StoP) (c:ColP) (N:aj):Prop where
 s:OwSt w (g+1) v1 v2 s N
 c:w.ownsRow (g+1) 9 1 v3 c.aJ.length (strs c.aJ)
section
variable {w w':World} {g B:Nat} {l:LoP} {N:aj} {v1 v2 v3 v4:Value} {s:StoP} {c:ColP}
theorem OwSD.below (h:OwSD w g v1 v2 v3 s c N) (hb:Below w.heap.size w w'):OwSD w' g v1 v2 v3 s c N:=⟨h.s.below hb,zc h.c hb⟩
theorem OwSC.at_ (h:OwSC w B v1 v2 v3 s c) (hg:g<B) (hN:∀b,N b->b<B):OwSD w g v1 v2 v3 s c N:=⟨(h.s.lower hg).mono hN,zb h.c hg⟩
theorem OwLo.at_ (h:OwLo w B v1 v2 v3 v4 l (fun b=>b<B)) (hg:g<B) (hN:∀b,N b->b<B):OwLo w (g+1) v1 v2 v3 v4 l N:=⟨(h.s.lower hg).mono hN,zb h.c hg,h.f.lower hg⟩
end
abbrev z3v (r:RepP) (dv pv wv:Value):Value:= .agg #[ay az r.err,aA ⟨r.dig.toArray⟩,dv,pv,ay az r.n,wv]
abbrev z20 (w:World) (g:Nat) (u0 u1 u2 u3 u4 u5:Value):World:=(((((w.setCell ⟨g,0,aC⟩ u0).setCell ⟨g,1,aC⟩ u1).setCell ⟨g,2,aC⟩ u2).setCell ⟨g,3,aC⟩ u3).setCell ⟨g,4,aC⟩ u4).setCell ⟨g,5,aC⟩ u5
structure RepAt (w:World) (base:Nat) (r:RepP) (dv pv wv:Value):Prop where
 d:w.ownsRow base 5 1 dv r.data.length (bys r.data)
 p:w.ownsRow base 85 3 pv r.aM.length (pcs r.aM)
 w:w.ownsRow base 3 1 wv r.who.length (ins r.who)
theorem RepAt.below {r:RepP} (h:RepAt w base r dv pv wv) (hb:Below w.heap.size w w'):RepAt w' base r dv pv wv:=⟨zc h.d hb,zc h.p hb,zc h.w hb⟩
abbrev z3i (q:Nat):Value:= .agg #[ay az q,aA ⟨#[]⟩,ax aC 0 0,ax aC 0 0,ay az 0,ax aC 0 0]
abbrev QW:ag:= [ay az 0,aA ⟨#[]⟩,ax aC 0 0,ax aC 0 0,ay az 0,ax aC 0 0]
theorem RepAt.e_ (q:Nat):RepAt w base (KJ q) (ax aC 0 0) (ax aC 0 0) (ax aC 0 0):=⟨World.ownsRow_nil _ _ _ _,World.ownsRow_nil _ _ _ _,World.ownsRow_nil _ _ _ _⟩
theorem z0u {w0 w3:World} {P:World->Prop} (h:Hid (∀W,Below w0.heap.size w0 W->P W)) (hB:Below w0.heap.size w0 w3):Hid (∀W,Below w3.heap.size w3 W->P W):=fun W h'=>h.o W (wh hB h')
theorem j8 (w:World) (e1 e2 e3:TypeId) (c1 c2 c3:ag):∃W,W=((w.alloc (.cells c1.toArray e1)).alloc (.cells c2.toArray e2)).alloc (.cells c3.toArray e3)/\Arr W w.heap.size e1 c1/\Arr W (w.heap.size+1) e2 c2/\Arr W (w.heap.size+1+1) e3 c3/\Below w.heap.size w W:=by
 obtain⟨W2,h2,a1,a2,b2⟩:=zo w e1 e2 c1 c2;have a3:=Arr.new W2 e3 c3;have hs:W2.heap.size=w.heap.size+1+1:=by rw [h2];simp
 have b3:=wj W2 (.cells c3.toArray e3);rw [hs]at a3;exact⟨_,rfl,by rw [<-h2];exact a1.below b3,by rw [<-h2];exact a2.below b3,by rw [<-h2];exact a3,by rw [<-h2];exact wh b2 b3⟩
theorem Arr.fst7 {x6 x7:Value} (h:Arr w g e [x0,x1,x2,x3,x4,x5,x6,x7]) (u0 u1 u2 u3 u4 u5 u6:Value):Arr (((jL w g u0 u1 u2 u3).setCell ⟨g,4,aC⟩ u4).setCell ⟨g,5,aC⟩ u5 |>.setCell ⟨g,6,aC⟩ u6) g e [u0,u1,u2,u3,u4,u5,u6,x7] :=
 (((h.fst4 u0 u1 u2 u3).set (k:=4) wu u4).set (k:=5) wu u5).set (k:=6) wu u6
theorem Arr.all6 (h:Arr w g e [x0,x1,x2,x3,x4,x5]) (u0 u1 u2 u3 u4 u5:Value):Arr (z20 w g u0 u1 u2 u3 u4 u5) g e [u0,u1,u2,u3,u4,u5] :=
 (((((h.set (k:=0) wu u0).set (k:=1) wu u1).set (k:=2) wu u2).set (k:=3) wu u3).set (k:=4) wu u4).set (k:=5) wu u5
theorem DkB.set6 {p:LoW} {l:LoP} (h:DkB w g p l N) (hA:Arr w h' 47 [x0,x1,x2,x3,x4,x5]) (hN:N h') (hne:g≠h') (u0 u1 u2 u3 u4 u5:Value):DkB (z20 w h' u0 u1 u2 u3 u4 u5) g p l N:=by
 have a0:=hA.set (k:=0) wu u0;have a1:=a0.set (k:=1) wu u1;have a2:=a1.set (k:=2) wu u2;have a3:=a2.set (k:=3) wu u3;have a4:=a3.set (k:=4) wu u4;exact(((((h.set hA hN hne u0).set a0 hN hne u1).set a1 hN hne u2).set a2 hN hne u3).set a3 hN hne u4).set a4 hN hne u5
theorem qu {t:TypeId} {v:Value} {ys:ag} (ho:w.ownsRow base t size v n ys) (h1:v.ownBlock≠aD g) (u0 u1 u2 u3 u4 u5:Value):(z20 w g u0 u1 u2 u3 u4 u5).ownsRow base t size v n ys:=zd (zd (zd (zd (zd (zd ho h1) h1) h1) h1) h1) h1
theorem RepAt.set6 {r:RepP} (h:RepAt w base r dv pv wv) (hA:Arr w g 47 xs) (u0 u1 u2 u3 u4 u5:Value):RepAt (z20 w g u0 u1 u2 u3 u4 u5) base r dv pv wv :=
 ⟨qu h.d (zg h.d hA ws) _ _ _ _ _ _,qu h.p (zg h.p hA ws) _ _ _ _ _ _,qu h.w (zg h.w hA ws) _ _ _ _ _ _⟩
theorem zl {W:World} {g:Option Nat} {H:Nat} (h:w.grownBy W g) (hH:w.heap.size<=H) (u0 u1 u2 u3 u4 u5:Value):w.grownBy (z20 W H u0 u1 u2 u3 u4 u5) g:=zt (zt (zt (zt (zt (zt h hH) hH) hH) hH) hH) hH
theorem zr {u:Value} (h:w.grownBy w' (aD g)):w.grownBy (w'.setCell ⟨g,k,aC⟩ u) (aD g):=h.trans (zQ w' g k u)
theorem z11 (A:af) (c:Nat) (B:af) (d:Nat) (s:StoP) (Ag:af) (ng:Nat) (cp:ColP) (w:World) (more:Nat) (hmore:more<=4000) (hg:GoodS s) (hr:RdSt w A c B d s) (hgl:cp.aJ.length<=1000) (hgc:GoodC s cp) (hc:RdC w Ag ng cp) :
  Calls zZZ 119 #[z0g A c B d s,coV (ax Ag cp.aJ.length ng) cp,ay az more] w fun e w' =>
   ∃v1 v2 v3 xs,e= .returned (.tuple #[stV v1 v2 (evP s more).1,v3,ay az ((evP s more).2.2:Int)])/\OwSt w' w.heap.size v1 v2 (evP s more).1 (fun b=>b<w.heap.size)/\w'.ownsRow w.heap.size 9 1 v3 (evP s more).2.1 xs/\Below w.heap.size w w':=by
 obtain⟨r,hv⟩:=wV (evP s more)
 rw [<-hv];have HV:=sqH hv;clear hv;obtain⟨tt,kk,qq⟩:=r;dsimp only;obtain⟨aK,aJ,at_⟩:=cp;obtain⟨w0,hw0,hS,hC,hR,hbx⟩:=KQ w 34 37 [ax A s.aF.length c,ax B s.aG.length d,ay az s.aI,ay az s.aH] [ay az aK,ax Ag aJ.length ng,aA ⟨at_.toArray⟩] [ax aC 0 0,ax aC 0 0,ay az 0,ay az 0];have hr0:=hr.below hbx;have hc0:=hc.below hbx;obtain⟨H,hH⟩:=wV w.heap.size
 have HCK:=sqH (ql A c B d s Ag ng ⟨aK,aJ,at_⟩ w0 hg hr0 hgl hgc hc0);have HRN:=sqH (fun W (h:Below w0.heap.size w0 W)=>Jv A c B d s more W hmore hg (hr0.below h));rw [<-hH]at hS hC hR hbx ⊢
 have hHl:H+1+1<w0.heap.size:=hR.lt;obtain⟨x0,x1,x2,x3⟩:=sqC4 hS;obtain⟨y0,y1,y2⟩:=sqC3 hC;obtain⟨HS,HR,HBX⟩:=sqJ3 hS hR hbx;rw [hw0,hH]at x0 x1 x2 x3 y0 y1 y2;clear hg hr hgl hgc hc hr0 hc0 hS hC hR hbx;go_enter func119,ntmps119
 refine wH ?_;intros;rw [<-hw0,<-hH];have HH:=sqH hH;clear hw0 hH x0 x1 x2 x3 y0 y1 y2;refine wW HCK.o fun w1 hb1=>?_;dsimp only;have hS1:=HS.o.below hb1;obtain⟨x0,x1,x2,x3⟩:=sqC4 hS1;have HR1:=sqH (HRN.o w1 hb1);clear HCK HRN hS1
 refine wH ?_;intros;clear x0 x1 x2 x3;refine(HR1.o).mono ?_;rintro e_ w2 ⟨hrb,hb2⟩;have hb:=wh hb1 hb2;have hR2:=HR.o.below hb;have hB2:=HBX.o.trans (hb.mono wm);have hHw:H<=w1.heap.size:=by have:=hb1.size;omega
 obtain⟨f0,f1,f2,f3⟩:=sqF4 hR2;obtain⟨y0,y1,y2,y3⟩:=sqC4 hR2;have HE:=HV.o;clear HV;unfold evP at HE;cases hev:ya more s with
 | none =>
  rw [hev]at hrb HE;cases HE
  have he:_=_:=hrb;subst he;dsimp only;have hfin:=hR2.all4 (ax aC 0 0) (ax aC 0 0) (ay az 0) (ay az 0);clear hR2 hb1 hb2 hb hev hrb
  refine wH ?_;intros;refine bodyPost_ret (zA rfl _ _ (H+1+1) _ _ _ _ ww hfin underlying34 rfl wo) rfl ?_;refine⟨_,_,_, [],rfl,.z_,World.ownsRow_nil _ _ _ _,?_⟩;exact yz hB2 wm _ _ _ _
 | some tg =>
  obtain⟨t,gn⟩:=tg;rw [hev]at hrb HE;cases HE
  obtain⟨v1,v2,v3,he,ho,hl⟩:=hrb;obtain⟨A1,c1,B1,d1,rfl,rfl, -⟩:=ho.rows;obtain⟨G1,n1,rfl, -, -⟩:=Rd.of_own' hl;subst he;dsimp only;have hne:=ho.nb hR2 ws ws;have hnl:=zg hl hR2 ws;have hfin:=hR2.all4 (ax A1 tt.aF.length c1) (ax B1 tt.aG.length d1) (ay az s.aI) (ay az s.aH);have HGV:=sqH hev;have ho2:=ho.set4N (g:=H+1+1) (show H+1+1<w1.heap.size from by have:=hb1.size;omega) hne.1 hne.2 (ax A1 tt.aF.length c1) (ax B1 tt.aG.length d1) (ay az s.aI) (ay az s.aH);have hl2:=qt hl hnl (ax A1 tt.aF.length c1) (ax B1 tt.aG.length d1) (ay az s.aI) (ay az s.aH);clear hR2 hb1 hb2 hb hev ho hl hne hnl
  refine wH ?_;intros;refine bodyPost_ret (zA rfl _ _ (H+1+1) _ _ _ _ ww hfin underlying34 rfl wo) rfl ?_;refine⟨ax A1 tt.aF.length c1,ax B1 tt.aG.length d1,ax G1 gn.length n1,_,?_,(ho2.lower hHw).mono (fun b hb=>wm),zb hl2 hHw,?_⟩
  ·rw [XV (VZ HGV.o)];rfl
  ·exact yz hB2 wm _ _ _ _
theorem z1h (hg:GoodS s) (n:Nat):(evP s n).2.1<=10:=by
 unfold evP;cases he:ya n s with
 | none=>exact Nat.zero_le _
 | some tg =>
  obtain⟨t,gn⟩:=tg;obtain⟨_,_,h,_⟩:=uR hg he;have:=hg.e.len;dsimp only;omega
theorem J9 (A:af) (c:Nat) (B:af) (d:Nat) (s:StoP) (Ag:af) (ng:Nat) (cp:ColP) (w:World) (more:Nat) (hmore:more<=4000) (hg:GoodS s) (hr:RdSt w A c B d s) (hgl:cp.aJ.length<=1000) (hgc:GoodC s cp) (hc:RdC w Ag ng cp) :
  Calls zZZ 119 #[z0g A c B d s,coV (ax Ag cp.aJ.length ng) cp,ay az more] w fun e w' =>
   ∃v1 v2 A9 c9,e= .returned (.tuple #[stV v1 v2 (evP s more).1,ax A9 (evP s more).2.1 c9,ay az ((evP s more).2.2:Int)])/\OwSt w' w.heap.size v1 v2 (evP s more).1 (fun b=>b<w.heap.size)/\Below w.heap.size w w':=by
 refine(z11 A c B d s Ag ng cp w more hmore hg hr hgl hgc hc).mono ?_;rintro e w' ⟨v1,v2,v3,xs,rfl,h1,h2,h3⟩;obtain⟨A9,c9,rfl,_⟩:=Rd.of_own' h2;exact⟨v1,v2,A9,c9,rfl,h1,h3⟩
theorem Kb (g:Nat) (p:LoW) (l:LoP) (v1 v2 v3:Value) (t:StoP) (c:ColP) (q:Nat) (w:World) (N:aj) (hN:N g) (hb:DkB w g p l N) (ho:q=0->OwSD w g v1 v2 v3 t c N) :
  Calls zZZ 112 #[.pointer (aD ⟨g,0,aC⟩),stV v1 v2 t,coV v3 c,ay az q] w fun e w' =>
   e= .returned (z3i q)/\w.grownBy w' (aD g)/\∃p',DkB w' g p' (zH l t c q) N:=by
 by_cases hq:q=0
 ·obtain⟨⟨A1,c1,B1,d1,rfl,rfl, -⟩,hos⟩:=And.intro (ho hq).s.rows (ho hq);obtain⟨G1,n1,rfl, -, -⟩:=Rd.of_own' hos.c;obtain⟨w0,hw0,hS,hC,hR,hbx⟩:=j8 w 34 37 47 [ax A1 t.aF.length c1,ax B1 t.aG.length d1,ay az t.aI,ay az t.aH] [ay az c.aK,ax G1 c.aJ.length n1,aA ⟨c.at_.toArray⟩] [ay az 0,aA ⟨#[]⟩,ax aC 0 0,ax aC 0 0,ay az 0,ax aC 0 0];have hgl:=hb.lt;obtain⟨X,cX,Y,dY,G,ng,F,cF⟩:=p;obtain⟨s,co,fs⟩:=l;have hb0:=(hb.wider (N':=fun b=>N b\/w.heap.size<=b) (fun b h=>h)).below hbx;have hws:=hbx.size;have hbb:Arr w0 g 82 [ax X s.aF.length cX,ax Y s.aG.length dY,ay az s.aI,ay az s.aH,ay az co.aK,ax G co.aJ.length ng,aA ⟨co.at_.toArray⟩,ax F fs.length cF]:=hb0.box;obtain⟨H,hH⟩:=wV w.heap.size
  rw [<-hH]at hS hC hR hgl;have hHl:H+1+1<w0.heap.size:=hR.lt;have hHw:w.heap.size<=H+1+1:=wm;have hq0:((q:Int)==0)=true:=by rw [beq_iff_eq];omega
  have hg7:=(zr (k:=6) (u:= aA ⟨c.at_.toArray⟩) (zr (k:=5) (u:= ax G1 c.aJ.length n1) (zr (k:=4) (u:= ay az c.aK) (zr (k:=3) (u:= ay az t.aH) (zr (k:=2) (u:= ay az t.aI) (zr (k:=1) (u:= ax B1 t.aG.length d1) (zr (k:=0) (u:= ax A1 t.aF.length c1) (World.grownBy.refl w0 (aD g)))))))))
  have HA7:=sqH (Arr.fst7 hbb (ax A1 t.aF.length c1) (ax B1 t.aG.length d1) (ay az t.aI) (ay az t.aH) (ay az c.aK) (ax G1 c.aJ.length n1) (aA ⟨c.at_.toArray⟩));have hR7:=hR.grown hg7 ab;have HOW:=sqH (show OwLo w0 (g+1) (ax A1 t.aF.length c1) (ax B1 t.aG.length d1) (ax G1 c.aJ.length n1) (ax F fs.length cF) ⟨t,c,fs⟩ (fun b=>N b\/w.heap.size<=b) from⟨(hos.s.wider (fun b h=>h)).below hbx,zc hos.c hbx,hb0.own.f⟩);have HB0:=sqH (zY hbx (aD g));obtain⟨f0,f1,f2,f3,f4,f5⟩:=sqF6 hR;obtain⟨u0,u1,u2,u3,u4,u5⟩:=sqC6 hR;obtain⟨HF,HR7,HG7⟩:=sqJ3 (hR7.all6 (ay az q) (aA ⟨#[]⟩) (ax aC 0 0) (ax aC 0 0) (ay az 0) (ax aC 0 0)) hR7 hg7;have d0:=hbb.c0;have d1':=hbb.c1;have d2:=hbb.c2;have d3:=hbb.c3;have d4:=hbb.c4;have d5:=hbb.c5;have d6:=hbb.c6;obtain⟨e0,e1,e2,e3,e4,e5,e6⟩:=sqF7 hbb;obtain⟨x0,x1,x2,x3⟩:=sqC4 hS;obtain⟨y0,y1,y2⟩:=sqC3 hC;have n1:¬(H=g):=wm;have n2:¬(H+1=g):=wm;obtain⟨HQ,HW0,HH⟩:=sqJ3 hq hw0 hH;clear hq ho hb hb0 hos hbb hbx hS hC hR hR7 hg7 hw0 hH;go_enter func112,ntmps112
  refine wI 2 ?_;intros;rw [<-HW0.o,<-HH.o];go_region
  all_goals (try dsimp only [Exit.then])
  clear d0 d1' d2 d3 d4 d5 d6 e0 e1 e2 e3 e4 e5 e6 x0 x1 x2 x3 y0 y1 y2
  refine wH ?_;intros;refine bodyPost_ret (results_cell_row rfl _ _ (H+1+1) _ _ _ _ ww (Arr.drew HF.o) underlying47 rfl wo) rfl ?_;refine⟨rfl,zO (zl (HB0.o.trans HG7.o) hHw _ _ _ _ _ _) (Below.refl _ _).drew,?_⟩;obtain⟨p',hD⟩:=DkB.mk' (HOW.o.grownE HG7.o (Nat.lt_succ_self g) (.inl hN)) HA7.o;have e1:zH ⟨s,co,fs⟩ t c q=⟨t,c,fs⟩:=if_pos HQ.o;rw [e1];exact⟨p',((hD.set6 HR7.o (.inr hHw) wm _ _ _ _ _ _).below (Below.refl _ _).drew).mono fun b h=> .inl h⟩
 ·obtain⟨w0,hw0,hS,hC,hR,hbx⟩:=j8 w 34 37 47 [v1,v2,ay az t.aI,ay az t.aH] [ay az c.aK,v3,aA ⟨c.at_.toArray⟩] [ay az 0,aA ⟨#[]⟩,ax aC 0 0,ax aC 0 0,ay az 0,ax aC 0 0];have hgl:=hb.lt;obtain⟨H,hH⟩:=wV w.heap.size
  rw [<-hH]at hS hC hR hgl;have hHw:w.heap.size<=H+1+1:=wm;have hq0:((q:Int)==0)=false:=by rw [beq_eq_false_iff_ne];omega
  obtain⟨HR,HG,HD⟩:=sqJ3 (hR.all6 (ay az q) (aA ⟨#[]⟩) (ax aC 0 0) (ax aC 0 0) (ay az 0) (ax aC 0 0)) (zl (zY hbx (aD g)) hHw (ay az q) (aA ⟨#[]⟩) (ax aC 0 0) (ax aC 0 0) (ay az 0) (ax aC 0 0)) (((hb.wider (N':=fun b=>N b\/w.heap.size<=b) (fun b h=>h)).below hbx).set6 hR (.inr hHw) wm (ay az q) (aA ⟨#[]⟩) (ax aC 0 0) (ax aC 0 0) (ay az 0) (ax aC 0 0));obtain⟨f0,f1,f2,f3,f4,f5⟩:=sqF6 hR;obtain⟨u0,u1,u2,u3,u4,u5⟩:=sqC6 hR;obtain⟨HQ,HW0,HH⟩:=sqJ3 hq hw0 hH;clear hq ho hb hbx hS hC hR hw0 hH;go_enter func112,ntmps112
  refine wI 3 ?_;intros;rw [<-HW0.o,<-HH.o]
  refine wH ?_;intros;refine bodyPost_ret (results_cell_row rfl _ _ (H+1+1) _ _ _ _ ww HR.o underlying47 rfl wo) rfl ?_;have e1:zH l t c q=l:=if_neg HQ.o;rw [e1];exact⟨rfl,HG.o,_,HD.o.mono fun b h=> .inl h⟩
theorem jk (g:Nat) (p:LoW) (l:LoP) (v1 v2 v3 v4:Value) (m:LoP) (q:Nat) (w:World) (N:aj) (hN:N g) (hb:DkB w g p l N) (ho:q=0->OwLo w (g+1) v1 v2 v3 v4 m N) :
  Calls zZZ 115 #[.pointer (aD ⟨g,0,aC⟩),KD v1 v2 v3 v4 m,ay az q] w fun e w' =>
   e= .returned (z3i q)/\w.grownBy w' (aD g)/\∃p',DkB w' g p' (xE l m q) N:=by
 by_cases hq:q=0
 ·obtain⟨⟨⟨A1,c1,B1,d1,G1,n1,F1,f1⟩,rfl,rfl,rfl,rfl, -⟩,hos⟩:=And.intro (ho hq).rd (ho hq);dsimp only at hos ⊢
  obtain⟨w0,hw0,hS,hR,hbx⟩:=zo w 40 47 [ax A1 m.st.aF.length c1,ax B1 m.st.aG.length d1,ay az m.st.aI,ay az m.st.aH,ay az m.co.aK,ax G1 m.co.aJ.length n1,aA ⟨m.co.at_.toArray⟩,ax F1 m.fs.length f1] [ay az 0,aA ⟨#[]⟩,ax aC 0 0,ax aC 0 0,ay az 0,ax aC 0 0];have hgl:=hb.lt;obtain⟨X,cX,Y,dY,G,ng,F,cF⟩:=p;obtain⟨s,co,fs⟩:=l;have hb0:=(hb.wider (N':=fun b=>N b\/w.heap.size<=b) (fun b h=>h)).below hbx;have hbb:Arr w0 g 82 [ax X s.aF.length cX,ax Y s.aG.length dY,ay az s.aI,ay az s.aH,ay az co.aK,ax G co.aJ.length ng,aA ⟨co.at_.toArray⟩,ax F fs.length cF]:=hb0.box;obtain⟨H,hH⟩:=wV w.heap.size
  rw [<-hH]at hS hR hgl;have hHw:w.heap.size<=H+1:=wm;have hq0:((q:Int)==0)=true:=by rw [beq_iff_eq];omega
  have hg8:=(zr (k:=7) (u:= ax F1 m.fs.length f1) (zr (k:=6) (u:= aA ⟨m.co.at_.toArray⟩) (zr (k:=5) (u:= ax G1 m.co.aJ.length n1) (zr (k:=4) (u:= ay az m.co.aK) (zr (k:=3) (u:= ay az m.st.aH) (zr (k:=2) (u:= ay az m.st.aI) (zr (k:=1) (u:= ax B1 m.st.aG.length d1) (zr (k:=0) (u:= ax A1 m.st.aF.length c1) (World.grownBy.refl w0 (aD g))))))))))
  have HA8:=sqH (hbb.all8 (ax A1 m.st.aF.length c1) (ax B1 m.st.aG.length d1) (ay az m.st.aI) (ay az m.st.aH) (ay az m.co.aK) (ax G1 m.co.aJ.length n1) (aA ⟨m.co.at_.toArray⟩) (ax F1 m.fs.length f1));have hR8:=hR.grown hg8 ab;have HOW:=sqH (show OwLo w0 (g+1) (ax A1 m.st.aF.length c1) (ax B1 m.st.aG.length d1) (ax G1 m.co.aJ.length n1) (ax F1 m.fs.length f1) m (fun b=>N b\/w.heap.size<=b) from⟨(hos.s.wider (fun b h=>h)).below hbx,zc hos.c hbx,hos.f.below hbx⟩);have HB0:=sqH (zY hbx (aD g));obtain⟨z0,z1,z2,z3,z4,z5⟩:=sqF6 hR;obtain⟨u0,u1,u2,u3,u4,u5⟩:=sqC6 hR;obtain⟨HF,HR8,HG8⟩:=sqJ3 (hR8.all6 (ay az q) (aA ⟨#[]⟩) (ax aC 0 0) (ax aC 0 0) (ay az 0) (ax aC 0 0)) hR8 hg8;obtain⟨y0,y1,y2,y3,y4,y5,y6,y7⟩:=sqC8 hbb;obtain⟨e0,e1,e2,e3,e4,e5,e6,e7⟩:=sqF8 hbb;obtain⟨x0,x1,x2,x3,x4,x5,x6,x7⟩:=sqC8 hS;have n1':¬(H=g):=wm;obtain⟨HQ,HW0,HH⟩:=sqJ3 hq hw0 hH;rw [hw0,hH]at x0 x1 x2 x3 x4 x5 x6 x7;clear hq ho hb hb0 hos hbb hbx hS hR hR8 hg8 hw0 hH;go_enter func115,ntmps115
  refine wI 2 ?_;intros;rw [<-HW0.o,<-HH.o];rw [<-HW0.o,<-HH.o]at x0 x1 x2 x3 x4 x5 x6 x7
  refine wH ?_;intros;refine bodyPost_ret (results_cell_row rfl _ _ (H+1) _ _ _ _ ww HF.o underlying47 rfl wo) rfl ?_;refine⟨rfl,zl (HB0.o.trans HG8.o) hHw _ _ _ _ _ _,?_⟩;obtain⟨p',hD⟩:=DkB.mk' (HOW.o.grownE HG8.o (Nat.lt_succ_self g) (.inl hN)) HA8.o;have e1:xE ⟨s,co,fs⟩ m q=m:=if_pos HQ.o;rw [e1];exact⟨p',(hD.set6 HR8.o (.inr hHw) wm _ _ _ _ _ _).mono fun b h=> .inl h⟩
 ·obtain⟨w0,hw0,hS,hR,hbx⟩:=zo w 40 47 [v1,v2,ay az m.st.aI,ay az m.st.aH,ay az m.co.aK,v3,aA ⟨m.co.at_.toArray⟩,v4] [ay az 0,aA ⟨#[]⟩,ax aC 0 0,ax aC 0 0,ay az 0,ax aC 0 0];have hgl:=hb.lt;obtain⟨H,hH⟩:=wV w.heap.size
  rw [<-hH]at hS hR hgl;have hHw:w.heap.size<=H+1:=wm;have hq0:((q:Int)==0)=false:=by rw [beq_eq_false_iff_ne];omega
  obtain⟨HR,HG,HD⟩:=sqJ3 (hR.all6 (ay az q) (aA ⟨#[]⟩) (ax aC 0 0) (ax aC 0 0) (ay az 0) (ax aC 0 0)) (zl (zY hbx (aD g)) hHw (ay az q) (aA ⟨#[]⟩) (ax aC 0 0) (ax aC 0 0) (ay az 0) (ax aC 0 0)) (((hb.wider (N':=fun b=>N b\/w.heap.size<=b) (fun b h=>h)).below hbx).set6 hR (.inr hHw) wm (ay az q) (aA ⟨#[]⟩) (ax aC 0 0) (ax aC 0 0) (ay az 0) (ax aC 0 0));obtain⟨z0,z1,z2,z3,z4,z5⟩:=sqF6 hR;obtain⟨u0,u1,u2,u3,u4,u5⟩:=sqC6 hR;obtain⟨HQ,HW0,HH⟩:=sqJ3 hq hw0 hH;clear hq ho hb hbx hS hR hw0 hH;go_enter func115,ntmps115
  refine wI 3 ?_;intros;rw [<-HW0.o,<-HH.o]
  refine wH ?_;intros;refine bodyPost_ret (results_cell_row rfl _ _ (H+1) _ _ _ _ ww HR.o underlying47 rfl wo) rfl ?_;have e1:xE l m q=l:=if_neg HQ.o;rw [e1];exact⟨rfl,HG.o,_,HD.o.mono fun b h=> .inl h⟩
def yL (r:RepP) (A:af) (c:Nat) (A':af) (c':Nat) (B:af) (d:Nat):ag:= [ay az r.err,aA ⟨r.dig.toArray⟩,ax A r.data.length c,ax A' r.aM.length c',ay az r.n,ax B r.who.length d]
theorem UU (r:RepP) (A:af) (c:Nat) (A':af) (c':Nat) (B:af) (d:Nat):∀u∈yL r A c A' c' B d,u.oneCell'=true:=by
 intro u hu;simp only [yL,List.mem_cons,List.not_mem_nil,or_false]at hu;rcases hu with rfl | rfl | rfl | rfl | rfl | rfl<;>rfl
theorem QX {r:RepP} {c:Nat} {A':af} {c':Nat} {B:af} {d b:Nat} (h:leads b (yL r A c A' c' B d)):∃a,(A=aD a\/A'=aD a\/B=aD a)/\a.block=b:=by
 obtain⟨a,n,c2,hm,rfl⟩:=h;simp only [yL,List.mem_cons,List.not_mem_nil,or_false,Value.slice.injEq,reduceCtorEq,false_or]at hm;rcases hm with ⟨e,_⟩ | ⟨e,_⟩ | ⟨e,_⟩
 ·exact⟨a,.inl e.symm,rfl⟩
 ·exact⟨a,.inr (.inl e.symm),rfl⟩
 ·exact⟨a,.inr (.inr e.symm),rfl⟩
def Js:Shp RepP where
 size:=6
 R w r cs:=∃A c A' c' B d,cs=yL r A c A' c' B d/\Sl w 1 A r.data.length c (bys r.data)/\Sl w 3 A' r.aM.length c' (pcs r.aM)/\Sl w 1 B r.who.length d (ins r.who)
 len:=by rintro w r cs ⟨A,c,A',c',B,d,rfl,_⟩;rfl
 one:=by
  rintro w r cs ⟨A,c,A',c',B,d,rfl,_⟩
  exact UU r A c A' c' B d
 live:=by
  rintro w r cs ⟨A,c,A',c',B,d,rfl,h1,h2,h3⟩ g hl
  obtain⟨a,e | e | e,rfl⟩:=QX hl
  ·exact h1.live a e
  ·exact h2.live a e
  ·exact h3.live a e
 keep:=by
  rintro w w' r cs ⟨A,c,A',c',B,d,rfl,h1,h2,h3⟩ hs hk
  exact⟨A,c,A',c',B,d,rfl,h1.keep hs fun g hg ⟨a,ha,hb⟩=>hk g hg ⟨a,r.data.length,c,by subst ha;simp [yL],hb⟩,h2.keep hs fun g hg ⟨a,ha,hb⟩=>hk g hg ⟨a,r.aM.length,c',by subst ha;simp [yL],hb⟩,h3.keep hs fun g hg ⟨a,ha,hb⟩=>hk g hg ⟨a,r.who.length,d,by subst ha;simp [yL],hb⟩⟩
theorem Rw.rep_at {l:List RepP} (h:Rw Js w A l) (k:Nat) (hk:k<l.length) :
  ∃b off B c B' c' C d,A=aD ⟨b,off,aC⟩/\b<w.heap.size/\w.cell? ⟨b,off+k*6,aC⟩=aD (ay az (l[k].err:Int))/\w.cell? ⟨b,off+k*6+1,aC⟩=aD (aA ⟨l[k].dig.toArray⟩) /\
   w.cell? ⟨b,off+k*6+2,aC⟩=aD (ax B l[k].data.length c)/\w.cell? ⟨b,off+k*6+3,aC⟩=aD (ax B' l[k].aM.length c')/\w.cell? ⟨b,off+k*6+4,aC⟩=aD (ay az (l[k].n:Int))/\w.cell? ⟨b,off+k*6+5,aC⟩=aD (ax C l[k].who.length d) /\
   Sl w 1 B l[k].data.length c (bys l[k].data)/\Sl w 3 B' l[k].aM.length c' (pcs l[k].aM)/\Sl w 1 C l[k].who.length d (ins l[k].who):=by
 obtain⟨b,off,cs,rfl,hb,⟨B,c,B',c',C,d,rfl,h1,h2,h3⟩,hc⟩:=h.at_ k hk;exact⟨b,off,B,c,B',c',C,d,rfl,hb,hc 0 _ rfl,hc 1 _ rfl,hc 2 _ rfl,hc 3 _ rfl,hc 4 _ rfl,hc 5 _ rfl,h1,h2,h3⟩
theorem z2x:El zZZ 30 47 6 104:=El.mk' (z:= .agg #[ay az 0,aA ByteArray.empty,ax aC 0 0,ax aC 0 0,ay az 0,ax aC 0 0]) underlying30 wo rfl wm wm
abbrev orC (kd n:Nat) (dg D:ae) (ps:List PartP) (A:af) (c:Nat) (A':af) (c':Nat):ag:= [ay az kd,ay az n,aA ⟨dg.toArray⟩,ax A D.length c,ax A' ps.length c']
abbrev orV (kd n:Nat) (dg D:ae) (ps:List PartP) (A:af) (c:Nat) (A':af) (c':Nat):Value:= .agg #[ay az kd,ay az n,aA ⟨dg.toArray⟩,ax A D.length c,ax A' ps.length c']
def k5 (w:World) (g:Nat) (N:aj) (r:LoP×RepP) (e:Ending) (w':World):Prop :=
 ∃dv pv wv,e= .returned (z3v r.2 dv pv wv)/\w.grownBy w' (aD g)/\(∃p',DkB w' g p' r.1 N)/\RepAt w' w.heap.size r.2 dv pv wv
theorem z0y (g:Nat) (p:LoW) (l:LoP) (kd n:Nat) (dg D:ae) (ps:List PartP) (A:af) (c:Nat) (A':af) (c':Nat) (w:World) (hL:GoodL l) (h3:D.length<=300) (h1:kd=1) (N:aj) (hNg:N g) (hNw:∀b,N b->b<w.heap.size) (hb:DkB w g p l N) (hd:Sl w 1 A D.length c (bys D)) (hq:Sl w 3 A' ps.length c' (pcs ps)) :
  Calls Tryz.prog 66 #[.pointer (aD ⟨g,0,aC⟩),orV kd n dg D ps A c A' c'] w (k5 w g N (blobD l ⟨kd,n,dg,D,ps⟩)):=by
 have k1:((kd:Int)==1)=true:=by rw [beq_iff_eq];omega
 have HK:=sqH h1;clear h1;have HPX:=sqH h3;clear h3;obtain⟨X,cX,Y,dY,G,ng,F,cF⟩:=p;obtain⟨s,co,fs⟩:=l;have hgl:=hb.lt;have hgw:=hb.lt;have hbw:=hb.wider (N':=fun b=>N b\/w.heap.size<=b) (fun b h=>h);obtain⟨w0,hw0,hP,hR,hbx⟩:=zo w 29 47 [ay az kd,ay az n,aA ⟨dg.toArray⟩,ax A D.length c,ax A' ps.length c'] [ay az 0,aA ⟨#[]⟩,ax aC 0 0,ax aC 0 0,ay az 0,ax aC 0 0];have HDK:=sqH (show ∀W,Below w0.heap.size w0 W->DkB W g ⟨X,cX,Y,dY,G,ng,F,cF⟩ ⟨s,co,fs⟩ (fun b=>N b\/w.heap.size<=b) from fun W h=>(hbw.below hbx).below h);have HBC:=sqH (show ∀W,Below w0.heap.size w0 W->wF W g (ax X s.aF.length cX) (ax Y s.aG.length dY) (ay az s.aI) (ay az s.aH) (ay az co.aK) (ax G co.aJ.length ng) (aA ⟨co.at_.toArray⟩) (ax F fs.length cF) from fun W h=>by
  have b:=(HDK.o W h).box;exact sqC8 b)
 have hws:=hbx.size;obtain⟨HBX,HD,HQ⟩:=sqJ3 hbx (hd.below hbx) (hq.below hbx);obtain⟨H,hH⟩:=wV w.heap.size
 rw [<-hH]at hP hR hgl;have hHw:w.heap.size<=H:=wm;have hHw1:w.heap.size<=H+1:=wm;have hgH:g≠H+1:=wm;have hHl:H+1<w0.heap.size:=hR.lt;obtain⟨HP,HR,HL,HNW⟩:=sqJ4 (show ∀W,Below w0.heap.size w0 W->Arr W H 29 (orC kd n dg D ps A c A' c') from fun W h=>hP.below h) (show ∀W,Below w0.heap.size w0 W->Arr W (H+1) 47 QW from fun W h=>hR.below h) hL hNw;obtain⟨x0,x1,x2,x3,x4⟩:=sqC5 hP;have HW0:=sqH hw0;have HH:=sqH hH;rw [hw0,hH]at x0 x1 x2 x3 x4;clear hb hbw hbx hd hq hP hR hL hw0 hH hNw;go_enter func66,ntmps66
 refine wI 3 ?_;intros;rw [<-HW0.o,<-HH.o];clear x0 x1 x2 x3 x4;have HPB:=sqH (fun W (h:Below w0.heap.size w0 W)=>Vf X cX Y dY s G ng co W D A c HL.o.s (HDK.o W h).rd.s HL.o.g HL.o.c (HDK.o W h).rd.c HPX.o (HD.o.below h));generalize hpb:pbP s co D=r at HPB;obtain⟨t,c2,dq,q⟩:=r;dsimp only at HPB;have HSB:=sqH (show ∀W,Below w0.heap.size w0 W->(wG W g (ax X s.aF.length cX) (ax Y s.aG.length dY) (ay az s.aI) (ay az s.aH) (ay az co.aK) (ax G co.aJ.length ng) (aA ⟨co.at_.toArray⟩))/\W.cell? ⟨H,3,aC⟩=aD (ax A D.length c) from fun W h=>by
  obtain⟨y0,y1,y2,y3,y4,y5,y6,_⟩:=HBC.o W h;exact⟨⟨y0,y1,y2,y3,y4,y5,y6⟩,(HP.o W h).c3⟩)
 have HPD:=sqH hpb;clear hpb
 iterate 1 (first | go_values | go_skip | go_guarded | go_step | go_upon | go_back)
 apply zE;intro REST;apply zE;intro Rb1;apply zE;intro Rb2;apply zE;intro Rb3;apply zE;intro Rb4;refine ze [20,21] (S:=(fun w'=>(wG w' g (ax X s.aF.length cX) (ax Y s.aG.length dY) (ay az s.aI) (ay az s.aH) (ay az co.aK) (ax G co.aJ.length ng) (aA ⟨co.at_.toArray⟩))/\w'.cell? ⟨H,3,aC⟩=aD (ax A D.length c))) wo ?_ (fun hHeld=> ?_)
 ·exact HSB.o _ (((wi w0)).drew)
 have hB:=((wi w0)).drew;generalize w0.drew=wn0 at *
 refine wP 0 ?_;refine wP 1 ?_;refine wP 2 ?_;refine wP 3 ?_;refine wO 4 ?_;refine wP 5 ?_;refine wP 6 ?_;refine wP 7 ?_;refine wP 8 ?_;refine wO 9 ?_;refine wP 10 ?_;refine wO 11 ?_;refine za (rs:= [12,18,19]) wo wu ?_;refine z8.cons (o:=_) rfl (fun K hK=> ?_) ?_
 ·
  go_simp;refine(HPB.o wn0 hB).mono ?_;rintro e5 w5 ⟨v1,v2,v3,rfl,ho5,hb5⟩;obtain⟨A1,c1,B1,d1,rfl,rfl, -⟩:=ho5.s.rows;obtain⟨G1,n1,rfl, -, -⟩:=Rd.of_own' ho5.c;dsimp only;refine zR hK ?_ (fun W=>Below w0.heap.size w0 W/\OwSt W w.heap.size (ax A1 t.aF.length c1) (ax B1 t.aG.length d1) t (fun b=>(N b\/b=H+1))/\W.ownsRow w.heap.size 9 1 (ax G1 c2.aJ.length n1) c2.aJ.length (strs c2.aJ)) (fun W=>True) ?_ ?_ (fun wn1 hHeld2 hF _=> ?_)
  ·exact HSB.o _ ((wh hB hb5))
  ·exact⟨wh hB hb5,(ho5.s.lower (base':=w.heap.size) (by have:=hB.size;omega)).mono (N':=(fun b=>(N b\/b=H+1))) (fun b hb=>by have:=hB.size;rcases hb with hb | hb;(have:=HNW.o b hb;omega);omega),zb ho5.c (by have:=hB.size;omega)⟩
  ·trivial
  clear hB hHeld;have hHeld:=hHeld2;clear hHeld2;obtain⟨hB,ho,hl⟩:=hF;clear hb5 ho5;clear hK K
  refine wP 13 ?_;refine wP 14 ?_;refine wP 15 ?_;refine wP 16 ?_;refine wP 17 ?_;refine za (rs:= [18,19]) wo wu ?_;refine z8.cons (o:=_) rfl (fun K hK=> ?_) ?_
  ·
   have hba:=wj wn1 (aB #[ax aC 0 0,ax aC 0 0,ay az 0,ay az 0] 34);have hn:=Arr.new wn1 34 [ax aC 0 0,ax aC 0 0,ay az 0,ay az 0];have hnl:w0.heap.size<=wn1.heap.size:=hB.size;obtain⟨g5,hge⟩:=wV wn1.heap.size
   have hN:∀b,b=g5->wn1.heap.size<=b:=fun b h=>by rw [h,hge];exact Nat.le_refl _
   rw [<-hge]at hn hnl;go_simp;rw [<-hge];clear hge;refine zR hK ?_ (fun W=>Below w0.heap.size w0 W/\Arr W g5 34 [ax aC 0 0,ax aC 0 0,ay az 0,ay az 0]/\w0.heap.size<=g5/\OwSt W w.heap.size (ax A1 t.aF.length c1) (ax B1 t.aG.length d1) t (fun b=>(N b\/b=H+1)\/b=g5)/\W.ownsRow w.heap.size 9 1 (ax G1 c2.aJ.length n1) c2.aJ.length (strs c2.aJ)) (fun W=>True) ?_ ?_ (fun wn2 hHeld2 hF _=> ?_)
   ·exact HSB.o _ ((wh hB hba))
   ·exact⟨wh hB hba,hn,hnl,(ho.wider (N':=(fun b=>(N b\/b=H+1)\/b=g5)) (fun b hb=>hb.elim (fun hb=> .inl hb) (fun hb=> .inr (hN _ hb)))).below hba,zc hl hba⟩
   ·trivial
   clear hl ho hB hHeld;have hHeld:=hHeld2;clear hHeld2;obtain⟨hB,h5,h5l,ho,hl⟩:=hF;clear hba hn hnl hN;clear hK K
   try simp only [sqP]
   have hall:=aE hB (aE h5 (aE h5l (aE ho (aE hl hHeld))));clear hHeld hl ho h5l h5 hB;generalize wn2=wz at hall ⊢
   revert hall;revert wz;revert g5;revert n1;revert G1;revert d1;revert B1;revert c1;revert A1;exact Rb2.o
  refine z8.cons (o:=_) rfl (fun K hK=> ?_) ?_
  ·
   have hba:=wj wn1 (aB #[ay az 0,ax aC 0 0,aA ⟨#[]⟩] 37);have hn:=Arr.new wn1 37 [ay az 0,ax aC 0 0,aA ⟨#[]⟩];have hnl:w0.heap.size<=wn1.heap.size:=hB.size;obtain⟨g6,hge⟩:=wV wn1.heap.size
   have hN:∀b,b=g6->wn1.heap.size<=b:=fun b h=>by rw [h,hge];exact Nat.le_refl _
   rw [<-hge]at hn hnl;go_simp;rw [<-hge];clear hge;refine zR hK ?_ (fun W=>Below w0.heap.size w0 W/\Arr W g6 37 [ay az 0,ax aC 0 0,aA ⟨#[]⟩]/\w0.heap.size<=g6/\OwSt W w.heap.size (ax A1 t.aF.length c1) (ax B1 t.aG.length d1) t (fun b=>(N b\/b=H+1)\/b=g6)/\W.ownsRow w.heap.size 9 1 (ax G1 c2.aJ.length n1) c2.aJ.length (strs c2.aJ)) (fun W=>True) ?_ ?_ (fun wn3 hHeld2 hF _=> ?_)
   ·exact HSB.o _ ((wh hB hba))
   ·exact⟨wh hB hba,hn,hnl,(ho.wider (N':=(fun b=>(N b\/b=H+1)\/b=g6)) (fun b hb=>hb.elim (fun hb=> .inl hb) (fun hb=> .inr (hN _ hb)))).below hba,zc hl hba⟩
   ·trivial
   clear hl ho hB hHeld;have hHeld:=hHeld2;clear hHeld2;obtain⟨hB,h6,h6l,ho,hl⟩:=hF;clear hba hn hnl hN;clear hK K
   try simp only [sqP]
   have hall:=aE hB (aE h6 (aE h6l (aE ho (aE hl hHeld))));clear hHeld hl ho h6l h6 hB;generalize wn3=wz at hall ⊢
   revert hall;revert wz;revert g6;revert n1;revert G1;revert d1;revert B1;revert c1;revert A1;exact Rb3.o
  exact z8.nil
 refine z8.cons (o:=_) rfl (fun K hK=> ?_) ?_
 ·
  have hba:=wj wn0 (aB #[ax aC 0 0,ax aC 0 0,ay az 0,ay az 0] 34);have hn:=Arr.new wn0 34 [ax aC 0 0,ax aC 0 0,ay az 0,ay az 0];have hnl:w0.heap.size<=wn0.heap.size:=hB.size;obtain⟨g5,hge⟩:=wV wn0.heap.size
  have hN:∀b,b=g5->wn0.heap.size<=b:=fun b h=>by rw [h,hge];exact Nat.le_refl _
  rw [<-hge]at hn hnl;go_simp;rw [<-hge];clear hge;refine zR hK ?_ (fun W=>Below w0.heap.size w0 W/\Arr W g5 34 [ax aC 0 0,ax aC 0 0,ay az 0,ay az 0]/\w0.heap.size<=g5) (fun W=>True) ?_ ?_ (fun wn4 hHeld2 hF _=> ?_)
  ·exact HSB.o _ ((wh hB hba))
  ·exact⟨wh hB hba,hn,hnl⟩
  ·trivial
  clear hB hHeld;have hHeld:=hHeld2;clear hHeld2;obtain⟨hB,h5,h5l⟩:=hF;clear hba hn hnl hN;clear hK K
  try simp only [sqP]
  refine za (rs:= [12,19]) wo wu ?_;refine z8.cons (o:=_) rfl (fun K hK=> ?_) ?_
  ·
   go_simp;refine(HPB.o wn4 hB).mono ?_;rintro e5 w5 ⟨v1,v2,v3,rfl,ho5,hb5⟩;obtain⟨A1,c1,B1,d1,rfl,rfl, -⟩:=ho5.s.rows;obtain⟨G1,n1,rfl, -, -⟩:=Rd.of_own' ho5.c;dsimp only;refine zR hK ?_ (fun W=>Below w0.heap.size w0 W/\Arr W g5 34 [ax aC 0 0,ax aC 0 0,ay az 0,ay az 0]/\w0.heap.size<=g5/\OwSt W w.heap.size (ax A1 t.aF.length c1) (ax B1 t.aG.length d1) t (fun b=>(N b\/b=H+1)\/b=g5)/\W.ownsRow w.heap.size 9 1 (ax G1 c2.aJ.length n1) c2.aJ.length (strs c2.aJ)) (fun W=>True) ?_ ?_ (fun wn5 hHeld2 hF _=> ?_)
   ·exact HSB.o _ ((wh hB hb5))
   ·exact⟨wh hB hb5,h5.below hb5,h5l,(ho5.s.lower (base':=w.heap.size) (by have:=hB.size;omega)).mono (N':=(fun b=>(N b\/b=H+1)\/b=g5)) (fun b hb=>hb.elim (fun hb=>by have:=hB.size;rcases hb with hb | hb;(have:=HNW.o b hb;omega);omega) (fun hb=>(by rw [hb];exact h5.lt))),zb ho5.c (by have:=hB.size;omega)⟩
   ·trivial
   clear h5l h5 hB hHeld;have hHeld:=hHeld2;clear hHeld2;obtain⟨hB,h5,h5l,ho,hl⟩:=hF;clear hb5 ho5;clear hK K
   refine wP 13 ?_;refine wP 14 ?_;refine wP 15 ?_;refine wP 16 ?_;refine wP 17 ?_;have hall:=aE hB (aE h5 (aE h5l (aE ho (aE hl hHeld))));clear hHeld hl ho h5l h5 hB;generalize wn5=wz at hall ⊢
   revert hall;revert wz;revert g5;revert n1;revert G1;revert d1;revert B1;revert c1;revert A1;exact Rb2.o
  refine z8.cons (o:=_) rfl (fun K hK=> ?_) ?_
  ·
   have hba:=wj wn4 (aB #[ay az 0,ax aC 0 0,aA ⟨#[]⟩] 37);have hn:=Arr.new wn4 37 [ay az 0,ax aC 0 0,aA ⟨#[]⟩];have hnl:w0.heap.size<=wn4.heap.size:=hB.size;obtain⟨g6,hge⟩:=wV wn4.heap.size
   have hN:∀b,b=g6->wn4.heap.size<=b:=fun b h=>by rw [h,hge];exact Nat.le_refl _
   rw [<-hge]at hn hnl;go_simp;rw [<-hge];clear hge;refine zR hK ?_ (fun W=>Below w0.heap.size w0 W/\Arr W g5 34 [ax aC 0 0,ax aC 0 0,ay az 0,ay az 0]/\w0.heap.size<=g5/\Arr W g6 37 [ay az 0,ax aC 0 0,aA ⟨#[]⟩]/\w0.heap.size<=g6/\g5≠g6) (fun W=>True) ?_ ?_ (fun wn6 hHeld2 hF _=> ?_)
   ·exact HSB.o _ ((wh hB hba))
   ·exact⟨wh hB hba,h5.below hba,h5l,hn,hnl,(fun e=>Nat.lt_irrefl _ (by have h1:=h5.lt;rw [e]at h1;exact Nat.lt_of_lt_of_le h1 (hN _ rfl)))⟩
   ·trivial
   clear h5l h5 hB hHeld;have hHeld:=hHeld2;clear hHeld2;obtain⟨hB,h5,h5l,h6,h6l,h56n⟩:=hF;clear hba hn hnl hN;clear hK K
   try simp only [sqP]
   have hall:=aE hB (aE h5 (aE h5l (aE h6 (aE h6l (aE h56n hHeld)))));clear hHeld h56n h6l h6 h5l h5 hB;generalize wn6=wz at hall ⊢
   revert hall;revert wz;revert g6;revert g5;exact Rb4.o
  exact z8.nil
 refine z8.cons (o:=_) rfl (fun K hK=> ?_) ?_
 ·
  have hba:=wj wn0 (aB #[ay az 0,ax aC 0 0,aA ⟨#[]⟩] 37);have hn:=Arr.new wn0 37 [ay az 0,ax aC 0 0,aA ⟨#[]⟩];have hnl:w0.heap.size<=wn0.heap.size:=hB.size;obtain⟨g6,hge⟩:=wV wn0.heap.size
  have hN:∀b,b=g6->wn0.heap.size<=b:=fun b h=>by rw [h,hge];exact Nat.le_refl _
  rw [<-hge]at hn hnl;go_simp;rw [<-hge];clear hge;refine zR hK ?_ (fun W=>Below w0.heap.size w0 W/\Arr W g6 37 [ay az 0,ax aC 0 0,aA ⟨#[]⟩]/\w0.heap.size<=g6) (fun W=>True) ?_ ?_ (fun wn7 hHeld2 hF _=> ?_)
  ·exact HSB.o _ ((wh hB hba))
  ·exact⟨wh hB hba,hn,hnl⟩
  ·trivial
  clear hB hHeld;have hHeld:=hHeld2;clear hHeld2;obtain⟨hB,h6,h6l⟩:=hF;clear hba hn hnl hN;clear hK K
  try simp only [sqP]
  refine za (rs:= [12,18]) wo wu ?_;refine z8.cons (o:=_) rfl (fun K hK=> ?_) ?_
  ·
   go_simp;refine(HPB.o wn7 hB).mono ?_;rintro e5 w5 ⟨v1,v2,v3,rfl,ho5,hb5⟩;obtain⟨A1,c1,B1,d1,rfl,rfl, -⟩:=ho5.s.rows;obtain⟨G1,n1,rfl, -, -⟩:=Rd.of_own' ho5.c;dsimp only;refine zR hK ?_ (fun W=>Below w0.heap.size w0 W/\Arr W g6 37 [ay az 0,ax aC 0 0,aA ⟨#[]⟩]/\w0.heap.size<=g6/\OwSt W w.heap.size (ax A1 t.aF.length c1) (ax B1 t.aG.length d1) t (fun b=>(N b\/b=H+1)\/b=g6)/\W.ownsRow w.heap.size 9 1 (ax G1 c2.aJ.length n1) c2.aJ.length (strs c2.aJ)) (fun W=>True) ?_ ?_ (fun wn8 hHeld2 hF _=> ?_)
   ·exact HSB.o _ ((wh hB hb5))
   ·exact⟨wh hB hb5,h6.below hb5,h6l,(ho5.s.lower (base':=w.heap.size) (by have:=hB.size;omega)).mono (N':=(fun b=>(N b\/b=H+1)\/b=g6)) (fun b hb=>hb.elim (fun hb=>by have:=hB.size;rcases hb with hb | hb;(have:=HNW.o b hb;omega);omega) (fun hb=>(by rw [hb];exact h6.lt))),zb ho5.c (by have:=hB.size;omega)⟩
   ·trivial
   clear h6l h6 hB hHeld;have hHeld:=hHeld2;clear hHeld2;obtain⟨hB,h6,h6l,ho,hl⟩:=hF;clear hb5 ho5;clear hK K
   refine wP 13 ?_;refine wP 14 ?_;refine wP 15 ?_;refine wP 16 ?_;refine wP 17 ?_;have hall:=aE hB (aE h6 (aE h6l (aE ho (aE hl hHeld))));clear hHeld hl ho h6l h6 hB;generalize wn8=wz at hall ⊢
   revert hall;revert wz;revert g6;revert n1;revert G1;revert d1;revert B1;revert c1;revert A1;exact Rb3.o
  refine z8.cons (o:=_) rfl (fun K hK=> ?_) ?_
  ·
   have hba:=wj wn7 (aB #[ax aC 0 0,ax aC 0 0,ay az 0,ay az 0] 34);have hn:=Arr.new wn7 34 [ax aC 0 0,ax aC 0 0,ay az 0,ay az 0];have hnl:w0.heap.size<=wn7.heap.size:=hB.size;obtain⟨g5,hge⟩:=wV wn7.heap.size
   have hN:∀b,b=g5->wn7.heap.size<=b:=fun b h=>by rw [h,hge];exact Nat.le_refl _
   rw [<-hge]at hn hnl;go_simp;rw [<-hge];clear hge;refine zR hK ?_ (fun W=>Below w0.heap.size w0 W/\Arr W g5 34 [ax aC 0 0,ax aC 0 0,ay az 0,ay az 0]/\w0.heap.size<=g5/\Arr W g6 37 [ay az 0,ax aC 0 0,aA ⟨#[]⟩]/\w0.heap.size<=g6/\g5≠g6) (fun W=>True) ?_ ?_ (fun wn9 hHeld2 hF _=> ?_)
   ·exact HSB.o _ ((wh hB hba))
   ·exact⟨wh hB hba,hn,hnl,h6.below hba,h6l,(fun e=>Nat.lt_irrefl _ (by have h1:=h6.lt;rw [<-e]at h1;exact Nat.lt_of_lt_of_le h1 (hN _ rfl)))⟩
   ·trivial
   clear h6l h6 hB hHeld;have hHeld:=hHeld2;clear hHeld2;obtain⟨hB,h5,h5l,h6,h6l,h56n⟩:=hF;clear hba hn hnl hN;clear hK K
   try simp only [sqP]
   have hall:=aE hB (aE h5 (aE h5l (aE h6 (aE h6l (aE h56n hHeld)))));clear hHeld h56n h6l h6 h5l h5 hB;generalize wn9=wz at hall ⊢
   revert hall;revert wz;revert g6;revert g5;exact Rb4.o
  exact z8.nil
 exact z8.nil;intro g5 g6 wRb4 hall;obtain⟨hB,h5,h5l,h6,h6l,h56n,hHeld⟩:=hall;refine za (rs:= [12]) wo wu ?_;refine z8.cons (o:=_) rfl (fun K hK=> ?_) ?_
 ·
  go_simp;refine(HPB.o wRb4 hB).mono ?_;rintro e5 w5 ⟨v1,v2,v3,rfl,ho5,hb5⟩;obtain⟨A1,c1,B1,d1,rfl,rfl, -⟩:=ho5.s.rows;obtain⟨G1,n1,rfl, -, -⟩:=Rd.of_own' ho5.c;dsimp only;refine zR hK ?_ (fun W=>Below w0.heap.size w0 W/\Arr W g5 34 [ax aC 0 0,ax aC 0 0,ay az 0,ay az 0]/\w0.heap.size<=g5/\Arr W g6 37 [ay az 0,ax aC 0 0,aA ⟨#[]⟩]/\w0.heap.size<=g6/\g5≠g6/\OwSt W w.heap.size (ax A1 t.aF.length c1) (ax B1 t.aG.length d1) t (fun b=>(N b\/b=H+1)\/b=g5\/b=g6)/\W.ownsRow w.heap.size 9 1 (ax G1 c2.aJ.length n1) c2.aJ.length (strs c2.aJ)) (fun W=>True) ?_ ?_ (fun wn10 hHeld2 hF _=> ?_)
  ·exact HSB.o _ ((wh hB hb5))
  ·exact⟨wh hB hb5,h5.below hb5,h5l,h6.below hb5,h6l,h56n,(ho5.s.lower (base':=w.heap.size) (by have:=hB.size;omega)).mono (N':=(fun b=>(N b\/b=H+1)\/b=g5\/b=g6)) (fun b hb=>hb.elim (fun hb=>by have:=hB.size;rcases hb with hb | hb;(have:=HNW.o b hb;omega);omega) (fun hb=>hb.elim (fun hb=>by rw [hb];exact h5.lt) (fun hb=>(by rw [hb];exact h6.lt)))),zb ho5.c (by have:=hB.size;omega)⟩
  ·trivial
  clear h56n h6l h6 h5l h5 hB hHeld;have hHeld:=hHeld2;clear hHeld2;obtain⟨hB,h5,h5l,h6,h6l,h56n,ho,hl⟩:=hF;clear hb5 ho5;clear hK K
  refine wP 13 ?_;refine wP 14 ?_;refine wP 15 ?_;refine wP 16 ?_;refine wP 17 ?_;have hall:=aE hB (aE h5 (aE h5l (aE h6 (aE h6l (aE h56n (aE ho (aE hl hHeld)))))));clear hHeld hl ho h56n h6l h6 h5l h5 hB;generalize wn10=wz at hall ⊢
  revert hall;revert wz;revert g6;revert g5;revert n1;revert G1;revert d1;revert B1;revert c1;revert A1;exact Rb1.o
 exact z8.nil;intro A1 c1 B1 d1 G1 n1 g6 wRb3 hall;obtain⟨hB,h6,h6l,ho,hl,hHeld⟩:=hall;refine za (rs:= [18]) wo wu ?_;refine z8.cons (o:=_) rfl (fun K hK=> ?_) ?_
 ·
  have hba:=wj wRb3 (aB #[ax aC 0 0,ax aC 0 0,ay az 0,ay az 0] 34);have hn:=Arr.new wRb3 34 [ax aC 0 0,ax aC 0 0,ay az 0,ay az 0];have hnl:w0.heap.size<=wRb3.heap.size:=hB.size;obtain⟨g5,hge⟩:=wV wRb3.heap.size
  have hN:∀b,b=g5->wRb3.heap.size<=b:=fun b h=>by rw [h,hge];exact Nat.le_refl _
  rw [<-hge]at hn hnl;go_simp;rw [<-hge];clear hge;refine zR hK ?_ (fun W=>Below w0.heap.size w0 W/\Arr W g5 34 [ax aC 0 0,ax aC 0 0,ay az 0,ay az 0]/\w0.heap.size<=g5/\Arr W g6 37 [ay az 0,ax aC 0 0,aA ⟨#[]⟩]/\w0.heap.size<=g6/\g5≠g6/\OwSt W w.heap.size (ax A1 t.aF.length c1) (ax B1 t.aG.length d1) t (fun b=>(N b\/b=H+1)\/b=g5\/b=g6)/\W.ownsRow w.heap.size 9 1 (ax G1 c2.aJ.length n1) c2.aJ.length (strs c2.aJ)) (fun W=>True) ?_ ?_ (fun wn11 hHeld2 hF _=> ?_)
  ·exact HSB.o _ ((wh hB hba))
  ·exact⟨wh hB hba,hn,hnl,h6.below hba,h6l,(fun e=>Nat.lt_irrefl _ (by have h1:=h6.lt;rw [<-e]at h1;exact Nat.lt_of_lt_of_le h1 (hN _ rfl))),(ho.wider (N':=(fun b=>(N b\/b=H+1)\/b=g5\/b=g6)) (fun b hb=>hb.elim (fun hb=> .inl (.inl hb)) (fun hb=>hb.elim (fun hb=> .inr (hN _ hb)) (fun hb=> .inl (.inr hb))))).below hba,zc hl hba⟩
  ·trivial
  clear hl ho h6l h6 hB hHeld;have hHeld:=hHeld2;clear hHeld2;obtain⟨hB,h5,h5l,h6,h6l,h56n,ho,hl⟩:=hF;clear hba hn hnl hN;clear hK K
  try simp only [sqP]
  have hall:=aE hB (aE h5 (aE h5l (aE h6 (aE h6l (aE h56n (aE ho (aE hl hHeld)))))));clear hHeld hl ho h56n h6l h6 h5l h5 hB;generalize wn11=wz at hall ⊢
  revert hall;revert wz;revert g6;revert g5;revert n1;revert G1;revert d1;revert B1;revert c1;revert A1;exact Rb1.o
 exact z8.nil;intro A1 c1 B1 d1 G1 n1 g5 wRb2 hall;obtain⟨hB,h5,h5l,ho,hl,hHeld⟩:=hall;refine za (rs:= [19]) wo wu ?_;refine z8.cons (o:=_) rfl (fun K hK=> ?_) ?_
 ·
  have hba:=wj wRb2 (aB #[ay az 0,ax aC 0 0,aA ⟨#[]⟩] 37);have hn:=Arr.new wRb2 37 [ay az 0,ax aC 0 0,aA ⟨#[]⟩];have hnl:w0.heap.size<=wRb2.heap.size:=hB.size;obtain⟨g6,hge⟩:=wV wRb2.heap.size
  have hN:∀b,b=g6->wRb2.heap.size<=b:=fun b h=>by rw [h,hge];exact Nat.le_refl _
  rw [<-hge]at hn hnl;go_simp;rw [<-hge];clear hge;refine zR hK ?_ (fun W=>Below w0.heap.size w0 W/\Arr W g5 34 [ax aC 0 0,ax aC 0 0,ay az 0,ay az 0]/\w0.heap.size<=g5/\Arr W g6 37 [ay az 0,ax aC 0 0,aA ⟨#[]⟩]/\w0.heap.size<=g6/\g5≠g6/\OwSt W w.heap.size (ax A1 t.aF.length c1) (ax B1 t.aG.length d1) t (fun b=>(N b\/b=H+1)\/b=g5\/b=g6)/\W.ownsRow w.heap.size 9 1 (ax G1 c2.aJ.length n1) c2.aJ.length (strs c2.aJ)) (fun W=>True) ?_ ?_ (fun wn12 hHeld2 hF _=> ?_)
  ·exact HSB.o _ ((wh hB hba))
  ·exact⟨wh hB hba,h5.below hba,h5l,hn,hnl,(fun e=>Nat.lt_irrefl _ (by have h1:=h5.lt;rw [e]at h1;exact Nat.lt_of_lt_of_le h1 (hN _ rfl))),(ho.wider (N':=(fun b=>(N b\/b=H+1)\/b=g5\/b=g6)) (fun b hb=>hb.elim (fun hb=> .inl (.inl hb)) (fun hb=>hb.elim (fun hb=> .inl (.inr hb)) (fun hb=> .inr (hN _ hb))))).below hba,zc hl hba⟩
  ·trivial
  clear hl ho h5l h5 hB hHeld;have hHeld:=hHeld2;clear hHeld2;obtain⟨hB,h5,h5l,h6,h6l,h56n,ho,hl⟩:=hF;clear hba hn hnl hN;clear hK K
  try simp only [sqP]
  have hall:=aE hB (aE h5 (aE h5l (aE h6 (aE h6l (aE h56n (aE ho (aE hl hHeld)))))));clear hHeld hl ho h56n h6l h6 h5l h5 hB;generalize wn12=wz at hall ⊢
  revert hall;revert wz;revert g6;revert g5;revert n1;revert G1;revert d1;revert B1;revert c1;revert A1;exact Rb1.o
 exact z8.nil;intro A1 c1 B1 d1 G1 n1 g5 g6 wRb1 hall;obtain⟨hB,h5,h5l,h6,h6l,h56n,ho,hl,hHeld⟩:=hall;refine za (rs:= [20]) wo wu ?_;refine z8.store (o:=_) rfl ww (fun K hK=> ?_) ?_
 ·
  have hqho:=ho.nb h5 ws ws;have hqhl:=zg hl h5 ws;obtain⟨z0,f0,z1,f1,z2,f2,z3,f3⟩:=wZ h5;go_simp;clear z0 f0 z1 f1 z2 f2 z3 f3;refine vd hK (fun W=>Below w0.heap.size w0 W/\Arr W g5 34 [(ax A1 t.aF.length c1),(ax B1 t.aG.length d1),ay az t.aI,ay az t.aH]/\w0.heap.size<=g5/\Arr W g6 37 [ay az 0,ax aC 0 0,aA ⟨#[]⟩]/\w0.heap.size<=g6/\g5≠g6/\OwSt W w.heap.size (ax A1 t.aF.length c1) (ax B1 t.aG.length d1) t (fun b=>(N b\/b=H+1)\/b=g5\/b=g6)/\W.ownsRow w.heap.size 9 1 (ax G1 c2.aJ.length n1) c2.aJ.length (strs c2.aJ)) (fun W=>True) ?_ ?_ (fun wn13 hF _=> ?_)
  ·exact⟨((((hB).setCell (p:=⟨g5,0,aC⟩) h5l _).setCell (p:=⟨g5,1,aC⟩) h5l _).setCell (p:=⟨g5,2,aC⟩) h5l _).setCell (p:=⟨g5,3,aC⟩) h5l _,h5.all4 _ _ _ _,h5l,((((h6).other (h56n.symm) _).other (h56n.symm) _).other (h56n.symm) _).other (h56n.symm) _,h6l,h56n,ho.set4N (.inr (.inl rfl)) hqho.1 hqho.2 _ _ _ _,qt hl hqhl _ _ _ _⟩
  ·trivial
  clear hl ho h56n h6l h6 h5l h5 hB hHeld;obtain⟨hB,h5,h5l,h6,h6l,h56n,ho,hl⟩:=hF;clear hqho hqhl;clear hK K
  try simp only [sqP]
  refine wT 21 fun K hK=>?_;have hqho:=ho.nb h6 ws ws;have hqhl:=zg hl h6 ws;obtain⟨z0,f0,z1,f1,z2,f2⟩:=wc h6;go_simp;clear z0 f0 z1 f1 z2 f2;refine vd hK (fun W=>Below w0.heap.size w0 W/\Arr W g5 34 [(ax A1 t.aF.length c1),(ax B1 t.aG.length d1),ay az t.aI,ay az t.aH]/\w0.heap.size<=g5/\Arr W g6 37 [ay az c2.aK,(ax G1 c2.aJ.length n1),aA ⟨c2.at_.toArray⟩]/\w0.heap.size<=g6/\g5≠g6/\OwSt W w.heap.size (ax A1 t.aF.length c1) (ax B1 t.aG.length d1) t (fun b=>(N b\/b=H+1)\/b=g5\/b=g6)/\W.ownsRow w.heap.size 9 1 (ax G1 c2.aJ.length n1) c2.aJ.length (strs c2.aJ)) (fun W=>True) ?_ ?_ (fun wn14 hF _=> ?_)
  ·exact⟨(((hB).setCell (p:=⟨g6,0,aC⟩) h6l _).setCell (p:=⟨g6,1,aC⟩) h6l _).setCell (p:=⟨g6,2,aC⟩) h6l _,(((h5).other (h56n) _).other (h56n) _).other (h56n) _,h5l,h6.all3 _ _ _,h6l,h56n,ho.set3N (.inr (.inr rfl)) hqho.1 hqho.2 _ _ _,kn hl hqhl _ _ _⟩
  ·trivial
  clear hl ho h56n h6l h6 h5l h5 hB;obtain⟨hB,h5,h5l,h6,h6l,h56n,ho,hl⟩:=hF;clear hqho hqhl;clear hK K
  refine wP 22 ?_;refine wP 23 ?_;refine zq wo ?_ _
  try dsimp only [Exit.then]
  have hall:=aE hB (aE h5 (aE h5l (aE h6 (aE h6l (aE h56n (aE ho hl))))));clear hl ho h56n h6l h6 h5l h5 hB;generalize wn14=wz at hall ⊢
  revert hall;revert wz;revert g6;revert g5;revert n1;revert G1;revert d1;revert B1;revert c1;revert A1;exact REST.o
 exact z8.nil;intro A1 c1 B1 d1 G1 n1 g5 g6 w3 hall;obtain⟨hB,h5,h5l,h6,h6l,h56n,ho,hl⟩:=hall;have hgw3:g<w3.heap.size:=by have:=hB.size;omega
 have HKP:=sqH (fun (W:World) (h:Below w3.heap.size w3 W)=>Kb g ⟨X,cX,Y,dY,G,ng,F,cF⟩ ⟨s,co,fs⟩ _ _ _ t c2 q W (fun b=>N b\/b=H+1) (.inl hNg) (((HDK.o _ (wh hB h)).mono fun b hb=>hb.imp id fun h=>wm)) (fun _=>⟨((ho.below h).lower wm).mono (fun b hb=> .inl hb),zb (zc hl h) wm⟩));obtain⟨a0,a1,a2,a3⟩:=sqC4 h5;obtain⟨b0,b1,b2⟩:=sqC3 h6;have HB:=sqH hB;clear hB h5 h5l h6 h6l h56n ho hl HPB HSB
 refine wH ?_;intros;refine(((HKP.o _ (Below.refl _ _)))).mono ?_;rintro e_ w4 ⟨rfl,hg4,hd4⟩;dsimp only;clear a0 a1 a2 a3 b0 b1 b2 HKP;obtain⟨w5,hw5⟩:=wV (w4.alloc (aB #[ay az q,aA ⟨dq.toArray⟩,ax aC 0 0,ax aC 0 0,ay az 0,ax aC 0 0] 47))
 have hb5:Below w4.heap.size w4 w5:=by rw [hw5];exact(Below.refl _ _).alloc ac _
 have hz5:Arr w5 w4.heap.size 47 [ay az q,aA ⟨dq.toArray⟩,ax aC 0 0,ax aC 0 0,ay az 0,ax aC 0 0]:=by rw [hw5];exact Arr.new w4 47 _
 have hr3:=((HR.o _ HB.o).grown hg4 ab).below hb5;have hg5:=zO (zP (HBX.o.trans (HB.o.mono hws)) hg4) hb5;obtain⟨HX,HW5,HZ5⟩:=sqJ3 (aE hd4 (aE hb5 (aE hg5 hr3))) hw5 hz5;obtain⟨gr,hgr⟩:=wV w4.heap.size
 have HGR:=sqH hgr;clear hd4 hb5 hg5 hr3 hg4 hw5 hz5 hgr
 refine wJ 6 ?_;intros;rw [<-HW5.o,<-HGR.o];have hr3:=HX.o.2.2.2;have hz5:=HZ5.o;rw [<-HGR.o]at hz5;obtain⟨z0,z1,z2,z3,z4,z5⟩:=sqC6 hz5;clear hz5;obtain⟨f0,f1,f2,f3,f4,f5⟩:=sqF6 hr3;obtain⟨y0,y1,y2,y3,y4,y5⟩:=sqC6 hr3;have HR3:=sqH hr3;have HF:=sqH (hr3.all6 (ay az q) (aA ⟨dq.toArray⟩) (ax aC 0 0) (ax aC 0 0) (ay az 0) (ax aC 0 0));clear hr3
 refine wH ?_;intros;refine bodyPost_ret (results_cell_row rfl _ _ (H+1) _ _ _ _ ww HF.o underlying47 rfl wo) rfl ?_;have e1:blobD ⟨s,co,fs⟩ ⟨kd,n,dg,D,ps⟩=(zH ⟨s,co,fs⟩ t c2 q,⟨q,dq, [], [],0, []⟩):=by
  unfold blobD;rw [if_pos (show kd=1 from HK.o)];dsimp only;rw [HPD.o]
 rw [e1];obtain⟨⟨p',hd4⟩,hb5,hg5,hr5⟩:=HX.o;exact⟨_,_,_,rfl,zl hg5 hHw1 _ _ _ _ _ _,⟨p',((hd4.below hb5).set6 hr5 (.inr rfl) hgH _ _ _ _ _ _).mono fun b h=> .inl h⟩,⟨World.ownsRow_nil _ _ _ _,World.ownsRow_nil _ _ _ _,World.ownsRow_nil _ _ _ _⟩⟩
theorem z0z (g:Nat) (p:LoW) (l:LoP) (kd n:Nat) (dg D:ae) (ps:List PartP) (A:af) (c:Nat) (A':af) (c':Nat) (w:World) (hL:GoodL l) (h1:kd=2) (N:aj) (hNg:N g) (hNw:∀b,N b->b<w.heap.size) (hb:DkB w g p l N) (hd:Sl w 1 A D.length c (bys D)) (hq:Sl w 3 A' ps.length c' (pcs ps)) :
  Calls Tryz.prog 66 #[.pointer (aD ⟨g,0,aC⟩),orV kd n dg D ps A c A' c'] w (k5 w g N (blobD l ⟨kd,n,dg,D,ps⟩)):=by
 have k1:((kd:Int)==1)=false:=by rw [beq_eq_false_iff_ne];omega
 have k2:((kd:Int)==2)=true:=by rw [beq_iff_eq];omega
 have HK:=sqH h1;clear h1;obtain⟨X,cX,Y,dY,G,ng,F,cF⟩:=p;obtain⟨s,co,fs⟩:=l;have hgl:=hb.lt;have hgw:=hb.lt;have hbw:=hb.wider (N':=fun b=>N b\/w.heap.size<=b) (fun b h=>h);obtain⟨w0,hw0,hP,hR,hbx⟩:=zo w 29 47 [ay az kd,ay az n,aA ⟨dg.toArray⟩,ax A D.length c,ax A' ps.length c'] [ay az 0,aA ⟨#[]⟩,ax aC 0 0,ax aC 0 0,ay az 0,ax aC 0 0];have HDK:=sqH (show ∀W,Below w0.heap.size w0 W->DkB W g ⟨X,cX,Y,dY,G,ng,F,cF⟩ ⟨s,co,fs⟩ (fun b=>N b\/w.heap.size<=b) from fun W h=>(hbw.below hbx).below h);have HBC:=sqH (show ∀W,Below w0.heap.size w0 W->wF W g (ax X s.aF.length cX) (ax Y s.aG.length dY) (ay az s.aI) (ay az s.aH) (ay az co.aK) (ax G co.aJ.length ng) (aA ⟨co.at_.toArray⟩) (ax F fs.length cF) from fun W h=>by
  have b:=(HDK.o W h).box;exact sqC8 b)
 have hws:=hbx.size;obtain⟨HBX,HD,HQ⟩:=sqJ3 hbx (hd.below hbx) (hq.below hbx);obtain⟨H,hH⟩:=wV w.heap.size
 rw [<-hH]at hP hR hgl;have hHw:w.heap.size<=H:=wm;have hHw1:w.heap.size<=H+1:=wm;have hgH:g≠H+1:=wm;have hHl:H+1<w0.heap.size:=hR.lt;obtain⟨HP,HR,HL,HNW⟩:=sqJ4 (show ∀W,Below w0.heap.size w0 W->Arr W H 29 (orC kd n dg D ps A c A' c') from fun W h=>hP.below h) (show ∀W,Below w0.heap.size w0 W->Arr W (H+1) 47 QW from fun W h=>hR.below h) hL hNw;obtain⟨x0,x1,x2,x3,x4⟩:=sqC5 hP;have HW0:=sqH hw0;have HH:=sqH hH;rw [hw0,hH]at x0 x1 x2 x3 x4;clear hb hbw hbx hd hq hP hR hL hw0 hH hNw;go_enter func66,ntmps66
 refine wI 8 ?_;intros;rw [<-HW0.o,<-HH.o];clear x0 x1 x2 x3 x4;have HPB:=sqH (fun W (h:Below w0.heap.size w0 W)=>Ve X cX Y dY s W dg HL.o.s (HDK.o W h).rd.s);generalize hpb:gbP s dg=r at HPB;obtain⟨D2,q⟩:=r;dsimp only at HPB;have HSB:=sqH (show ∀W,Below w0.heap.size w0 W->(wD W g (ax X s.aF.length cX) (ax Y s.aG.length dY) (ay az s.aI) (ay az s.aH))/\W.cell? ⟨H,2,aC⟩=aD (aA ⟨dg.toArray⟩) from fun W h=>by
  obtain⟨y0,y1,y2,y3,_⟩:=HBC.o W h;exact⟨⟨y0,y1,y2,y3⟩,(HP.o W h).c2⟩)
 have HPD:=sqH hpb;clear hpb
 iterate 1 (first | go_values | go_skip | go_guarded | go_step | go_upon | go_back)
 apply zE;intro REST;refine ze [] (S:=(fun w'=>(wD w' g (ax X s.aF.length cX) (ax Y s.aG.length dY) (ay az s.aI) (ay az s.aH))/\w'.cell? ⟨H,2,aC⟩=aD (aA ⟨dg.toArray⟩))) wo ?_ (fun hHeld=> ?_)
 ·exact HSB.o _ (((wi w0)).drew)
 have hB:=((wi w0)).drew;generalize w0.drew=wn0 at *
 refine wP 0 ?_;refine wP 1 ?_;refine wP 2 ?_;refine wP 3 ?_;refine wO 4 ?_;refine wP 5 ?_;refine wO 6 ?_;refine za (rs:= [7]) wo wu ?_;refine z8.cons (o:=_) rfl (fun K hK=> ?_) ?_
 ·
  go_simp;refine(HPB.o wn0 hB).mono ?_;rintro e5 w5 ⟨v1,rfl,ho5,hb5⟩;obtain⟨P1,k1_,rfl, -, -⟩:=Rd.of_own' ho5;dsimp only;refine zR hK ?_ (fun W=>Below w0.heap.size w0 W/\W.ownsRow w.heap.size 5 1 (ax P1 D2.length k1_) D2.length (bys D2)) (fun W=>True) ?_ ?_ (fun wn1 hHeld2 hF _=> ?_)
  ·exact HSB.o _ ((wh hB hb5))
  ·exact⟨wh hB hb5,zb ho5 (by have:=hB.size;omega)⟩
  ·trivial
  clear hB hHeld;have hHeld:=hHeld2;clear hHeld2;obtain⟨hB,hl⟩:=hF;clear hb5 ho5;clear hK K
  refine wP 8 ?_;refine wP 9 ?_;refine wP 10 ?_;refine wP 11 ?_;refine wP 12 ?_;refine zq wo ?_ _
  try dsimp only [Exit.then]
  have hall:=aE hB hl;clear hl hB;generalize wn1=wz at hall ⊢
  revert hall;revert wz;revert k1_;revert P1;exact REST.o
 exact z8.nil;intro P1 k1_ w3 hall;obtain⟨hB,hl⟩:=hall;have hr3:=HR.o _ hB;have hd3:=(HDK.o _ hB).set6 hr3 (.inr hHw1) hgH (ay az q) (aA ⟨#[]⟩) (ax P1 D2.length k1_) (ax aC 0 0) (ay az 0) (ax aC 0 0);have hg3:=zl (zY (HBX.o.trans (hB.mono hws)) (aD g)) hHw1 (ay az q) (aA ⟨#[]⟩) (ax P1 D2.length k1_) (ax aC 0 0) (ay az 0) (ax aC 0 0);have hl3:=qu hl (zg hl hr3 ws) (ay az q) (aA ⟨#[]⟩) (ax P1 D2.length k1_) (ax aC 0 0) (ay az 0) (ax aC 0 0);have HX:=sqH (aE hd3 (aE hg3 hl3));clear hd3 hg3 hl3 hB hl;obtain⟨f0,f1,f2,f3,f4,f5⟩:=sqF6 hr3;obtain⟨y0,y1,y2,y3,y4,y5⟩:=sqC6 hr3;have HR3:=sqH hr3;have HF:=sqH (hr3.all6 (ay az q) (aA ⟨#[]⟩) (ax P1 D2.length k1_) (ax aC 0 0) (ay az 0) (ax aC 0 0));clear hr3
 refine wH ?_;intros;refine bodyPost_ret (results_cell_row rfl _ _ (H+1) _ _ _ _ ww HF.o underlying47 rfl wo) rfl ?_;have e1:blobD ⟨s,co,fs⟩ ⟨kd,n,dg,D,ps⟩=(⟨s,co,fs⟩,⟨q, [],D2, [],0, []⟩):=by
  unfold blobD;rw [if_neg (show ¬(kd=1) by have:=HK.o;omega),if_pos (show kd=2 from HK.o)];dsimp only;rw [HPD.o]
 rw [e1];obtain⟨hd3,hg3,hl3⟩:=HX.o;exact⟨_,_,_,rfl,hg3,⟨_,hd3.mono fun b h=> .inl h⟩,⟨hl3,World.ownsRow_nil _ _ _ _,World.ownsRow_nil _ _ _ _⟩⟩
theorem z10 (g:Nat) (p:LoW) (l:LoP) (kd n:Nat) (dg D:ae) (ps:List PartP) (A:af) (c:Nat) (A':af) (c':Nat) (w:World) (hL:GoodL l) (h1:kd=3\/kd=4) (N:aj) (hNg:N g) (hNw:∀b,N b->b<w.heap.size) (hb:DkB w g p l N) (hd:Sl w 1 A D.length c (bys D)) (hq:Sl w 3 A' ps.length c' (pcs ps)) :
  Calls Tryz.prog 66 #[.pointer (aD ⟨g,0,aC⟩),orV kd n dg D ps A c A' c'] w (k5 w g N (blobD l ⟨kd,n,dg,D,ps⟩)):=by
 have k1:((kd:Int)==1)=false:=by rw [beq_eq_false_iff_ne];omega
 have k2:((kd:Int)==2)=false:=by rw [beq_eq_false_iff_ne];omega
 have k3:((kd:Int)==3)=decide (kd=3):=by rw [Bool.eq_iff_iff,beq_iff_eq,decide_eq_true_iff];omega
 have HK:=sqH h1;have HK3:=sqH k3;clear h1 k3;obtain⟨X,cX,Y,dY,G,ng,F,cF⟩:=p;obtain⟨s,co,fs⟩:=l;have hgl:=hb.lt;have hgw:=hb.lt;have hbw:=hb.wider (N':=fun b=>N b\/w.heap.size<=b) (fun b h=>h);obtain⟨w0,hw0,hP,hR,hbx⟩:=zo w 29 47 [ay az kd,ay az n,aA ⟨dg.toArray⟩,ax A D.length c,ax A' ps.length c'] [ay az 0,aA ⟨#[]⟩,ax aC 0 0,ax aC 0 0,ay az 0,ax aC 0 0];have HDK:=sqH (show ∀W,Below w0.heap.size w0 W->DkB W g ⟨X,cX,Y,dY,G,ng,F,cF⟩ ⟨s,co,fs⟩ (fun b=>N b\/w.heap.size<=b) from fun W h=>(hbw.below hbx).below h);have HBC:=sqH (show ∀W,Below w0.heap.size w0 W->wF W g (ax X s.aF.length cX) (ax Y s.aG.length dY) (ay az s.aI) (ay az s.aH) (ay az co.aK) (ax G co.aJ.length ng) (aA ⟨co.at_.toArray⟩) (ax F fs.length cF) from fun W h=>by
  have b:=(HDK.o W h).box;exact sqC8 b)
 have hws:=hbx.size;obtain⟨HBX,HD,HQ⟩:=sqJ3 hbx (hd.below hbx) (hq.below hbx);obtain⟨H,hH⟩:=wV w.heap.size
 rw [<-hH]at hP hR hgl;have hHw:w.heap.size<=H:=wm;have hHw1:w.heap.size<=H+1:=wm;have hgH:g≠H+1:=wm;have hHl:H+1<w0.heap.size:=hR.lt;obtain⟨HP,HR,HL,HNW⟩:=sqJ4 (show ∀W,Below w0.heap.size w0 W->Arr W H 29 (orC kd n dg D ps A c A' c') from fun W h=>hP.below h) (show ∀W,Below w0.heap.size w0 W->Arr W (H+1) 47 QW from fun W h=>hR.below h) hL hNw;obtain⟨x0,x1,x2,x3,x4⟩:=sqC5 hP;have HW0:=sqH hw0;have HH:=sqH hH;rw [hw0,hH]at x0 x1 x2 x3 x4;clear hb hbw hbx hd hq hP hR hL hw0 hH hNw;go_enter func66,ntmps66
 refine wI 10 ?_;intros;rw [<-HW0.o,<-HH.o];clear x0 x1 x2 x3 x4;have HPB:=sqH (fun W (h:Below w0.heap.size w0 W)=>Y2 X cX Y dY s G ng co W dg (decide (kd=3)) HL.o.s (HDK.o W h).rd.s HL.o.g HL.o.c (HDK.o W h).rd.c);rw [<-HK3.o]at HPB;generalize hpb:hbP s co dg ((kd:Int)==3)=r at HPB;obtain⟨t,c2,q⟩:=r;dsimp only at HPB;obtain⟨HSB,HSG,HPD⟩:=sqJ3 (show ∀W,Below w0.heap.size w0 W->W.cell? ⟨H,2,aC⟩=aD (aA ⟨dg.toArray⟩)/\W.cell? ⟨H,0,aC⟩=aD (ay az kd) from fun W h=>⟨(HP.o W h).c2,(HP.o W h).c0⟩) (show ∀W W',Below w0.heap.size w0 W->W.grownBy W' (aD g)->W'.cell? ⟨H,2,aC⟩=aD (aA ⟨dg.toArray⟩)/\W'.cell? ⟨H,0,aC⟩=aD (ay az kd) from fun W W' h h'=>⟨((HP.o W h).grown h' ab).c2,((HP.o W h).grown h' ab).c0⟩) hpb;clear hpb;have HKP:=sqH (fun (W:World) (h:Below w0.heap.size w0 W) (v1 v2 v3:Value) (t:StoP) (c2:ColP) (q:Nat) (ho:q=0->OwSD W g v1 v2 v3 t c2 (fun b=>N b\/b=H+1)) (hb:DkB W g ⟨X,cX,Y,dY,G,ng,F,cF⟩ ⟨s,co,fs⟩ (fun b=>N b\/b=H+1))=>Kb g ⟨X,cX,Y,dY,G,ng,F,cF⟩ ⟨s,co,fs⟩ v1 v2 v3 t c2 q W (fun b=>N b\/b=H+1) (.inl hNg) hb ho)
 iterate 1 (first | go_values | go_skip | go_guarded | go_step | go_upon | go_back)
 apply zE;intro REST;apply zE;intro Rc1;refine ze [21] (S:=(fun w'=>w'.cell? ⟨H,2,aC⟩=aD (aA ⟨dg.toArray⟩)/\w'.cell? ⟨H,0,aC⟩=aD (ay az kd))) wo ?_ (fun hHeld=> ?_)
 ·exact HSB.o _ (Below.refl w0.heap.size w0).drew
 have hB:=(Below.refl w0.heap.size w0).drew;generalize w0.drew=wn0 at *
 refine wP 0 ?_;refine wP 1 ?_;refine wP 2 ?_;refine wP 3 ?_;refine wP 4 ?_;refine wP 6 ?_;refine wP 7 ?_;refine wP 8 ?_;refine wP 9 ?_;refine wP 11 ?_;refine wO 12 ?_;refine wP 13 ?_;refine wO 14 ?_;refine wP 15 ?_;refine za (rs:= [5,10]) wo wu ?_;refine z8.cons (o:=_) rfl (fun K hK=> ?_) ?_
 ·
  obtain⟨y0,y1,y2,y3,y4,y5,y6,y7⟩:=HBC.o _ hB;go_simp;clear y0 y1 y2 y3 y4 y5 y6 y7;refine zR hK ?_ (fun W=>Below w0.heap.size w0 W) (fun W=>True) ?_ ?_ (fun wn1 hHeld2 hF _=> ?_)
  ·exact HSB.o _ hB
  ·exact hB
  ·trivial
  clear hB hHeld;have hHeld:=hHeld2;clear hHeld2;have hB:=hF;clear hK K
  try simp only [sqP]
  refine wU 10 fun K hK=>?_;obtain⟨y0,y1,y2,y3,y4,y5,y6,y7⟩:=HBC.o _ hB;go_simp;clear y0 y1 y2 y3 y4 y5 y6 y7;refine zR hK ?_ (fun W=>Below w0.heap.size w0 W) (fun W=>True) ?_ ?_ (fun wn2 hHeld2 hF _=> ?_)
  ·exact HSB.o _ hB
  ·exact hB
  ·trivial
  clear hB hHeld;have hHeld:=hHeld2;clear hHeld2;have hB:=hF;clear hK K
  try simp only [sqP]
  have hall:=aE hB hHeld;clear hHeld hB;generalize wn2=wz at hall ⊢
  revert hall;revert wz;exact Rc1.o
 refine z8.cons (o:=_) rfl (fun K hK=> ?_) ?_
 ·
  obtain⟨y0,y1,y2,y3,y4,y5,y6,y7⟩:=HBC.o _ hB;go_simp;clear y0 y1 y2 y3 y4 y5 y6 y7;refine zR hK ?_ (fun W=>Below w0.heap.size w0 W) (fun W=>True) ?_ ?_ (fun wn3 hHeld2 hF _=> ?_)
  ·exact HSB.o _ hB
  ·exact hB
  ·trivial
  clear hB hHeld;have hHeld:=hHeld2;clear hHeld2;have hB:=hF;clear hK K
  try simp only [sqP]
  refine wU 5 fun K hK=>?_;obtain⟨y0,y1,y2,y3,y4,y5,y6,y7⟩:=HBC.o _ hB;go_simp;clear y0 y1 y2 y3 y4 y5 y6 y7;refine zR hK ?_ (fun W=>Below w0.heap.size w0 W) (fun W=>True) ?_ ?_ (fun wn4 hHeld2 hF _=> ?_)
  ·exact HSB.o _ hB
  ·exact hB
  ·trivial
  clear hB hHeld;have hHeld:=hHeld2;clear hHeld2;have hB:=hF;clear hK K
  try simp only [sqP]
  have hall:=aE hB hHeld;clear hHeld hB;generalize wn4=wz at hall ⊢
  revert hall;revert wz;exact Rc1.o
 exact z8.nil;intro wRc1 hall;obtain⟨hB,hHeld⟩:=hall;refine za (rs:= [16]) wo wu ?_;refine z8.cons (o:=_) rfl (fun K hK=> ?_) ?_
 ·
  go_simp;refine(HPB.o wRc1 hB).mono ?_;rintro e5 w5 ⟨v1,v2,v3,rfl,ho5,hb5⟩;obtain⟨A1,c1,B1,d1,rfl,rfl, -⟩:=ho5.s.rows;obtain⟨G1,n1,rfl, -, -⟩:=Rd.of_own' ho5.c;dsimp only;refine zR hK ?_ (fun W=>Below w0.heap.size w0 W/\OwSD W g (ax A1 t.aF.length c1) (ax B1 t.aG.length d1) (ax G1 c2.aJ.length n1) t c2 (fun b=>N b\/b=H+1)) (fun W=>True) ?_ ?_ (fun wn5 hHeld2 hF _=> ?_)
  ·exact HSB.o _ (wh hB hb5)
  ·exact⟨wh hB hb5,ho5.at_ (by have:=hB.size;omega) (fun b hb=>by have:=hB.size;rcases hb with hb | hb;(have:=HNW.o b hb;omega);omega)⟩
  ·trivial
  clear hB hHeld;have hHeld:=hHeld2;clear hHeld2;obtain⟨hB,ho⟩:=hF;clear hb5 ho5;clear hK K
  refine wP 17 ?_;refine wP 18 ?_;refine wP 19 ?_;refine wU 20 fun K hK=>?_;go_simp;refine(HKP.o wn5 hB _ _ _ t c2 q (fun _=>ho) ((HDK.o _ hB).mono (fun b hb=>hb.imp id (fun h=>wm)))).mono ?_;rintro e5 w5 ⟨rfl,hg5,hd5⟩;dsimp only;refine zR hK ?_ (fun W=>w.grownBy W (aD g)/\(∃p2,DkB W g p2 (zH ⟨s,co,fs⟩ t c2 q) (fun b=>N b\/b=H+1))/\Arr W (H+1) 47 [ay az 0,aA ⟨#[]⟩,ax aC 0 0,ax aC 0 0,ay az 0,ax aC 0 0]) (fun W=>True) ?_ ?_ (fun wn6 hHeld2 hF _=> ?_)
  ·exact HSG.o _ _ hB hg5
  ·exact⟨zP (HBX.o.trans (hB.mono wm)) hg5,hd5,(HR.o _ hB).grown hg5 ab⟩
  ·trivial
  clear ho hB hHeld;have hHeld:=hHeld2;clear hHeld2;obtain⟨hKg,hD,hR⟩:=hF;clear hg5 hd5;clear hK K
  try simp only [sqP]
  refine wT 21 fun K hK=>?_;obtain⟨z0,f0,z1,f1,z2,f2,z3,f3,z4,f4,z5,f5⟩:=wg hR;go_simp;clear z0 f0 z1 f1 z2 f2 z3 f3 z4 f4 z5 f5;refine vd hK (fun W=>w.grownBy W (aD g)/\(∃p2,DkB W g p2 (zH ⟨s,co,fs⟩ t c2 q) (fun b=>N b\/b=H+1))/\Arr W (H+1) 47 [ay az q,aA ⟨#[]⟩,ax aC 0 0,ax aC 0 0,ay az 0,ax aC 0 0]) (fun W=>True) ?_ ?_ (fun wn7 hF _=> ?_)
  ·exact⟨zl hKg wm _ _ _ _ _ _,hD.imp fun _ h=>h.set6 hR (.inr rfl) wm _ _ _ _ _ _,hR.all6 _ _ _ _ _ _⟩
  ·trivial
  clear hR hD hKg hHeld;obtain⟨hKg,hD,hR⟩:=hF;clear hK K
  try simp only [sqP]
  refine zq wo ?_ _
  try dsimp only [Exit.then]
  have hall:=aE hKg (aE hD hR);clear hR hD hKg;generalize wn7=wz at hall ⊢
  revert hall;revert wz;revert n1;revert G1;revert d1;revert B1;revert c1;revert A1;exact REST.o
 exact z8.nil;intro A1 c1 B1 d1 G1 n1 w3 hall;obtain⟨hKg,hD,hR⟩:=hall;have HX:=sqH (aE hD hKg);have HF:=sqH hR;clear hD hKg hR
 refine wH ?_;intros;refine bodyPost_ret (results_cell_row rfl _ _ (H+1) _ _ _ _ ww HF.o underlying47 rfl wo) rfl ?_;have e1:blobD ⟨s,co,fs⟩ ⟨kd,n,dg,D,ps⟩=(zH ⟨s,co,fs⟩ t c2 q,KJ q):=by
  unfold blobD;rw [if_neg (show ¬(kd=1) by have:=HK.o;omega),if_neg (show ¬(kd=2) by have:=HK.o;omega)];dsimp only;rw [<-HK3.o,HPD.o]
 rw [e1];obtain⟨⟨p2,hD⟩,hK⟩:=HX.o;exact⟨_,_,_,rfl,hK,⟨p2,hD.mono fun b h=> .inl h⟩,.e_ q⟩
end Go.Proofs.YtaboknhfiijipaaGreat
