/- Lemmas, as stated. -/
import Derived.Test.YtaboknhfiijipaaGreatQO26
import Derived.Test.YtaboknhfiijipaaGreatQO27
set_option linter.unusedVariables false
set_option linter.unusedSimpArgs false
set_option maxRecDepth 100000
set_option maxHeartbeats 16000000
open Go.Proofs.Tryz
open Go.Proofs.Tryz renaming prog->zZZ
open Go.Value renaming slice->aA,int->aB,string->aD
open Go.IntKind renaming i64->aC
open Option renaming none->aF,some->aG
open Go.Obj renaming cells->aE
open And renaming intro->aH
namespace Go.Proofs.YtaboknhfiijipaaGreat
open Go.RowKit Go.Maps
variable {fs:List FlP} {base g h' k n size:Nat} {s:StoP} {e:TypeId} {dv pv wv x0 x1 x2 x3 x4 x5:Value} {w w':World} {A:aj} {xs:ak} {N:am}
section
variable {w w':World} {g base:Nat} {v v1 v2 v3 v4:Value} {l:LoP} {N:am}
theorem XE (h:w.ownsRow base e size v n xs) (hg:g<base):v.ownBlock≠aG g:=fun e=>by
 rcases h.2 with ⟨rfl,_⟩ | ⟨g',cap,cur,rfl,h1,_⟩
 ·cases e
 ·have e':g'=g:=by simpa [Value.ownBlock] using e
  omega
theorem kg (h:w.ownsRow base e size v n xs) (hg:w.grownBy w' (aG g)) (hb:g<base):w'.ownsRow base e size v n xs:=h.kept hg (.inr (XE h hb))
theorem FlsO.grownE (h:FlsO w base v fs) (hg:w.grownBy w' (aG g)) (hb:g<base):FlsO w' base v fs:=by
 obtain⟨As,h1,h2,h3,h4⟩:=h;exact⟨As,h1,kg h2 hg hb,fun k p a hp ha=>⟨kg (h3 k p a hp ha).1 hg hb,(h3 k p a hp ha).2⟩,h4⟩
theorem OwSt.grownE (h:OwSt w base v1 v2 s N) (hg:w.grownBy w' (aG g)) (hb:g<base) (hN:N g):OwSt w' base v1 v2 s N:=by
 obtain⟨xs1,hx⟩:=h.b.own_m;obtain⟨xs2,hy⟩:=h.e.own_m;have e1:∀b,aG g=aG b->v1.ownBlock≠aG b:=fun b e=>by cases e;exact XE hx hb
 have e2:∀b,aG g=aG b->v2.ownBlock≠aG b:=fun b e=>by cases e;exact XE hy hb
 exact⟨h.b.other hg e1 fun b e=>by cases e;exact .inl hN,h.e.other hg e2 fun b e=>by cases e;exact .inl hN,h.ne⟩
theorem OwLo.grownE (h:OwLo w base v1 v2 v3 v4 l N) (hg:w.grownBy w' (aG g)) (hb:g<base) (hN:N g):OwLo w' base v1 v2 v3 v4 l N:=⟨h.s.grownE hg hb hN,kg h.c hg hb,h.f.grownE hg hb⟩
end
structure DkB (w:World) (g:Nat) (p:LoW) (l:LoP) (N:am):Prop where
 box:Arr w g 82 (loC p l)
 own:OwLo w (g+1) (aA p.X l.st.aI.length p.cX) (aA p.Y l.st.aJ.length p.dY) (aA p.G l.co.aM.length p.ng) (aA p.F l.fs.length p.cF) l N
section
variable {w w':World} {g B:Nat} {p:LoW} {l:LoP} {N N':am} {v1 v2 v3 v4:Value} {s:StoP} {c:ColP}
theorem OwLo.rdAt (h:OwLo w B (aA p.X l.st.aI.length p.cX) (aA p.Y l.st.aJ.length p.dY) (aA p.G l.co.aM.length p.ng) (aA p.F l.fs.length p.cF) l N):RdLo w p l:=by
 obtain⟨q,e1,e2,e3,e4,hr⟩:=h.rd;cases p;cases q
 injection e1 with a1 _ a2;injection e2 with b1 _ b2;injection e3 with c1 _ c2;injection e4 with d1 _ d2;dsimp only at a1 a2 b1 b2 c1 c2 d1 d2;subst a1 a2 b1 b2 c1 c2 d1 d2;exact hr
theorem DkB.rd (h:DkB w g p l N):RdLo w p l:=h.own.rdAt
theorem DkB.below (h:DkB w g p l N) (hb:Below w.heap.size w w'):DkB w' g p l N:=⟨h.box.below hb,h.own.below hb⟩
theorem DkB.lt (h:DkB w g p l N):g<w.heap.size:=h.box.lt
theorem DkB.mono (h:DkB w g p l N) (hN:∀b,N' b->N b):DkB w g p l N':=⟨h.box,h.own.mono hN⟩
theorem DkB.wider (h:DkB w g p l N) (hN:∀b,N' b->N b\/w.heap.size<=b):DkB w g p l N':=⟨h.box,h.own.wider hN⟩
theorem DkB.set (h:DkB w g p l N) (hA:Arr w h' 47 xs) (hN:N h') (hne:g≠h') (u:Value):DkB (w.setCell ⟨h',k,aF⟩ u) g p l N :=
 ⟨h.box.other hne u,⟨h.own.s.setX hN (h.own.s.nb hA aa aa).1 (h.own.s.nb hA aa aa).2 _,zd h.own.c (zf h.own.c hA aa),h.own.f.set1 hA aa aa u⟩⟩
theorem DkB.mk' (h:OwLo w (g+1) v1 v2 v3 v4 l N) (hb:Arr w g 82 [v1,v2,aB aC l.st.aL,aB aC l.st.aK,aB aC l.co.aN,v3,aD ⟨l.co.at_.toArray⟩,v4]):∃p,DkB w g p l N:=by
 obtain⟨p,rfl,rfl,rfl,rfl,_⟩:=h.rd;exact⟨p,hb,h⟩
end
structure OwSD (w:World) (g:Nat) (v1 v2 v3:Value) (s:StoP) (c:ColP) (N:am):Prop where
 s:OwSt w (g+1) v1 v2 s N
 c:w.ownsRow (g+1) 9 1 v3 c.aM.length (strs c.aM)
section
variable {w w':World} {g B:Nat} {l:LoP} {N:am} {v1 v2 v3 v4:Value} {s:StoP} {c:ColP}
theorem OwSD.below (h:OwSD w g v1 v2 v3 s c N) (hb:Below w.heap.size w w'):OwSD w' g v1 v2 v3 s c N:=⟨h.s.below hb,zc h.c hb⟩
theorem OwSC.at_ (h:OwSC w B v1 v2 v3 s c) (hg:g<B) (hN:∀b,N b->b<B):OwSD w g v1 v2 v3 s c N:=⟨(h.s.lower hg).mono hN,zb h.c hg⟩
theorem OwLo.at_ (h:OwLo w B v1 v2 v3 v4 l (fun b=>b<B)) (hg:g<B) (hN:∀b,N b->b<B):OwLo w (g+1) v1 v2 v3 v4 l N:=⟨(h.s.lower hg).mono hN,zb h.c hg,h.f.lower hg⟩
end
abbrev z4h (r:RepP) (dv pv wv:Value):Value:= .agg #[aB aC r.err,aD ⟨r.dig.toArray⟩,dv,pv,aB aC r.n,wv]
abbrev z2o (w:World) (g:Nat) (u0 u1 u2 u3 u4 u5:Value):World:=(((((w.setCell ⟨g,0,aF⟩ u0).setCell ⟨g,1,aF⟩ u1).setCell ⟨g,2,aF⟩ u2).setCell ⟨g,3,aF⟩ u3).setCell ⟨g,4,aF⟩ u4).setCell ⟨g,5,aF⟩ u5
structure RepAt (w:World) (base:Nat) (r:RepP) (dv pv wv:Value):Prop where
 d:w.ownsRow base 5 1 dv r.data.length (bys r.data)
 p:w.ownsRow base 85 3 pv r.aP.length (pcs r.aP)
 w:w.ownsRow base 3 1 wv r.who.length (ins r.who)
theorem RepAt.below {r:RepP} (h:RepAt w base r dv pv wv) (hb:Below w.heap.size w w'):RepAt w' base r dv pv wv:=⟨zc h.d hb,zc h.p hb,zc h.w hb⟩
abbrev z42 (q:Nat):Value:= .agg #[aB aC q,aD ⟨#[]⟩,aA aF 0 0,aA aF 0 0,aB aC 0,aA aF 0 0]
abbrev z43:ak:= [aB aC 0,aD ⟨#[]⟩,aA aF 0 0,aA aF 0 0,aB aC 0,aA aF 0 0]
theorem RepAt.e_ (q:Nat):RepAt w base (KL q) (aA aF 0 0) (aA aF 0 0) (aA aF 0 0):=⟨World.ownsRow_nil _ _ _ _,World.ownsRow_nil _ _ _ _,World.ownsRow_nil _ _ _ _⟩
theorem z1b {w0 w3:World} {P:World->Prop} (h:Hid (∀W,Below w0.heap.size w0 W->P W)) (hB:Below w0.heap.size w0 w3):Hid (∀W,Below w3.heap.size w3 W->P W):=fun W h'=>h.o W (wm hB h')
theorem jd (w:World) (e1 e2 e3:TypeId) (c1 c2 c3:ak):∃W,W=((w.alloc (.cells c1.toArray e1)).alloc (.cells c2.toArray e2)).alloc (.cells c3.toArray e3)/\Arr W w.heap.size e1 c1/\Arr W (w.heap.size+1) e2 c2/\Arr W (w.heap.size+1+1) e3 c3/\Below w.heap.size w W:=by
 obtain⟨W2,h2,a1,a2,b2⟩:=zL w e1 e2 c1 c2;have a3:=Arr.new W2 e3 c3;have hs:W2.heap.size=w.heap.size+1+1:=by rw [h2];simp
 have b3:=ws W2 (.cells c3.toArray e3);rw [hs]at a3;exact⟨_,rfl,by rw [<-h2];exact a1.below b3,by rw [<-h2];exact a2.below b3,by rw [<-h2];exact a3,by rw [<-h2];exact wm b2 b3⟩
theorem Arr.fst7 {x6 x7:Value} (h:Arr w g e [x0,x1,x2,x3,x4,x5,x6,x7]) (u0 u1 u2 u3 u4 u5 u6:Value):Arr (((jO w g u0 u1 u2 u3).setCell ⟨g,4,aF⟩ u4).setCell ⟨g,5,aF⟩ u5 |>.setCell ⟨g,6,aF⟩ u6) g e [u0,u1,u2,u3,u4,u5,u6,x7] :=
 (((h.fst4 u0 u1 u2 u3).set (k:=4) ab u4).set (k:=5) ab u5).set (k:=6) ab u6
theorem Arr.all6 (h:Arr w g e [x0,x1,x2,x3,x4,x5]) (u0 u1 u2 u3 u4 u5:Value):Arr (z2o w g u0 u1 u2 u3 u4 u5) g e [u0,u1,u2,u3,u4,u5] :=
 (((((h.set (k:=0) ab u0).set (k:=1) ab u1).set (k:=2) ab u2).set (k:=3) ab u3).set (k:=4) ab u4).set (k:=5) ab u5
theorem DkB.set6 {p:LoW} {l:LoP} (h:DkB w g p l N) (hA:Arr w h' 47 [x0,x1,x2,x3,x4,x5]) (hN:N h') (hne:g≠h') (u0 u1 u2 u3 u4 u5:Value):DkB (z2o w h' u0 u1 u2 u3 u4 u5) g p l N:=by
 have a0:=hA.set (k:=0) ab u0;have a1:=a0.set (k:=1) ab u1;have a2:=a1.set (k:=2) ab u2;have a3:=a2.set (k:=3) ab u3;have a4:=a3.set (k:=4) ab u4;exact(((((h.set hA hN hne u0).set a0 hN hne u1).set a1 hN hne u2).set a2 hN hne u3).set a3 hN hne u4).set a4 hN hne u5
theorem qB {t:TypeId} {v:Value} {ys:ak} (ho:w.ownsRow base t size v n ys) (h1:v.ownBlock≠aG g) (u0 u1 u2 u3 u4 u5:Value):(z2o w g u0 u1 u2 u3 u4 u5).ownsRow base t size v n ys:=zd (zd (zd (zd (zd (zd ho h1) h1) h1) h1) h1) h1
theorem RepAt.set6 {r:RepP} (h:RepAt w base r dv pv wv) (hA:Arr w g 47 xs) (u0 u1 u2 u3 u4 u5:Value):RepAt (z2o w g u0 u1 u2 u3 u4 u5) base r dv pv wv :=
 ⟨qB h.d (zf h.d hA aa) _ _ _ _ _ _,qB h.p (zf h.p hA aa) _ _ _ _ _ _,qB h.w (zf h.w hA aa) _ _ _ _ _ _⟩
theorem zl {W:World} {g:Option Nat} {H:Nat} (h:w.grownBy W g) (hH:w.heap.size<=H) (u0 u1 u2 u3 u4 u5:Value):w.grownBy (z2o W H u0 u1 u2 u3 u4 u5) g:=zq (zq (zq (zq (zq (zq h hH) hH) hH) hH) hH) hH
theorem zp {u:Value} (h:w.grownBy w' (aG g)):w.grownBy (w'.setCell ⟨g,k,aF⟩ u) (aG g):=h.trans (zU w' g k u)
theorem z1j (A:aj) (c:Nat) (B:aj) (d:Nat) (s:StoP) (Ag:aj) (ng:Nat) (cp:ColP) (w:World) (more:Nat) (hmore:more<=4000) (hg:GoodS s) (hr:RdSt w A c B d s) (hgl:cp.aM.length<=1000) (hgc:GoodC s cp) (hc:RdC w Ag ng cp) :
  Calls zZZ 119 #[z0x A c B d s,coV (aA Ag cp.aM.length ng) cp,aB aC more] w fun e w' =>
   ∃v1 v2 v3 xs,e= .returned (.tuple #[stV v1 v2 (evP s more).1,v3,aB aC ((evP s more).2.2:Int)])/\OwSt w' w.heap.size v1 v2 (evP s more).1 (fun b=>b<w.heap.size)/\w'.ownsRow w.heap.size 9 1 v3 (evP s more).2.1 xs/\Below w.heap.size w w':=by
 obtain⟨r,hv⟩:=wY (evP s more)
 rw [<-hv];have HV:=sqH hv;clear hv;obtain⟨tt,kk,qq⟩:=r;dsimp only;obtain⟨aN,aM,at_⟩:=cp;obtain⟨w0,hw0,hS,hC,hR,hbx⟩:=KS w 34 37 [aA A s.aI.length c,aA B s.aJ.length d,aB aC s.aL,aB aC s.aK] [aB aC aN,aA Ag aM.length ng,aD ⟨at_.toArray⟩] [aA aF 0 0,aA aF 0 0,aB aC 0,aB aC 0];have hr0:=hr.below hbx;have hc0:=hc.below hbx;obtain⟨H,hH⟩:=wY w.heap.size
 have HCK:=sqH (qu A c B d s Ag ng ⟨aN,aM,at_⟩ w0 hg hr0 hgl hgc hc0);have HRN:=sqH (fun W (h:Below w0.heap.size w0 W)=>JI A c B d s more W hmore hg (hr0.below h));rw [<-hH]at hS hC hR hbx ⊢
 have hHl:H+1+1<w0.heap.size:=hR.lt;obtain⟨x0,x1,x2,x3⟩:=sqC4 hS;obtain⟨y0,y1,y2⟩:=sqC3 hC;obtain⟨HS,HR,HBX⟩:=sqJ3 hS hR hbx;rw [hw0,hH]at x0 x1 x2 x3 y0 y1 y2;clear hg hr hgl hgc hc hr0 hc0 hS hC hR hbx;go_enter func119,ntmps119
 refine wL ?_;intros;rw [<-hw0,<-hH];have HH:=sqH hH;clear hw0 hH x0 x1 x2 x3 y0 y1 y2;refine wZ HCK.o fun w1 hb1=>?_;dsimp only;have hS1:=HS.o.below hb1;obtain⟨x0,x1,x2,x3⟩:=sqC4 hS1;have HR1:=sqH (HRN.o w1 hb1);clear HCK HRN hS1
 refine wL ?_;intros;clear x0 x1 x2 x3;refine(HR1.o).mono ?_;rintro e_ w2 ⟨hrb,hb2⟩;have hb:=wm hb1 hb2;have hR2:=HR.o.below hb;have hB2:=HBX.o.trans (hb.mono wu);have hHw:H<=w1.heap.size:=by have:=hb1.size;omega
 obtain⟨f0,f1,f2,f3⟩:=sqF4 hR2;obtain⟨y0,y1,y2,y3⟩:=sqC4 hR2;have HE:=HV.o;clear HV;unfold evP at HE;cases hev:yd more s with
 | none =>
  rw [hev]at hrb HE;cases HE
  have he:_=_:=hrb;subst he;dsimp only;have hfin:=hR2.all4 (aA aF 0 0) (aA aF 0 0) (aB aC 0) (aB aC 0);clear hR2 hb1 hb2 hb hev hrb
  refine wL ?_;intros;refine bodyPost_ret (zz rfl _ _ (H+1+1) _ _ _ _ ac hfin underlying34 rfl ww) rfl ?_;refine⟨_,_,_, [],rfl,.z_,World.ownsRow_nil _ _ _ _,?_⟩;exact yE hB2 wu _ _ _ _
 | some tg =>
  obtain⟨t,gn⟩:=tg;rw [hev]at hrb HE;cases HE
  obtain⟨v1,v2,v3,he,ho,hl⟩:=hrb;obtain⟨A1,c1,B1,d1,rfl,rfl, -⟩:=ho.rows;obtain⟨G1,n1,rfl, -, -⟩:=Rd.of_own' hl;subst he;dsimp only;have hne:=ho.nb hR2 aa aa;have hnl:=zf hl hR2 aa;have hfin:=hR2.all4 (aA A1 tt.aI.length c1) (aA B1 tt.aJ.length d1) (aB aC s.aL) (aB aC s.aK);have HGV:=sqH hev;have ho2:=ho.set4N (g:=H+1+1) (show H+1+1<w1.heap.size from by have:=hb1.size;omega) hne.1 hne.2 (aA A1 tt.aI.length c1) (aA B1 tt.aJ.length d1) (aB aC s.aL) (aB aC s.aK);have hl2:=qA hl hnl (aA A1 tt.aI.length c1) (aA B1 tt.aJ.length d1) (aB aC s.aL) (aB aC s.aK);clear hR2 hb1 hb2 hb hev ho hl hne hnl
  refine wL ?_;intros;refine bodyPost_ret (zz rfl _ _ (H+1+1) _ _ _ _ ac hfin underlying34 rfl ww) rfl ?_;refine⟨aA A1 tt.aI.length c1,aA B1 tt.aJ.length d1,aA G1 gn.length n1,_,?_,(ho2.lower hHw).mono (fun b hb=>wu),zb hl2 hHw,?_⟩
  ·rw [XZ (U4 HGV.o)];rfl
  ·exact yE hB2 wu _ _ _ _
theorem z20 (hg:GoodS s) (n:Nat):(evP s n).2.1<=10:=by
 unfold evP;cases he:yd n s with
 | none=>exact Nat.zero_le _
 | some tg =>
  obtain⟨t,gn⟩:=tg;obtain⟨_,_,h,_⟩:=uW hg he;have:=hg.e.len;dsimp only;omega
theorem Jm (A:aj) (c:Nat) (B:aj) (d:Nat) (s:StoP) (Ag:aj) (ng:Nat) (cp:ColP) (w:World) (more:Nat) (hmore:more<=4000) (hg:GoodS s) (hr:RdSt w A c B d s) (hgl:cp.aM.length<=1000) (hgc:GoodC s cp) (hc:RdC w Ag ng cp) :
  Calls zZZ 119 #[z0x A c B d s,coV (aA Ag cp.aM.length ng) cp,aB aC more] w fun e w' =>
   ∃v1 v2 A9 c9,e= .returned (.tuple #[stV v1 v2 (evP s more).1,aA A9 (evP s more).2.1 c9,aB aC ((evP s more).2.2:Int)])/\OwSt w' w.heap.size v1 v2 (evP s more).1 (fun b=>b<w.heap.size)/\Below w.heap.size w w':=by
 refine(z1j A c B d s Ag ng cp w more hmore hg hr hgl hgc hc).mono ?_;rintro e w' ⟨v1,v2,v3,xs,rfl,h1,h2,h3⟩;obtain⟨A9,c9,rfl,_⟩:=Rd.of_own' h2;exact⟨v1,v2,A9,c9,rfl,h1,h3⟩
theorem Ka (g:Nat) (p:LoW) (l:LoP) (v1 v2 v3:Value) (t:StoP) (c:ColP) (q:Nat) (w:World) (N:am) (hN:N g) (hb:DkB w g p l N) (ho:q=0->OwSD w g v1 v2 v3 t c N) :
  Calls zZZ 112 #[.pointer (aG ⟨g,0,aF⟩),stV v1 v2 t,coV v3 c,aB aC q] w fun e w' =>
   e= .returned (z42 q)/\w.grownBy w' (aG g)/\∃p',DkB w' g p' (zJ l t c q) N:=by
 by_cases hq:q=0
 ·obtain⟨⟨A1,c1,B1,d1,rfl,rfl, -⟩,hos⟩:=And.intro (ho hq).s.rows (ho hq);obtain⟨G1,n1,rfl, -, -⟩:=Rd.of_own' hos.c;obtain⟨w0,hw0,hS,hC,hR,hbx⟩:=jd w 34 37 47 [aA A1 t.aI.length c1,aA B1 t.aJ.length d1,aB aC t.aL,aB aC t.aK] [aB aC c.aN,aA G1 c.aM.length n1,aD ⟨c.at_.toArray⟩] [aB aC 0,aD ⟨#[]⟩,aA aF 0 0,aA aF 0 0,aB aC 0,aA aF 0 0];have hgl:=hb.lt;obtain⟨X,cX,Y,dY,G,ng,F,cF⟩:=p;obtain⟨s,co,fs⟩:=l;have hb0:=(hb.wider (N':=fun b=>N b\/w.heap.size<=b) (fun b h=>h)).below hbx;have hws:=hbx.size;have hbb:Arr w0 g 82 [aA X s.aI.length cX,aA Y s.aJ.length dY,aB aC s.aL,aB aC s.aK,aB aC co.aN,aA G co.aM.length ng,aD ⟨co.at_.toArray⟩,aA F fs.length cF]:=hb0.box;obtain⟨H,hH⟩:=wY w.heap.size
  rw [<-hH]at hS hC hR hgl;have hHl:H+1+1<w0.heap.size:=hR.lt;have hHw:w.heap.size<=H+1+1:=wu;have hq0:((q:Int)==0)=true:=by rw [beq_iff_eq];omega
  have hg7:=(zp (k:=6) (u:= aD ⟨c.at_.toArray⟩) (zp (k:=5) (u:= aA G1 c.aM.length n1) (zp (k:=4) (u:= aB aC c.aN) (zp (k:=3) (u:= aB aC t.aK) (zp (k:=2) (u:= aB aC t.aL) (zp (k:=1) (u:= aA B1 t.aJ.length d1) (zp (k:=0) (u:= aA A1 t.aI.length c1) (World.grownBy.refl w0 (aG g)))))))))
  have HA7:=sqH (Arr.fst7 hbb (aA A1 t.aI.length c1) (aA B1 t.aJ.length d1) (aB aC t.aL) (aB aC t.aK) (aB aC c.aN) (aA G1 c.aM.length n1) (aD ⟨c.at_.toArray⟩));have hR7:=hR.grown hg7 af;have HOW:=sqH (show OwLo w0 (g+1) (aA A1 t.aI.length c1) (aA B1 t.aJ.length d1) (aA G1 c.aM.length n1) (aA F fs.length cF) ⟨t,c,fs⟩ (fun b=>N b\/w.heap.size<=b) from⟨(hos.s.wider (fun b h=>h)).below hbx,zc hos.c hbx,hb0.own.f⟩);have HB0:=sqH (zR hbx (aG g));obtain⟨f0,f1,f2,f3,f4,f5⟩:=sqF6 hR;obtain⟨u0,u1,u2,u3,u4,u5⟩:=sqC6 hR;obtain⟨HF,HR7,HG7⟩:=sqJ3 (hR7.all6 (aB aC q) (aD ⟨#[]⟩) (aA aF 0 0) (aA aF 0 0) (aB aC 0) (aA aF 0 0)) hR7 hg7;have d0:=hbb.c0;have d1':=hbb.c1;have d2:=hbb.c2;have d3:=hbb.c3;have d4:=hbb.c4;have d5:=hbb.c5;have d6:=hbb.c6;obtain⟨e0,e1,e2,e3,e4,e5,e6⟩:=sqF7 hbb;obtain⟨x0,x1,x2,x3⟩:=sqC4 hS;obtain⟨y0,y1,y2⟩:=sqC3 hC;have n1:¬(H=g):=wu;have n2:¬(H+1=g):=wu;obtain⟨HQ,HW0,HH⟩:=sqJ3 hq hw0 hH;clear hq ho hb hb0 hos hbb hbx hS hC hR hR7 hg7 hw0 hH;go_enter func112,ntmps112
  refine wM 2 ?_;intros;rw [<-HW0.o,<-HH.o];go_region
  all_goals (try dsimp only [Exit.then])
  clear d0 d1' d2 d3 d4 d5 d6 e0 e1 e2 e3 e4 e5 e6 x0 x1 x2 x3 y0 y1 y2
  refine wL ?_;intros;refine bodyPost_ret (results_cell_row rfl _ _ (H+1+1) _ _ _ _ ac (Arr.drew HF.o) underlying47 rfl ww) rfl ?_;refine⟨rfl,zO (zl (HB0.o.trans HG7.o) hHw _ _ _ _ _ _) (Below.refl _ _).drew,?_⟩;obtain⟨p',hD⟩:=DkB.mk' (HOW.o.grownE HG7.o (Nat.lt_succ_self g) (.inl hN)) HA7.o;have e1:zJ ⟨s,co,fs⟩ t c q=⟨t,c,fs⟩:=if_pos HQ.o;rw [e1];exact⟨p',((hD.set6 HR7.o (.inr hHw) wu _ _ _ _ _ _).below (Below.refl _ _).drew).mono fun b h=> .inl h⟩
 ·obtain⟨w0,hw0,hS,hC,hR,hbx⟩:=jd w 34 37 47 [v1,v2,aB aC t.aL,aB aC t.aK] [aB aC c.aN,v3,aD ⟨c.at_.toArray⟩] [aB aC 0,aD ⟨#[]⟩,aA aF 0 0,aA aF 0 0,aB aC 0,aA aF 0 0];have hgl:=hb.lt;obtain⟨H,hH⟩:=wY w.heap.size
  rw [<-hH]at hS hC hR hgl;have hHw:w.heap.size<=H+1+1:=wu;have hq0:((q:Int)==0)=false:=by rw [beq_eq_false_iff_ne];omega
  obtain⟨HR,HG,HD⟩:=sqJ3 (hR.all6 (aB aC q) (aD ⟨#[]⟩) (aA aF 0 0) (aA aF 0 0) (aB aC 0) (aA aF 0 0)) (zl (zR hbx (aG g)) hHw (aB aC q) (aD ⟨#[]⟩) (aA aF 0 0) (aA aF 0 0) (aB aC 0) (aA aF 0 0)) (((hb.wider (N':=fun b=>N b\/w.heap.size<=b) (fun b h=>h)).below hbx).set6 hR (.inr hHw) wu (aB aC q) (aD ⟨#[]⟩) (aA aF 0 0) (aA aF 0 0) (aB aC 0) (aA aF 0 0));obtain⟨f0,f1,f2,f3,f4,f5⟩:=sqF6 hR;obtain⟨u0,u1,u2,u3,u4,u5⟩:=sqC6 hR;obtain⟨HQ,HW0,HH⟩:=sqJ3 hq hw0 hH;clear hq ho hb hbx hS hC hR hw0 hH;go_enter func112,ntmps112
  refine wM 3 ?_;intros;rw [<-HW0.o,<-HH.o]
  refine wL ?_;intros;refine bodyPost_ret (results_cell_row rfl _ _ (H+1+1) _ _ _ _ ac HR.o underlying47 rfl ww) rfl ?_;have e1:zJ l t c q=l:=if_neg HQ.o;rw [e1];exact⟨rfl,HG.o,_,HD.o.mono fun b h=> .inl h⟩
theorem jp (g:Nat) (p:LoW) (l:LoP) (v1 v2 v3 v4:Value) (m:LoP) (q:Nat) (w:World) (N:am) (hN:N g) (hb:DkB w g p l N) (ho:q=0->OwLo w (g+1) v1 v2 v3 v4 m N) :
  Calls zZZ 115 #[.pointer (aG ⟨g,0,aF⟩),KF v1 v2 v3 v4 m,aB aC q] w fun e w' =>
   e= .returned (z42 q)/\w.grownBy w' (aG g)/\∃p',DkB w' g p' (xb l m q) N:=by
 by_cases hq:q=0
 ·obtain⟨⟨⟨A1,c1,B1,d1,G1,n1,F1,f1⟩,rfl,rfl,rfl,rfl, -⟩,hos⟩:=And.intro (ho hq).rd (ho hq);dsimp only at hos ⊢
  obtain⟨w0,hw0,hS,hR,hbx⟩:=zL w 40 47 [aA A1 m.st.aI.length c1,aA B1 m.st.aJ.length d1,aB aC m.st.aL,aB aC m.st.aK,aB aC m.co.aN,aA G1 m.co.aM.length n1,aD ⟨m.co.at_.toArray⟩,aA F1 m.fs.length f1] [aB aC 0,aD ⟨#[]⟩,aA aF 0 0,aA aF 0 0,aB aC 0,aA aF 0 0];have hgl:=hb.lt;obtain⟨X,cX,Y,dY,G,ng,F,cF⟩:=p;obtain⟨s,co,fs⟩:=l;have hb0:=(hb.wider (N':=fun b=>N b\/w.heap.size<=b) (fun b h=>h)).below hbx;have hbb:Arr w0 g 82 [aA X s.aI.length cX,aA Y s.aJ.length dY,aB aC s.aL,aB aC s.aK,aB aC co.aN,aA G co.aM.length ng,aD ⟨co.at_.toArray⟩,aA F fs.length cF]:=hb0.box;obtain⟨H,hH⟩:=wY w.heap.size
  rw [<-hH]at hS hR hgl;have hHw:w.heap.size<=H+1:=wu;have hq0:((q:Int)==0)=true:=by rw [beq_iff_eq];omega
  have hg8:=(zp (k:=7) (u:= aA F1 m.fs.length f1) (zp (k:=6) (u:= aD ⟨m.co.at_.toArray⟩) (zp (k:=5) (u:= aA G1 m.co.aM.length n1) (zp (k:=4) (u:= aB aC m.co.aN) (zp (k:=3) (u:= aB aC m.st.aK) (zp (k:=2) (u:= aB aC m.st.aL) (zp (k:=1) (u:= aA B1 m.st.aJ.length d1) (zp (k:=0) (u:= aA A1 m.st.aI.length c1) (World.grownBy.refl w0 (aG g))))))))))
  have HA8:=sqH (hbb.all8 (aA A1 m.st.aI.length c1) (aA B1 m.st.aJ.length d1) (aB aC m.st.aL) (aB aC m.st.aK) (aB aC m.co.aN) (aA G1 m.co.aM.length n1) (aD ⟨m.co.at_.toArray⟩) (aA F1 m.fs.length f1));have hR8:=hR.grown hg8 af;have HOW:=sqH (show OwLo w0 (g+1) (aA A1 m.st.aI.length c1) (aA B1 m.st.aJ.length d1) (aA G1 m.co.aM.length n1) (aA F1 m.fs.length f1) m (fun b=>N b\/w.heap.size<=b) from⟨(hos.s.wider (fun b h=>h)).below hbx,zc hos.c hbx,hos.f.below hbx⟩);have HB0:=sqH (zR hbx (aG g));obtain⟨z0,z1,z2,z3,z4,z5⟩:=sqF6 hR;obtain⟨u0,u1,u2,u3,u4,u5⟩:=sqC6 hR;obtain⟨HF,HR8,HG8⟩:=sqJ3 (hR8.all6 (aB aC q) (aD ⟨#[]⟩) (aA aF 0 0) (aA aF 0 0) (aB aC 0) (aA aF 0 0)) hR8 hg8;obtain⟨y0,y1,y2,y3,y4,y5,y6,y7⟩:=sqC8 hbb;obtain⟨e0,e1,e2,e3,e4,e5,e6,e7⟩:=sqF8 hbb;obtain⟨x0,x1,x2,x3,x4,x5,x6,x7⟩:=sqC8 hS;have n1':¬(H=g):=wu;obtain⟨HQ,HW0,HH⟩:=sqJ3 hq hw0 hH;rw [hw0,hH]at x0 x1 x2 x3 x4 x5 x6 x7;clear hq ho hb hb0 hos hbb hbx hS hR hR8 hg8 hw0 hH;go_enter func115,ntmps115
  refine wM 2 ?_;intros;rw [<-HW0.o,<-HH.o];rw [<-HW0.o,<-HH.o]at x0 x1 x2 x3 x4 x5 x6 x7
  refine wL ?_;intros;refine bodyPost_ret (results_cell_row rfl _ _ (H+1) _ _ _ _ ac HF.o underlying47 rfl ww) rfl ?_;refine⟨rfl,zl (HB0.o.trans HG8.o) hHw _ _ _ _ _ _,?_⟩;obtain⟨p',hD⟩:=DkB.mk' (HOW.o.grownE HG8.o (Nat.lt_succ_self g) (.inl hN)) HA8.o;have e1:xb ⟨s,co,fs⟩ m q=m:=if_pos HQ.o;rw [e1];exact⟨p',(hD.set6 HR8.o (.inr hHw) wu _ _ _ _ _ _).mono fun b h=> .inl h⟩
 ·obtain⟨w0,hw0,hS,hR,hbx⟩:=zL w 40 47 [v1,v2,aB aC m.st.aL,aB aC m.st.aK,aB aC m.co.aN,v3,aD ⟨m.co.at_.toArray⟩,v4] [aB aC 0,aD ⟨#[]⟩,aA aF 0 0,aA aF 0 0,aB aC 0,aA aF 0 0];have hgl:=hb.lt;obtain⟨H,hH⟩:=wY w.heap.size
  rw [<-hH]at hS hR hgl;have hHw:w.heap.size<=H+1:=wu;have hq0:((q:Int)==0)=false:=by rw [beq_eq_false_iff_ne];omega
  obtain⟨HR,HG,HD⟩:=sqJ3 (hR.all6 (aB aC q) (aD ⟨#[]⟩) (aA aF 0 0) (aA aF 0 0) (aB aC 0) (aA aF 0 0)) (zl (zR hbx (aG g)) hHw (aB aC q) (aD ⟨#[]⟩) (aA aF 0 0) (aA aF 0 0) (aB aC 0) (aA aF 0 0)) (((hb.wider (N':=fun b=>N b\/w.heap.size<=b) (fun b h=>h)).below hbx).set6 hR (.inr hHw) wu (aB aC q) (aD ⟨#[]⟩) (aA aF 0 0) (aA aF 0 0) (aB aC 0) (aA aF 0 0));obtain⟨z0,z1,z2,z3,z4,z5⟩:=sqF6 hR;obtain⟨u0,u1,u2,u3,u4,u5⟩:=sqC6 hR;obtain⟨HQ,HW0,HH⟩:=sqJ3 hq hw0 hH;clear hq ho hb hbx hS hR hw0 hH;go_enter func115,ntmps115
  refine wM 3 ?_;intros;rw [<-HW0.o,<-HH.o]
  refine wL ?_;intros;refine bodyPost_ret (results_cell_row rfl _ _ (H+1) _ _ _ _ ac HR.o underlying47 rfl ww) rfl ?_;have e1:xb l m q=l:=if_neg HQ.o;rw [e1];exact⟨rfl,HG.o,_,HD.o.mono fun b h=> .inl h⟩
def yN (r:RepP) (A:aj) (c:Nat) (A':aj) (c':Nat) (B:aj) (d:Nat):ak:= [aB aC r.err,aD ⟨r.dig.toArray⟩,aA A r.data.length c,aA A' r.aP.length c',aB aC r.n,aA B r.who.length d]
theorem Ja (r:RepP) (A:aj) (c:Nat) (A':aj) (c':Nat) (B:aj) (d:Nat):∀u∈yN r A c A' c' B d,u.oneCell'=true:=by
 intro u hu;simp only [yN,List.mem_cons,List.not_mem_nil,or_false]at hu;rcases hu with rfl | rfl | rfl | rfl | rfl | rfl<;>rfl
theorem QW {r:RepP} {c:Nat} {A':aj} {c':Nat} {B:aj} {d b:Nat} (h:leads b (yN r A c A' c' B d)):∃a,(A=aG a\/A'=aG a\/B=aG a)/\a.block=b:=by
 obtain⟨a,n,c2,hm,rfl⟩:=h;simp only [yN,List.mem_cons,List.not_mem_nil,or_false,Value.slice.injEq,reduceCtorEq,false_or]at hm;rcases hm with ⟨e,_⟩ | ⟨e,_⟩ | ⟨e,_⟩
 ·exact⟨a,.inl e.symm,rfl⟩
 ·exact⟨a,.inr (.inl e.symm),rfl⟩
 ·exact⟨a,.inr (.inr e.symm),rfl⟩
def JF:Shp RepP where
 size:=6
 R w r cs:=∃A c A' c' B d,cs=yN r A c A' c' B d/\Sl w 1 A r.data.length c (bys r.data)/\Sl w 3 A' r.aP.length c' (pcs r.aP)/\Sl w 1 B r.who.length d (ins r.who)
 len:=by rintro w r cs ⟨A,c,A',c',B,d,rfl,_⟩;rfl
 one:=by
  rintro w r cs ⟨A,c,A',c',B,d,rfl,_⟩
  exact Ja r A c A' c' B d
 live:=by
  rintro w r cs ⟨A,c,A',c',B,d,rfl,h1,h2,h3⟩ g hl
  obtain⟨a,e | e | e,rfl⟩:=QW hl
  ·exact h1.live a e
  ·exact h2.live a e
  ·exact h3.live a e
 keep:=by
  rintro w w' r cs ⟨A,c,A',c',B,d,rfl,h1,h2,h3⟩ hs hk
  exact⟨A,c,A',c',B,d,rfl,h1.keep hs fun g hg ⟨a,ha,hb⟩=>hk g hg ⟨a,r.data.length,c,by subst ha;simp [yN],hb⟩,h2.keep hs fun g hg ⟨a,ha,hb⟩=>hk g hg ⟨a,r.aP.length,c',by subst ha;simp [yN],hb⟩,h3.keep hs fun g hg ⟨a,ha,hb⟩=>hk g hg ⟨a,r.who.length,d,by subst ha;simp [yN],hb⟩⟩
theorem Rw.rep_at {l:List RepP} (h:Rw JF w A l) (k:Nat) (hk:k<l.length) :
  ∃b off B c B' c' C d,A=aG ⟨b,off,aF⟩/\b<w.heap.size/\w.cell? ⟨b,off+k*6,aF⟩=aG (aB aC (l[k].err:Int))/\w.cell? ⟨b,off+k*6+1,aF⟩=aG (aD ⟨l[k].dig.toArray⟩) /\
   w.cell? ⟨b,off+k*6+2,aF⟩=aG (aA B l[k].data.length c)/\w.cell? ⟨b,off+k*6+3,aF⟩=aG (aA B' l[k].aP.length c')/\w.cell? ⟨b,off+k*6+4,aF⟩=aG (aB aC (l[k].n:Int))/\w.cell? ⟨b,off+k*6+5,aF⟩=aG (aA C l[k].who.length d) /\
   Sl w 1 B l[k].data.length c (bys l[k].data)/\Sl w 3 B' l[k].aP.length c' (pcs l[k].aP)/\Sl w 1 C l[k].who.length d (ins l[k].who):=by
 obtain⟨b,off,cs,rfl,hb,⟨B,c,B',c',C,d,rfl,h1,h2,h3⟩,hc⟩:=h.at_ k hk;exact⟨b,off,B,c,B',c',C,d,rfl,hb,hc 0 _ rfl,hc 1 _ rfl,hc 2 _ rfl,hc 3 _ rfl,hc 4 _ rfl,hc 5 _ rfl,h1,h2,h3⟩
theorem z3k:El zZZ 30 47 6 104:=El.mk' (z:= .agg #[aB aC 0,aD ByteArray.empty,aA aF 0 0,aA aF 0 0,aB aC 0,aA aF 0 0]) underlying30 ww rfl wu wu
abbrev orC (kd n:Nat) (dg D:ai) (ps:List PartP) (A:aj) (c:Nat) (A':aj) (c':Nat):ak:= [aB aC kd,aB aC n,aD ⟨dg.toArray⟩,aA A D.length c,aA A' ps.length c']
theorem Kz {X Y G F:aj} {cX dY ng cF:Nat} {co:ColP} (kd n:Nat) (dg D:ai) (ps:List PartP) (A:aj) (c:Nat) (A':aj) (c':Nat) (hL:GoodL ⟨s,co,fs⟩) (hNw:∀b,N b->b<w.heap.size) (hb:DkB w g ⟨X,cX,Y,dY,G,ng,F,cF⟩ ⟨s,co,fs⟩ N) (hd:Sl w 1 A D.length c (bys D)) (hq:Sl w 3 A' ps.length c' (pcs ps)) :
  ∃(w0:World) (H:Nat),Hid (∀W,Below w0.heap.size w0 W->DkB W g ⟨X,cX,Y,dY,G,ng,F,cF⟩ ⟨s,co,fs⟩ (fun b=>N b\/w.heap.size<=b)) /\
   Hid (∀W,Below w0.heap.size w0 W->wJ W g (aA X s.aI.length cX) (aA Y s.aJ.length dY) (aB aC s.aL) (aB aC s.aK) (aB aC co.aN) (aA G co.aM.length ng) (aD ⟨co.at_.toArray⟩) (aA F fs.length cF)) /\
   w.heap.size<=w0.heap.size/\Hid (Below w.heap.size w w0)/\Hid (Sl w0 1 A D.length c (bys D))/\Hid (Sl w0 3 A' ps.length c' (pcs ps))/\w.heap.size<=H/\w.heap.size<=H+1/\g≠H+1/\H+1<w0.heap.size/\g<H/\g<w.heap.size /\
   Hid (∀W,Below w0.heap.size w0 W->Arr W H 29 (orC kd n dg D ps A c A' c'))/\Hid (∀W,Below w0.heap.size w0 W->Arr W (H+1) 47 z43)/\Hid (GoodL ⟨s,co,fs⟩)/\Hid (∀b,N b->b<w.heap.size) /\
   ((w.alloc (aE #[aB aC kd,aB aC n,aD ⟨dg.toArray⟩,aA A D.length c,aA A' ps.length c'] 29)).alloc (aE #[aB aC 0,aD ⟨#[]⟩,aA aF 0 0,aA aF 0 0,aB aC 0,aA aF 0 0] 47)).cell? ⟨w.heap.size,0,aF⟩=aG (aB aC kd)/\((w.alloc (aE #[aB aC kd,aB aC n,aD ⟨dg.toArray⟩,aA A D.length c,aA A' ps.length c'] 29)).alloc (aE #[aB aC 0,aD ⟨#[]⟩,aA aF 0 0,aA aF 0 0,aB aC 0,aA aF 0 0] 47)).cell? ⟨w.heap.size,1,aF⟩=aG (aB aC n)/\((w.alloc (aE #[aB aC kd,aB aC n,aD ⟨dg.toArray⟩,aA A D.length c,aA A' ps.length c'] 29)).alloc (aE #[aB aC 0,aD ⟨#[]⟩,aA aF 0 0,aA aF 0 0,aB aC 0,aA aF 0 0] 47)).cell? ⟨w.heap.size,2,aF⟩=aG (aD ⟨dg.toArray⟩)/\((w.alloc (aE #[aB aC kd,aB aC n,aD ⟨dg.toArray⟩,aA A D.length c,aA A' ps.length c'] 29)).alloc (aE #[aB aC 0,aD ⟨#[]⟩,aA aF 0 0,aA aF 0 0,aB aC 0,aA aF 0 0] 47)).cell? ⟨w.heap.size,3,aF⟩=aG (aA A D.length c)/\((w.alloc (aE #[aB aC kd,aB aC n,aD ⟨dg.toArray⟩,aA A D.length c,aA A' ps.length c'] 29)).alloc (aE #[aB aC 0,aD ⟨#[]⟩,aA aF 0 0,aA aF 0 0,aB aC 0,aA aF 0 0] 47)).cell? ⟨w.heap.size,4,aF⟩=aG (aA A' ps.length c') /\
   Hid (w0=((w.alloc (aE #[aB aC kd,aB aC n,aD ⟨dg.toArray⟩,aA A D.length c,aA A' ps.length c'] 29)).alloc (aE #[aB aC 0,aD ⟨#[]⟩,aA aF 0 0,aA aF 0 0,aB aC 0,aA aF 0 0] 47)))/\Hid (H=w.heap.size):=by
 have hgl:=hb.lt;have hbw:=hb.wider (N':=fun b=>N b\/w.heap.size<=b) (fun b h=>h);obtain⟨w0,hw0,hP,hR,hbx⟩:=zL w 29 47 [aB aC kd,aB aC n,aD ⟨dg.toArray⟩,aA A D.length c,aA A' ps.length c'] [aB aC 0,aD ⟨#[]⟩,aA aF 0 0,aA aF 0 0,aB aC 0,aA aF 0 0];refine⟨w0,w.heap.size,Lib.hid fun W h=>(hbw.below hbx).below h,Lib.hid fun W h=> ?_,hbx.size,Lib.hid hbx,Lib.hid (hd.below hbx),Lib.hid (hq.below hbx),Nat.le_refl _,wu,wu,hR.lt,hgl,hgl,Lib.hid fun W h=>hP.below h,Lib.hid fun W h=>hR.below h,Lib.hid hL,Lib.hid hNw,?_,?_,?_,?_,?_,Lib.hid hw0,Lib.hid rfl⟩
 ·have b:=((hbw.below hbx).below h).box;exact sqC8 b
 ·rw [<-hw0];exact hP.c0
 ·rw [<-hw0];exact hP.c1
 ·rw [<-hw0];exact hP.c2
 ·rw [<-hw0];exact hP.c3
 ·rw [<-hw0];exact hP.c4
abbrev orV (kd n:Nat) (dg D:ai) (ps:List PartP) (A:aj) (c:Nat) (A':aj) (c':Nat):Value:= .agg #[aB aC kd,aB aC n,aD ⟨dg.toArray⟩,aA A D.length c,aA A' ps.length c']
def k8 (w:World) (g:Nat) (N:am) (r:LoP×RepP) (e:Ending) (w':World):Prop :=
 ∃dv pv wv,e= .returned (z4h r.2 dv pv wv)/\w.grownBy w' (aG g)/\(∃p',DkB w' g p' r.1 N)/\RepAt w' w.heap.size r.2 dv pv wv
theorem z1g (g:Nat) (p:LoW) (l:LoP) (kd n:Nat) (dg D:ai) (ps:List PartP) (A:aj) (c:Nat) (A':aj) (c':Nat) (w:World) (hL:GoodL l) (h3:D.length<=300) (h1:kd=1) (N:am) (hNg:N g) (hNw:∀b,N b->b<w.heap.size) (hb:DkB w g p l N) (hd:Sl w 1 A D.length c (bys D)) (hq:Sl w 3 A' ps.length c' (pcs ps)) :
  Calls Tryz.prog 66 #[.pointer (aG ⟨g,0,aF⟩),orV kd n dg D ps A c A' c'] w (k8 w g N (blobD l ⟨kd,n,dg,D,ps⟩)):=by
 have k1:((kd:Int)==1)=true:=by rw [beq_iff_eq];omega
 have HK:=sqH h1;clear h1;have HPX:=sqH h3;clear h3;obtain⟨X,cX,Y,dY,G,ng,F,cF⟩:=p;obtain⟨s,co,fs⟩:=l;obtain⟨w0,H,HDK,HBC,hws,HBX,HD,HQ,hHw,hHw1,hgH,hHl,hgl,hgw,HP,HR,HL,HNW,x0,x1,x2,x3,x4,HW0,HH⟩:=Kz kd n dg D ps A c A' c' hL hNw hb hd hq;clear hb hd hq hL hNw;go_enter func66,ntmps66
 refine wM 3 ?_;intros;rw [<-HW0.o,<-HH.o];clear x0 x1 x2 x3 x4;have HPB:=sqH (fun W (h:Below w0.heap.size w0 W)=>Vk X cX Y dY s G ng co W D A c HL.o.s (HDK.o W h).rd.s HL.o.g HL.o.c (HDK.o W h).rd.c HPX.o (HD.o.below h));generalize hpb:pbP s co D=r at HPB;obtain⟨t,c2,dq,q⟩:=r;dsimp only at HPB;have HSB:=sqH (show ∀W,Below w0.heap.size w0 W->(wK W g (aA X s.aI.length cX) (aA Y s.aJ.length dY) (aB aC s.aL) (aB aC s.aK) (aB aC co.aN) (aA G co.aM.length ng) (aD ⟨co.at_.toArray⟩))/\W.cell? ⟨H,3,aF⟩=aG (aA A D.length c) from fun W h=>by
  obtain⟨y0,y1,y2,y3,y4,y5,y6,_⟩:=HBC.o W h;exact⟨⟨y0,y1,y2,y3,y4,y5,y6⟩,(HP.o W h).c3⟩)
 have HPD:=sqH hpb;clear hpb
 iterate 1 (first | go_values | go_skip | go_guarded | go_step | go_upon | go_back)
 apply zD;intro REST;apply zD;intro Rb1;apply zD;intro Rb2;apply zD;intro Rb3;apply zD;intro Rb4;refine ze [20,21] (S:=(fun w'=>(wK w' g (aA X s.aI.length cX) (aA Y s.aJ.length dY) (aB aC s.aL) (aB aC s.aK) (aB aC co.aN) (aA G co.aM.length ng) (aD ⟨co.at_.toArray⟩))/\w'.cell? ⟨H,3,aF⟩=aG (aA A D.length c))) ww ?_ (fun hHeld=> ?_)
 ·exact HSB.o _ (((wo w0)).drew)
 have hB:=((wo w0)).drew;generalize w0.drew=wn0 at *
 refine wT 0 ?_;refine wT 1 ?_;refine wT 2 ?_;refine wT 3 ?_;refine wS 4 ?_;refine wT 5 ?_;refine wT 6 ?_;refine wT 7 ?_;refine wT 8 ?_;refine wS 9 ?_;refine wT 10 ?_;refine wS 11 ?_;refine za (rs:= [12,18,19]) ww ab ?_;refine z8.cons (o:=_) rfl (fun K hK=> ?_) ?_
 ·
  go_simp;refine(HPB.o wn0 hB).mono ?_;rintro e5 w5 ⟨v1,v2,v3,rfl,ho5,hb5⟩;obtain⟨A1,c1,B1,d1,rfl,rfl, -⟩:=ho5.s.rows;obtain⟨G1,n1,rfl, -, -⟩:=Rd.of_own' ho5.c;dsimp only;refine wC hK (HSB.o _ ((wm hB hb5))) (fun W=>Below w0.heap.size w0 W/\OwSt W w.heap.size (aA A1 t.aI.length c1) (aA B1 t.aJ.length d1) t (fun b=>(N b\/b=H+1))/\W.ownsRow w.heap.size 9 1 (aA G1 c2.aM.length n1) c2.aM.length (strs c2.aM)) (by exact⟨wm hB hb5,(ho5.s.lower (base':=w.heap.size) (by have:=hB.size;omega)).mono (N':=(fun b=>(N b\/b=H+1))) (fun b hb=>by have:=hB.size;rcases hb with hb | hb;(have:=HNW.o b hb;omega);omega),zb ho5.c (by have:=hB.size;omega)⟩) fun wn1 hF=> ?_;clear hB hHeld hb5 ho5 hK K;obtain⟨hHeld,hB,ho,hl⟩:=hF
  refine wT 13 ?_;refine wT 14 ?_;refine wT 15 ?_;refine wT 16 ?_;refine wT 17 ?_;refine za (rs:= [18,19]) ww ab ?_;refine z8.cons (o:=_) rfl (fun K hK=> ?_) ?_
  ·
   obtain⟨g5,hge,hba,hn,hnl,hN⟩:=wG wn1 34 [aA aF 0 0,aA aF 0 0,aB aC 0,aB aC 0] hB.size;go_simp;rw [<-hge];clear hge;refine wC hK (HSB.o _ ((wm hB hba))) (fun W=>Below w0.heap.size w0 W/\Arr W g5 34 [aA aF 0 0,aA aF 0 0,aB aC 0,aB aC 0]/\w0.heap.size<=g5/\OwSt W w.heap.size (aA A1 t.aI.length c1) (aA B1 t.aJ.length d1) t (fun b=>(N b\/b=H+1)\/b=g5)/\W.ownsRow w.heap.size 9 1 (aA G1 c2.aM.length n1) c2.aM.length (strs c2.aM)) ⟨wm hB hba,hn,hnl,(ho.wider (N':=(fun b=>(N b\/b=H+1)\/b=g5)) (fun b hb=>hb.elim (fun hb=> .inl hb) (fun hb=> .inr (hN _ hb)))).below hba,zc hl hba⟩ fun wn2 hF=> ?_;clear hl ho hB hHeld hba hn hnl hN hK K;obtain⟨hHeld,hB,h5,h5l,ho,hl⟩:=hF
   try simp only [sqP]
   have hall:=aH hB (aH h5 (aH h5l (aH ho (aH hl hHeld))));clear hHeld hl ho h5l h5 hB;generalize wn2=wz at hall ⊢
   revert hall;revert wz;revert g5;revert n1;revert G1;revert d1;revert B1;revert c1;revert A1;exact Rb2.o
  refine z8.cons (o:=_) rfl (fun K hK=> ?_) ?_
  ·
   obtain⟨g6,hge,hba,hn,hnl,hN⟩:=wG wn1 37 [aB aC 0,aA aF 0 0,aD ⟨#[]⟩] hB.size;go_simp;rw [<-hge];clear hge;refine wC hK (HSB.o _ ((wm hB hba))) (fun W=>Below w0.heap.size w0 W/\Arr W g6 37 [aB aC 0,aA aF 0 0,aD ⟨#[]⟩]/\w0.heap.size<=g6/\OwSt W w.heap.size (aA A1 t.aI.length c1) (aA B1 t.aJ.length d1) t (fun b=>(N b\/b=H+1)\/b=g6)/\W.ownsRow w.heap.size 9 1 (aA G1 c2.aM.length n1) c2.aM.length (strs c2.aM)) ⟨wm hB hba,hn,hnl,(ho.wider (N':=(fun b=>(N b\/b=H+1)\/b=g6)) (fun b hb=>hb.elim (fun hb=> .inl hb) (fun hb=> .inr (hN _ hb)))).below hba,zc hl hba⟩ fun wn3 hF=> ?_;clear hl ho hB hHeld hba hn hnl hN hK K;obtain⟨hHeld,hB,h6,h6l,ho,hl⟩:=hF
   try simp only [sqP]
   have hall:=aH hB (aH h6 (aH h6l (aH ho (aH hl hHeld))));clear hHeld hl ho h6l h6 hB;generalize wn3=wz at hall ⊢
   revert hall;revert wz;revert g6;revert n1;revert G1;revert d1;revert B1;revert c1;revert A1;exact Rb3.o
  exact z8.nil
 refine z8.cons (o:=_) rfl (fun K hK=> ?_) ?_
 ·
  obtain⟨g5,hge,hba,hn,hnl,hN⟩:=wG wn0 34 [aA aF 0 0,aA aF 0 0,aB aC 0,aB aC 0] hB.size;go_simp;rw [<-hge];clear hge;refine wC hK (HSB.o _ ((wm hB hba))) (fun W=>Below w0.heap.size w0 W/\Arr W g5 34 [aA aF 0 0,aA aF 0 0,aB aC 0,aB aC 0]/\w0.heap.size<=g5) ⟨wm hB hba,hn,hnl⟩ fun wn4 hF=> ?_;clear hB hHeld hba hn hnl hN hK K;obtain⟨hHeld,hB,h5,h5l⟩:=hF
  try simp only [sqP]
  refine za (rs:= [12,19]) ww ab ?_;refine z8.cons (o:=_) rfl (fun K hK=> ?_) ?_
  ·
   go_simp;refine(HPB.o wn4 hB).mono ?_;rintro e5 w5 ⟨v1,v2,v3,rfl,ho5,hb5⟩;obtain⟨A1,c1,B1,d1,rfl,rfl, -⟩:=ho5.s.rows;obtain⟨G1,n1,rfl, -, -⟩:=Rd.of_own' ho5.c;dsimp only;refine wC hK (HSB.o _ ((wm hB hb5))) (fun W=>Below w0.heap.size w0 W/\Arr W g5 34 [aA aF 0 0,aA aF 0 0,aB aC 0,aB aC 0]/\w0.heap.size<=g5/\OwSt W w.heap.size (aA A1 t.aI.length c1) (aA B1 t.aJ.length d1) t (fun b=>(N b\/b=H+1)\/b=g5)/\W.ownsRow w.heap.size 9 1 (aA G1 c2.aM.length n1) c2.aM.length (strs c2.aM)) (by exact⟨wm hB hb5,h5.below hb5,h5l,(ho5.s.lower (base':=w.heap.size) (by have:=hB.size;omega)).mono (N':=(fun b=>(N b\/b=H+1)\/b=g5)) (fun b hb=>hb.elim (fun hb=>by have:=hB.size;rcases hb with hb | hb;(have:=HNW.o b hb;omega);omega) (fun hb=>(by rw [hb];exact h5.lt))),zb ho5.c (by have:=hB.size;omega)⟩) fun wn5 hF=> ?_;clear h5l h5 hB hHeld hb5 ho5 hK K;obtain⟨hHeld,hB,h5,h5l,ho,hl⟩:=hF
   refine wT 13 ?_;refine wT 14 ?_;refine wT 15 ?_;refine wT 16 ?_;refine wT 17 ?_;exact Rb2.o A1 c1 B1 d1 G1 n1 g5 wn5 ⟨hB,h5,h5l,ho,hl,hHeld⟩
  refine z8.cons (o:=_) rfl (fun K hK=> ?_) ?_
  ·
   obtain⟨g6,hge,hba,hn,hnl,hN⟩:=wG wn4 37 [aB aC 0,aA aF 0 0,aD ⟨#[]⟩] hB.size;go_simp;rw [<-hge];clear hge;refine wC hK (HSB.o _ ((wm hB hba))) (fun W=>Below w0.heap.size w0 W/\Arr W g5 34 [aA aF 0 0,aA aF 0 0,aB aC 0,aB aC 0]/\w0.heap.size<=g5/\Arr W g6 37 [aB aC 0,aA aF 0 0,aD ⟨#[]⟩]/\w0.heap.size<=g6/\g5≠g6) (by exact⟨wm hB hba,h5.below hba,h5l,hn,hnl,(fun e=>Nat.lt_irrefl _ (by have h1:=h5.lt;rw [e]at h1;exact Nat.lt_of_lt_of_le h1 (hN _ rfl)))⟩) fun wn6 hF=> ?_;clear h5l h5 hB hHeld hba hn hnl hN hK K;obtain⟨hHeld,hB,h5,h5l,h6,h6l,h56n⟩:=hF
   try simp only [sqP]
   have hall:=aH hB (aH h5 (aH h5l (aH h6 (aH h6l (aH h56n hHeld)))));clear hHeld h56n h6l h6 h5l h5 hB;generalize wn6=wz at hall ⊢
   revert hall;revert wz;revert g6;revert g5;exact Rb4.o
  exact z8.nil
 refine z8.cons (o:=_) rfl (fun K hK=> ?_) ?_
 ·
  obtain⟨g6,hge,hba,hn,hnl,hN⟩:=wG wn0 37 [aB aC 0,aA aF 0 0,aD ⟨#[]⟩] hB.size;go_simp;rw [<-hge];clear hge;refine wC hK (HSB.o _ ((wm hB hba))) (fun W=>Below w0.heap.size w0 W/\Arr W g6 37 [aB aC 0,aA aF 0 0,aD ⟨#[]⟩]/\w0.heap.size<=g6) ⟨wm hB hba,hn,hnl⟩ fun wn7 hF=> ?_;clear hB hHeld hba hn hnl hN hK K;obtain⟨hHeld,hB,h6,h6l⟩:=hF
  try simp only [sqP]
  refine za (rs:= [12,18]) ww ab ?_;refine z8.cons (o:=_) rfl (fun K hK=> ?_) ?_
  ·
   go_simp;refine(HPB.o wn7 hB).mono ?_;rintro e5 w5 ⟨v1,v2,v3,rfl,ho5,hb5⟩;obtain⟨A1,c1,B1,d1,rfl,rfl, -⟩:=ho5.s.rows;obtain⟨G1,n1,rfl, -, -⟩:=Rd.of_own' ho5.c;dsimp only;refine wC hK (HSB.o _ ((wm hB hb5))) (fun W=>Below w0.heap.size w0 W/\Arr W g6 37 [aB aC 0,aA aF 0 0,aD ⟨#[]⟩]/\w0.heap.size<=g6/\OwSt W w.heap.size (aA A1 t.aI.length c1) (aA B1 t.aJ.length d1) t (fun b=>(N b\/b=H+1)\/b=g6)/\W.ownsRow w.heap.size 9 1 (aA G1 c2.aM.length n1) c2.aM.length (strs c2.aM)) (by exact⟨wm hB hb5,h6.below hb5,h6l,(ho5.s.lower (base':=w.heap.size) (by have:=hB.size;omega)).mono (N':=(fun b=>(N b\/b=H+1)\/b=g6)) (fun b hb=>hb.elim (fun hb=>by have:=hB.size;rcases hb with hb | hb;(have:=HNW.o b hb;omega);omega) (fun hb=>(by rw [hb];exact h6.lt))),zb ho5.c (by have:=hB.size;omega)⟩) fun wn8 hF=> ?_;clear h6l h6 hB hHeld hb5 ho5 hK K;obtain⟨hHeld,hB,h6,h6l,ho,hl⟩:=hF
   refine wT 13 ?_;refine wT 14 ?_;refine wT 15 ?_;refine wT 16 ?_;refine wT 17 ?_;exact Rb3.o A1 c1 B1 d1 G1 n1 g6 wn8 ⟨hB,h6,h6l,ho,hl,hHeld⟩
  refine z8.cons (o:=_) rfl (fun K hK=> ?_) ?_
  ·
   obtain⟨g5,hge,hba,hn,hnl,hN⟩:=wG wn7 34 [aA aF 0 0,aA aF 0 0,aB aC 0,aB aC 0] hB.size;go_simp;rw [<-hge];clear hge;refine wC hK (HSB.o _ ((wm hB hba))) (fun W=>Below w0.heap.size w0 W/\Arr W g5 34 [aA aF 0 0,aA aF 0 0,aB aC 0,aB aC 0]/\w0.heap.size<=g5/\Arr W g6 37 [aB aC 0,aA aF 0 0,aD ⟨#[]⟩]/\w0.heap.size<=g6/\g5≠g6) (by exact⟨wm hB hba,hn,hnl,h6.below hba,h6l,(fun e=>Nat.lt_irrefl _ (by have h1:=h6.lt;rw [<-e]at h1;exact Nat.lt_of_lt_of_le h1 (hN _ rfl)))⟩) fun wn9 hF=> ?_;clear h6l h6 hB hHeld hba hn hnl hN hK K;obtain⟨hHeld,hB,h5,h5l,h6,h6l,h56n⟩:=hF
   try simp only [sqP]
   exact Rb4.o g5 g6 wn9 ⟨hB,h5,h5l,h6,h6l,h56n,hHeld⟩
  exact z8.nil
 exact z8.nil;intro g5 g6 wRb4 hall;obtain⟨hB,h5,h5l,h6,h6l,h56n,hHeld⟩:=hall;refine za (rs:= [12]) ww ab ?_;refine z8.cons (o:=_) rfl (fun K hK=> ?_) ?_
 ·
  go_simp;refine(HPB.o wRb4 hB).mono ?_;rintro e5 w5 ⟨v1,v2,v3,rfl,ho5,hb5⟩;obtain⟨A1,c1,B1,d1,rfl,rfl, -⟩:=ho5.s.rows;obtain⟨G1,n1,rfl, -, -⟩:=Rd.of_own' ho5.c;dsimp only;refine wC hK (HSB.o _ ((wm hB hb5))) (fun W=>Below w0.heap.size w0 W/\Arr W g5 34 [aA aF 0 0,aA aF 0 0,aB aC 0,aB aC 0]/\w0.heap.size<=g5/\Arr W g6 37 [aB aC 0,aA aF 0 0,aD ⟨#[]⟩]/\w0.heap.size<=g6/\g5≠g6/\OwSt W w.heap.size (aA A1 t.aI.length c1) (aA B1 t.aJ.length d1) t (fun b=>(N b\/b=H+1)\/b=g5\/b=g6)/\W.ownsRow w.heap.size 9 1 (aA G1 c2.aM.length n1) c2.aM.length (strs c2.aM)) (by exact⟨wm hB hb5,h5.below hb5,h5l,h6.below hb5,h6l,h56n,(ho5.s.lower (base':=w.heap.size) (by have:=hB.size;omega)).mono (N':=(fun b=>(N b\/b=H+1)\/b=g5\/b=g6)) (fun b hb=>hb.elim (fun hb=>by have:=hB.size;rcases hb with hb | hb;(have:=HNW.o b hb;omega);omega) (fun hb=>hb.elim (fun hb=>by rw [hb];exact h5.lt) (fun hb=>(by rw [hb];exact h6.lt)))),zb ho5.c (by have:=hB.size;omega)⟩) fun wn10 hF=> ?_;clear h56n h6l h6 h5l h5 hB hHeld hb5 ho5 hK K;obtain⟨hHeld,hB,h5,h5l,h6,h6l,h56n,ho,hl⟩:=hF
  refine wT 13 ?_;refine wT 14 ?_;refine wT 15 ?_;refine wT 16 ?_;refine wT 17 ?_;have hall:=aH hB (aH h5 (aH h5l (aH h6 (aH h6l (aH h56n (aH ho (aH hl hHeld)))))));clear hHeld hl ho h56n h6l h6 h5l h5 hB;generalize wn10=wz at hall ⊢
  revert hall;revert wz;revert g6;revert g5;revert n1;revert G1;revert d1;revert B1;revert c1;revert A1;exact Rb1.o
 exact z8.nil;intro A1 c1 B1 d1 G1 n1 g6 wRb3 hall;obtain⟨hB,h6,h6l,ho,hl,hHeld⟩:=hall;refine za (rs:= [18]) ww ab ?_;refine z8.cons (o:=_) rfl (fun K hK=> ?_) ?_
 ·
  obtain⟨g5,hge,hba,hn,hnl,hN⟩:=wG wRb3 34 [aA aF 0 0,aA aF 0 0,aB aC 0,aB aC 0] hB.size;go_simp;rw [<-hge];clear hge;refine wC hK (HSB.o _ ((wm hB hba))) (fun W=>Below w0.heap.size w0 W/\Arr W g5 34 [aA aF 0 0,aA aF 0 0,aB aC 0,aB aC 0]/\w0.heap.size<=g5/\Arr W g6 37 [aB aC 0,aA aF 0 0,aD ⟨#[]⟩]/\w0.heap.size<=g6/\g5≠g6/\OwSt W w.heap.size (aA A1 t.aI.length c1) (aA B1 t.aJ.length d1) t (fun b=>(N b\/b=H+1)\/b=g5\/b=g6)/\W.ownsRow w.heap.size 9 1 (aA G1 c2.aM.length n1) c2.aM.length (strs c2.aM)) (by exact⟨wm hB hba,hn,hnl,h6.below hba,h6l,(fun e=>Nat.lt_irrefl _ (by have h1:=h6.lt;rw [<-e]at h1;exact Nat.lt_of_lt_of_le h1 (hN _ rfl))),(ho.wider (N':=(fun b=>(N b\/b=H+1)\/b=g5\/b=g6)) (fun b hb=>hb.elim (fun hb=> .inl (.inl hb)) (fun hb=>hb.elim (fun hb=> .inr (hN _ hb)) (fun hb=> .inl (.inr hb))))).below hba,zc hl hba⟩) fun wn11 hF=> ?_;clear hl ho h6l h6 hB hHeld hba hn hnl hN hK K;obtain⟨hHeld,hB,h5,h5l,h6,h6l,h56n,ho,hl⟩:=hF
  try simp only [sqP]
  exact Rb1.o A1 c1 B1 d1 G1 n1 g5 g6 wn11 ⟨hB,h5,h5l,h6,h6l,h56n,ho,hl,hHeld⟩
 exact z8.nil;intro A1 c1 B1 d1 G1 n1 g5 wRb2 hall;obtain⟨hB,h5,h5l,ho,hl,hHeld⟩:=hall;refine za (rs:= [19]) ww ab ?_;refine z8.cons (o:=_) rfl (fun K hK=> ?_) ?_
 ·
  obtain⟨g6,hge,hba,hn,hnl,hN⟩:=wG wRb2 37 [aB aC 0,aA aF 0 0,aD ⟨#[]⟩] hB.size;go_simp;rw [<-hge];clear hge;refine wC hK (HSB.o _ ((wm hB hba))) (fun W=>Below w0.heap.size w0 W/\Arr W g5 34 [aA aF 0 0,aA aF 0 0,aB aC 0,aB aC 0]/\w0.heap.size<=g5/\Arr W g6 37 [aB aC 0,aA aF 0 0,aD ⟨#[]⟩]/\w0.heap.size<=g6/\g5≠g6/\OwSt W w.heap.size (aA A1 t.aI.length c1) (aA B1 t.aJ.length d1) t (fun b=>(N b\/b=H+1)\/b=g5\/b=g6)/\W.ownsRow w.heap.size 9 1 (aA G1 c2.aM.length n1) c2.aM.length (strs c2.aM)) (by exact⟨wm hB hba,h5.below hba,h5l,hn,hnl,(fun e=>Nat.lt_irrefl _ (by have h1:=h5.lt;rw [e]at h1;exact Nat.lt_of_lt_of_le h1 (hN _ rfl))),(ho.wider (N':=(fun b=>(N b\/b=H+1)\/b=g5\/b=g6)) (fun b hb=>hb.elim (fun hb=> .inl (.inl hb)) (fun hb=>hb.elim (fun hb=> .inl (.inr hb)) (fun hb=> .inr (hN _ hb))))).below hba,zc hl hba⟩) fun wn12 hF=> ?_;clear hl ho h5l h5 hB hHeld hba hn hnl hN hK K;obtain⟨hHeld,hB,h5,h5l,h6,h6l,h56n,ho,hl⟩:=hF
  try simp only [sqP]
  exact Rb1.o A1 c1 B1 d1 G1 n1 g5 g6 wn12 ⟨hB,h5,h5l,h6,h6l,h56n,ho,hl,hHeld⟩
 exact z8.nil;intro A1 c1 B1 d1 G1 n1 g5 g6 wRb1 hall;obtain⟨hB,h5,h5l,h6,h6l,h56n,ho,hl,hHeld⟩:=hall;refine za (rs:= [20]) ww ab ?_;refine z8.store (o:=_) rfl ac (fun K hK=> ?_) ?_
 ·
  have hqho:=ho.nb h5 aa aa;have hqhl:=zf hl h5 aa;obtain⟨z0,f0,z1,f1,z2,f2,z3,f3⟩:=wg h5;go_simp;clear z0 f0 z1 f1 z2 f2 z3 f3;refine wD hK (fun W=>Below w0.heap.size w0 W/\Arr W g5 34 [(aA A1 t.aI.length c1),(aA B1 t.aJ.length d1),aB aC t.aL,aB aC t.aK]/\w0.heap.size<=g5/\Arr W g6 37 [aB aC 0,aA aF 0 0,aD ⟨#[]⟩]/\w0.heap.size<=g6/\g5≠g6/\OwSt W w.heap.size (aA A1 t.aI.length c1) (aA B1 t.aJ.length d1) t (fun b=>(N b\/b=H+1)\/b=g5\/b=g6)/\W.ownsRow w.heap.size 9 1 (aA G1 c2.aM.length n1) c2.aM.length (strs c2.aM)) ⟨((((hB).setCell (p:=⟨g5,0,aF⟩) h5l _).setCell (p:=⟨g5,1,aF⟩) h5l _).setCell (p:=⟨g5,2,aF⟩) h5l _).setCell (p:=⟨g5,3,aF⟩) h5l _,h5.all4 _ _ _ _,h5l,((((h6).other (h56n.symm) _).other (h56n.symm) _).other (h56n.symm) _).other (h56n.symm) _,h6l,h56n,ho.set4N (.inr (.inl rfl)) hqho.1 hqho.2 _ _ _ _,qA hl hqhl _ _ _ _⟩ fun wn13 hF=> ?_;clear hl ho h56n h6l h6 h5l h5 hB hHeld;obtain⟨hB,h5,h5l,h6,h6l,h56n,ho,hl⟩:=hF;clear hqho hqhl;clear hK K
  try simp only [sqP]
  refine wW 21 fun K hK=>?_;have hqho:=ho.nb h6 aa aa;have hqhl:=zf hl h6 aa;obtain⟨z0,f0,z1,f1,z2,f2⟩:=wh h6;go_simp;clear z0 f0 z1 f1 z2 f2;refine wD hK (fun W=>Below w0.heap.size w0 W/\Arr W g5 34 [(aA A1 t.aI.length c1),(aA B1 t.aJ.length d1),aB aC t.aL,aB aC t.aK]/\w0.heap.size<=g5/\Arr W g6 37 [aB aC c2.aN,(aA G1 c2.aM.length n1),aD ⟨c2.at_.toArray⟩]/\w0.heap.size<=g6/\g5≠g6/\OwSt W w.heap.size (aA A1 t.aI.length c1) (aA B1 t.aJ.length d1) t (fun b=>(N b\/b=H+1)\/b=g5\/b=g6)/\W.ownsRow w.heap.size 9 1 (aA G1 c2.aM.length n1) c2.aM.length (strs c2.aM)) ⟨(((hB).setCell (p:=⟨g6,0,aF⟩) h6l _).setCell (p:=⟨g6,1,aF⟩) h6l _).setCell (p:=⟨g6,2,aF⟩) h6l _,(((h5).other (h56n) _).other (h56n) _).other (h56n) _,h5l,h6.all3 _ _ _,h6l,h56n,ho.set3N (.inr (.inr rfl)) hqho.1 hqho.2 _ _ _,kq hl hqhl _ _ _⟩ fun wn14 hF=> ?_;clear hl ho h56n h6l h6 h5l h5 hB;obtain⟨hB,h5,h5l,h6,h6l,h56n,ho,hl⟩:=hF;clear hqho hqhl;clear hK K
  refine wT 22 ?_;refine wT 23 ?_;refine zo ww ?_ _
  try dsimp only [Exit.then]
  have hall:=aH hB (aH h5 (aH h5l (aH h6 (aH h6l (aH h56n (aH ho hl))))));clear hl ho h56n h6l h6 h5l h5 hB;generalize wn14=wz at hall ⊢
  revert hall;revert wz;revert g6;revert g5;revert n1;revert G1;revert d1;revert B1;revert c1;revert A1;exact REST.o
 exact z8.nil;intro A1 c1 B1 d1 G1 n1 g5 g6 w3 hall;obtain⟨hB,h5,h5l,h6,h6l,h56n,ho,hl⟩:=hall;have hgw3:g<w3.heap.size:=by have:=hB.size;omega
 have HKP:=sqH (fun (W:World) (h:Below w3.heap.size w3 W)=>Ka g ⟨X,cX,Y,dY,G,ng,F,cF⟩ ⟨s,co,fs⟩ _ _ _ t c2 q W (fun b=>N b\/b=H+1) (.inl hNg) (((HDK.o _ (wm hB h)).mono fun b hb=>hb.imp id fun h=>wu)) (fun _=>⟨((ho.below h).lower wu).mono (fun b hb=> .inl hb),zb (zc hl h) wu⟩));obtain⟨a0,a1,a2,a3⟩:=sqC4 h5;obtain⟨b0,b1,b2⟩:=sqC3 h6;have HB:=sqH hB;clear hB h5 h5l h6 h6l h56n ho hl HPB HSB
 refine wL ?_;intros;refine(((HKP.o _ (Below.refl _ _)))).mono ?_;rintro e_ w4 ⟨rfl,hg4,hd4⟩;dsimp only;clear a0 a1 a2 a3 b0 b1 b2 HKP;obtain⟨w5,hw5⟩:=wY (w4.alloc (aE #[aB aC q,aD ⟨dq.toArray⟩,aA aF 0 0,aA aF 0 0,aB aC 0,aA aF 0 0] 47))
 have hb5:Below w4.heap.size w4 w5:=by rw [hw5];exact(Below.refl _ _).alloc ag _
 have hz5:Arr w5 w4.heap.size 47 [aB aC q,aD ⟨dq.toArray⟩,aA aF 0 0,aA aF 0 0,aB aC 0,aA aF 0 0]:=by rw [hw5];exact Arr.new w4 47 _
 have hr3:=((HR.o _ HB.o).grown hg4 af).below hb5;have hg5:=zO (zP (HBX.o.trans (HB.o.mono hws)) hg4) hb5;obtain⟨HX,HW5,HZ5⟩:=sqJ3 (aH hd4 (aH hb5 (aH hg5 hr3))) hw5 hz5;obtain⟨gr,hgr⟩:=wY w4.heap.size
 have HGR:=sqH hgr;clear hd4 hb5 hg5 hr3 hg4 hw5 hz5 hgr
 refine wN 6 ?_;intros;rw [<-HW5.o,<-HGR.o];have hr3:=HX.o.2.2.2;have hz5:=HZ5.o;rw [<-HGR.o]at hz5;obtain⟨z0,z1,z2,z3,z4,z5⟩:=sqC6 hz5;clear hz5;obtain⟨f0,f1,f2,f3,f4,f5⟩:=sqF6 hr3;obtain⟨y0,y1,y2,y3,y4,y5⟩:=sqC6 hr3;have HR3:=sqH hr3;have HF:=sqH (hr3.all6 (aB aC q) (aD ⟨dq.toArray⟩) (aA aF 0 0) (aA aF 0 0) (aB aC 0) (aA aF 0 0));clear hr3
 refine wL ?_;intros;refine bodyPost_ret (results_cell_row rfl _ _ (H+1) _ _ _ _ ac HF.o underlying47 rfl ww) rfl ?_;have e1:blobD ⟨s,co,fs⟩ ⟨kd,n,dg,D,ps⟩=(zJ ⟨s,co,fs⟩ t c2 q,⟨q,dq, [], [],0, []⟩):=by
  unfold blobD;rw [if_pos (show kd=1 from HK.o)];dsimp only;rw [HPD.o]
 rw [e1];obtain⟨⟨p',hd4⟩,hb5,hg5,hr5⟩:=HX.o;exact⟨_,_,_,rfl,zl hg5 hHw1 _ _ _ _ _ _,⟨p',((hd4.below hb5).set6 hr5 (.inr rfl) hgH _ _ _ _ _ _).mono fun b h=> .inl h⟩,⟨World.ownsRow_nil _ _ _ _,World.ownsRow_nil _ _ _ _,World.ownsRow_nil _ _ _ _⟩⟩
theorem z1h (g:Nat) (p:LoW) (l:LoP) (kd n:Nat) (dg D:ai) (ps:List PartP) (A:aj) (c:Nat) (A':aj) (c':Nat) (w:World) (hL:GoodL l) (h1:kd=2) (N:am) (hNg:N g) (hNw:∀b,N b->b<w.heap.size) (hb:DkB w g p l N) (hd:Sl w 1 A D.length c (bys D)) (hq:Sl w 3 A' ps.length c' (pcs ps)) :
  Calls Tryz.prog 66 #[.pointer (aG ⟨g,0,aF⟩),orV kd n dg D ps A c A' c'] w (k8 w g N (blobD l ⟨kd,n,dg,D,ps⟩)):=by
 have k1:((kd:Int)==1)=false:=by rw [beq_eq_false_iff_ne];omega
 have k2:((kd:Int)==2)=true:=by rw [beq_iff_eq];omega
 have HK:=sqH h1;clear h1;obtain⟨X,cX,Y,dY,G,ng,F,cF⟩:=p;obtain⟨s,co,fs⟩:=l;obtain⟨w0,H,HDK,HBC,hws,HBX,HD,HQ,hHw,hHw1,hgH,hHl,hgl,hgw,HP,HR,HL,HNW,x0,x1,x2,x3,x4,HW0,HH⟩:=Kz kd n dg D ps A c A' c' hL hNw hb hd hq;clear hb hd hq hL hNw;go_enter func66,ntmps66
 refine wM 8 ?_;intros;rw [<-HW0.o,<-HH.o];clear x0 x1 x2 x3 x4;have HPB:=sqH (fun W (h:Below w0.heap.size w0 W)=>Vj X cX Y dY s W dg HL.o.s (HDK.o W h).rd.s);generalize hpb:gbP s dg=r at HPB;obtain⟨D2,q⟩:=r;dsimp only at HPB;have HSB:=sqH (show ∀W,Below w0.heap.size w0 W->(wI W g (aA X s.aI.length cX) (aA Y s.aJ.length dY) (aB aC s.aL) (aB aC s.aK))/\W.cell? ⟨H,2,aF⟩=aG (aD ⟨dg.toArray⟩) from fun W h=>by
  obtain⟨y0,y1,y2,y3,_⟩:=HBC.o W h;exact⟨⟨y0,y1,y2,y3⟩,(HP.o W h).c2⟩)
 have HPD:=sqH hpb;clear hpb
 iterate 1 (first | go_values | go_skip | go_guarded | go_step | go_upon | go_back)
 apply zD;intro REST;refine ze [] (S:=(fun w'=>(wI w' g (aA X s.aI.length cX) (aA Y s.aJ.length dY) (aB aC s.aL) (aB aC s.aK))/\w'.cell? ⟨H,2,aF⟩=aG (aD ⟨dg.toArray⟩))) ww ?_ (fun hHeld=> ?_)
 ·exact HSB.o _ (((wo w0)).drew)
 have hB:=((wo w0)).drew;generalize w0.drew=wn0 at *
 refine wT 0 ?_;refine wT 1 ?_;refine wT 2 ?_;refine wT 3 ?_;refine wS 4 ?_;refine wT 5 ?_;refine wS 6 ?_;refine za (rs:= [7]) ww ab ?_;refine z8.cons (o:=_) rfl (fun K hK=> ?_) ?_
 ·
  go_simp;refine(HPB.o wn0 hB).mono ?_;rintro e5 w5 ⟨v1,rfl,ho5,hb5⟩;obtain⟨P1,k1_,rfl, -, -⟩:=Rd.of_own' ho5;dsimp only;refine wC hK (HSB.o _ ((wm hB hb5))) (fun W=>Below w0.heap.size w0 W/\W.ownsRow w.heap.size 5 1 (aA P1 D2.length k1_) D2.length (bys D2)) ⟨wm hB hb5,zb ho5 (by have:=hB.size;omega)⟩ fun wn1 hF=> ?_;clear hB hHeld hb5 ho5 hK K;obtain⟨hHeld,hB,hl⟩:=hF
  refine wT 8 ?_;refine wT 9 ?_;refine wT 10 ?_;refine wT 11 ?_;refine wT 12 ?_;refine zo ww ?_ _
  try dsimp only [Exit.then]
  have hall:=aH hB hl;clear hl hB;generalize wn1=wz at hall ⊢
  revert hall;revert wz;revert k1_;revert P1;exact REST.o
 exact z8.nil;intro P1 k1_ w3 hall;obtain⟨hB,hl⟩:=hall;have hr3:=HR.o _ hB;have hd3:=(HDK.o _ hB).set6 hr3 (.inr hHw1) hgH (aB aC q) (aD ⟨#[]⟩) (aA P1 D2.length k1_) (aA aF 0 0) (aB aC 0) (aA aF 0 0);have hg3:=zl (zR (HBX.o.trans (hB.mono hws)) (aG g)) hHw1 (aB aC q) (aD ⟨#[]⟩) (aA P1 D2.length k1_) (aA aF 0 0) (aB aC 0) (aA aF 0 0);have hl3:=qB hl (zf hl hr3 aa) (aB aC q) (aD ⟨#[]⟩) (aA P1 D2.length k1_) (aA aF 0 0) (aB aC 0) (aA aF 0 0);have HX:=sqH (aH hd3 (aH hg3 hl3));clear hd3 hg3 hl3 hB hl;obtain⟨f0,f1,f2,f3,f4,f5⟩:=sqF6 hr3;obtain⟨y0,y1,y2,y3,y4,y5⟩:=sqC6 hr3;have HR3:=sqH hr3;have HF:=sqH (hr3.all6 (aB aC q) (aD ⟨#[]⟩) (aA P1 D2.length k1_) (aA aF 0 0) (aB aC 0) (aA aF 0 0));clear hr3
 refine wL ?_;intros;refine bodyPost_ret (results_cell_row rfl _ _ (H+1) _ _ _ _ ac HF.o underlying47 rfl ww) rfl ?_;have e1:blobD ⟨s,co,fs⟩ ⟨kd,n,dg,D,ps⟩=(⟨s,co,fs⟩,⟨q, [],D2, [],0, []⟩):=by
  unfold blobD;rw [if_neg (show ¬(kd=1) by have:=HK.o;omega),if_pos (show kd=2 from HK.o)];dsimp only;rw [HPD.o]
 rw [e1];obtain⟨hd3,hg3,hl3⟩:=HX.o;exact⟨_,_,_,rfl,hg3,⟨_,hd3.mono fun b h=> .inl h⟩,⟨hl3,World.ownsRow_nil _ _ _ _,World.ownsRow_nil _ _ _ _⟩⟩
theorem z1i (g:Nat) (p:LoW) (l:LoP) (kd n:Nat) (dg D:ai) (ps:List PartP) (A:aj) (c:Nat) (A':aj) (c':Nat) (w:World) (hL:GoodL l) (h1:kd=3\/kd=4) (N:am) (hNg:N g) (hNw:∀b,N b->b<w.heap.size) (hb:DkB w g p l N) (hd:Sl w 1 A D.length c (bys D)) (hq:Sl w 3 A' ps.length c' (pcs ps)) :
  Calls Tryz.prog 66 #[.pointer (aG ⟨g,0,aF⟩),orV kd n dg D ps A c A' c'] w (k8 w g N (blobD l ⟨kd,n,dg,D,ps⟩)):=by
 have k1:((kd:Int)==1)=false:=by rw [beq_eq_false_iff_ne];omega
 have k2:((kd:Int)==2)=false:=by rw [beq_eq_false_iff_ne];omega
 have k3:((kd:Int)==3)=decide (kd=3):=by rw [Bool.eq_iff_iff,beq_iff_eq,decide_eq_true_iff];omega
 have HK:=sqH h1;have HK3:=sqH k3;clear h1 k3;obtain⟨X,cX,Y,dY,G,ng,F,cF⟩:=p;obtain⟨s,co,fs⟩:=l;obtain⟨w0,H,HDK,HBC,hws,HBX,HD,HQ,hHw,hHw1,hgH,hHl,hgl,hgw,HP,HR,HL,HNW,x0,x1,x2,x3,x4,HW0,HH⟩:=Kz kd n dg D ps A c A' c' hL hNw hb hd hq;clear hb hd hq hL hNw;go_enter func66,ntmps66
 refine wM 10 ?_;intros;rw [<-HW0.o,<-HH.o];clear x0 x1 x2 x3 x4;have HPB:=sqH (fun W (h:Below w0.heap.size w0 W)=>Y8 X cX Y dY s G ng co W dg (decide (kd=3)) HL.o.s (HDK.o W h).rd.s HL.o.g HL.o.c (HDK.o W h).rd.c);rw [<-HK3.o]at HPB;generalize hpb:hbP s co dg ((kd:Int)==3)=r at HPB;obtain⟨t,c2,q⟩:=r;dsimp only at HPB;obtain⟨HSB,HSG,HPD⟩:=sqJ3 (show ∀W,Below w0.heap.size w0 W->W.cell? ⟨H,2,aF⟩=aG (aD ⟨dg.toArray⟩)/\W.cell? ⟨H,0,aF⟩=aG (aB aC kd) from fun W h=>⟨(HP.o W h).c2,(HP.o W h).c0⟩) (show ∀W W',Below w0.heap.size w0 W->W.grownBy W' (aG g)->W'.cell? ⟨H,2,aF⟩=aG (aD ⟨dg.toArray⟩)/\W'.cell? ⟨H,0,aF⟩=aG (aB aC kd) from fun W W' h h'=>⟨((HP.o W h).grown h' af).c2,((HP.o W h).grown h' af).c0⟩) hpb;clear hpb;have HKP:=sqH (fun (W:World) (h:Below w0.heap.size w0 W) (v1 v2 v3:Value) (t:StoP) (c2:ColP) (q:Nat) (ho:q=0->OwSD W g v1 v2 v3 t c2 (fun b=>N b\/b=H+1)) (hb:DkB W g ⟨X,cX,Y,dY,G,ng,F,cF⟩ ⟨s,co,fs⟩ (fun b=>N b\/b=H+1))=>Ka g ⟨X,cX,Y,dY,G,ng,F,cF⟩ ⟨s,co,fs⟩ v1 v2 v3 t c2 q W (fun b=>N b\/b=H+1) (.inl hNg) hb ho)
 iterate 1 (first | go_values | go_skip | go_guarded | go_step | go_upon | go_back)
 apply zD;intro REST;apply zD;intro Rc1;refine ze [21] (S:=(fun w'=>w'.cell? ⟨H,2,aF⟩=aG (aD ⟨dg.toArray⟩)/\w'.cell? ⟨H,0,aF⟩=aG (aB aC kd))) ww ?_ (fun hHeld=> ?_)
 ·exact HSB.o _ (Below.refl w0.heap.size w0).drew
 have hB:=(Below.refl w0.heap.size w0).drew;generalize w0.drew=wn0 at *
 refine wT 0 ?_;refine wT 1 ?_;refine wT 2 ?_;refine wT 3 ?_;refine wT 4 ?_;refine wT 6 ?_;refine wT 7 ?_;refine wT 8 ?_;refine wT 9 ?_;refine wT 11 ?_;refine wS 12 ?_;refine wT 13 ?_;refine wS 14 ?_;refine wT 15 ?_;refine za (rs:= [5,10]) ww ab ?_;refine z8.cons (o:=_) rfl (fun K hK=> ?_) ?_
 ·
  obtain⟨y0,y1,y2,y3,y4,y5,y6,y7⟩:=HBC.o _ hB;go_simp;clear y0 y1 y2 y3 y4 y5 y6 y7;refine wC hK (HSB.o _ hB) (fun W=>Below w0.heap.size w0 W) hB fun wn1 hF=> ?_;obtain⟨hHeld2,hF⟩:=hF;clear hB hHeld;have hHeld:=hHeld2;clear hHeld2;have hB:=hF;clear hK K
  try simp only [sqP]
  refine wX 10 fun K hK=>?_;obtain⟨y0,y1,y2,y3,y4,y5,y6,y7⟩:=HBC.o _ hB;go_simp;clear y0 y1 y2 y3 y4 y5 y6 y7;refine wC hK (HSB.o _ hB) (fun W=>Below w0.heap.size w0 W) hB fun wn2 hF=> ?_;obtain⟨hHeld2,hF⟩:=hF;clear hB hHeld;have hHeld:=hHeld2;clear hHeld2;have hB:=hF;clear hK K
  try simp only [sqP]
  have hall:=aH hB hHeld;clear hHeld hB;generalize wn2=wz at hall ⊢
  revert hall;revert wz;exact Rc1.o
 refine z8.cons (o:=_) rfl (fun K hK=> ?_) ?_
 ·
  obtain⟨y0,y1,y2,y3,y4,y5,y6,y7⟩:=HBC.o _ hB;go_simp;clear y0 y1 y2 y3 y4 y5 y6 y7;refine wC hK (HSB.o _ hB) (fun W=>Below w0.heap.size w0 W) hB fun wn3 hF=> ?_;obtain⟨hHeld2,hF⟩:=hF;clear hB hHeld;have hHeld:=hHeld2;clear hHeld2;have hB:=hF;clear hK K
  try simp only [sqP]
  refine wX 5 fun K hK=>?_;obtain⟨y0,y1,y2,y3,y4,y5,y6,y7⟩:=HBC.o _ hB;go_simp;clear y0 y1 y2 y3 y4 y5 y6 y7;refine wC hK (HSB.o _ hB) (fun W=>Below w0.heap.size w0 W) hB fun wn4 hF=> ?_;obtain⟨hHeld2,hF⟩:=hF;clear hB hHeld;have hHeld:=hHeld2;clear hHeld2;have hB:=hF;clear hK K
  try simp only [sqP]
  exact Rc1.o wn4 ⟨hB,hHeld⟩
 exact z8.nil;intro wRc1 hall;obtain⟨hB,hHeld⟩:=hall;refine za (rs:= [16]) ww ab ?_;refine z8.cons (o:=_) rfl (fun K hK=> ?_) ?_
 ·
  go_simp;refine(HPB.o wRc1 hB).mono ?_;rintro e5 w5 ⟨v1,v2,v3,rfl,ho5,hb5⟩;obtain⟨A1,c1,B1,d1,rfl,rfl, -⟩:=ho5.s.rows;obtain⟨G1,n1,rfl, -, -⟩:=Rd.of_own' ho5.c;dsimp only;refine wC hK (HSB.o _ (wm hB hb5)) (fun W=>Below w0.heap.size w0 W/\OwSD W g (aA A1 t.aI.length c1) (aA B1 t.aJ.length d1) (aA G1 c2.aM.length n1) t c2 (fun b=>N b\/b=H+1)) (by exact⟨wm hB hb5,ho5.at_ (by have:=hB.size;omega) (fun b hb=>by have:=hB.size;rcases hb with hb | hb;(have:=HNW.o b hb;omega);omega)⟩) fun wn5 hF=> ?_;clear hB hHeld hb5 ho5 hK K;obtain⟨hHeld,hB,ho⟩:=hF
  refine wT 17 ?_;refine wT 18 ?_;refine wT 19 ?_;refine wX 20 fun K hK=>?_;go_simp;refine(HKP.o wn5 hB _ _ _ t c2 q (fun _=>ho) ((HDK.o _ hB).mono (fun b hb=>hb.imp id (fun h=>wu)))).mono ?_;rintro e5 w5 ⟨rfl,hg5,hd5⟩;dsimp only;refine wC hK (HSG.o _ _ hB hg5) (fun W=>w.grownBy W (aG g)/\(∃p2,DkB W g p2 (zJ ⟨s,co,fs⟩ t c2 q) (fun b=>N b\/b=H+1))/\Arr W (H+1) 47 [aB aC 0,aD ⟨#[]⟩,aA aF 0 0,aA aF 0 0,aB aC 0,aA aF 0 0]) ⟨zP (HBX.o.trans (hB.mono wu)) hg5,hd5,(HR.o _ hB).grown hg5 af⟩ fun wn6 hF=> ?_;clear ho hB hHeld hg5 hd5 hK K;obtain⟨hHeld,hKg,hD,hR⟩:=hF
  try simp only [sqP]
  refine wW 21 fun K hK=>?_;obtain⟨z0,f0,z1,f1,z2,f2,z3,f3,z4,f4,z5,f5⟩:=wj hR;go_simp;clear z0 f0 z1 f1 z2 f2 z3 f3 z4 f4 z5 f5;refine wD hK (fun W=>w.grownBy W (aG g)/\(∃p2,DkB W g p2 (zJ ⟨s,co,fs⟩ t c2 q) (fun b=>N b\/b=H+1))/\Arr W (H+1) 47 [aB aC q,aD ⟨#[]⟩,aA aF 0 0,aA aF 0 0,aB aC 0,aA aF 0 0]) ⟨zl hKg wu _ _ _ _ _ _,hD.imp fun _ h=>h.set6 hR (.inr rfl) wu _ _ _ _ _ _,hR.all6 _ _ _ _ _ _⟩ fun wn7 hF=> ?_;clear hR hD hKg hHeld;obtain⟨hKg,hD,hR⟩:=hF;clear hK K
  try simp only [sqP]
  refine zo ww ?_ _
  try dsimp only [Exit.then]
  have hall:=aH hKg (aH hD hR);clear hR hD hKg;generalize wn7=wz at hall ⊢
  revert hall;revert wz;revert n1;revert G1;revert d1;revert B1;revert c1;revert A1;exact REST.o
 exact z8.nil;intro A1 c1 B1 d1 G1 n1 w3 hall;obtain⟨hKg,hD,hR⟩:=hall;have HX:=sqH (aH hD hKg);have HF:=sqH hR;clear hD hKg hR
 refine wL ?_;intros;refine bodyPost_ret (results_cell_row rfl _ _ (H+1) _ _ _ _ ac HF.o underlying47 rfl ww) rfl ?_;have e1:blobD ⟨s,co,fs⟩ ⟨kd,n,dg,D,ps⟩=(zJ ⟨s,co,fs⟩ t c2 q,KL q):=by
  unfold blobD;rw [if_neg (show ¬(kd=1) by have:=HK.o;omega),if_neg (show ¬(kd=2) by have:=HK.o;omega)];dsimp only;rw [<-HK3.o,HPD.o]
 rw [e1];obtain⟨⟨p2,hD⟩,hK⟩:=HX.o;exact⟨_,_,_,rfl,hK,⟨p2,hD.mono fun b h=> .inl h⟩,.e_ q⟩
end Go.Proofs.YtaboknhfiijipaaGreat
