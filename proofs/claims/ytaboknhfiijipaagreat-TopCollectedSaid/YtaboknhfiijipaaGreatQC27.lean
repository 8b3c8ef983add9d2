/- Lemmas, as stated. -/
import Derived.Test.YtaboknhfiijipaaGreatQC26
import Derived.Test.YtaboknhfiijipaaGreatQC19
set_option linter.unusedVariables false
set_option linter.unusedSimpArgs false
set_option maxRecDepth 100000
set_option maxHeartbeats 16000000
open Go.Value renaming slice->aB,int->aC,string->aE
open Go.IntKind renaming i64->aD
open Option renaming none->aG,some->aH
open And renaming intro->aI
namespace Go.Proofs.YtaboknhfiijipaaGreat
open Go.RowKit Go.Maps
theorem Jv (w:World) (e1 e2:TypeId) (c1 c2:al):∃W,W=(w.alloc (.cells c1.toArray e1)).alloc (.cells c2.toArray e2)/\Arr W w.heap.size e1 c1/\Arr W (w.heap.size+1) e2 c2/\Below w.heap.size w W:=by
 have b1:=wu w (.cells c1.toArray e1);have b2:=b1.alloc b1.size (.cells c2.toArray e2);have a1:=(Arr.new w e1 c1).alloc (.cells c2.toArray e2);have a2:=Arr.new (w.alloc (.cells c1.toArray e1)) e2 c2;rw [World.size_alloc]at a2;exact⟨_,rfl,a1,a2,b2⟩
theorem VV (s:StoP) (c:ColP):(zu s c).1.aJ.length+(if (zu s c).2.2= [] then 0 else 1)<=s.aJ.length:=by
 unfold zu;split
 ·have:=ZY s c;show(zC s c).1.aJ.length+(if ([]:aj)= [] then 0 else 1)<=_;rw [if_pos rfl];omega
 ·rcases ql s c with ⟨_,e⟩ | ⟨_,_,_,_,e⟩ | ⟨i,hi,_,_,e⟩
  ·rw [e];exact Nat.le_refl _
  ·rw [e];exact Nat.le_refl _
  ·rw [e];show(s.aJ.eraseIdx i).length+_<=_;rw [List.length_eraseIdx,if_pos hi];split<;>omega
theorem Jn {w:World} {g h k:Nat} {e:TypeId} {xs:al} (u0 u1 u2 u3 x0 x1 x2:Value) (hA:Arr w k e xs) (h1:k≠g) (h2:k≠h):Arr (Vt w g h u0 u1 u2 u3 x0 x1 x2) k e xs :=
 ((((((hA.other h1 u0).other h1 u1).other h1 u2).other h1 u3).other h2 x0).other h2 x1).other h2 x2
section
variable {w w':World} {H K gs gc:Nat} {v1 v2 v3 v3':Value} {Ag:ak} {ng:Nat} {t:StoP} {cc:ColP} {g:List aj}
end
theorem YT (A:ak) (c:Nat) (B:ak) (d:Nat) (s:StoP) (Ag:ak) (ng:Nat) (cp:ColP) (w:World) (hg:GoodS s) (hr:RdSt w A c B d s) (hgl:8*unm s.aJ+cp.aN.length<=1000) (hgc:GoodC s cp) (hc:RdC w Ag ng cp) :
  Calls Tryz.prog 20 #[.agg #[aB A s.aJ.length c,aB B s.aK.length d,aC aD s.aM,aC aD s.aL],coV (aB Ag cp.aN.length ng) cp] w fun e w' =>
   ∃v1 v2 v3,e= .returned (.tuple #[stV v1 v2 s,v3,aC aD 0])/\OwSt w' w.heap.size v1 v2 (kY s cp).1 (fun b=>b<w.heap.size)/\w'.ownsRow w.heap.size 9 1 v3 (kY s cp).2.length (strs (kY s cp).2)/\Below w.heap.size w w':=by
 have hlb:s.aJ.length<=24:=hg.b.len;have hle:s.aK.length<=10:=hg.e.len;obtain⟨aO,aN,at_⟩:=cp;simp only at hgl;obtain⟨w0,hw0,hS,hC,hR,hb0⟩:=jF w 34 37 [aB A s.aJ.length c,aB B s.aK.length d,aC aD s.aM,aC aD s.aL] [aC aD aO,aB Ag aN.length ng,aE ⟨at_.toArray⟩] [aB aG 0 0,aB aG 0 0,aC aD 0,aC aD 0];have hr0:=hr.below hb0;have hc0:=hc.below hb0;obtain⟨H,hH⟩:=wY w.heap.size
 obtain⟨HCK,HCP,HGD,HGC,HC0⟩:=sqJ5 (qe A c B d s Ag ng ⟨aO,aN,at_⟩ w0 hg hr0 (by show aN.length<=1000;omega) hgc hc0) (fun W (h:Below w0.heap.size w0 W)=>qo A c B d s W ww ww (fun b hb=>by have:=(hg.b.one b hb).2.1;omega) (fun x hx=>by have:=(zj (hg.e.one x hx).2.1).1;omega) (hr0.below h)) hg hgc hc0;rw [<-hH]at hS hC hR hb0 ⊢
 have hHl:H+1+1<w0.heap.size:=hR.lt;obtain⟨x0,x1,x2,x3⟩:=sqC4 hS;obtain⟨y0,y1,y2⟩:=sqC3 hC;rw [hw0,hH]at x0 x1 x2 x3 y0 y1 y2;clear hg hr hgc hc hr0 hc0;go_enter Tryz.func20,Tryz.ntmps20;go_wp2_with fail;rw [<-hw0,<-hH];have HH:=sqH hH;clear hw0 hH x0 x1 x2 x3 y0 y1 y2;refine wZ HCK.o fun w1 hb1=>?_;dsimp only;obtain⟨z0,z1,z2,z3⟩:=sqC4 (hS.below hb1);clear HCK;go_wp2_with fail;clear z0 z1 z2 z3;refine((HCP.o _ hb1)).mono ?_;rintro e_ w2 ⟨q1,q2,rfl,ho2,hb2⟩;dsimp only;have hb12:=wo hb1 hb2;have hs1:=hb1.size;have hs2:=hb12.size;obtain⟨gs,hgs⟩:=wY w2.heap.size
 have hal:=wu w2 (.cells #[aB (aH ⟨q1,0,aG⟩) s.aJ.length s.aJ.length,aB (aH ⟨q2,0,aG⟩) s.aK.length s.aK.length,aC aD s.aM,aC aD s.aL] 34);have hb13:=wo hb12 hal;have HRW:=sqH (show RunC (w2.alloc (.cells #[aB (aH ⟨q1,0,aG⟩) s.aJ.length s.aJ.length,aB (aH ⟨q2,0,aG⟩) s.aK.length s.aK.length,aC aD s.aM,aC aD s.aL] 34)) H w0.heap.size gs (H+1) (aB (aH ⟨q1,0,aG⟩) s.aJ.length s.aJ.length) (aB (aH ⟨q2,0,aG⟩) s.aK.length s.aK.length) (aB aG 0 0) Ag ng s ⟨aO,aN,at_⟩ [] by
  refine⟨by rw [hgs];exact Arr.new w2 34 _,hC.below hb13,?_,HC0.o.below hb13,World.ownsRow_nil _ _ _ _⟩;refine((ho2.lower (base':=H) ww).wider fun b hb=> ?_).below hal;rcases hb with hb | hb | hb
  ·exact .inl (Nat.lt_of_lt_of_le hb hs1)
  ·exact .inr (by rw [hb,hgs];exact Nat.le_refl _)
  ·cases hb)
 have HBK:=sqH (hb0.trans (hb13.mono (show H<=w0.heap.size by omega)));have HRES:=sqH (hR.below hb13);have hgs0:w0.heap.size<=gs:=ww;have HG:=sqH hgs;clear hS hC hR hb1 hb2 hb12 hb13 ho2 hal HCP hb0 hgs HC0;go_wp2_with fail;rw [<-HG.o];generalize (w2.alloc (.cells #[aB (aH ⟨q1,0,aG⟩) s.aJ.length s.aJ.length,aB (aH ⟨q2,0,aG⟩) s.aK.length s.aK.length,aC aD s.aM,aC aD s.aL] 34))=w4 at *
 go_loopg [9] (kR 8 s ⟨aO,aN,at_⟩) (fun gn u wr=>∃(t:StoP) (cc:ColP) (g:List aj) (X:ak) (cX:Nat) (Y:ak) (dY:Nat) (Ag:ak) (ng:Nat),gn=kR 8 t cc/\RunC wr H w0.heap.size gs (H+1) (aB X t.aJ.length cX) (aB Y t.aK.length dY) u Ag ng t cc g/\Arr wr (H+1+1) 34 [aB aG 0 0,aB aG 0 0,aC aD 0,aC aD 0]/\GoodS t/\GoodC t cc/\8*unm t.aJ+cc.aN.length<=1000/\kY s ⟨aO,aN,at_⟩=((kY t cc).1,g++(kY t cc).2)/\t.aM=s.aM/\t.aL=s.aL/\g.length+t.aJ.length<=24/\Below H w wr)
 case atStart=>exact⟨s,⟨aO,aN,at_⟩, [],_,_,_,_,Ag,ng,rfl,HRW.o,HRES.o,HGD.o,HGC.o,hgl,rfl,rfl,rfl,by simpa using hlb,HBK.o⟩
 case round =>
  obtain⟨t,cc,g,X,cX,Y,dY,Ag,ng,hgn,RW,hR,hg,hgc,hgl,hrun,hrm,hck,hgg,hbk⟩:=hrel;obtain⟨HGN,HG2,HGC2,HGL,HRN,HRM,HCK,HGG⟩:=sqJ8 hgn hg hgc hgl hrun hrm hck hgg;have htb:=hg.b.len;have hte:=hg.e.len;have HRWX:=sqH RW;have hA:=RW.bs;have hC:=RW.bc;rw [hrm,hck]at hA;obtain⟨x0,x1,x2,x3⟩:=sqC4 hA;obtain⟨y0,y1,y2⟩:=sqC3 hC;have hgsl:=hA.lt;have HR:=sqH hR;have HHB:=sqH hbk;clear HRW HBK HRES hgn hrun hrm hck hgg RW hA hC hR hbk hgl;by_cases h0:cc.aO=0
  ·have g1:((cc.aO:Int) != 0)=false:=by rw [h0];rfl
   obtain⟨f0,f1,f2,f3⟩:=sqF4 HR.o;obtain⟨r0,r1,r2,r3⟩:=sqC4 HR.o;have n1:=HRWX.o.st.nb HR.o ab ab;have n3:u9.ownBlock≠aH (H+1+1):=zf HRWX.o.gone HR.o ab;obtain⟨HF1,HF2,HF3,HF4⟩:=sqJ4 (HR.o.all4 (aB X t.aJ.length cX) (aB Y t.aK.length dY) (aC aD s.aM) (aC aD s.aL)) (HRWX.o.st.set4N (g:=H+1+1) (.inl hHl) n1.1 n1.2 (aB X t.aJ.length cX) (aB Y t.aK.length dY) (aC aD s.aM) (aC aD s.aL)) (qA HRWX.o.gone n3 (aB X t.aJ.length cX) (aB Y t.aK.length dY) (aC aD s.aM) (aC aD s.aL)) ((((HHB.o.setCell (p:=⟨H+1+1,0,aG⟩) af (aB X t.aJ.length cX)).setCell (p:=⟨H+1+1,1,aG⟩) af (aB Y t.aK.length dY)).setCell (p:=⟨H+1+1,2,aG⟩) af (aC aD s.aM)).setCell (p:=⟨H+1+1,3,aG⟩) af (aC aD s.aL));clear n1 n3;go_wp2_with fail;refine bodyPost_ret (zo rfl _ _ (H+1+1) _ _ _ _ ae HF1.o Tryz.underlying34 rfl aa) rfl ?_;have hr:=HRN.o;rw [xS h0,List.append_nil]at hr;rw [hr];exact⟨_,_,_,rfl,HF2.o.mono (fun b hb=> .inl ww),HF3.o,HF4.o⟩
  ·have hp:cc.aO=1\/cc.aO=2:=by have:=HGC2.o.ph;omega
   have HP:=sqH hp;have g1:((cc.aO:Int) != 0)=true:=by
    rw [bne_iff_ne];intro h;exact h0 ww
   obtain⟨_,_,_,_,e1,e2,hrd⟩:=HRWX.o.st.rows;cases e1;cases e2
   have hms:=jS X cX Y dY t Ag ng cc wr HG2.o hrd hp (we HGL) HGC2.o HRWX.o.gr;obtain⟨k1,k2, -⟩:=uR t cc;simp only [stV,coV]at hms;rw [HRM.o]at hms k1;rw [HCK.o]at hms k2;obtain⟨m1,m2, -⟩:=kK HG2.o HGC2.o hp;have m3:=xX t cc;have m4:=VV t cc;have m5:=yG (s:=t) hp;have m6:=y8 (k:=8) (ym t.aJ) hp;generalize (zu t cc).1=t' at *
   generalize (zu t cc).2.1=cc' at *
   generalize (zu t cc).2.2=dd at *
   have HMS:=sqH hms;clear hms hrd hp h0;go_wp2_with fail;clear x0 x1 x2 x3 y0 y1 y2;refine HMS.o.mono ?_;rintro e_ w5 ⟨v5,v6,v7,rfl,ho5,hl5,hb5⟩;dsimp only;obtain⟨X5,c5,Y5,d5,e1,e2,_⟩:=ho5.rows;obtain⟨A7,n7,e3,hc7⟩:=RdC.of_own (c:=cc') hl5;subst e1 e2 e3;have hs5:=hb5.size;have hgc0:H+1<w0.heap.size:=ww;have hne:gs≠H+1:=ww;obtain⟨W6,hW6,h6,h7,hb6⟩:=zI w5 34 37 [aB X5 t'.aJ.length c5,aB Y5 t'.aK.length d5,aC aD s.aM,aC aD s.aL] [aC aD cc'.aO,aB A7 cc'.aN.length n7,aE ⟨cc'.at_.toArray⟩];have hb56:=hb5.trans (hb6.mono hs5);have hA6:=HRWX.o.bs.below hb56;have hC6:=HRWX.o.bc.below hb56;have hR6:=HR.o.below hb56;have ho6:=ho5.below hb6;have hl6:=zc hl5 hb6;have hg6:=zc HRWX.o.gone hb56;have hgw:gs<wr.heap.size:=HRWX.o.bs.lt;have hK:w0.heap.size<=wr.heap.size:=ww;have hHw:H<=wr.heap.size:=ww;have hb16:=HHB.o.trans (hb56.mono hHw);have hgcl:=hC6.lt;have hcw:H+1<wr.heap.size:=HRWX.o.bc.lt;have hv9:∀b,u9.ownBlock=aH b->b<wr.heap.size:=fun b e=>(HRWX.o.gone.lt b e).2;have hwr:wr.heap.size<=W6.heap.size:=hb56.size;have ho6':=(ho6.lower (base':=H) hHw).mono (N':=fun b=>b<w0.heap.size\/b=gs\/u9.ownBlock=aH b) (fun b hb=>by
    rcases hb with hb | hb | hb
    ·show b<wr.heap.size;have:w0.heap.size<=wr.heap.size:=hK;omega
    ·rw [hb];exact hgw
    ·exact hv9 b hb)
   obtain⟨HF1,HF2,HF3,HF4,HF5,HF6,HF7⟩:=sqJ7 (qM (g:=gs) (h:=H+1) (u0:= aB X5 t'.aJ.length c5) (u1:= aB Y5 t'.aK.length d5) (u2:= aC aD s.aM) (u3:= aC aD s.aL) (x0:= aC aD cc'.aO) (x1:= aB A7 cc'.aN.length n7) (x2:= aE ⟨cc'.at_.toArray⟩) hA6 hne) (qN (g:=gs) (h:=H+1) (u0:= aB X5 t'.aJ.length c5) (u1:= aB Y5 t'.aK.length d5) (u2:= aC aD s.aM) (u3:= aC aD s.aL) (x0:= aC aD cc'.aO) (x1:= aB A7 cc'.aN.length n7) (x2:= aE ⟨cc'.at_.toArray⟩) hC6 hne) (qD (g:=gs) (h:=H+1) (u0:= aB X5 t'.aJ.length c5) (u1:= aB Y5 t'.aK.length d5) (u2:= aC aD s.aM) (u3:= aC aD s.aL) (x0:= aC aD cc'.aO) (x1:= aB A7 cc'.aN.length n7) (x2:= aE ⟨cc'.at_.toArray⟩) ho6' (.inr (.inl rfl)) (.inl hgc0) (ho6.nb hA6 ab ab).1 (ho6.nb hA6 ab ab).2 (ho6.nb hC6 ab ab).1 (ho6.nb hC6 ab ab).2) (qB (g:=gs) (h:=H+1) (u0:= aB X5 t'.aJ.length c5) (u1:= aB Y5 t'.aK.length d5) (u2:= aC aD s.aM) (u3:= aC aD s.aL) (x0:= aC aD cc'.aO) (x1:= aB A7 cc'.aN.length n7) (x2:= aE ⟨cc'.at_.toArray⟩) hl6 (zf hl6 hA6 ab) (zf hl6 hC6 ab)) (zJ (g:=gs) (h:=H+1) (u0:= aB X5 t'.aJ.length c5) (u1:= aB Y5 t'.aK.length d5) (u2:= aC aD s.aM) (u3:= aC aD s.aL) (x0:= aC aD cc'.aO) (x1:= aB A7 cc'.aN.length n7) (x2:= aE ⟨cc'.at_.toArray⟩) hb16 ww ww) (qB (g:=gs) (h:=H+1) (u0:= aB X5 t'.aJ.length c5) (u1:= aB Y5 t'.aK.length d5) (u2:= aC aD s.aM) (u3:= aC aD s.aL) (x0:= aC aD cc'.aO) (x1:= aB A7 cc'.aN.length n7) (x2:= aE ⟨cc'.at_.toArray⟩) hg6 (zf hg6 hA6 ab) (zf hg6 hC6 ab)) (Jn (g:=gs) (h:=H+1) (aB X5 t'.aJ.length c5) (aB Y5 t'.aK.length d5) (aC aD s.aM) (aC aD s.aL) (aC aD cc'.aO) (aB A7 cc'.aN.length n7) (aE ⟨cc'.at_.toArray⟩) hR6 ww ww);obtain⟨f0,f1,f2,f3⟩:=sqF4 hA6;obtain⟨y0,y1,y2,y3⟩:=sqC4 hA6;obtain⟨e0,e1,e2⟩:=sqF3 hC6;obtain⟨x0,x1,x2⟩:=sqC3 hC6;obtain⟨g6,hg6'⟩:=wY w5.heap.size
   rw [<-hg6']at h6 h7;obtain⟨s0,s1,s2,s3⟩:=sqC4 h6;have t0':=h7.c0;have t1:=h7.c1;have t2:=h7.c2;have n1:¬(g6=gs):=ww;have n2:¬(g6+1=gs):=ww;have n3:¬(g6=H+1):=ww;obtain⟨HG6,HW6,HM,HKK,HV9,HS5,HSZ⟩:=sqJ7 hg6' hW6 (aI m1 (aI m2 (aI m3 (aI m4 (aI m5 m6))))) (aI k1 k2) hv9 hs5 (show wr.heap.size<=(Vt W6 gs (H+1) (aB X5 t'.aJ.length c5) (aB Y5 t'.aK.length d5) (aC aD s.aM) (aC aD s.aL) (aC aD cc'.aO) (aB A7 cc'.aN.length n7) (aE ⟨cc'.at_.toArray⟩)).heap.size from by simp;exact hwr);clear hA6 hC6 hR6 ho6 ho6' hl6 hg6 hb16 hb56 h6 h7 ho5 hl5 hb5 hb6 m1 m2 m3 m4 m5 m6 k1 k2 hW6 hg6' HMS HRWX HR HHB hc7 hv9;have hdd:(⟨dd.toArray⟩:ByteArray).toList=dd:=ByteArray.toList_eq _;generalize hds:(⟨dd.toArray⟩:ByteArray)=ds at *
   have HDS:=sqH hds;have HDD:=sqH hdd;clear hds hdd
   refine wL ?_;intros;rw [<-HG6.o,<-HW6.o];clear HW6 HG6;go_region
   all_goals (try dsimp only [Exit.then])
   clear f0 f1 f2 f3 y0 y1 y2 y3 e0 e1 e2 x0 x1 x2 s0 s1 s2 s3 t0' t1 t2;have HRX:=sqH (show RunC (Vt W6 gs (H+1) (aB X5 t'.aJ.length c5) (aB Y5 t'.aK.length d5) (aC aD s.aM) (aC aD s.aL) (aC aD cc'.aO) (aB A7 cc'.aN.length n7) (aE ⟨cc'.at_.toArray⟩)).drew H w0.heap.size gs (H+1) (aB X5 t'.aJ.length c5) (aB Y5 t'.aK.length d5) u9 A7 n7 t' cc' g from by
    refine⟨?_,Arr.drew HF2.o,HF3.o.drewX,?_,HF6.o.drew⟩
    ·rw [HKK.o.1,HKK.o.2];exact Arr.drew HF1.o
    ·obtain⟨_,_,e1,h⟩:=RdC.of_own (c:=cc') (zc HF4.o (Below.refl _ _).drew);cases e1;exact h)
   obtain⟨HRR,HBB,HGR,HSZ2⟩:=sqJ4 (Arr.drew HF7.o) (HF5.o.drew) (zc HF4.o (Below.refl _ _).drew) (show wr.heap.size<=(Vt W6 gs (H+1) (aB X5 t'.aJ.length c5) (aB Y5 t'.aK.length d5) (aC aD s.aM) (aC aD s.aL) (aC aD cc'.aO) (aB A7 cc'.aN.length n7) (aE ⟨cc'.at_.toArray⟩)).drew.heap.size from Nat.le_trans HSZ.o ((Below.refl 0 _).drew).size);clear HF1 HF2 HF3 HF4 HF5 HF6 HF7 HSZ;generalize (Vt W6 gs (H+1) (aB X5 t'.aJ.length c5) (aB Y5 t'.aK.length d5) (aC aD s.aM) (aC aD s.aL) (aC aD cc'.aO) (aB A7 cc'.aN.length n7) (aE ⟨cc'.at_.toArray⟩)).drew=wz at *
   by_cases hd:dd= []
   ·have e1:ds.toList.isEmpty=true:=by rw [HDD.o,hd];rfl
    go_wp2_with fail;go_roundg (kR 8 t' cc')
    case measure=>have:=HM.o.2.2.2.2.2;have:=HGN.o;omega
    case rel =>
     obtain⟨m1,m2,m3,m4,m5,m6⟩:=HM.o;refine⟨t',cc',g,X5,c5,Y5,d5,A7,n7,rfl,HRX.o,HRR.o,m1,m2,by have:=HGL.o;omega,?_,HKK.o.1,HKK.o.2,by have:=HGG.o;omega,HBB.o⟩;rw [HRN.o,m5,if_pos hd];rfl
   ·have e1:ds.toList.isEmpty=false:=by rw [HDD.o];cases dd with | nil=>exact absurd rfl hd | cons _ _=>rfl
    have hgo:=HRX.o.gone;have hgl2:g.length<=24:=by have:=HGG.o;omega
    have hHz:H<=wz.heap.size:=by have:=HSZ2.o;omega
    refine wL ?_;intros;refine zh rfl (.tmp 42) (.tmp 44) rfl uA ae hgo (us:= [aE ds]) ae rfl (by intro u hu;rw [List.mem_singleton.1 hu];rfl) ww hHz ?_;intro v9 w9 ho9 hg9 hv9;have hb9:Below H w w9:=by
     have hh:=HH.o;have h1:=HBB.o;rw [hh]at h1 hgo ⊢
     exact zk h1 hgo ai hg9
    have hR9:=HRR.o.grown hg9 (zf hgo HRR.o ab);have e5:strs g++ [aE ds]=strs (g++ [dd]):=by rw [xW,<-HDS.o];rfl
    have e6:g.length+1=(g++ [dd]).length:=ac;rw [e5,e6]at ho9;obtain⟨HO9,HR9,HB9⟩:=sqJ3 (HRX.o.key (B:=wr.heap.size) ⟨_,HGR.o,rfl⟩ HV9.o ho9 hg9 hv9) hR9 hb9;clear ho9 hg9 hv9 hb9 hR9 e5 e6 hgo;go_wp2_with fail;go_roundg (kR 8 t' cc')
    case measure=>have:=HM.o.2.2.2.2.2;have:=HGN.o;omega
    case rel =>
     obtain⟨m1,m2,m3,m4,m5,m6⟩:=HM.o;refine⟨t',cc',g++ [dd],X5,c5,Y5,d5,A7,n7,rfl,HO9.o,HR9.o,m1,m2,by have:=HGL.o;omega,?_,HKK.o.1,HKK.o.2,by rw [List.length_append];rw [if_neg hd]at m4;have:=HGG.o;simp only [List.length_singleton];omega,HB9.o⟩;rw [HRN.o,m5,if_neg hd,List.append_assoc]
theorem xA {α:Type} {p:α->Bool}:∀(l:List α) (i:Nat) (hi:i<l.length),p l[i]=false->(l.eraseIdx i).filter p=l.filter p
 | a::l,0,_,h=>by
  have h:p a=false:=h
  rw [List.eraseIdx_cons_zero,List.filter_cons,if_neg (by rw [h];decide)]
 | a::l,i+1,hi,h=>by
  have h:p (l[i]'(by simpa using hi))=false:=h
  rw [List.eraseIdx_cons_succ,List.filter_cons,List.filter_cons,xA l i (by simpa using hi) h]
theorem Ju {s:StoP} {c:ColP} (hg:GoodS s) (hc:GoodC s c) (hp:c.aO=1\/c.aO=2):EqM (cln s).aJ (cln (zu s c).1).aJ:=by
 have hR:=(kK hg hc hp).2.2.1;unfold cln;dsimp only;rw [hR];unfold zu;rcases hp with hp | hp
 ·rw [if_pos hp];refine yM (qG s c).1 fun b _ b' _ e=>by rw [e]
 ·rw [if_neg ww];rcases ql s c with ⟨_,e⟩ | ⟨i,hi,_,_,e⟩ | ⟨i,hi,_,hm,e⟩
  ·rw [e];exact .rfl_ _
  ·rw [e];exact .rfl_ _
  ·rw [e];dsimp only;rw [xA _ i hi]
   ·exact .rfl_ _
   ·refine @decide_eq_false _ (Classical.propDecidable _) fun h=> ?_;obtain⟨b,hb,hbm,hbd⟩:=qu.1 (hc.sw hp _ h);have:=hg.b.ris.inj hb (List.getElem_mem hi) hbd;subst this;rw [hm]at hbm;cases hbm
theorem VJ:∀(k:Nat) (s:StoP) (c:ColP),GoodS s->GoodC s c->kR 8 s c<=k->EqM (cln s).aJ (cln (kY s c).1).aJ
 | k,s,c,hg,hc,hk=>by
  by_cases h0:c.aO=0
  ·rw [xS h0];exact .rfl_ _
  ·have hp:c.aO=1\/c.aO=2:=by have:=hc.ph;omega
   have hl:=y8 (k:=8) (ym s.aJ) hp
   obtain⟨h1,h2,_⟩:=kK hg hc hp
   have ih:=VJ (k - 1) (zu s c).1 (zu s c).2.1 h1 h2 ww
   rw [yG hp]
   exact(Ju hg hc hp).trans ih
termination_by k=>k
decreasing_by all_goals omega
end Go.Proofs.YtaboknhfiijipaaGreat
