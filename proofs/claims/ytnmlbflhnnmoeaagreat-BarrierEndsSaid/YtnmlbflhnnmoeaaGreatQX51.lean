/- Lemmas of the proof. Conditions: as stated. -/
import Derived.Test.YtnmlbflhnnmoeaaGreatQX46
import Derived.Test.YtnmlbflhnnmoeaaGreatQX50
set_option linter.unusedVariables false
set_option linter.unusedSimpArgs false
set_option maxRecDepth 100000
set_option maxHeartbeats 16000000
namespace Go.Proofs.YtnmlbflhnnmoeaaGreat
open Go.RowKit Go.Maps
theorem Kk (w:World) (e1 e2:TypeId) (c1 c2 c3:List Value):∃W,W=((w.alloc (.cells c1.toArray e1)).alloc (.cells c2.toArray e2)).alloc (.cells c3.toArray e1)∧Arr W w.heap.size e1 c1∧Arr W (w.heap.size+1) e2 c2∧Arr W (w.heap.size+1+1) e1 c3∧Below w.heap.size w W:=by
 obtain⟨W2,h2,a1,a2,b2⟩:=qf w e1 e2 c1 c2;have a3:=Arr.new W2 e1 c3;have hs:W2.heap.size=w.heap.size+1+1:=by rw [h2];simp
 have b3:=(Below.refl W2.heap.size W2).alloc (Nat.le_refl _) (.cells c3.toArray e1);rw [hs]at a3;exact⟨_,rfl,by rw [←h2];exact a1.below b3,by rw [←h2];exact a2.below b3,by rw [←h2];exact a3,by rw [←h2];exact b2.trans (b3.mono b2.size)⟩
theorem KA (s:StoP) (c:ColP):(zy s c).1.room=s.room∧(zy s c).1.clock=s.clock∧(zy s c).1.ents=s.ents:=by
 unfold zy;split
 ·have e:=(qu s c).2;exact⟨(congrArg StoP.room e).trans rfl,(congrArg StoP.clock e).trans rfl,(congrArg StoP.ents e).trans rfl⟩
 ·rcases zV s c with ⟨_,e⟩ | ⟨_,_,_,_,e⟩ | ⟨_,_,_,_,e⟩<;>rw [e]<;>exact⟨rfl,rfl,rfl⟩
theorem Xe (s:StoP) (c:ColP):(zy s c).1.blobs.length+(if (zy s c).2.2= [] then 0 else 1)≤s.blobs.length:=by
 unfold zy;split
 ·have:=jL s c;show(zm s c).1.blobs.length+(if ([]:List UInt8)= [] then 0 else 1)≤_;rw [if_pos rfl];omega
 ·rcases zV s c with ⟨_,e⟩ | ⟨_,_,_,_,e⟩ | ⟨i,hi,_,_,e⟩
  ·rw [e];exact Nat.le_refl _
  ·rw [e];exact Nat.le_refl _
  ·rw [e];show(s.blobs.eraseIdx i).length+_≤_;rw [List.length_eraseIdx,if_pos hi];split<;>omega
section
variable {w w':World} {H K gs gc:Nat} {v1 v2 v3 v3':Value} {Ag:Option Addr} {ng:Nat} {t:StoP} {cc:ColP} {g:List (List UInt8)}
end
theorem KN (A:Option Addr) (c:Nat) (B:Option Addr) (d:Nat) (s:StoP) (Ag:Option Addr) (ng:Nat) (cp:ColP) (w:World) (hg:GoodS s) (hr:RdSt w A c B d s) (hgl:8*unm s.blobs+cp.grey.length≤1000) (hgc:GoodC s cp) (hc:RdC w Ag ng cp) :
  Calls Tryz.prog 22 #[.agg #[.slice A s.blobs.length c,.slice B s.ents.length d,.int .i64 s.room,.int .i64 s.clock],coV (.slice Ag cp.grey.length ng) cp] w fun e w' =>
   ∃v1 v2 v3,e= .returned (.tuple #[stV v1 v2 s,v3,.int .i64 0])∧OwSt w' w.heap.size v1 v2 (yn s cp).1 (fun b=>b<w.heap.size)∧w'.ownsRow w.heap.size 9 1 v3 (yn s cp).2.length (strs (yn s cp).2)∧Below w.heap.size w w':=by
 have hlb:s.blobs.length≤24:=hg.b.len;have hle:s.ents.length≤10:=hg.e.len;obtain⟨phase,grey,at_⟩:=cp;simp only at hgl;obtain⟨w0,hw0,hS,hC,hR,hb0⟩:=Kk w 26 29 [.slice A s.blobs.length c,.slice B s.ents.length d,.int .i64 s.room,.int .i64 s.clock] [.int .i64 phase,.slice Ag grey.length ng,.string ⟨at_.toArray⟩] [.slice none 0 0,.slice none 0 0,.int .i64 0,.int .i64 0];have hr0:=hr.below hb0;have hc0:=hc.below hb0;obtain⟨H,hH⟩:∃H,H=w.heap.size:=⟨_,rfl⟩
 have HCK:=sqH (ql A c B d s Ag ng ⟨phase,grey,at_⟩ w0 hg hr0 (by show grey.length≤1000;omega) hgc hc0);have HCP:=sqH (fun W (h:Below w0.heap.size w0 W)=>qe A c B d s W (by omega) (by omega) (fun b hb=>by have:=(hg.b.one b hb).2.1;omega) (fun x hx=>by have:=(zj (hg.e.one x hx).2.1).1;omega) (hr0.below h));have HGD:=sqH hg;have HGC:=sqH hgc;have HC0:=sqH hc0;rw [←hH]at hS hC hR hb0 ⊢
 have hHl:H+1+1<w0.heap.size:=hR.lt;obtain⟨x0,x1,x2,x3⟩:=sqC4 hS;obtain⟨y0,y1,y2⟩:=sqC3 hC;rw [hw0,hH]at x0 x1 x2 x3 y0 y1 y2;clear hg hr hgc hc hr0 hc0;go_enter Tryz.func22,Tryz.ntmps22;go_wp2_with fail;rw [←hw0,←hH];have HH:=sqH hH;clear hw0 hH x0 x1 x2 x3 y0 y1 y2;refine HCK.out.mono ?_;rintro e_ w1 ⟨rfl,hb1⟩;dsimp only;obtain⟨z0,z1,z2,z3⟩:=sqC4 (hS.below hb1);clear HCK;go_wp2_with fail;clear z0 z1 z2 z3;refine((HCP.out _ hb1)).mono ?_;rintro e_ w2 ⟨q1,q2,rfl,ho2,hb2⟩;dsimp only;have hb12:=hb1.trans (hb2.mono hb1.size);have hs1:=hb1.size;have hs2:=hb12.size;obtain⟨gs,hgs⟩:∃G,G=w2.heap.size:=⟨_,rfl⟩
 have hal:=(Below.refl w2.heap.size w2).alloc (Nat.le_refl _) (.cells #[.slice (some ⟨q1,0,none⟩) s.blobs.length s.blobs.length,.slice (some ⟨q2,0,none⟩) s.ents.length s.ents.length,.int .i64 s.room,.int .i64 s.clock] 26);have hb13:=hb12.trans (hal.mono hb12.size);have HRW:=sqH (show RunC (w2.alloc (.cells #[.slice (some ⟨q1,0,none⟩) s.blobs.length s.blobs.length,.slice (some ⟨q2,0,none⟩) s.ents.length s.ents.length,.int .i64 s.room,.int .i64 s.clock] 26)) H w0.heap.size gs (H+1) (.slice (some ⟨q1,0,none⟩) s.blobs.length s.blobs.length) (.slice (some ⟨q2,0,none⟩) s.ents.length s.ents.length) (.slice none 0 0) Ag ng s ⟨phase,grey,at_⟩ [] by
  refine⟨by rw [hgs];exact Arr.new w2 26 _,hC.below hb13,?_,HC0.out.below hb13,World.ownsRow_nil _ _ _ _⟩;refine((ho2.lower (base':=H) (by omega)).wider fun b hb=> ?_).below hal;rcases hb with hb | hb | hb
  ·exact .inl (Nat.lt_of_lt_of_le hb hs1)
  ·exact .inr (by rw [hb,hgs];exact Nat.le_refl _)
  ·cases hb)
 have HBK:=sqH (hb0.trans (hb13.mono (show H≤w0.heap.size by omega)));have HRES:=sqH (hR.below hb13);have hgs0:w0.heap.size≤gs:=by omega
 have HG:=sqH hgs;clear hS hC hR hb1 hb2 hb12 hb13 ho2 hal HCP hb0 hgs HC0;go_wp2_with fail;rw [←HG.out];generalize (w2.alloc (.cells #[.slice (some ⟨q1,0,none⟩) s.blobs.length s.blobs.length,.slice (some ⟨q2,0,none⟩) s.ents.length s.ents.length,.int .i64 s.room,.int .i64 s.clock] 26))=w4 at *
 go_loopg [9] (qZ 8 s ⟨phase,grey,at_⟩) (fun gn u wr=>∃(t:StoP) (cc:ColP) (g:List (List UInt8)) (X:Option Addr) (cX:Nat) (Y:Option Addr) (dY:Nat) (Ag:Option Addr) (ng:Nat),gn=qZ 8 t cc∧RunC wr H w0.heap.size gs (H+1) (.slice X t.blobs.length cX) (.slice Y t.ents.length dY) u Ag ng t cc g∧Arr wr (H+1+1) 26 [.slice none 0 0,.slice none 0 0,.int .i64 0,.int .i64 0]∧GoodS t∧GoodC t cc∧8*unm t.blobs+cc.grey.length≤1000∧yn s ⟨phase,grey,at_⟩=((yn t cc).1,g++(yn t cc).2)∧t.room=s.room∧t.clock=s.clock∧g.length+t.blobs.length≤24∧Below H w wr)
 case atStart=>exact⟨s,⟨phase,grey,at_⟩, [],_,_,_,_,Ag,ng,rfl,HRW.out,HRES.out,HGD.out,HGC.out,hgl,rfl,rfl,rfl,by simpa using hlb,HBK.out⟩
 case round =>
  obtain⟨t,cc,g,X,cX,Y,dY,Ag,ng,hgn,RW,hR,hg,hgc,hgl,hrun,hrm,hck,hgg,hbk⟩:=hrel;have HGN:=sqH hgn;have HG2:=sqH hg;have HGC2:=sqH hgc;have HGL:=sqH hgl;have HRN:=sqH hrun;have HRM:=sqH hrm;have HCK:=sqH hck;have HGG:=sqH hgg;have htb:=hg.b.len;have hte:=hg.e.len;have HRWX:=sqH RW;have hA:=RW.bs;have hC:=RW.bc;rw [hrm,hck]at hA;obtain⟨x0,x1,x2,x3⟩:=sqC4 hA;obtain⟨y0,y1,y2⟩:=sqC3 hC;have hgsl:=hA.lt;have HR:=sqH hR;have HHB:=sqH hbk;clear HRW HBK HRES hgn hrun hrm hck hgg RW hA hC hR hbk hgl;by_cases h0:cc.phase=0
  ·have g1:((cc.phase:Int)!=0)=false:=by rw [h0];rfl
   obtain⟨f0,f1,f2,f3⟩:=sqF4 HR.out;obtain⟨r0,r1,r2,r3⟩:=sqC4 HR.out;have n1:=HRWX.out.st.nb HR.out (by decide) (by decide);have n3:u9.ownBlock≠some (H+1+1):=zg HRWX.out.gone HR.out (by decide);have HF1:=sqH (HR.out.all4 (.slice X t.blobs.length cX) (.slice Y t.ents.length dY) (.int .i64 s.room) (.int .i64 s.clock));have HF2:=sqH (HRWX.out.st.set4N (g:=H+1+1) (.inl hHl) n1.1 n1.2 (.slice X t.blobs.length cX) (.slice Y t.ents.length dY) (.int .i64 s.room) (.int .i64 s.clock));have HF3:=sqH (qc HRWX.out.gone n3 (.slice X t.blobs.length cX) (.slice Y t.ents.length dY) (.int .i64 s.room) (.int .i64 s.clock));have HF4:=sqH ((((HHB.out.setCell (p:=⟨H+1+1,0,none⟩) (by simp only;omega) (.slice X t.blobs.length cX)).setCell (p:=⟨H+1+1,1,none⟩) (by simp only;omega) (.slice Y t.ents.length dY)).setCell (p:=⟨H+1+1,2,none⟩) (by simp only;omega) (.int .i64 s.room)).setCell (p:=⟨H+1+1,3,none⟩) (by simp only;omega) (.int .i64 s.clock));clear n1 n3;go_wp2_with fail;refine bodyPost_ret (zM rfl _ _ (H+1+1) _ _ _ _ (by rfl) HF1.out Tryz.underlying26 rfl (by kernel_rfl)) rfl ?_;have hr:=HRN.out;rw [vM h0,List.append_nil]at hr;rw [hr];exact⟨_,_,_,rfl,HF2.out.mono (fun b hb=> .inl (by omega)),HF3.out,HF4.out⟩
  ·have hp:cc.phase=1∨cc.phase=2:=by have:=HGC2.out.ph;omega
   have HP:=sqH hp;have g1:((cc.phase:Int)!=0)=true:=by
    rw [bne_iff_ne];intro h;exact h0 (by omega)
   obtain⟨_,_,_,_,e1,e2,hrd⟩:=HRWX.out.st.rows;cases e1;cases e2
   have hms:=Qc X cX Y dY t Ag ng cc wr HG2.out hrd hp (by have:=HGL.out;omega) HGC2.out HRWX.out.gr;obtain⟨k1,k2, -⟩:=KA t cc;simp only [stV,coV]at hms;rw [HRM.out]at hms k1;rw [HCK.out]at hms k2;obtain⟨m1,m2, -⟩:=yI HG2.out HGC2.out hp;have m3:=Zk t cc;have m4:=Xe t cc;have m5:=xj (s:=t) hp;have m6:=kP (k:=8) (y9 t.blobs) hp;generalize (zy t cc).1=t' at *
   generalize (zy t cc).2.1=cc' at *
   generalize (zy t cc).2.2=dd at *
   have HMS:=sqH hms;clear hms hrd hp h0;go_wp2_with fail;clear x0 x1 x2 x3 y0 y1 y2;refine HMS.out.mono ?_;rintro e_ w5 ⟨v5,v6,v7,rfl,ho5,hl5,hb5⟩;dsimp only;obtain⟨X5,c5,Y5,d5,e1,e2,_⟩:=ho5.rows;obtain⟨A7,n7,e3,hc7⟩:=RdC.of_own (c:=cc') hl5;subst e1 e2 e3;have hs5:=hb5.size;have hgc0:H+1<w0.heap.size:=by omega
   have hne:gs≠H+1:=by omega
   obtain⟨W6,hW6,h6,h7,hb6⟩:=qf w5 26 29 [.slice X5 t'.blobs.length c5,.slice Y5 t'.ents.length d5,.int .i64 s.room,.int .i64 s.clock] [.int .i64 cc'.phase,.slice A7 cc'.grey.length n7,.string ⟨cc'.at_.toArray⟩];have hb56:=hb5.trans (hb6.mono hs5);have hA6:=HRWX.out.bs.below hb56;have hC6:=HRWX.out.bc.below hb56;have hR6:=HR.out.below hb56;have ho6:=ho5.below hb6;have hl6:=z8 hl5 hb6;have hg6:=z8 HRWX.out.gone hb56;have hgw:gs<wr.heap.size:=HRWX.out.bs.lt;have hK:w0.heap.size≤wr.heap.size:=by omega
   have hHw:H≤wr.heap.size:=by omega
   have hb16:=HHB.out.trans (hb56.mono hHw);have hgcl:=hC6.lt;have hcw:H+1<wr.heap.size:=HRWX.out.bc.lt;have hv9:∀b,u9.ownBlock=some b→b<wr.heap.size:=fun b e=>(HRWX.out.gone.lt b e).2;have hwr:wr.heap.size≤W6.heap.size:=hb56.size;have ho6':=(ho6.lower (base':=H) hHw).mono (N':=fun b=>b<w0.heap.size∨b=gs∨u9.ownBlock=some b) (fun b hb=>by
    rcases hb with hb | hb | hb
    ·show b<wr.heap.size;have:w0.heap.size≤wr.heap.size:=hK;omega
    ·rw [hb];exact hgw
    ·exact hv9 b hb)
   have HF1:=sqH (zW (g:=gs) (h:=H+1) (u0:= .slice X5 t'.blobs.length c5) (u1:= .slice Y5 t'.ents.length d5) (u2:= .int .i64 s.room) (u3:= .int .i64 s.clock) (x0:= .int .i64 cc'.phase) (x1:= .slice A7 cc'.grey.length n7) (x2:= .string ⟨cc'.at_.toArray⟩) hA6 hne);have HF2:=sqH (zY (g:=gs) (h:=H+1) (u0:= .slice X5 t'.blobs.length c5) (u1:= .slice Y5 t'.ents.length d5) (u2:= .int .i64 s.room) (u3:= .int .i64 s.clock) (x0:= .int .i64 cc'.phase) (x1:= .slice A7 cc'.grey.length n7) (x2:= .string ⟨cc'.at_.toArray⟩) hC6 hne);have HF3:=sqH (zT (g:=gs) (h:=H+1) (u0:= .slice X5 t'.blobs.length c5) (u1:= .slice Y5 t'.ents.length d5) (u2:= .int .i64 s.room) (u3:= .int .i64 s.clock) (x0:= .int .i64 cc'.phase) (x1:= .slice A7 cc'.grey.length n7) (x2:= .string ⟨cc'.at_.toArray⟩) ho6' (.inr (.inl rfl)) (.inl hgc0) (ho6.nb hA6 (by decide) (by decide)).1 (ho6.nb hA6 (by decide) (by decide)).2 (ho6.nb hC6 (by decide) (by decide)).1 (ho6.nb hC6 (by decide) (by decide)).2);have HF4:=sqH (zN (g:=gs) (h:=H+1) (u0:= .slice X5 t'.blobs.length c5) (u1:= .slice Y5 t'.ents.length d5) (u2:= .int .i64 s.room) (u3:= .int .i64 s.clock) (x0:= .int .i64 cc'.phase) (x1:= .slice A7 cc'.grey.length n7) (x2:= .string ⟨cc'.at_.toArray⟩) hl6 (zg hl6 hA6 (by decide)) (zg hl6 hC6 (by decide)));have HF5:=sqH (zq (g:=gs) (h:=H+1) (u0:= .slice X5 t'.blobs.length c5) (u1:= .slice Y5 t'.ents.length d5) (u2:= .int .i64 s.room) (u3:= .int .i64 s.clock) (x0:= .int .i64 cc'.phase) (x1:= .slice A7 cc'.grey.length n7) (x2:= .string ⟨cc'.at_.toArray⟩) hb16 (by omega) (by omega));have HF6:=sqH (zN (g:=gs) (h:=H+1) (u0:= .slice X5 t'.blobs.length c5) (u1:= .slice Y5 t'.ents.length d5) (u2:= .int .i64 s.room) (u3:= .int .i64 s.clock) (x0:= .int .i64 cc'.phase) (x1:= .slice A7 cc'.grey.length n7) (x2:= .string ⟨cc'.at_.toArray⟩) hg6 (zg hg6 hA6 (by decide)) (zg hg6 hC6 (by decide)));have HF7:=sqH (ji (g:=gs) (h:=H+1) (.slice X5 t'.blobs.length c5) (.slice Y5 t'.ents.length d5) (.int .i64 s.room) (.int .i64 s.clock) (.int .i64 cc'.phase) (.slice A7 cc'.grey.length n7) (.string ⟨cc'.at_.toArray⟩) hR6 (by omega) (by omega));obtain⟨f0,f1,f2,f3⟩:=sqF4 hA6;obtain⟨y0,y1,y2,y3⟩:=sqC4 hA6;obtain⟨e0,e1,e2⟩:=sqF3 hC6;obtain⟨x0,x1,x2⟩:=sqC3 hC6;obtain⟨g6,hg6'⟩:∃g,g=w5.heap.size:=⟨_,rfl⟩
   rw [←hg6']at h6 h7;obtain⟨s0,s1,s2,s3⟩:=sqC4 h6;have t0':=h7.cell (k:=0) rfl;have t1:=h7.cell (k:=1) rfl;have t2:=h7.cell (k:=2) rfl;have n1:¬(g6=gs):=by omega
   have n2:¬(g6+1=gs):=by omega
   have n3:¬(g6=H+1):=by omega
   have HG6:=sqH hg6';have HW6:=sqH hW6;have HM:=sqH (And.intro m1 (And.intro m2 (And.intro m3 (And.intro m4 (And.intro m5 m6)))));have HKK:=sqH (And.intro k1 k2);have HV9:=sqH hv9;have HS5:=sqH hs5;have HSZ:=sqH (show wr.heap.size≤(put7 W6 gs (H+1) (.slice X5 t'.blobs.length c5) (.slice Y5 t'.ents.length d5) (.int .i64 s.room) (.int .i64 s.clock) (.int .i64 cc'.phase) (.slice A7 cc'.grey.length n7) (.string ⟨cc'.at_.toArray⟩)).heap.size from by simp;exact hwr);clear hA6 hC6 hR6 ho6 ho6' hl6 hg6 hb16 hb56 h6 h7 ho5 hl5 hb5 hb6 m1 m2 m3 m4 m5 m6 k1 k2 hW6 hg6' HMS HRWX HR HHB hc7 hv9;have hdd:(⟨dd.toArray⟩:ByteArray).toList=dd:=ByteArray.toList_eq _;generalize hds:(⟨dd.toArray⟩:ByteArray)=ds at *
   have HDS:=sqH hds;have HDD:=sqH hdd;clear hds hdd
   repeat' ((fail_if_success (with_reducible refine at_reg_ 10 ?_));(fail_if_success (with_reducible refine at_sreg_ 10 ?_));(fail_if_success (with_reducible refine at_ssreg_ 10 ?_));(fail_if_success at_builtin);(fail_if_success at_make);(first | go_values | go_skip | go_guarded | go_step | go_upon | go_back))
   rw [←HG6.out,←HW6.out];clear HW6 HG6;go_region
   all_goals (try dsimp only [Exit.then])
   clear f0 f1 f2 f3 y0 y1 y2 y3 e0 e1 e2 x0 x1 x2 s0 s1 s2 s3 t0' t1 t2;have HRX:=sqH (show RunC (put7 W6 gs (H+1) (.slice X5 t'.blobs.length c5) (.slice Y5 t'.ents.length d5) (.int .i64 s.room) (.int .i64 s.clock) (.int .i64 cc'.phase) (.slice A7 cc'.grey.length n7) (.string ⟨cc'.at_.toArray⟩)).drew H w0.heap.size gs (H+1) (.slice X5 t'.blobs.length c5) (.slice Y5 t'.ents.length d5) u9 A7 n7 t' cc' g from by
    refine⟨?_,Arr.drew HF2.out,HF3.out.drewX,?_,HF6.out.drew⟩
    ·rw [HKK.out.1,HKK.out.2];exact Arr.drew HF1.out
    ·obtain⟨_,_,e1,h⟩:=RdC.of_own (c:=cc') (z8 HF4.out (Below.refl _ _).drew);cases e1;exact h)
   have HRR:=sqH (Arr.drew HF7.out);have HBB:=sqH (HF5.out.drew);have HGR:=sqH (z8 HF4.out (Below.refl _ _).drew);have HSZ2:=sqH (show wr.heap.size≤(put7 W6 gs (H+1) (.slice X5 t'.blobs.length c5) (.slice Y5 t'.ents.length d5) (.int .i64 s.room) (.int .i64 s.clock) (.int .i64 cc'.phase) (.slice A7 cc'.grey.length n7) (.string ⟨cc'.at_.toArray⟩)).drew.heap.size from Nat.le_trans HSZ.out ((Below.refl 0 _).drew).size);clear HF1 HF2 HF3 HF4 HF5 HF6 HF7 HSZ;generalize (put7 W6 gs (H+1) (.slice X5 t'.blobs.length c5) (.slice Y5 t'.ents.length d5) (.int .i64 s.room) (.int .i64 s.clock) (.int .i64 cc'.phase) (.slice A7 cc'.grey.length n7) (.string ⟨cc'.at_.toArray⟩)).drew=wz at *
   by_cases hd:dd= []
   ·have e1:ds.toList.isEmpty=true:=by rw [HDD.out,hd];rfl
    go_wp2_with fail;go_roundg (qZ 8 t' cc')
    case measure=>have:=HM.out.2.2.2.2.2;have:=HGN.out;omega
    case rel =>
     obtain⟨m1,m2,m3,m4,m5,m6⟩:=HM.out;refine⟨t',cc',g,X5,c5,Y5,d5,A7,n7,rfl,HRX.out,HRR.out,m1,m2,by have:=HGL.out;omega,?_,HKK.out.1,HKK.out.2,by have:=HGG.out;omega,HBB.out⟩;rw [HRN.out,m5,if_pos hd];rfl
   ·have e1:ds.toList.isEmpty=false:=by rw [HDD.out];cases dd with | nil=>exact absurd rfl hd | cons _ _=>rfl
    have hgo:=HRX.out.gone;have hgl2:g.length≤24:=by have:=HGG.out;omega
    have hHz:H≤wz.heap.size:=by have:=HSZ2.out;omega
    repeat' (fail_if_success (first|at_builtin|at_make));first|go_values|go_skip|go_guarded|go_step|go_upon|go_back
    refine zn rfl (.tmp 42) (.tmp 44) rfl vu (by rfl) hgo (us:= [.string ds]) (by rfl) rfl (by intro u hu;rw [List.mem_singleton.1 hu];rfl) (by omega) hHz ?_;intro v9 w9 ho9 hg9 hv9;have hb9:Below H w w9:=by
     have hh:=HH.out;have h1:=HBB.out;rw [hh]at h1 hgo ⊢
     exact zi h1 hgo (Nat.le_refl _) hg9
    have hR9:=HRR.out.grown hg9 (zg hgo HRR.out (by decide));have e5:strs g++ [Value.string ds]=strs (g++ [dd]):=by rw [xi,←HDS.out];rfl
    have e6:g.length+1=(g++ [dd]).length:=by simp
    rw [e5,e6]at ho9;have HO9:=sqH (HRX.out.key (B:=wr.heap.size) ⟨_,HGR.out,rfl⟩ HV9.out ho9 hg9 hv9);have HR9:=sqH hR9;have HB9:=sqH hb9;clear ho9 hg9 hv9 hb9 hR9 e5 e6 hgo;go_wp2_with fail;go_roundg (qZ 8 t' cc')
    case measure=>have:=HM.out.2.2.2.2.2;have:=HGN.out;omega
    case rel =>
     obtain⟨m1,m2,m3,m4,m5,m6⟩:=HM.out;refine⟨t',cc',g++ [dd],X5,c5,Y5,d5,A7,n7,rfl,HO9.out,HR9.out,m1,m2,by have:=HGL.out;omega,?_,HKK.out.1,HKK.out.2,by rw [List.length_append];rw [if_neg hd]at m4;have:=HGG.out;simp only [List.length_singleton];omega,HB9.out⟩;rw [HRN.out,m5,if_neg hd,List.append_assoc]
theorem U0 {s:StoP} (hg:GoodS s):8*unm (qy s).blobs+(k9 s).grey.length≤1000:=by
 have h1:=Uf (qy s).blobs;have h2:(qy s).blobs.length=s.blobs.length:=(yf s.blobs).len.symm;have h3:(k9 s).grey.length≤(rts s).length:=vR _;have h4:=x8 s.ents (fun x hx=>(zj (hg.e.one x hx).2.1).1);have h5:=xZ s.blobs;have h6:(rts s).length=(jn s.ents).length+(xq s.blobs).length:=List.length_append;have:=hg.b.len;have:=hg.e.len;omega
end Go.Proofs.YtnmlbflhnnmoeaaGreat
