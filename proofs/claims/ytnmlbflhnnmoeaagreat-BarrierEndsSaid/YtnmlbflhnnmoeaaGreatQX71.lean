/- Lemmas of the proof. Conditions: as stated. -/
import Derived.Test.YtnmlbflhnnmoeaaGreatQX51
import Derived.Test.YtnmlbflhnnmoeaaGreatQX57
import Derived.Test.YtnmlbflhnnmoeaaGreatQX70
set_option linter.unusedVariables false
set_option linter.unusedSimpArgs false
set_option maxRecDepth 100000
set_option maxHeartbeats 16000000
namespace Go.Proofs.YtnmlbflhnnmoeaaGreat
open Go.RowKit Go.Maps
theorem z0f:Xi 21:=⟨fun _ _=>rfl,fun m x d X cX Y dY Ag ng W hm hb hr hc=>by
 go_enter Tryz.func21,Tryz.ntmps21
 go_wp2_with fail
 go_ret
 have hb1:=(Below.refl W.heap.size W).alloc (Nat.le_refl _) (.cells #[.slice X x.blobs.length cX,.slice Y x.ents.length dY,.int .i64 x.room,.int .i64 x.clock] 26)
 exact⟨rfl,hb1.alloc hb1.size _⟩⟩
theorem xT (A:Option Addr) (n c:Nat) (l:List RawP) (A':Option Addr) (n' c':Nat) (l':List RawP) (w:World) (hl:l.length=n) (hc:n≤c) (hm:c≤maxLen) (hok:∀r∈l,RawOk r) (hr:Rd w 4 A n (rcs l)) (hl':l'.length=n') (hc':n'≤c') (hm':c'≤maxLen) (hok':∀r∈l',RawOk r) (hr':Rd w 4 A' n' (rcs l')) :
  Calls Tryz.prog 4 #[.slice A n c,.slice A' n' c'] w fun e w'=>e= .returned (.bool true)∧Below w.heap.size w w':=by
 have HS:=sqH (uW A n c l w hl hc hm hok hr);have hbs:=jS (x9 l) (Ul l) (KS l);have HGS:=sqH (x9 l);have HBU:=sqH (fun X cX Y dY s Ag ng c wA W hA (h:Below w.heap.size w W) hb h1 h2=>KR 21 z0f A' n' c' l' X cX Y dY s Ag ng c wA W hA hl' hc' hm' hok' (hr'.below h) hb h1 h2);clear hok hl hr hc hm hok' hl' hr' hc' hm';generalize sto l=s at *
 have HBS:=sqH hbs;clear hbs;go_enter Tryz.func4,Tryz.ntmps4;go_wp2_with fail;refine HS.out.mono ?_;rintro e_ w1 ⟨v1,v2,rfl,hb,he,hb1⟩;dsimp only;obtain⟨Ab,cb,rfl,hcb1,hcb2,hRb⟩:=hb.rows;obtain⟨Ae,ce,rfl,hce1,hce2,hRe⟩:=he.rows;have HBG:=sqH (vf Ab cb Ae ce s w1 HGS.out ⟨hRb,hRe,hcb1,hcb2,hce1,hce2⟩);have HB1:=sqH hb1;clear hb he hRb hRe hb1 hcb1 hcb2 hce1 hce2 HS;generalize qy s=t at *
 generalize k9 s=k at *
 go_wp2_with fail;refine HBG.out.mono ?_;rintro e_ w2 ⟨Xa,ca,Ya,da,Ga,na,rfl,ho,hl2,hb2⟩;dsimp only;have hrd:RdSt w2 Xa ca Ya da t:=by
  obtain⟨_,_,_,_,e1,e2,h3⟩:=ho.rows;cases e1;cases e2
  exact h3
 have hrc:RdC w2 Ga na k:=by
  obtain⟨_,_,e3,h4⟩:=RdC.of_own (c:=k) hl2;cases e3
  exact h4
 obtain⟨W3,hW3,hA,hC,hbw⟩:=qf w2 26 29 [.slice Xa t.blobs.length ca,.slice Ya t.ents.length da,.int .i64 t.room,.int .i64 t.clock] [.int .i64 k.phase,.slice Ga k.grey.length na,.string ⟨k.at_.toArray⟩];have HMK:=sqH (Qp W3);have HB2:=sqH ((HB1.out.trans (hb2.mono HB1.out.size)).trans (hbw.mono (HB1.out.trans (hb2.mono HB1.out.size)).size));have HB2a:=sqH (HB1.out.trans (hb2.mono HB1.out.size));have HBW:=sqH hbw;have HRD:=sqH hrd;have HRC:=sqH hrc;have HA:=sqH hA;have HC:=sqH hC;have HW3:=sqH hW3;clear ho hl2 hb2 hrd hrc hA hC hW3 hbw;go_wp2_with fail;rw [←HW3.out];refine HMK.out.mono ?_;rintro e_ w3 ⟨rfl,hb3⟩;dsimp only;obtain⟨x0,x1,x2,x3⟩:=sqC4 (HA.out.below hb3);obtain⟨y0,y1,y2⟩:=sqC3 (HC.out.below hb3);have HB3:=sqH (HB2.out.trans (hb3.mono HB2.out.size));have HB23:=sqH (HBW.out.trans (hb3.mono HBW.out.size));have HBZ:=sqH (HBU.out Xa ca Ya da t Ga na k w2 w3 HB23.out HB3.out HBS.out HRD.out HRC.out);have HA3:=sqH (HA.out.below hb3);have HC3:=sqH (HC.out.below hb3);clear hb3 HBU HMK HBG;go_wp2_with fail;clear x0 x1 x2 x3 y0 y1 y2;refine HBZ.out.mono ?_;rintro e_ w4 ⟨X5,c5,Y5,d5,s5,A5,n5,k5,rfl,hRw,hBs,hb4⟩;dsimp only;have hA4:=HA3.out.below hb4;have hC4:=HC3.out.below hb4;have hne:w2.heap.size≠w2.heap.size+1:=by omega
 have hg3:w2.heap.size<w3.heap.size:=HA3.out.lt;have hh3:w2.heap.size+1<w3.heap.size:=HC3.out.lt;have hB4:=HB23.out.trans (hb4.mono HB23.out.size);have hA5:=zW (u0:= .slice X5 s5.blobs.length c5) (u1:= .slice Y5 s5.ents.length d5) (u2:= .int .i64 s5.room) (u3:= .int .i64 s5.clock) (x0:= .int .i64 k5.phase) (x1:= .slice A5 k5.grey.length n5) (x2:= .string ⟨k5.at_.toArray⟩) hA4 hne;have hC5:=zY (u0:= .slice X5 s5.blobs.length c5) (u1:= .slice Y5 s5.ents.length d5) (u2:= .int .i64 s5.room) (u3:= .int .i64 s5.clock) (x0:= .int .i64 k5.phase) (x1:= .slice A5 k5.grey.length n5) (x2:= .string ⟨k5.at_.toArray⟩) hC4 hne;have hR5:=hRw.put7 hA4 hC4 hg3 hh3 (.slice X5 s5.blobs.length c5) (.slice Y5 s5.ents.length d5) (.int .i64 s5.room) (.int .i64 s5.clock) (.int .i64 k5.phase) (.slice A5 k5.grey.length n5) (.string ⟨k5.at_.toArray⟩);have hB5:=zq (u0:= .slice X5 s5.blobs.length c5) (u1:= .slice Y5 s5.ents.length d5) (u2:= .int .i64 s5.room) (u3:= .int .i64 s5.clock) (x0:= .int .i64 k5.phase) (x1:= .slice A5 k5.grey.length n5) (x2:= .string ⟨k5.at_.toArray⟩) hB4 (show w2.heap.size≤w2.heap.size from Nat.le_refl _) (show w2.heap.size≤w2.heap.size+1 by omega);have hR6:=hR5.rd hB5;have HX:=sqH (And.intro hA5 (And.intro hC5 (And.intro hR6 hB5)));obtain⟨z0,z1,z2,z3⟩:=sqC4 hA4;obtain⟨f0,f1,f2,f3⟩:=sqF4 hA4;obtain⟨r0,r1,r2⟩:=sqC3 hC4;obtain⟨e0,e1,e2⟩:=sqF3 hC4;have HBY:=sqH hBs;clear hRw hBs hb4 hA4 hC4 hB4 hA5 hC5 hR5 hB5 hR6 HBZ HA HC HA3 HC3
 repeat' ((fail_if_success (with_reducible refine XG 5 ?_));(fail_if_success (with_reducible refine Ye 5 ?_));(fail_if_success (with_reducible refine YW 5 ?_));(fail_if_success (with_reducible refine Xt 5 ?_));(fail_if_success (with_reducible refine Yl 5 ?_));(fail_if_success (with_reducible refine Yf 5 ?_));(fail_if_success at_builtin);(fail_if_success at_make);(first | go_values | go_skip | go_guarded | go_step | go_upon | go_back))
 clear z0 z1 z2 z3 f0 f1 f2 f3 r0 r1 r2 e0 e1 e2;obtain⟨hA5,hC5,⟨hRs,hRc⟩,hB5⟩:=HX.out;clear HX;dsimp only [put7]at hA5 hC5 hRs hRc hB5;generalize (((((((w4.setCell ⟨w2.heap.size,0,none⟩ (.slice X5 s5.blobs.length c5)).setCell ⟨w2.heap.size,1,none⟩ (.slice Y5 s5.ents.length d5)).setCell ⟨w2.heap.size,2,none⟩ (.int .i64 s5.room)).setCell ⟨w2.heap.size,3,none⟩ (.int .i64 s5.clock)).setCell ⟨w2.heap.size+1,0,none⟩ (.int .i64 k5.phase)).setCell ⟨w2.heap.size+1,1,none⟩ (.slice A5 k5.grey.length n5)).setCell ⟨w2.heap.size+1,2,none⟩ (.string ⟨k5.at_.toArray⟩))=w5 at *
 have HB25:=sqH (HB2a.out.trans (hB5.mono HB2a.out.size));clear hB5 HRD HRC HW3 HBW HB2 HB23 HB3 HB1 HB2a;generalize w2.heap.size=g at *
 obtain⟨gx,ex1,ex2,ex3,rx,m,hm,gm,rm,hlen⟩:=V7 HBY.out.g HBY.out.gc (x:=(yn s5 k5).1) rfl;have hrn:=KN X5 c5 Y5 d5 s5 A5 n5 k5 w5 HBY.out.g hRs (by have:=HBY.out.gr;omega) HBY.out.gc hRc;generalize (yn s5 k5).1=x at *
 have HRN:=sqH hrn;have HRX:=sqH rx;have HRM:=sqH rm;have HGX:=sqH gx;have HGM:=sqH gm;have HLN:=sqH (fun L (h:StrL L (Rch m (rts { x with blobs:=m })))=>(hlen L (by rw [←rm];exact h)).symm);have HGS5:=sqH (show ∀W,Below w5.heap.size w5 W→Arr W g 26 [.slice X5 s5.blobs.length c5,.slice Y5 s5.ents.length d5,.int .i64 s5.room,.int .i64 s5.clock]∧RdSt W X5 c5 Y5 d5 s5 from fun W h=>⟨hA5.below h,hRs.below h⟩);obtain⟨q0,q1,q2,q3⟩:=sqC4 hA5;obtain⟨p0,p1,p2⟩:=sqC3 hC5;clear hrn rx rm gx gm hlen hA5 hC5 hRs hRc;go_wp2_with fail;clear q0 q1 q2 q3 p0 p1 p2;refine HRN.out.mono ?_;rintro e_ w6 ⟨v6,u6,t6,rfl,ho6,hl6,hb6⟩;dsimp only;obtain⟨X6,c6,Y6,d6,rfl,rfl,hr6⟩:=ho6.rows;have hB6:=HB25.out.trans (hb6.mono HB25.out.size);have hK6:=hb6;have hbg0:=fun W h=>vf X6 c6 Y6 d6 x W HGX.out (RdSt.below (w:=w6) (w':=W) hr6 h);rw [show(qy x).room=s5.room from ex2,show(qy x).clock=s5.clock from ex3,ex2,ex3]at hbg0;have HBG:=sqH hbg0;obtain⟨w7,hw7⟩:∃W,W=w6.alloc (.cells #[.slice X6 x.blobs.length c6,.slice Y6 x.ents.length d6,.int .i64 s5.room,.int .i64 s5.clock] 26):=⟨_,rfl⟩
 have hA7:Arr w7 w6.heap.size 26 [.slice X6 x.blobs.length c6,.slice Y6 x.ents.length d6,.int .i64 s5.room,.int .i64 s5.clock]:=by rw [hw7];exact Arr.new w6 26 _
 have hb67:Below w6.heap.size w6 w7:=by rw [hw7];exact(Below.refl _ _).alloc (Nat.le_refl _) _
 have hb57:=hb6.trans (hb67.mono hb6.size);have hr7:=hr6.below hb67;obtain⟨gx,hgx⟩:∃g,g=w6.heap.size:=⟨_,rfl⟩
 rw [←hgx]at hA7;have HX7:=sqH (show ∀W,Below w7.heap.size w7 W→Below w5.heap.size w5 W∧Arr W gx 26 [.slice X6 x.blobs.length c6,.slice Y6 x.ents.length d6,.int .i64 s5.room,.int .i64 s5.clock]∧RdSt W X6 c6 Y6 d6 x from fun W h=>⟨hb57.trans (h.mono hb57.size),hA7.below h,hr7.below h⟩);have hbg7:=HBG.out w7 hb67;have HBG7:=sqH hbg7;have HW7:=sqH hw7;have HGX7:=sqH hgx;have HM:=sqH hm;have HEX:=sqH (And.intro ex1 (And.intro ex2 ex3));clear ho6 hl6 HRN hbg0 HBG hw7 hgx hA7 hb67 hb57 hr7 hbg7 hr6 hb6 hB6 hK6 hm ex1 ex2 ex3;go_wp2_with fail;rw [←HW7.out,←HGX7.out];clear HW7;refine HBG7.out.mono ?_;rintro e_ w8 ⟨X8,c8,Y8,d8,A8,n8,rfl,ho8,hl8,hb8⟩;dsimp only;obtain⟨_,_,_,_,e1,e2,hr8⟩:=ho8.rows;obtain⟨_,_,e3,hc8⟩:=RdC.of_own (c:=k9 x) hl8;cases e1;cases e2;cases e3
 have hrn2:∀W,Below w8.heap.size w8 W→Calls Tryz.prog 22 #[.agg #[.slice X8 (qy x).blobs.length c8,.slice Y8 (qy x).ents.length d8,.int .i64 s5.room,.int .i64 s5.clock],coV (.slice A8 (k9 x).grey.length n8) (k9 x)] W fun e w'=>∃X9 c9 Y9 d9 v3,e= .returned (.tuple #[.agg #[.slice X9 m.length c9,.slice Y9 x.ents.length d9,.int .i64 s5.room,.int .i64 s5.clock],v3,.int .i64 0])∧RdSt w' X9 c9 Y9 d9 { x with blobs:=m }∧Below W.heap.size W w':=fun W h=>by
  have h1:=KN X8 c8 Y8 d8 (qy x) A8 n8 (k9 x) W (ku HGX.out) (hr8.below h) (U0 HGX.out) (yJ HGX.out) (hc8.below h);rw [show(qy x).room=s5.room from HEX.out.2.1,show(qy x).clock=s5.clock from HEX.out.2.2]at h1;refine h1.mono ?_;rintro e w' ⟨v1,v2,v3,rfl,ho,_,hb⟩;rw [HM.out]at ho;obtain⟨X9,c9,Y9,d9,rfl,rfl,hr⟩:=ho.rows;refine⟨X9,c9,Y9,d9,v3,?_,hr,hb⟩;show Ending.returned (.tuple #[.agg #[_,_,.int .i64 ((qy x).room:Int),.int .i64 ((qy x).clock:Int)],_,_])=_;rw [show(qy x).room=s5.room from HEX.out.2.1,show(qy x).clock=s5.clock from HEX.out.2.2]
 generalize (qy x).blobs.length=nb at *
 generalize (qy x).ents.length=ne at *
 generalize k9 x=c0 at *
 obtain⟨W9,hW9,hA9,hC9,hb9⟩:=qf w8 26 29 [.slice X8 nb c8,.slice Y8 ne d8,.int .i64 s5.room,.int .i64 s5.clock] [.int .i64 c0.phase,.slice A8 c0.grey.length n8,.string ⟨c0.at_.toArray⟩];have HRN2:=sqH (hrn2 W9 hb9);have HB79:=sqH (hb8.trans (hb9.mono hb8.size));have HW9:=sqH hW9;clear ho8 hl8 hb8 hr8 hc8 hrn2 hW9 hA9 hC9 hb9 HBG7;go_wp2_with fail;rw [←HW9.out];refine HRN2.out.mono ?_;rintro e_ w10 ⟨X9,c9,Y9,d9,v10,rfl,hr10,hb10⟩;dsimp only;have hb710:=HB79.out.trans (hb10.mono HB79.out.size);obtain⟨w11,hw11⟩:∃W,W=w10.alloc (.cells #[.slice X9 m.length c9,.slice Y9 x.ents.length d9,.int .i64 s5.room,.int .i64 s5.clock] 26):=⟨_,rfl⟩
 have hA11:Arr w11 w10.heap.size 26 [.slice X9 m.length c9,.slice Y9 x.ents.length d9,.int .i64 s5.room,.int .i64 s5.clock]:=by rw [hw11];exact Arr.new w10 26 _
 have hb1011:Below w10.heap.size w10 w11:=by rw [hw11];exact(Below.refl _ _).alloc (Nat.le_refl _) _
 have hb711:=hb710.trans (hb1011.mono hb710.size);have hr11:=hr10.below hb1011;obtain⟨gz,hgz⟩:∃g,g=w10.heap.size:=⟨_,rfl⟩
 rw [←hgz]at hA11;have HW11:=sqH hw11;have HGZ:=sqH hgz;have HB711:=sqH hb711;have HA11:=sqH hA11;have HR11:=sqH hr11;clear hb710 hw11 hgz hb711 hA11 hr11 hr10 hb10 hb1011 HRN2;go_wp2_with fail;rw [←HW11.out,←HGZ.out];have hB511:=(HX7.out w11 HB711.out).1;have HBA:=sqH (HB25.out.trans (hB511.mono HB25.out.size));have hs11:∀W,Below w11.heap.size w11 W→Below w7.heap.size w7 W:=fun W h=>HB711.out.trans (h.mono HB711.out.size);have HSB:=sqH (show ∀W,Below w11.heap.size w11 W→(W.cell? ⟨g,0,none⟩=some (.slice X5 s5.blobs.length c5)∧W.cell? ⟨g,1,none⟩=some (.slice Y5 s5.ents.length d5)∧W.cell? ⟨g,2,none⟩=some (.int .i64 s5.room)∧W.cell? ⟨g,3,none⟩=some (.int .i64 s5.clock))∧(W.cell? ⟨gx,0,none⟩=some (.slice X6 x.blobs.length c6)∧W.cell? ⟨gx,1,none⟩=some (.slice Y6 x.ents.length d6)∧W.cell? ⟨gx,2,none⟩=some (.int .i64 s5.room)∧W.cell? ⟨gx,3,none⟩=some (.int .i64 s5.clock))∧(W.cell? ⟨gz,0,none⟩=some (.slice X9 m.length c9)∧W.cell? ⟨gz,1,none⟩=some (.slice Y9 x.ents.length d9)∧W.cell? ⟨gz,2,none⟩=some (.int .i64 s5.room)∧W.cell? ⟨gz,3,none⟩=some (.int .i64 s5.clock)) from fun W h=>by
  obtain⟨h1,h2,_⟩:=HX7.out W (hs11 W h);have h3:=(HGS5.out W h1).1;have h4:=HA11.out.below h;exact⟨⟨h3.cell (k:=0) rfl,h3.cell (k:=1) rfl,h3.cell (k:=2) rfl,h3.cell (k:=3) rfl⟩,⟨h2.cell (k:=0) rfl,h2.cell (k:=1) rfl,h2.cell (k:=2) rfl,h2.cell (k:=3) rfl⟩,h4.cell (k:=0) rfl,h4.cell (k:=1) rfl,h4.cell (k:=2) rfl,h4.cell (k:=3) rfl⟩)
 have hlb5:s5.blobs.length≤24:=HBY.out.g.b.len;have HRS:=sqH (HGS5.out w11 hB511).2;have HRDX:=sqH (HX7.out w11 HB711.out).2.2;have HRDM:=sqH HR11.out;clear hB511 hs11;generalize w11=wA at *
 refine wp_region_held_drew (S:=(fun w'=>(w'.cell? ⟨g,0,none⟩=some (.slice X5 s5.blobs.length c5)∧w'.cell? ⟨g,1,none⟩=some (.slice Y5 s5.ents.length d5)∧w'.cell? ⟨g,2,none⟩=some (.int .i64 s5.room)∧w'.cell? ⟨g,3,none⟩=some (.int .i64 s5.clock))∧(w'.cell? ⟨gx,0,none⟩=some (.slice X6 x.blobs.length c6)∧w'.cell? ⟨gx,1,none⟩=some (.slice Y6 x.ents.length d6)∧w'.cell? ⟨gx,2,none⟩=some (.int .i64 s5.room)∧w'.cell? ⟨gx,3,none⟩=some (.int .i64 s5.clock))∧(w'.cell? ⟨gz,0,none⟩=some (.slice X9 m.length c9)∧w'.cell? ⟨gz,1,none⟩=some (.slice Y9 x.ents.length d9)∧w'.cell? ⟨gz,2,none⟩=some (.int .i64 s5.room)∧w'.cell? ⟨gz,3,none⟩=some (.int .i64 s5.clock)))) (by kernel_rfl) ?_ (fun hHeld=> ?_)
 ·exact HSB.out _ (Below.refl _ wA).drew
 have hB:=(Below.refl wA.heap.size wA).drew;generalize wA.drew=wn0 at *
 refine sqTH 0 ?_;try simp only [sqP]
 refine sqTH 2 ?_;try simp only [sqP]
 refine wpAnyH_ready (rs:= [1]) (by kernel_rfl) (by simp) ?_;refine AllReadyH.cons (o:=_) rfl (fun K hK=> ?_) ?_
 ·
  go_simp;refine(yr X5 Y5 c5 d5 s5 (s5.room:Int) (s5.clock:Int) wn0 HBY.out.g.rts (HRS.out.below hB)).mono ?_;rintro e5 w5 ⟨v5,L1,rfl,hL1,hl1,ho5,hb5⟩;obtain⟨A1,n1,rfl,hc1,hr5⟩:=Rd.of_own' ho5;have HL1:=sqH hL1;clear hL1 ho5;dsimp only;refine qJ hK ?_ (Below wn0.heap.size wn0) (fun W=>Rd W 1 A1 L1.length (strs L1)) ?_ ?_ (fun wn1 hHeld hst hnew=> ?_)
  ·(exact HSB.out _ (hB.trans (Below.mono (show Below wn0.heap.size wn0 _ from by(first | exact hb5 | exact Below.refl _ _)) hB.size)))
  ·(first | exact hb5 | exact Below.refl _ _)
  ·(exact hr5)
  have hB:=hB.trans (hst.mono hB.size);have k1:=hnew;clear hst;clear hK K
  try simp only [sqP]
  refine wpAnyH_ready (rs:= [3]) (by kernel_rfl) (by simp) ?_;refine AllReadyH.cons (o:=_) rfl (fun K hK=> ?_) ?_
  ·
   go_simp;refine(yr X6 Y6 c6 d6 x (s5.room:Int) (s5.clock:Int) wn1 HGX.out.rts (HRDX.out.below hB)).mono ?_;rintro e5 w5 ⟨v5,L2,rfl,hL2,hl2,ho5,hb5⟩;rw [HRX.out]at hL2;obtain rfl:L1=L2:=StrL.uniq HL1.out hL2;obtain⟨A2,n2,rfl,hc2,hr5⟩:=Rd.of_own' ho5;clear ho5 hL2;dsimp only;refine qJ hK ?_ (Below wn1.heap.size wn1) (fun W=>Rd W 1 A2 L1.length (strs L1)) ?_ ?_ (fun wn2 hHeld hst hnew=> ?_)
   ·(exact HSB.out _ (hB.trans (Below.mono (show Below wn1.heap.size wn1 _ from by(first | exact hb5 | exact Below.refl _ _)) hB.size)))
   ·(first | exact hb5 | exact Below.refl _ _)
   ·(exact hr5)
   have hB:=hB.trans (hst.mono hB.size);have k1:=k1.below hst;have k2:=hnew;clear hst;clear hK K
   try simp only [sqP]
   refine wpAnyH_ready (rs:= [4]) (by kernel_rfl) (by simp) ?_;refine AllReadyH.cons (o:=_) rfl (fun K hK=> ?_) ?_
   ·
    go_simp;refine(Un A1 A2 n1 n2 L1 L1 wn2 (by omega) (by omega) k1 k2).mono ?_;rintro e5 w5 ⟨rfl,hb5⟩;rw [decide_eq_true rfl];clear k1 k2;dsimp only;refine qJ hK ?_ (Below wn2.heap.size wn2) (fun W=>True) ?_ ?_ (fun wn3 hHeld hst hnew=> ?_)
    ·(exact HSB.out _ (hB.trans (Below.mono (show Below wn2.heap.size wn2 _ from by(first | exact hb5 | exact Below.refl _ _)) hB.size)))
    ·(first | exact hb5 | exact Below.refl _ _)
    ·(trivial)
    have hB:=hB.trans (hst.mono hB.size);clear hst;clear hK K
    try simp only [sqP]
    refine sqTH 5 ?_;try simp only [sqP]
    refine sqTH 6 ?_;try simp only [sqP]
    refine sqTH 8 ?_;try simp only [sqP]
    refine wpAnyH_ready (rs:= [7]) (by kernel_rfl) (by simp) ?_;refine AllReadyH.cons (o:=_) rfl (fun K hK=> ?_) ?_
    ·
     go_simp;refine(yr X9 Y9 c9 d9 { x with blobs:=m } (s5.room:Int) (s5.clock:Int) wn3 HGM.out.rts (HRDM.out.below hB)).mono ?_;rintro e5 w5 ⟨v5,L3,rfl,hL3,hl3,ho5,hb5⟩;rw [HRM.out,HRX.out]at hL3;obtain rfl:L1=L3:=StrL.uniq HL1.out hL3;obtain⟨A3,n3,rfl,hc3,hr5⟩:=Rd.of_own' ho5;clear ho5 hL3;dsimp only;refine qJ hK ?_ (Below wn3.heap.size wn3) (fun W=>Rd W 1 A3 L1.length (strs L1)) ?_ ?_ (fun wn4 hHeld hst hnew=> ?_)
     ·(exact HSB.out _ (hB.trans (Below.mono (show Below wn3.heap.size wn3 _ from by(first | exact hb5 | exact Below.refl _ _)) hB.size)))
     ·(first | exact hb5 | exact Below.refl _ _)
     ·(exact hr5)
     have hB:=hB.trans (hst.mono hB.size);have k3:=hnew;clear hst;clear hK K
     try simp only [sqP]
     refine wpAnyH_ready (rs:= [9]) (by kernel_rfl) (by simp) ?_;refine AllReadyH.cons (o:=_) rfl (fun K hK=> ?_) ?_
     ·
      go_simp;refine(yr X6 Y6 c6 d6 x (s5.room:Int) (s5.clock:Int) wn4 HGX.out.rts (HRDX.out.below hB)).mono ?_;rintro e5 w5 ⟨v5,L4,rfl,hL4,hl4,ho5,hb5⟩;rw [HRX.out]at hL4;obtain rfl:L1=L4:=StrL.uniq HL1.out hL4;obtain⟨A4,n4,rfl,hc4,hr5⟩:=Rd.of_own' ho5;clear ho5 hL4;dsimp only;refine qJ hK ?_ (Below wn4.heap.size wn4) (fun W=>Rd W 1 A4 L1.length (strs L1)) ?_ ?_ (fun wn5 hHeld hst hnew=> ?_)
      ·(exact HSB.out _ (hB.trans (Below.mono (show Below wn4.heap.size wn4 _ from by(first | exact hb5 | exact Below.refl _ _)) hB.size)))
      ·(first | exact hb5 | exact Below.refl _ _)
      ·(exact hr5)
      have hB:=hB.trans (hst.mono hB.size);have k3:=k3.below hst;have k4:=hnew;clear hst;clear hK K
      try simp only [sqP]
      refine wpAnyH_ready (rs:= [10]) (by kernel_rfl) (by simp) ?_;refine AllReadyH.cons (o:=_) rfl (fun K hK=> ?_) ?_
      ·
       go_simp;refine(Un A3 A4 n3 n4 L1 L1 wn5 (by omega) (by omega) k3 k4).mono ?_;rintro e5 w5 ⟨rfl,hb5⟩;rw [decide_eq_true rfl];clear k3 k4;dsimp only;refine qJ hK ?_ (Below wn5.heap.size wn5) (fun W=>True) ?_ ?_ (fun wn6 hHeld hst hnew=> ?_)
       ·(exact HSB.out _ (hB.trans (Below.mono (show Below wn5.heap.size wn5 _ from by(first | exact hb5 | exact Below.refl _ _)) hB.size)))
       ·(first | exact hb5 | exact Below.refl _ _)
       ·(trivial)
       have hB:=hB.trans (hst.mono hB.size);clear hst;clear hK K
       try simp only [sqP]
       refine sqTH 11 ?_;try simp only [sqP]
       refine sqTH 12 ?_;try simp only [sqP]
       refine sqTH 13 ?_;try simp only [sqP]
       refine sqTH 14 ?_;try simp only [sqP]
       refine sqTH 15 ?_;try simp only [sqP]
       refine sqTH 16 ?_;try simp only [sqP]
       refine wpAnyH_ready (rs:= [17]) (by kernel_rfl) (by simp) ?_;refine AllReadyH.cons (o:=_) rfl (fun K hK=> ?_) ?_
       ·
        go_simp;refine(yr X9 Y9 c9 d9 { x with blobs:=m } (s5.room:Int) (s5.clock:Int) wn6 HGM.out.rts (HRDM.out.below hB)).mono ?_;rintro e5 w5 ⟨v5,L5,rfl,hL5,hl5,ho5,hb5⟩;obtain⟨A5,n5,rfl,hc5,hr5⟩:=Rd.of_own' ho5;have hlen:L5.length=m.length:=HLN.out L5 hL5;rw [hlen];clear ho5 hL5 hr5 hlen hc5 hl5;dsimp only;refine qJ hK ?_ (Below wn6.heap.size wn6) (fun W=>True) ?_ ?_ (fun wn7 hHeld hst hnew=> ?_)
        ·(exact HSB.out _ (hB.trans (Below.mono (show Below wn6.heap.size wn6 _ from by(first | exact hb5 | exact Below.refl _ _)) hB.size)))
        ·(first | exact hb5 | exact Below.refl _ _)
        ·(trivial)
        have hB:=hB.trans (hst.mono hB.size);clear hst;clear hK K
        try simp only [sqP]
        refine sqTH 18 ?_;try simp only [sqP]
        refine sqTH 19 ?_;try simp only [sqP]
        refine sqTH 20 ?_;try simp only [sqP]
        refine sqTH 21 ?_;try simp only [sqP]
        refine wpAnyH_done (by kernel_rfl) ?_ _
        try dsimp only [Exit.then]
        clear hHeld;have hBz:=HBA.out.trans (hB.mono HBA.out.size);clear hB;go_wp2_with fail;go_ret;exact⟨by simp,hBz⟩
       exact AllReadyH.nil
      exact AllReadyH.nil
     exact AllReadyH.nil
    exact AllReadyH.nil
   exact AllReadyH.nil
  exact AllReadyH.nil
 exact AllReadyH.nil
end Go.Proofs.YtnmlbflhnnmoeaaGreat
