/- Lemmas of the proof. Conditions: as stated. -/
import Derived.Test.YtdbbehfbkiiloaaGreatDoorQS25
set_option linter.unusedVariables false
set_option linter.unusedSimpArgs false
set_option maxRecDepth 100000
set_option maxHeartbeats 16000000
namespace Go.Proofs.YtdbbehfbkiiloaaGreatDoor
open Go.RowKit Go.Maps
theorem yS (w:World) (e1 e2:TypeId) (c1 c2:List Value):∃W,W=(w.alloc (.cells c1.toArray e1)).alloc (.cells c2.toArray e2)∧Arr W w.heap.size e1 c1∧Arr W (w.heap.size+1) e2 c2∧Below w.heap.size w W:=by
 have b1:=(Below.refl w.heap.size w).alloc (Nat.le_refl _) (.cells c1.toArray e1);have a2:=Arr.new (w.alloc (.cells c1.toArray e1)) e2 c2;rw [World.size_alloc]at a2;exact⟨_,rfl,(Arr.new w e1 c1).alloc _,a2,b1.alloc b1.size _⟩
theorem uS (A:Option Addr) (c:Nat) (B:Option Addr) (d:Nat) (s:StoP) (Ag:Option Addr) (ng:Nat) (cp:ColP) (w:World) (hg:GoodS s) (hr:RdSt w A c B d s) (hgl:cp.grey.length≤1000) (hgc:GoodC s cp) (hc:RdC w Ag ng cp) :
  Calls Tryz.prog 29 #[.agg #[.slice A s.blobs.length c,.slice B s.ents.length d,.int .i64 s.room,.int .i64 s.clock],coV (.slice Ag cp.grey.length ng) cp] w fun e w'=>e= .returned (.int .i64 0)∧Below w.heap.size w w':=by
 have hlb:s.blobs.length≤24:=hg.b.len;obtain⟨phase,grey,at_⟩:=cp;have h1:=hgc.ph;simp only at h1 hgl;rcases (show phase=0∨phase=1∨phase=2 by omega) with rfl | rfl | rfl
 ·clear h1;obtain⟨w0,hw0,hS,hC,hb0⟩:=yS w 26 29 [.slice A s.blobs.length c,.slice B s.ents.length d,.int .i64 s.room,.int .i64 s.clock] [.int .i64 0,.slice Ag (grey).length ng,.string ⟨(at_).toArray⟩];have hr0:=hr.below hb0;obtain⟨H,hH⟩:∃H,H=w.heap.size:=⟨_,rfl⟩
  have HCK:=sqH (kw A c B d s w0 hg hr0);have HSH:=sqH (fun W (h:Below w0.heap.size w0 W)=>yA Ag ng ⟨0,grey,at_⟩ s W hgl hgc ((hc.below hb0).below h));have HMK:=sqH (fun W (h:Below w0.heap.size w0 W)=>ky A c s.blobs W (by omega) (hr0.below h).b);have HRT:=sqH (fun W (h:Below w0.heap.size w0 W)=>ko A B c d s (s.room:Int) (s.clock:Int) W hg.rts (hr0.below h));have HAL:=sqH (fun W (h:Below w0.heap.size w0 W)=>uR A B c d s (s.room:Int) (s.clock:Int) W hg.rts (hr0.below h));have HDG:=sqH (show ∀x∈s.blobs,x.dig.length≤1000 from fun x hx=>by rw [(hg.b.one x hx).1];have:=zJ (zD x.data);omega);have hcb:=hr0.bc;have hcm:=hr0.bm;have HR0:=sqH hr0.b;have HRC:=sqH (hc.below hb0);have HGD:=sqH hg;have HGC:=sqH hgc;rw [←hH]at hS hC hb0 ⊢
  have hsz:H≤w0.heap.size:=by rw [hH]at hb0 ⊢;exact hb0.size
  have hHl:H+1<w0.heap.size:=hC.lt;obtain⟨x0,x1,x2,x3⟩:=sqC4 hS;rw [hw0,hH]at x0 x1 x2 x3;have HSX:=sqH hS;have HCX:=sqH hC;clear hg hr hgc hc hr0 hS hC;go_enter Tryz.func29,Tryz.ntmps29;go_wp2_with fail;rw [←hw0,←hH];have HH:=sqH hH;clear hw0 hH x0 x1 x2 x3;refine HCK.out.mono ?_;rintro e_ w1 ⟨rfl,hb1⟩;dsimp only;obtain⟨x0,x1,x2⟩:=sqC3 (HCX.out.below hb1);have z0:=(HSX.out.below hb1).cell (k:=0) rfl;go_wp2_with fail;clear x0 x1 x2 z0;refine((HSH.out _ hb1)).mono ?_;rintro e_ w2 ⟨rfl,hb2⟩;dsimp only;have hb12:=hb1.trans (hb2.mono hb1.size);obtain⟨x0,x1,x2⟩:=sqC3 (HCX.out.below hb12);obtain⟨z0,z1,z2,z3⟩:=sqC4 (HSX.out.below hb12);clear hb1 hb2;go_wp2_with fail;clear x0 x1 x2 z0 z1 z2 z3;refine((HMK.out _ hb12)).mono ?_;rintro e_ w3 ⟨v3,rfl,ho3,hb3⟩;dsimp only;have hb13:=hb12.trans (hb3.mono hb12.size);obtain⟨x0,x1,x2⟩:=sqC3 (HCX.out.below hb13);obtain⟨z0,z1,z2,z3⟩:=sqC4 (HSX.out.below hb13);clear hb3;go_wp2_with fail;go_ret;exact⟨rfl,hb0.trans (hb13.mono hsz)⟩
 ·clear h1;obtain⟨w0,hw0,hS,hC,hb0⟩:=yS w 26 29 [.slice A s.blobs.length c,.slice B s.ents.length d,.int .i64 s.room,.int .i64 s.clock] [.int .i64 1,.slice Ag (grey).length ng,.string ⟨(at_).toArray⟩];have hr0:=hr.below hb0;obtain⟨H,hH⟩:∃H,H=w.heap.size:=⟨_,rfl⟩
  have HCK:=sqH (kw A c B d s w0 hg hr0);have HSH:=sqH (fun W (h:Below w0.heap.size w0 W)=>yA Ag ng ⟨1,grey,at_⟩ s W hgl hgc ((hc.below hb0).below h));have HMK:=sqH (fun W (h:Below w0.heap.size w0 W)=>ky A c s.blobs W (by omega) (hr0.below h).b);have HRT:=sqH (fun W (h:Below w0.heap.size w0 W)=>ko A B c d s (s.room:Int) (s.clock:Int) W hg.rts (hr0.below h));have HAL:=sqH (fun W (h:Below w0.heap.size w0 W)=>uR A B c d s (s.room:Int) (s.clock:Int) W hg.rts (hr0.below h));have HDG:=sqH (show ∀x∈s.blobs,x.dig.length≤1000 from fun x hx=>by rw [(hg.b.one x hx).1];have:=zJ (zD x.data);omega);have hcb:=hr0.bc;have hcm:=hr0.bm;have HR0:=sqH hr0.b;have HRC:=sqH (hc.below hb0);have HGD:=sqH hg;have HGC:=sqH hgc;rw [←hH]at hS hC hb0 ⊢
  have hsz:H≤w0.heap.size:=by rw [hH]at hb0 ⊢;exact hb0.size
  have hHl:H+1<w0.heap.size:=hC.lt;obtain⟨x0,x1,x2,x3⟩:=sqC4 hS;rw [hw0,hH]at x0 x1 x2 x3;have HSX:=sqH hS;have HCX:=sqH hC;clear hg hr hgc hc hr0 hS hC;go_enter Tryz.func29,Tryz.ntmps29;go_wp2_with fail;rw [←hw0,←hH];have HH:=sqH hH;clear hw0 hH x0 x1 x2 x3;refine HCK.out.mono ?_;rintro e_ w1 ⟨rfl,hb1⟩;dsimp only;obtain⟨x0,x1,x2⟩:=sqC3 (HCX.out.below hb1);have z0:=(HSX.out.below hb1).cell (k:=0) rfl;go_wp2_with fail;clear x0 x1 x2 z0;refine((HSH.out _ hb1)).mono ?_;rintro e_ w2 ⟨rfl,hb2⟩;dsimp only;have hb12:=hb1.trans (hb2.mono hb1.size);obtain⟨x0,x1,x2⟩:=sqC3 (HCX.out.below hb12);obtain⟨z0,z1,z2,z3⟩:=sqC4 (HSX.out.below hb12);clear hb1 hb2;go_wp2_with fail;clear x0 x1 x2 z0 z1 z2 z3;refine((HMK.out _ hb12)).mono ?_;rintro e_ w3 ⟨v3,rfl,ho3,hb3⟩;dsimp only;have hb13:=hb12.trans (hb3.mono hb12.size);obtain⟨x0,x1,x2⟩:=sqC3 (HCX.out.below hb13);obtain⟨z0,z1,z2,z3⟩:=sqC4 (HSX.out.below hb13);clear hb3;go_wp2_with fail;clear x0 x1 x2 z0 z1 z2 z3;refine((HRT.out _ hb13)).mono ?_;rintro e_ w4 ⟨v4,R4,rfl,hR4,hl4,ho4,hb4⟩;dsimp only;have hb14:=hb13.trans (hb4.mono hb13.size);have ho34:=z6 ho3 hb4;obtain⟨A4,c4,rfl,hc4,hr4⟩:=Rd.of_own' ho4;have HCN:=sqH (uV A4 c4 R4 w4 (by omega) hr4);have HSB:=sqH (K2 HGD.out HGC.out rfl hR4);clear hr4 ho4 ho3 hb4 hR4;go_wp2_with fail;refine HCN.out.mono ?_;rintro e_ w5 ⟨v5,rfl,ho5,hb5⟩;dsimp only;have ho35:=z6 ho34 hb5;have hb15:=hb14.trans (hb5.mono hb14.size);obtain⟨z0,z1,z2,z3⟩:=sqC4 (HSX.out.below hb15);have h04:=hb14.size;have hb63:(s.blobs.length:Int)≤9223372036854775807:=by omega
  have HO34:=sqH ho34;clear ho34 ho35 hb13 hb12 HRT HAL HMK HSH HCK HCN hb15;go_wp2_with fail;clear z0 z1 z2 z3;go_loopg [8,35] s.blobs.length (fun gn u i wr=>∃(k:Nat) (vn:Value),gn=s.blobs.length - k∧vn=u∧i= .int .i64 k∧k≤s.blobs.length∧wr.ownsRow w4.heap.size 9 1 vn (R4++prt (s.blobs.take k)).length (strs (R4++prt (s.blobs.take k)))∧Below w4.heap.size w4 wr)
  case atStart=>exact⟨0,_,rfl,rfl,rfl,by omega,by rw [List.take_zero];simpa [prt] using ho5,hb5⟩
  case round =>
   clear ho5 hb5;obtain⟨k,vn,hgk,rfl,rfl,hk,hown,hbel⟩:=hrel;have HGK:=sqH hgk;clear hgk;have hpl:=Z8 s.blobs k hk;have hb0r:=hb14.trans (hbel.mono hb14.size);by_cases hlt:k<s.blobs.length
   rotate_left
   ·obtain rfl:k=s.blobs.length:=by omega
    have hlbb:decide (s.blobs.length<s.blobs.length)=false:=by simp
    rw [List.take_length]at hown hpl;have hmd:=xZ s.blobs;have hRl:(R4++prt s.blobs).length≤1000:=by rw [List.length_append];omega
    have HDL:=sqH (QK w4.heap.size vn (R4++prt s.blobs) _ (.pointer (some ⟨H,0,none⟩)) (fun d=> !(s.blobs.any (fun b=>b.dig==d))) wr (by omega) hown (uq wr w4 vn.ownBlock H c A s.blobs (R4++prt s.blobs) (by omega) hcb hcm HDG.out (HR0.out.below hb14) ((HSX.out.below hb14).cell (k:=0) rfl) (by omega) (fun W h=>z7 hbel hown (Nat.le_refl _) h)));have HOR:=sqH (z7 hbel hown (Nat.le_refl _) (w':=wr) (World.grownBy.refl _ _));have HBO:=sqH (fun (W:World) (h:wr.grownBy W vn.ownBlock)=>z7 hbel hown (Nat.le_refl _) h);clear hown;go_wp2_with fail;refine HDL.out.mono ?_;rintro e_ w6 ⟨v6,rfl,ho6,hg6⟩;dsimp only;have hb46:=HBO.out w6 hg6;have hb16:=hb14.trans (hb46.mono hb14.size);obtain⟨x0,x1,x2⟩:=sqC3 (HCX.out.below hb16);have hfl:((R4++prt s.blobs).filter (fun d=> !(!(s.blobs.any (fun b=>b.dig==d))))).length≤1000:=Nat.le_trans (List.length_filter_le _ _) hRl;have ho36:=z6 HO34.out hb46;clear hbel hg6 hb0r HDL HOR HBO hpl hRl;generalize hF:((R4++prt s.blobs).filter (fun d=> !(!(s.blobs.any (fun b=>b.dig==d)))))=F at *
    obtain⟨A3,c3,rfl,hc3,hr3⟩:=Rd.of_own' ho36;obtain⟨A6,c6,rfl,hc6,hr6⟩:=Rd.of_own' ho6;have hrc:=HRC.out.below hb16;have hbq:=(Below.refl w6.heap.size w6).alloc (Nat.le_refl _) (.cells #[.slice A3 (mkd s.blobs).length c3,.slice Ag grey.length ng] 27);have hAq:Arr (w6.alloc (.cells #[.slice A3 (mkd s.blobs).length c3,.slice Ag grey.length ng] 27)) w6.heap.size 27 [.slice A3 (mkd s.blobs).length c3,.slice Ag grey.length ng]:=Arr.new w6 27 _;have HCC:=sqH (ur w6.heap.size A3 Ag c3 ng (mkd s.blobs) grey _ hc3 hrc.cap (by omega) (by omega) (hAq.cell (k:=0) rfl) (hAq.cell (k:=1) rfl) (hr3.below hbq) (hrc.rd.below hbq));have HR6:=sqH (hr6.below hbq);have hb1q:=hb16.trans (hbq.mono hb16.size);clear hr3 hr6 hrc hAq ho36 ho6 hbq;go_wp2_with fail;clear x0 x1 x2;generalize (w6.alloc (.cells #[.slice A3 (mkd s.blobs).length c3,.slice Ag grey.length ng] 27))=wq at *
    refine HCC.out.mono ?_;rintro e_ w7 ⟨v7,rfl,ho7,hb7⟩;dsimp only;obtain⟨A7,c7,rfl,hc7,hr7⟩:=Rd.of_own' ho7;have hwt:=xd A6 A7 c6 c7 F (mkd s.blobs++grey) w7 (by omega) (by rw [List.length_append];omega) (HR6.out.below hb7) hr7 HSB.out;rw [List.length_append]at hwt;have HWT:=sqH hwt;clear hwt;have hb17:=hb1q.trans (hb7.mono hb1q.size);clear hr7 ho7 hb7 HR6;go_wp2_with fail;refine HWT.out.mono ?_;rintro e_ w8 ⟨rfl,hb8⟩;dsimp only;have hb18:=hb17.trans (hb8.mono hb17.size);go_wp2_with fail;go_ret;exact⟨rfl,hb0.trans (hb18.mono hsz)⟩
   have hlbb:decide (k<s.blobs.length)=true:=decide_eq_true hlt;have hk0:(0:Int)≤(k:Int):=by omega
   have hk1:(k:Int)<(s.blobs.length:Int):=by omega
   obtain⟨bq,oq,Bq,cq,hA,hbq,d0,d1,d2,d3,hsl⟩:=(HR0.out.below hb0r).blob_at k hlt;subst hA;have HSU:=sqH (vU s.blobs k hlt);have HKL:=sqH hlt;generalize s.blobs[k]=q at *
   generalize hqm:q.mark=qm at *
   have hbox:Arr (wr.alloc (.cells #[.string ⟨q.dig.toArray⟩,.slice Bq q.data.length cq,.int .i64 q.pins,.bool qm] 52)) wr.heap.size 52 [.string ⟨q.dig.toArray⟩,.slice Bq q.data.length cq,.int .i64 q.pins,.bool qm]:=Arr.new wr 52 _;have hbA:=hbel.alloc hbel.size (.cells #[.string ⟨q.dig.toArray⟩,.slice Bq q.data.length cq,.int .i64 q.pins,.bool qm] 52);have hbn:=(Below.refl wr.heap.size wr).alloc (Nat.le_refl _) (.cells #[.string ⟨q.dig.toArray⟩,.slice Bq q.data.length cq,.int .i64 q.pins,.bool qm] 52);have hownA:=hown.alloc (.cells #[.string ⟨q.dig.toArray⟩,.slice Bq q.data.length cq,.int .i64 q.pins,.bool qm] 52);have hslA:=hsl.below hbn;obtain⟨p0,p1,p2,p3⟩:=sqC4 hbox;clear hsl hown hbox hbn hb0r;cases qm with
   | false =>
    have hsu:=HSU.out;rw [if_neg (by decide),List.append_nil]at hsu;have HSV:=sqH hsu;have HOA:=sqH hownA;clear hsu hownA hslA;go_wp2_with fail;go_roundg (s.blobs.length - (k+1))
    case measure=>have:=HGK.out;have:=HKL.out;omega
    case rel=>exact⟨k+1,_,rfl,rfl,by go_num,by have:=HKL.out;omega,by rw [HSV.out];exact HOA.out,hbA⟩
   | true =>
    have hsu:=HSU.out;rw [if_pos rfl]at hsu;have HPT:=x8 ⟨q.dig.toArray⟩ Bq q.data.length cq q.data (q.pins:Int) true _ rfl hslA.cap hslA.max hslA.rd;have hk8:(kC q.data).1.length≤8:=kq _;rw [vL]at HPT;have hkl:(kC q.data).1.length=((kC q.data).1.map (fun p:PartP=>p.dig)).length:=by rw [List.length_map]
    rw [hkl]at HPT hk8;generalize (kC q.data).1.map (fun p:PartP=>p.dig)=ks at *
    have HSV:=sqH hsu;have HPT':=sqH HPT;clear hsu HPT hkl hslA;go_wp2_with fail;clear d0 d1 d2 d3 p0 p1 p2 p3;generalize (wr.alloc (.cells #[.string ⟨q.dig.toArray⟩,.slice Bq q.data.length cq,.int .i64 q.pins,.bool true] 52))=wA at *
    refine(HPT'.out).mono ?_;rintro e_ w8 ⟨v8,rfl,ho8,hb8⟩;dsimp only;obtain⟨A8,c8,rfl,_,hr8⟩:=Rd.of_own' ho8;have hown8:=z6 hownA hb8;have hbA8:=hbA.trans (hb8.mono hbA.size);clear ho8 hb8 hownA hbA HPT';have hrl:(R4++prt (s.blobs.take k)).length≤1000:=by rw [List.length_append];omega
    repeat' (fail_if_success (first|at_builtin|at_make));first|go_values|go_skip|go_guarded|go_step|go_upon|go_back
    refine zu rfl (.tmp 41) (.tmp 43) rfl xk (by rfl) hown8 (by rfl) hr8 (yR _) (by omega) hbA8.size ?_;intro v9 w9 ho9 hg9 hv9;have hb9:=z7 hbA8 hown8 (Nat.le_refl _) hg9;have HO9:=sqH ho9;clear ho9 hg9 hv9 hown8 hr8;go_wp2_with fail;go_roundg (s.blobs.length - (k+1))
    case measure=>have:=HGK.out;have:=HKL.out;omega
    case rel=>exact⟨k+1,_,rfl,rfl,by go_num,by have:=HKL.out;omega,by rw [HSV.out,←List.append_assoc,yQ (R4++prt (s.blobs.take k)) ks,show((R4++prt (s.blobs.take k))++ks).length=(R4++prt (s.blobs.take k)).length+ks.length from List.length_append];exact HO9.out,hb9⟩
 ·clear h1;obtain⟨w0,hw0,hS,hC,hb0⟩:=yS w 26 29 [.slice A s.blobs.length c,.slice B s.ents.length d,.int .i64 s.room,.int .i64 s.clock] [.int .i64 2,.slice Ag (grey).length ng,.string ⟨(at_).toArray⟩];have hr0:=hr.below hb0;obtain⟨H,hH⟩:∃H,H=w.heap.size:=⟨_,rfl⟩
  have HCK:=sqH (kw A c B d s w0 hg hr0);have HSH:=sqH (fun W (h:Below w0.heap.size w0 W)=>yA Ag ng ⟨2,grey,at_⟩ s W hgl hgc ((hc.below hb0).below h));have HMK:=sqH (fun W (h:Below w0.heap.size w0 W)=>ky A c s.blobs W (by omega) (hr0.below h).b);have HRT:=sqH (fun W (h:Below w0.heap.size w0 W)=>ko A B c d s (s.room:Int) (s.clock:Int) W hg.rts (hr0.below h));have HAL:=sqH (fun W (h:Below w0.heap.size w0 W)=>uR A B c d s (s.room:Int) (s.clock:Int) W hg.rts (hr0.below h));have HDG:=sqH (show ∀x∈s.blobs,x.dig.length≤1000 from fun x hx=>by rw [(hg.b.one x hx).1];have:=zJ (zD x.data);omega);have hcb:=hr0.bc;have hcm:=hr0.bm;have HR0:=sqH hr0.b;have HRC:=sqH (hc.below hb0);have HGD:=sqH hg;have HGC:=sqH hgc;rw [←hH]at hS hC hb0 ⊢
  have hsz:H≤w0.heap.size:=by rw [hH]at hb0 ⊢;exact hb0.size
  have hHl:H+1<w0.heap.size:=hC.lt;obtain⟨x0,x1,x2,x3⟩:=sqC4 hS;rw [hw0,hH]at x0 x1 x2 x3;have HSX:=sqH hS;have HCX:=sqH hC;clear hg hr hgc hc hr0 hS hC;go_enter Tryz.func29,Tryz.ntmps29;go_wp2_with fail;rw [←hw0,←hH];have HH:=sqH hH;clear hw0 hH x0 x1 x2 x3;refine HCK.out.mono ?_;rintro e_ w1 ⟨rfl,hb1⟩;dsimp only;obtain⟨x0,x1,x2⟩:=sqC3 (HCX.out.below hb1);have z0:=(HSX.out.below hb1).cell (k:=0) rfl;go_wp2_with fail;clear x0 x1 x2 z0;refine((HSH.out _ hb1)).mono ?_;rintro e_ w2 ⟨rfl,hb2⟩;dsimp only;have hb12:=hb1.trans (hb2.mono hb1.size);obtain⟨x0,x1,x2⟩:=sqC3 (HCX.out.below hb12);obtain⟨z0,z1,z2,z3⟩:=sqC4 (HSX.out.below hb12);clear hb1 hb2;go_wp2_with fail;clear x0 x1 x2 z0 z1 z2 z3;refine((HMK.out _ hb12)).mono ?_;rintro e_ w3 ⟨v3,rfl,ho3,hb3⟩;dsimp only;have hb13:=hb12.trans (hb3.mono hb12.size);obtain⟨x0,x1,x2⟩:=sqC3 (HCX.out.below hb13);obtain⟨z0,z1,z2,z3⟩:=sqC4 (HSX.out.below hb13);clear hb3;go_wp2_with fail;clear x0 x1 x2 z0 z1 z2 z3;refine((HAL.out _ hb13)).mono ?_;rintro e_ w4 ⟨v4,L4,rfl,hL4,hl4,ho4,hb4⟩;dsimp only;have hb14:=hb13.trans (hb4.mono hb13.size);have hml:=xZ s.blobs;obtain⟨A3,c3,rfl,hc3,hr3⟩:=Rd.of_own' (z6 ho3 hb4);obtain⟨A4,c4,rfl,hc4,hr4⟩:=Rd.of_own' ho4;have hwt:=xd A4 A3 c4 c3 L4 (mkd s.blobs) w4 (by omega) (by omega) hr4 hr3 (fun x hx=>HGC.out.sw rfl x ((hL4.mem x).1 hx));have HWT:=sqH hwt;clear hwt hr3 hr4 ho3 ho4 hb4;go_wp2_with fail;refine HWT.out.mono ?_;rintro e_ w5 ⟨rfl,hb5⟩;dsimp only;have hb15:=hb14.trans (hb5.mono hb14.size);go_wp2_with fail;go_ret;exact⟨rfl,hb0.trans (hb15.mono hsz)⟩
structure LoP where
 st:StoP
 co:ColP
 fs:List FlP
structure GoodL (l:LoP):Prop where
 s:GoodS l.st
 c:GoodC l.st l.co
 g:l.co.grey.length≤1000
 f:GoodF l.fs
 no:∀j (h:j<l.fs.length),l.st.ents.findIdx? (fun x=>x.key==l.fs[j].key)=none
structure LoW where
 X:Option Addr
 cX:Nat
 Y:Option Addr
 dY:Nat
 G:Option Addr
 ng:Nat
 F:Option Addr
 cF:Nat
structure RdLo (w:World) (p:LoW) (l:LoP):Prop where
 s:RdSt w p.X p.cX p.Y p.dY l.st
 c:RdC w p.G p.ng l.co
 f:Fls w p.F l.fs
 fc:l.fs.length≤p.cF
 fm:p.cF≤maxLen
theorem RdLo.below {w w':World} {p:LoW} {l:LoP} (h:RdLo w p l) (hb:Below w.heap.size w w'):RdLo w' p l:=⟨h.s.below hb,h.c.below hb,h.f.below hb,h.fc,h.fm⟩
abbrev loC (p:LoW) (l:LoP):List Value:= [.slice p.X l.st.blobs.length p.cX,.slice p.Y l.st.ents.length p.dY,.int .i64 l.st.room,.int .i64 l.st.clock,.int .i64 l.co.phase,.slice p.G l.co.grey.length p.ng,.string ⟨l.co.at_.toArray⟩,.slice p.F l.fs.length p.cF]
abbrev loV (p:LoW) (l:LoP):Value:= .agg #[.slice p.X l.st.blobs.length p.cX,.slice p.Y l.st.ents.length p.dY,.int .i64 l.st.room,.int .i64 l.st.clock,.int .i64 l.co.phase,.slice p.G l.co.grey.length p.ng,.string ⟨l.co.at_.toArray⟩,.slice p.F l.fs.length p.cF]
theorem KD (p:LoW) (l:LoP) (w:World) (hg:GoodL l) (hr:RdLo w p l) :
  Calls Tryz.prog 10 #[loV p l] w fun e w'=>e= .returned (.int .i64 0)∧Below w.heap.size w w':=by
 have HR:=sqH hr;have HG:=sqH hg;clear hr hg;go_enter Tryz.func10,Tryz.ntmps10;obtain⟨X,cX,Y,dY,G,ng,F,cF⟩:=p;obtain⟨s,co,fs⟩:=l;have hbo:Arr (w.alloc (.cells #[.slice X s.blobs.length cX,.slice Y s.ents.length dY,.int .i64 s.room,.int .i64 s.clock,.int .i64 co.phase,.slice G co.grey.length ng,.string ⟨co.at_.toArray⟩,.slice F fs.length cF] 32)) w.heap.size 32 (loC ⟨X,cX,Y,dY,G,ng,F,cF⟩ ⟨s,co,fs⟩):=Arr.new w 32 (loC ⟨X,cX,Y,dY,G,ng,F,cF⟩ ⟨s,co,fs⟩);have hba:=(Below.refl w.heap.size w).alloc (Nat.le_refl _) (.cells #[.slice X s.blobs.length cX,.slice Y s.ents.length dY,.int .i64 s.room,.int .i64 s.clock,.int .i64 co.phase,.slice G co.grey.length ng,.string ⟨co.at_.toArray⟩,.slice F fs.length cF] 32);go_wp2_with fail;generalize w.alloc (.cells #[.slice X s.blobs.length cX,.slice Y s.ents.length dY,.int .i64 s.room,.int .i64 s.clock,.int .i64 co.phase,.slice G co.grey.length ng,.string ⟨co.at_.toArray⟩,.slice F fs.length cF] 32)=w1 at *
 have hr1:=HR.out.below hba;have HCK:=sqH (uS X cX Y dY s G ng co w1 HG.out.s hr1.s HG.out.g HG.out.c hr1.c);have HFK:=sqH (fun W (h:Below w1.heap.size w1 W)=>uZ F cF fs W HG.out.f (hr1.f.below h) hr1.fc hr1.fm);have HR1:=sqH hr1;have HBO:=sqH hbo;have HBA:=sqH hba;have hsz:w.heap.size≤w1.heap.size:=hba.size;clear hr1 hbo hba;refine HCK.out.mono ?_;rintro e_ w2 ⟨rfl,hb2⟩;dsimp only;have x7:=(HBO.out.below hb2).cell (k:=7) rfl;go_wp2_with fail;refine(HFK.out w2 hb2).mono ?_;rintro e_ w3 ⟨rfl,hb3⟩;dsimp only;have hb13:=hb2.trans (hb3.mono hb2.size);clear x7;have x7:=(HBO.out.below hb13).cell (k:=7) rfl;have HB13:=sqH hb13;clear hb2 hb3 hb13 HCK HFK;have hfc:(cF:Int)≤9223372036854775807:=by have h:cF≤maxLen:=HR1.out.fm;unfold maxLen at h;omega
 have hfcl:fs.length≤cF:=HR1.out.fc;have hsl:s.ents.length≤10:=HG.out.s.e.len;have HFE:=sqH (fun W (k:List UInt8) (h:Below w1.heap.size w1 W)=>ZB Y dY s.ents k W (by omega) (HR1.out.s.below h).e);go_wp2_with fail;go_loopg [26] fs.length (fun gn u wr=>∃i:Nat,gn=fs.length - i∧u= .int .i64 i∧i≤fs.length∧Below w1.heap.size w1 wr)
 case atStart=>exact⟨0,rfl,rfl,by omega,HB13.out⟩
 case round =>
  obtain⟨i,hgk,rfl,hi,hbl⟩:=hrel;have HGK:=sqH hgk;clear hgk;by_cases hlt:i<fs.length
  ·have hcc:decide (i<fs.length)=true:=decide_eq_true hlt;have hci:decide ((i:Int)<(fs.length:Int))=true:=decide_eq_true (by omega);obtain⟨b,off,B,cb,rfl,hbb,c0,c1,c2, -⟩:=(HR1.out.f.below hbl).at_ i hlt;have hno:=HG.out.no i hlt;have hi0:(0:Int)≤(i:Int):=by omega
   have hi1:(i:Int)<(fs.length:Int):=by omega
   generalize fs[i]=fl at *
   obtain⟨k,ld,wt⟩:=fl;dsimp only at c0 c1 c2 hno;have hP:Arr (wr.alloc (.cells #[.string ⟨k.toArray⟩,.int .i64 ld,.slice B wt.length cb] 46)) wr.heap.size 46 [.string ⟨k.toArray⟩,.int .i64 ld,.slice B wt.length cb]:=Arr.new wr 46 [.string ⟨k.toArray⟩,.int .i64 ld,.slice B wt.length cb];have hb1:=hbl.alloc hbl.size (.cells #[.string ⟨k.toArray⟩,.int .i64 ld,.slice B wt.length cb] 46);have z0:=hP.cell (k:=0) rfl;have x1:=(HBO.out.below hb1).cell (k:=1) rfl;have HNO:=sqH hno;have HB1:=sqH hb1;clear hno hb1 hP x7;go_wp2_with fail;clear c0 c1 c2;generalize wr.alloc (.cells #[.string ⟨k.toArray⟩,.int .i64 ld,.slice B wt.length cb] 46)=w4 at *
   refine(HFE.out w4 k HB1.out).mono ?_;rintro e_ w5 ⟨rfl,hb5⟩;dsimp only;rw [HNO.out];dsimp only [Qv];go_wp2_with fail;go_roundg (fs.length - (i+1))
   case measure=>have:=HGK.out;omega
   case rel=>exact⟨i+1,rfl,by go_num,by omega,HB1.out.trans (hb5.mono HB1.out.size)⟩
  ·obtain rfl:i=fs.length:=by omega
   have hcc:decide (fs.length<fs.length)=false:=by simp
   have hci:decide ((fs.length:Int)<(fs.length:Int))=false:=by simp
   go_wp2_with fail;go_ret;exact⟨rfl,HBA.out.trans (hbl.mono HBA.out.size)⟩
theorem Z5 {w:World} {base base' size size' n n':Nat} {e e':TypeId} {v v':Value} {xs xs':List Value} (h:w.ownsRow base e size v n xs) (h':w.ownsRow base' e' size' v' n' xs') (hne:e≠e'):∀b,v.ownBlock=some b→v'.ownBlock≠some b:=fun b hb hb'=>by
 rcases h.2 with ⟨rfl,_⟩ | ⟨g,cap,cur,rfl,_,h2,_⟩
 ·cases hb
 ·cases hb
  rcases h'.2 with ⟨rfl,_⟩ | ⟨g',cap',cur',rfl,_,h3,_⟩
  ·cases hb'
  ·cases hb'
   have h4:=Eq.trans (Eq.symm h2) h3
   simp only [Option.some.injEq,Obj.cells.injEq]at h4
   exact hne h4.2.1
structure RunC (w:World) (H K gs gc:Nat) (v1 v2 v3:Value) (Ag:Option Addr) (ng:Nat) (t:StoP) (cc:ColP) (g:List (List UInt8)):Prop where
 bs:Arr w gs 26 [v1,v2,.int .i64 t.room,.int .i64 t.clock]
 bc:Arr w gc 29 [.int .i64 cc.phase,.slice Ag cc.grey.length ng,.string ⟨cc.at_.toArray⟩]
 st:OwSt w H v1 v2 t (fun b=>b<K∨b=gs∨v3.ownBlock=some b)
 gr:RdC w Ag ng cc
 gone:w.ownsRow H 9 1 v3 g.length (strs g)
section
variable {w w':World} {H K gs gc:Nat} {v1 v2 v3 v3':Value} {Ag:Option Addr} {ng:Nat} {t:StoP} {cc:ColP} {g:List (List UInt8)}
theorem RunC.below (h:RunC w H K gs gc v1 v2 v3 Ag ng t cc g) (hb:Below w.heap.size w w'):RunC w' H K gs gc v1 v2 v3 Ag ng t cc g:=⟨h.bs.below hb,h.bc.below hb,h.st.below hb,h.gr.below hb,z6 h.gone hb⟩
theorem RunC.key (h:RunC w H K gs gc v1 v2 v3 Ag ng t cc g) {B:Nat} (hgr:∃vg,w.ownsRow B 9 1 vg cc.grey.length (strs cc.grey)∧vg= .slice Ag cc.grey.length ng) (hB:∀b,v3.ownBlock=some b→b<B) {g':List (List UInt8)} (ho:w'.ownsRow H 9 1 v3' g'.length (strs g')) (hg:w.grownBy w' v3.ownBlock) (hv:v3'.ownBlock=v3.ownBlock∨∃b,v3'.ownBlock=some b∧w.heap.size≤b):RunC w' H K gs gc v1 v2 v3' Ag ng t cc g':=by
 obtain⟨xs,hx⟩:=h.st.b.own_m;obtain⟨ys,hy⟩:=h.st.e.own_m;have n1:=Z5 h.gone hx (by decide);have n2:=Z5 h.gone hy (by decide);have h1:OwSt w H v1 v2 t (fun b=>b<K∨b=gs∨v3'.ownBlock=some b∨v3.ownBlock=some b):=h.st.wider fun b hb=>by
  rcases hb with hb | hb | hb | hb
  ·exact .inl (.inl hb)
  ·exact .inl (.inr (.inl hb))
  ·rcases hv with e | ⟨b',e,hb'⟩
   ·exact .inl (.inr (.inr (by rw [←e];exact hb)))
   ·rw [e]at hb;cases hb;exact .inr hb'
  ·exact .inl (.inr (.inr hb))
 have h2:OwSt w' H v1 v2 t (fun b=>b<K∨b=gs∨v3'.ownBlock=some b∨v3.ownBlock=some b) :=
  ⟨h1.b.other hg (fun b e=>n1 b e) (fun b e=> .inl (.inr (.inr (.inr e)))),h1.e.other hg (fun b e=>n2 b e) (fun b e=> .inl (.inr (.inr (.inr e)))),h1.ne⟩
 obtain⟨vg,hvg,rfl⟩:=hgr;have hvg':w'.ownsRow B 9 1 (.slice Ag cc.grey.length ng) cc.grey.length (strs cc.grey):=hvg.kept hg (by
  rcases hvg.2 with ⟨e2,_⟩ | ⟨g2,cap,cur,e2,h4,_⟩
  ·exact .inl (by rw [e2];rfl)
  ·refine .inr fun e=> ?_;rw [e2]at e;have h3:g2<B:=hB g2 e.symm;omega)
 obtain⟨_,_,e1,hgr2⟩:=RdC.of_own (c:=cc) hvg';cases e1
 exact⟨h.bs.grown hg (zx h.gone h.bs (by decide)),h.bc.grown hg (zx h.gone h.bc (by decide)),h2.mono (fun b hb=>hb.imp id fun h=>h.imp id .inl),hgr2,ho⟩
end
end Go.Proofs.YtdbbehfbkiiloaaGreatDoor
namespace Go.Proofs.YtdbbehfbkiiloaaGreatDoor
open Go.RowKit
theorem KM (s:StoP):GoodC s ⟨0, [], []⟩:=⟨Nat.zero_le _,(fun d hd=>by cases hd),List.Pairwise.nil,.inl rfl,fun _=>rfl,fun _=>rfl,fun h=>(by cases h),fun h=>(by cases h),fun h=>by cases h⟩
theorem Yu (w:World):RdC w none 0 ⟨0, [], []⟩:=⟨⟨rfl,fun h=>absurd h (Nat.lt_irrefl _)⟩,Nat.le_refl _,Nat.zero_le _⟩
end Go.Proofs.YtdbbehfbkiiloaaGreatDoor
