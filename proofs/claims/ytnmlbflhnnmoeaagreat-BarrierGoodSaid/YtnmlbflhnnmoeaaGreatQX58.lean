/- Lemmas of the proof. Conditions: as stated. -/
import Derived.Test.YtnmlbflhnnmoeaaGreatQX57
set_option linter.unusedVariables false
set_option linter.unusedSimpArgs false
set_option maxRecDepth 100000
set_option maxHeartbeats 16000000
namespace Go.Proofs.YtnmlbflhnnmoeaaGreat
open Go.RowKit Go.Maps
theorem Vy (m:Nat) (x:StoP) (d:ColP) (X:Option Addr) (cX:Nat) (Y:Option Addr) (dY:Nat) (Ag:Option Addr) (ng:Nat) (w:World) (hm:m≤31) (hb:Bsy m x d) (hr:RdSt w X cX Y dY x) (hc:RdC w Ag ng d) :
  Calls Tryz.prog 18 #[.agg #[.slice X x.blobs.length cX,.slice Y x.ents.length dY,.int .i64 x.room,.int .i64 x.clock],coV (.slice Ag d.grey.length ng) d] w fun e w'=>e= .returned (.bool true)∧Below w.heap.size w w':=by
 have HCK:=sqH (fun W (h:Below w.heap.size w W)=>ql X cX Y dY x Ag ng d W hb.g (hr.below h) (by have:=hb.gr;omega) hb.gc (hc.below h));have HSK:=sqH (fun W (h:Below w.heap.size w W)=>zF X cX Y dY x W hb.g (hr.below h));obtain⟨W3,hW3,hA,hC,hb3⟩:=qf w 26 29 [.slice X x.blobs.length cX,.slice Y x.ents.length dY,.int .i64 x.room,.int .i64 x.clock] [.int .i64 d.phase,.slice Ag d.grey.length ng,.string ⟨d.at_.toArray⟩];obtain⟨x0,x1,x2,x3⟩:=sqC4 hA;obtain⟨y0,y1,y2⟩:=sqC3 hC;have HA:=sqH hA;have HB3:=sqH hb3;have HW3:=sqH hW3;clear hb hr hc hA hC hb3 hW3;go_enter Tryz.func18,Tryz.ntmps18;go_wp2_with fail;rw [←HW3.out];refine(HCK.out W3 HB3.out).mono ?_;rintro e_ w4 ⟨rfl,hb4⟩;dsimp only;clear x0 x1 x2 x3 y0 y1 y2;have hA4:=HA.out.below hb4;obtain⟨x0,x1,x2,x3⟩:=sqC4 hA4;have HB4:=sqH (HB3.out.trans (hb4.mono HB3.out.size));clear hA4 hb4;go_wp2_with fail;refine(HSK.out w4 HB4.out).mono ?_;rintro e_ w5 ⟨rfl,hb5⟩;dsimp only;go_wp2_with fail;go_ret;exact⟨rfl,HB4.out.trans (hb5.mono HB4.out.size)⟩
theorem JO:Xi 18:=⟨fun _ _=>rfl,fun m x d X cX Y dY Ag ng W hm hb hr hc=>Vy m x d X cX Y dY Ag ng W hm hb hr hc⟩
theorem xQ (A:Option Addr) (n c:Nat) (l:List RawP) (A':Option Addr) (n' c':Nat) (l':List RawP) (w:World) (hl:l.length=n) (hc:n≤c) (hm:c≤maxLen) (hok:∀r∈l,RawOk r) (hr:Rd w 4 A n (rcs l)) (hl':l'.length=n') (hc':n'≤c') (hm':c'≤maxLen) (hok':∀r∈l',RawOk r) (hr':Rd w 4 A' n' (rcs l')) :
  Calls Tryz.prog 3 #[.slice A n c,.slice A' n' c'] w fun e w'=>e= .returned (.bool true)∧Below w.heap.size w w':=by
 have HS:=sqH (uW A n c l w hl hc hm hok hr);have hbs:=jS (x9 l) (Ul l) (KS l);have HGS:=sqH (x9 l);have HBU:=sqH (fun X cX Y dY s Ag ng c W (h:Below w.heap.size w W) hb h1 h2=>KR 18 JO A' n' c' l' X cX Y dY s Ag ng c W W (Below.refl _ _) hl' hc' hm' hok' (hr'.below h) hb h1 h2);clear hok hl hr hc hm hok' hl' hr' hc' hm';generalize sto l=s at *
 have HBS:=sqH hbs;clear hbs;go_enter Tryz.func3,Tryz.ntmps3;go_wp2_with fail;refine HS.out.mono ?_;rintro e_ w1 ⟨v1,v2,rfl,hb,he,hb1⟩;dsimp only;obtain⟨Ab,cb,rfl,hcb1,hcb2,hRb⟩:=hb.rows;obtain⟨Ae,ce,rfl,hce1,hce2,hRe⟩:=he.rows;have HBG:=sqH (vf Ab cb Ae ce s w1 HGS.out ⟨hRb,hRe,hcb1,hcb2,hce1,hce2⟩);have HB1:=sqH hb1;clear hb he hRb hRe hb1 hcb1 hcb2 hce1 hce2 HS;generalize qy s=t at *
 generalize k9 s=k at *
 go_wp2_with fail;refine HBG.out.mono ?_;rintro e_ w2 ⟨Xa,ca,Ya,da,Ga,na,rfl,ho,hl2,hb2⟩;dsimp only;have hrd:RdSt w2 Xa ca Ya da t:=by
  obtain⟨_,_,_,_,e1,e2,h3⟩:=ho.rows;cases e1;cases e2
  exact h3
 have hrc:RdC w2 Ga na k:=by
  obtain⟨_,_,e3,h4⟩:=RdC.of_own (c:=k) hl2;cases e3
  exact h4
 obtain⟨W3,hW3,hA,hC,hbw⟩:=qf w2 26 29 [.slice Xa t.blobs.length ca,.slice Ya t.ents.length da,.int .i64 t.room,.int .i64 t.clock] [.int .i64 k.phase,.slice Ga k.grey.length na,.string ⟨k.at_.toArray⟩];have HMK:=sqH (Qp W3);have HB2:=sqH ((HB1.out.trans (hb2.mono HB1.out.size)).trans (hbw.mono (HB1.out.trans (hb2.mono HB1.out.size)).size));have HRD:=sqH (hrd.below hbw);have HRC:=sqH (hrc.below hbw);have HA:=sqH hA;have HC:=sqH hC;have HW3:=sqH hW3;clear ho hl2 hb2 hrd hrc hA hC hW3 hbw;go_wp2_with fail;rw [←HW3.out];refine HMK.out.mono ?_;rintro e_ w3 ⟨rfl,hb3⟩;dsimp only;obtain⟨x0,x1,x2,x3⟩:=sqC4 (HA.out.below hb3);obtain⟨y0,y1,y2⟩:=sqC3 (HC.out.below hb3);have HB3:=sqH (HB2.out.trans (hb3.mono HB2.out.size));have HBZ:=sqH (HBU.out Xa ca Ya da t Ga na k w3 HB3.out HBS.out (HRD.out.below hb3) (HRC.out.below hb3));clear hb3 HBU HMK HBG;go_wp2_with fail;refine HBZ.out.mono ?_;rintro e_ w4 ⟨X5,c5,Y5,d5,s5,A5,n5,k5,rfl, -, -,hb4⟩;dsimp only;go_wp2_with fail;go_ret;have hf:=HB3.out.trans (hb4.mono HB3.out.size);exact⟨rfl,(hf.alloc hf.size _).alloc (hf.alloc hf.size _).size _⟩
end Go.Proofs.YtnmlbflhnnmoeaaGreat
