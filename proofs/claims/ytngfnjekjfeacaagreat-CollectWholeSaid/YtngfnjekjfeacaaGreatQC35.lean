/- Lemmas of a proof, made shorter by a program. Conditions: none, or as each states. -/
import Derived.Test.YtngfnjekjfeacaaGreatQC32
namespace Go.Proofs.YtngfnjekjfeacaaGreat
open Go.RowKit Go.Maps
set_option linter.unusedVariables false
set_option linter.unusedSimpArgs false
set_option maxRecDepth 100000
structure Whl (w : World) (g3 g8 K : Nat) (room clock : Nat) (X : Option Addr) (cX : Nat) (Y : Option Addr) (dY : Nat) (Ag : Option Addr) (ng : Nat) (t : StoP) (cc : ColP) (X8 : Option Addr) (c8 : Nat) (Y8 : Option Addr) (d8 : Nat) (R : StoP) : Prop where
 bs : Arr w g3 26 [.slice X t.blobs.length cX, .slice Y t.ents.length dY, .int .i64 (room : Int), .int .i64 (clock : Int)]
 bc : Arr w (g3 + 1) 66 [.int .i64 (cc.phase : Int), .slice Ag cc.grey.length ng, .string ⟨cc.at_.toArray⟩]
 st : RdSt w X cX Y dY t
 gr : RdC w Ag ng cc
 b8 : Arr w g8 26 [.slice X8 R.blobs.length c8, .slice Y8 R.ents.length d8, .int .i64 (room : Int), .int .i64 (clock : Int)]
 o8 : OwSt w K (.slice X8 R.blobs.length c8) (.slice Y8 R.ents.length d8) R (fun b => b < K)
theorem Whl.below {w w' : World} {g3 g8 K room clock cX dY ng c8 d8 : Nat} {X Y Ag X8 Y8 : Option Addr} {t R : StoP} {cc : ColP} (h : Whl w g3 g8 K room clock X cX Y dY Ag ng t cc X8 c8 Y8 d8 R) (hb : Below w.heap.size w w') : Whl w' g3 g8 K room clock X cX Y dY Ag ng t cc X8 c8 Y8 d8 R :=
 ⟨h.bs.below hb, h.bc.below hb, h.st.below hb, h.gr.below hb, h.b8.below hb, h.o8.below hb⟩
theorem uu (l : List BlobP) : zH l l = true := yA.2 rfl
theorem uh (l : List EntP) : zT l l = true := yF.2 rfl
set_option maxHeartbeats 16000000 in
theorem ym (A : Option Addr) (n c : Nat) (l : List RawP) (z : Int) (w : World) (hl : l.length = n) (hc : n ≤ c) (hm : c ≤ maxLen) (hok : ∀ r ∈ l, RawOk r) (hr : Rd w 4 A n (rcs l)) (hz0 : -9223372036854775808 ≤ z) (hz1 : z ≤ 9223372036854775807) :
  Calls Tryz.prog 6 #[.slice A n c, .int .i64 z] w fun e w' => e = .returned (.bool true) ∧ Below w.heap.size w w' := by
 have HS := Lib.hid (vp A n c l w hl hc hm hok hr)
 have HGS := Lib.hid (vq l)
 clear hok hl hr hc hm
 generalize sto l = s at *
 have hbl := HGS.out.b.len
 have hel := HGS.out.e.len
 go_enter Tryz.func6, Tryz.ntmps6
 go_wp2_with fail
 refine ((HS.out)).mono ?_; rintro e_ w1 ⟨v1, v2, rfl, hb, he, hb1⟩; dsimp only
 obtain ⟨Ab, cb, rfl, hcb1, hcb2, hRb⟩ := hb.rows
 obtain ⟨Ae, ce, rfl, hce1, hce2, hRe⟩ := he.rows
 have HB1 := Lib.hid (show Calls Tryz.prog 33 #[.agg #[.slice Ab s.blobs.length cb, .slice Ae s.ents.length ce, .int .i64 (s.room : Int), .int .i64 (s.clock : Int)]] w1 fun e w' => ∃ v1 v2 v3, e = .returned (.tuple #[stV v1 v2 s, coV v3 (qE s), .int .i64 0]) ∧ OwSt w' w1.heap.size v1 v2 (qi s) (fun b => b < w1.heap.size) ∧ w'.ownsRow w1.heap.size 9 1 v3 (qE s).grey.length (strs (qE s).grey) ∧ Below w1.heap.size w1 w' from yU Ab cb Ae ce s w1 HGS.out ⟨hRb, hRe, hcb1, hcb2, hce1, hce2⟩)
 have H1 := Lib.hid (kW HGS.out)
 have H2 := Lib.hid (kX HGS.out)
 have H3 := Lib.hid (vI HGS.out)
 have hrc0 : (qi s).room = s.room ∧ (qi s).clock = s.clock := ⟨rfl, rfl⟩
 have HRC0 := Lib.hid hrc0
 clear hb he hRb hRe hrc0
 generalize qi s = t0 at *
 generalize qE s = c0 at *
 go_wp2_with fail
 refine ((HB1.out)).mono ?_; rintro e_ w2 ⟨v1, v2, v3, rfl, ho2, hl2, hb2⟩; dsimp only
 obtain ⟨X2, c2, Y2, d2, e1, e2, hr2⟩ := ho2.rows
 obtain ⟨A3, n3, e3, hc3⟩ := RdC.of_own (c := c0) hl2
 subst e1 e2 e3
 have hb12 := hb1.trans (hb2.mono hb1.size)
 obtain ⟨W3, hW3, hA3, hC3, hb3⟩ := zP w2 26 66 [.slice X2 t0.blobs.length c2, .slice Y2 t0.ents.length d2, .int .i64 (s.room : Int), .int .i64 (s.clock : Int)] [.int .i64 (c0.phase : Int), .slice A3 c0.grey.length n3, .string ⟨c0.at_.toArray⟩]
 have hr3 := hr2.below hb3
 have hc4 := hc3.below hb3
 have hb13 := hb12.trans (hb3.mono hb12.size)
 obtain ⟨g3, hg3⟩ : ∃ g, g = w2.heap.size := ⟨_, rfl⟩
 have hs2 : w.heap.size ≤ g3 := by have := hb12.size; omega
 rw [← hg3] at hA3 hC3
 have hrn := vK X2 c2 Y2 d2 t0 A3 n3 c0 W3 H1.out hr3 H3.out H2.out hc4
 have HRG := Lib.hid (jJ _ t0 c0 H1.out H2.out (Nat.le_refl _))
 obtain ⟨R, hR⟩ : ∃ R, R = (kx t0 c0).1 := ⟨_, rfl⟩
 simp only [stV] at hrn
 rw [HRC0.out.1, HRC0.out.2] at hrn
 rw [← hR] at hrn HRG
 have HR := Lib.hid hR
 generalize hG : (kx t0 c0).2 = G at *
 have HRN := Lib.hid hrn
 have x0 := (hA3).cell (k := 0) rfl
 have x1 := (hA3).cell (k := 1) rfl
 have x2 := (hA3).cell (k := 2) rfl
 have x3 := (hA3).cell (k := 3) rfl
 have y0 := (hC3).cell (k := 0) rfl
 have y1 := (hC3).cell (k := 1) rfl
 have y2 := (hC3).cell (k := 2) rfl
 have HW3 := Lib.hid hW3
 have HG3 := Lib.hid hg3
 rw [hW3] at x0 x1 x2 x3 y0 y1 y2
 clear ho2 hl2 hr2 hc3 hb2 hb1 hb12 hb3 HB1 hR hG hrn hW3 hg3
 go_wp2_with fail
 rw [← HW3.out, ← HG3.out]
 clear x0 x1 x2 x3 y0 y1 y2
 refine ((HRN.out)).mono ?_; rintro e_ w4 ⟨v4, v5, v6, rfl, ho4, -, hb4⟩; dsimp only
 obtain ⟨X8, c8, Y8, d8, e1, e2, -⟩ := ho4.rows
 subst e1 e2
 have hs3 := hA3.lt
 have hs3' := hC3.lt
 have hb14 := hb13.trans (hb4.mono hb13.size)
 obtain ⟨Wa, hWa⟩ : ∃ W, W = w4.alloc (.cells #[.slice X8 R.blobs.length c8, .slice Y8 R.ents.length d8, .int .i64 (s.room : Int), .int .i64 (s.clock : Int)] 26) := ⟨_, rfl⟩
 have hA8 : Arr Wa w4.heap.size 26 [.slice X8 R.blobs.length c8, .slice Y8 R.ents.length d8, .int .i64 (s.room : Int), .int .i64 (s.clock : Int)] := by rw [hWa]; exact Arr.new w4 26 _
 have hal : Below w4.heap.size w4 Wa := by rw [hWa]; exact (Below.refl w4.heap.size w4).alloc (Nat.le_refl _) _
 have hb34 := hb4.trans (hal.mono hb4.size)
 have hb15 := hb14.trans (hal.mono hb14.size)
 obtain ⟨g8, hg8⟩ : ∃ g, g = w4.heap.size := ⟨_, rfl⟩
 rw [← hg8] at hA8
 have hs38 : W3.heap.size ≤ g8 := by have := hb4.size; omega
 have HRO := Lib.hid (show ∀ W, Below Wa.heap.size Wa W → Whl W g3 g8 W3.heap.size s.room s.clock X2 c2 Y2 d2 A3 n3 t0 c0 X8 c8 Y8 d8 R from fun W h => ⟨(hA3.below hb34).below h, (hC3.below hb34).below h, (hr3.below hb34).below h, (hc4.below hb34).below h, hA8.below h, (ho4.below hal).below h⟩)
 have HMK := Lib.hid (vF Wa)
 have HP1 := Lib.hid (fun w' => zR z 60 60 rfl w' hz0 hz1 (by omega) (by omega))
 have hpk := kC z (m := 60) (by omega)
 have HWa := Lib.hid hWa
 have HG8 := Lib.hid hg8
 clear hA3 hC3 hr3 hc4 hb13 ho4 hb4 hA8 hal hb34 hb14 hWa hg8 HRN
 generalize pk z 60 = p at *
 go_wp2_with fail
 rw [← HWa.out, ← HG8.out]
 refine ((HMK.out)).mono ?_; rintro e_ w5 ⟨rfl, hb5⟩; dsimp only
 have hb16 := hb15.trans (hb5.mono hb15.size)
 have HRO5 := Lib.hid (HRO.out _ hb5)
 clear hb5 hb15 HRO HMK HWa HG8
 go_wp2_with fail
 refine (((HP1.out w5))).mono ?_; rintro e_ w6 ⟨rfl, rfl⟩; dsimp only
 go_wp2_with fail
 have hs5 : w.heap.size ≤ w5.heap.size := hb16.size
 go_loopg [44] (p - 0) (fun gn u wr => ∃ (j : Nat) (t : StoP) (cc : ColP) (X : Option Addr) (cX : Nat) (Y : Option Addr) (dY : Nat) (Ag : Option Addr) (ng : Nat), gn = p - j ∧ u = .int .i64 (j : Int) ∧ j ≤ p ∧ Whl wr g3 g8 W3.heap.size s.room s.clock X cX Y dY Ag ng t cc X8 c8 Y8 d8 R ∧ GoodS t ∧ GoodC t cc ∧ 8 * unm t.blobs + cc.grey.length ≤ 1000 ∧ (kx t cc).1 = R ∧ t.room = s.room ∧ t.clock = s.clock ∧ Below w.heap.size w wr)
 case atStart => exact ⟨0, t0, c0, X2, c2, Y2, d2, A3, n3, rfl, rfl, by omega, HRO5.out, H1.out, H2.out, H3.out, HR.out.symm, HRC0.out.1, HRC0.out.2, hb16⟩
 case round =>
  obtain ⟨j, t, cc, X, cX, Y, dY, Ag, ng, hgn, rfl, hj, ro, hg, hgc, hgl, hrs, hrm, hck, hbk⟩ := hrel
  have HGN := Lib.hid hgn
  have RO := Lib.hid ro
  have HG := Lib.hid hg
  have HGC := Lib.hid hgc
  have HGL := Lib.hid hgl
  have HRS := Lib.hid hrs
  have HRM := Lib.hid hrm
  have HCK := Lib.hid hck
  have HHB := Lib.hid hbk
  have htb := hg.b.len
  have hte := hg.e.len
  clear hgn ro hg hgc hgl hrs hrm hck hbk HRO5 H1 H2 H3 HR hb16 hs5
  by_cases hlt : j < p
  rotate_left
  ·have hlb : decide ((j : Int) < (p : Int)) = false := decide_eq_false (by omega)
   have hlb2 : decide (j < p) = false := decide_eq_false hlt
   have hrn := vK X cX Y dY t Ag ng cc wr HG.out RO.out.st HGL.out HGC.out RO.out.gr
   simp only [stV, coV] at hrn
   rw [HRM.out, HCK.out] at hrn
   rw [HRS.out] at hrn
   have x0 := (RO.out.bs).cell (k := 0) rfl
   have x1 := (RO.out.bs).cell (k := 1) rfl
   have x2 := (RO.out.bs).cell (k := 2) rfl
   have x3 := (RO.out.bs).cell (k := 3) rfl
   have y0 := (RO.out.bc).cell (k := 0) rfl
   have y1 := (RO.out.bc).cell (k := 1) rfl
   have y2 := (RO.out.bc).cell (k := 2) rfl
   have HRN9 := Lib.hid hrn
   clear hrn
   go_wp2_with fail
   clear x0 x1 x2 x3 y0 y1 y2
   refine ((HRN9.out)).mono ?_; rintro e_ w9 ⟨v7, v8, v9, rfl, ho9, -, hb9⟩; dsimp only
   obtain ⟨X9, c9, Y9, d9, e1, e2, hr9⟩ := ho9.rows
   subst e1 e2
   have hbl9 := HHB.out.trans (hb9.mono HHB.out.size)
   obtain ⟨Wa, hWa⟩ : ∃ W, W = w9.alloc (.cells #[.slice X9 R.blobs.length c9, .slice Y9 R.ents.length d9, .int .i64 (s.room : Int), .int .i64 (s.clock : Int)] 26) := ⟨_, rfl⟩
   have hAa : Arr Wa w9.heap.size 26 [.slice X9 R.blobs.length c9, .slice Y9 R.ents.length d9, .int .i64 (s.room : Int), .int .i64 (s.clock : Int)] := by rw [hWa]; exact Arr.new w9 26 _
   have hal : Below w9.heap.size w9 Wa := by rw [hWa]; exact (Below.refl w9.heap.size w9).alloc (Nat.le_refl _) _
   have hba := hbl9.trans (hal.mono hbl9.size)
   have hA8 := (RO.out.b8.below hb9).below hal
   have hra := hr9.below hal
   obtain ⟨_, _, _, _, e1, e2, hr8⟩ := (((RO.out.o8).below hb9).below hal).rows
   cases e1; cases e2
   have hgr := HRG.out.1
   have hss := qR X8 X9 Y8 Y9 c8 c9 d8 d9 R.blobs R.blobs R.ents R.ents (s.room : Int) (s.clock : Int) Wa (by have := hgr.b.len; omega) (by have := hgr.b.len; omega) (fun b hb => by have := (hgr.b.one b hb).2.1; omega) (fun b hb => by have := (hgr.b.one b hb).2.1; omega) (by have := hgr.e.len; omega) (by have := hgr.e.len; omega) (fun x hx => by have := (zi (hgr.e.one x hx).2.1).1; omega) (fun x hx => by have := (zi (hgr.e.one x hx).2.1).1; omega) hr8.b hra.b hr8.e hra.e
   rw [uu, uh] at hss
   have HSS := Lib.hid hss
   have HWa := Lib.hid hWa
   have HBA := Lib.hid hba
   obtain ⟨ga, hga⟩ : ∃ g, g = w9.heap.size := ⟨_, rfl⟩
   rw [← hga] at hAa
   have HGA := Lib.hid hga
   have x0 := hAa.cell (k := 0) rfl
   have x1 := hAa.cell (k := 1) rfl
   have x2 := hAa.cell (k := 2) rfl
   have x3 := hAa.cell (k := 3) rfl
   have y0 := hA8.cell (k := 0) rfl
   have y1 := hA8.cell (k := 1) rfl
   have y2 := hA8.cell (k := 2) rfl
   have y3 := hA8.cell (k := 3) rfl
   rw [hWa] at x0 x1 x2 x3 y0 y1 y2 y3
   clear ho9 hb9 hr9 hbl9 hal hba hA8 hra hr8 hgr hss hAa hga HRN9 hWa
   go_wp2_with fail
   rw [← HWa.out]
   clear x0 x1 x2 x3 y0 y1 y2 y3
   refine ((HSS.out)).mono ?_; rintro e_ wb ⟨rfl, hbb⟩; dsimp only
   have HBB := Lib.hid (HBA.out.trans (hbb.mono HBA.out.size))
   clear hbb
   go_wp2_with fail
   go_ret
   exact ⟨by simp, HBB.out⟩
  have hlb : decide ((j : Int) < (p : Int)) = true := decide_eq_true (by omega)
  have hlb2 : decide (j < p) = true := decide_eq_true hlt
  have x0 := (RO.out.bs).cell (k := 0) rfl
  have x1 := (RO.out.bs).cell (k := 1) rfl
  have x2 := (RO.out.bs).cell (k := 2) rfl
  have x3 := (RO.out.bs).cell (k := 3) rfl
  have y0 := (RO.out.bc).cell (k := 0) rfl
  have y1 := (RO.out.bc).cell (k := 1) rfl
  have y2 := (RO.out.bc).cell (k := 2) rfl
  by_cases h0 : cc.phase = 0
  ·have ht0 := jG X cX Y dY t Ag ng cc wr HG.out RO.out.st h0 (by have := HGL.out; omega) HGC.out RO.out.gr
   rw [HRM.out, HCK.out] at ht0
   have HT0 := Lib.hid ht0
   have H0 := Lib.hid h0
   clear ht0 h0
   go_wp2_with fail
   clear x0 x1 x2 x3 y0 y1 y2
   refine ((HT0.out)).mono ?_; rintro e_ w6 ⟨rfl, hb6⟩; dsimp only
   obtain ⟨W7, hW7, -, -, hb7⟩ := zP w6 26 66 [.slice none 0 0, .slice none 0 0, .int .i64 0, .int .i64 0] [.int .i64 0, .slice none 0 0, .string ⟨#[]⟩]
   have hb67 := hb6.trans (hb7.mono hb6.size)
   have g1 : ((cc.phase : Int) == 0) = true := by rw [H0.out]; rfl
   have ro9 := RO.out.below hb67
   have hbk9 := HHB.out.trans (hb67.mono HHB.out.size)
   have HW7 := Lib.hid hW7
   clear RO HHB hW7 hb7 hb6 hb67 HT0
   have RO := Lib.hid ro9
   have HHB := Lib.hid hbk9
   clear ro9 hbk9
   have hrn := vK X cX Y dY t Ag ng cc W7 HG.out RO.out.st HGL.out HGC.out RO.out.gr
   simp only [stV, coV] at hrn
   rw [HRM.out, HCK.out] at hrn
   rw [HRS.out] at hrn
   have x0 := (RO.out.bs).cell (k := 0) rfl
   have x1 := (RO.out.bs).cell (k := 1) rfl
   have x2 := (RO.out.bs).cell (k := 2) rfl
   have x3 := (RO.out.bs).cell (k := 3) rfl
   have y0 := (RO.out.bc).cell (k := 0) rfl
   have y1 := (RO.out.bc).cell (k := 1) rfl
   have y2 := (RO.out.bc).cell (k := 2) rfl
   have HRN9 := Lib.hid hrn
   clear hrn
   rw [HW7.out] at x0 x1 x2 x3 y0 y1 y2
   go_wp2_with fail
   rw [← HW7.out]
   clear x0 x1 x2 x3 y0 y1 y2
   refine ((HRN9.out)).mono ?_; rintro e_ w9 ⟨v7, v8, v9, rfl, ho9, -, hb9⟩; dsimp only
   obtain ⟨X9, c9, Y9, d9, e1, e2, hr9⟩ := ho9.rows
   subst e1 e2
   have hbl9 := HHB.out.trans (hb9.mono HHB.out.size)
   obtain ⟨Wa, hWa⟩ : ∃ W, W = w9.alloc (.cells #[.slice X9 R.blobs.length c9, .slice Y9 R.ents.length d9, .int .i64 (s.room : Int), .int .i64 (s.clock : Int)] 26) := ⟨_, rfl⟩
   have hAa : Arr Wa w9.heap.size 26 [.slice X9 R.blobs.length c9, .slice Y9 R.ents.length d9, .int .i64 (s.room : Int), .int .i64 (s.clock : Int)] := by rw [hWa]; exact Arr.new w9 26 _
   have hal : Below w9.heap.size w9 Wa := by rw [hWa]; exact (Below.refl w9.heap.size w9).alloc (Nat.le_refl _) _
   have hba := hbl9.trans (hal.mono hbl9.size)
   have hA8 := (RO.out.b8.below hb9).below hal
   have hra := hr9.below hal
   obtain ⟨_, _, _, _, e1, e2, hr8⟩ := (((RO.out.o8).below hb9).below hal).rows
   cases e1; cases e2
   have hgr := HRG.out.1
   have hss := qR X8 X9 Y8 Y9 c8 c9 d8 d9 R.blobs R.blobs R.ents R.ents (s.room : Int) (s.clock : Int) Wa (by have := hgr.b.len; omega) (by have := hgr.b.len; omega) (fun b hb => by have := (hgr.b.one b hb).2.1; omega) (fun b hb => by have := (hgr.b.one b hb).2.1; omega) (by have := hgr.e.len; omega) (by have := hgr.e.len; omega) (fun x hx => by have := (zi (hgr.e.one x hx).2.1).1; omega) (fun x hx => by have := (zi (hgr.e.one x hx).2.1).1; omega) hr8.b hra.b hr8.e hra.e
   rw [uu, uh] at hss
   have HSS := Lib.hid hss
   have HWa := Lib.hid hWa
   have HBA := Lib.hid hba
   obtain ⟨ga, hga⟩ : ∃ g, g = w9.heap.size := ⟨_, rfl⟩
   rw [← hga] at hAa
   have HGA := Lib.hid hga
   have x0 := hAa.cell (k := 0) rfl
   have x1 := hAa.cell (k := 1) rfl
   have x2 := hAa.cell (k := 2) rfl
   have x3 := hAa.cell (k := 3) rfl
   have y0 := hA8.cell (k := 0) rfl
   have y1 := hA8.cell (k := 1) rfl
   have y2 := hA8.cell (k := 2) rfl
   have y3 := hA8.cell (k := 3) rfl
   rw [hWa] at x0 x1 x2 x3 y0 y1 y2 y3
   clear ho9 hb9 hr9 hbl9 hal hba hA8 hra hr8 hgr hss hAa hga HRN9 hWa
   go_wp2_with fail
   rw [← HWa.out]
   clear x0 x1 x2 x3 y0 y1 y2 y3
   refine ((HSS.out)).mono ?_; rintro e_ wb ⟨rfl, hbb⟩; dsimp only
   have HBB := Lib.hid (HBA.out.trans (hbb.mono HBA.out.size))
   clear hbb
   go_wp2_with fail
   go_ret
   exact ⟨by simp, HBB.out⟩
  ·have hp : cc.phase = 1 ∨ cc.phase = 2 := by have := HGC.out.ph; omega
   have hms := vC X cX Y dY t Ag ng cc wr HG.out RO.out.st hp (by have := HGL.out; omega) HGC.out RO.out.gr
   obtain ⟨k1, k2, -⟩ := xx t cc
   simp only [stV, coV] at hms
   rw [HRM.out] at hms k1
   rw [HCK.out] at hms k2
   obtain ⟨m1, m2, -⟩ := yf HG.out HGC.out hp
   have m3 := xg t cc
   have m5 := congrArg Prod.fst (qS (s := t) hp)
   simp only at m5
   rw [HRS.out] at m5
   generalize (zm t cc).1 = t' at *
   generalize (zm t cc).2.1 = cc' at *
   generalize (zm t cc).2.2 = dd at *
   generalize hds : (⟨dd.toArray⟩ : ByteArray) = ds at *
   clear hds
   have HMS := Lib.hid hms
   have M1 := Lib.hid m1
   have M2 := Lib.hid m2
   have M3 := Lib.hid m3
   have M5 := Lib.hid m5
   have KK := Lib.hid (And.intro k1 k2)
   clear hms hp h0 k1 k2 m1 m2 m3 m5
   go_wp2_with fail
   clear x0 x1 x2 x3 y0 y1 y2
   refine ((HMS.out)).mono ?_; rintro e_ w6 ⟨v5, v6, v7, rfl, ho5, hl5, hb5⟩; dsimp only
   obtain ⟨X5, c5, Y5, d5, e1, e2, hr5⟩ := ho5.rows
   obtain ⟨A7, n7, e3, hc7⟩ := RdC.of_own (c := cc') hl5
   subst e1 e2 e3
   have hs5 := hb5.size
   obtain ⟨W6, hW6, h6, h7, hb6⟩ := zP w6 26 66 [.slice X5 t'.blobs.length c5, .slice Y5 t'.ents.length d5, .int .i64 (s.room : Int), .int .i64 (s.clock : Int)] [.int .i64 (cc'.phase : Int), .slice A7 cc'.grey.length n7, .string ⟨cc'.at_.toArray⟩]
   have ho6 := ho5.below hb6
   have hl6 := z6 hl5 hb6
   have hb56 := hb5.trans (hb6.mono hs5)
   have ro6 := RO.out.below hb56
   have hbB := HHB.out.trans (hb56.mono HHB.out.size)
   have hA6 := ro6.bs
   have hC6 := ro6.bc
   have hgw : g3 + 1 < wr.heap.size := RO.out.bc.lt
   have hg8w : g8 < wr.heap.size := RO.out.b8.lt
   have hn3 : g3 ≠ g3 + 1 := by omega
   have n8a : g8 ≠ g3 := by omega
   have n8b : g8 ≠ g3 + 1 := by omega
   have HF1 := Lib.hid (qq (g := g3) (h := g3 + 1) (u0 := .slice X5 t'.blobs.length c5) (u1 := .slice Y5 t'.ents.length d5) (u2 := .int .i64 (s.room : Int)) (u3 := .int .i64 (s.clock : Int)) (x0 := .int .i64 (cc'.phase : Int)) (x1 := .slice A7 cc'.grey.length n7) (x2 := .string ⟨cc'.at_.toArray⟩) hA6 hn3)
   have HF2 := Lib.hid (qp (g := g3) (h := g3 + 1) (u0 := .slice X5 t'.blobs.length c5) (u1 := .slice Y5 t'.ents.length d5) (u2 := .int .i64 (s.room : Int)) (u3 := .int .i64 (s.clock : Int)) (x0 := .int .i64 (cc'.phase : Int)) (x1 := .slice A7 cc'.grey.length n7) (x2 := .string ⟨cc'.at_.toArray⟩) hC6 hn3)
   have HF3 := Lib.hid (zW (g := g3) (h := g3 + 1) (u0 := .slice X5 t'.blobs.length c5) (u1 := .slice Y5 t'.ents.length d5) (u2 := .int .i64 (s.room : Int)) (u3 := .int .i64 (s.clock : Int)) (x0 := .int .i64 (cc'.phase : Int)) (x1 := .slice A7 cc'.grey.length n7) (x2 := .string ⟨cc'.at_.toArray⟩) ho6 (by omega) (by omega) (ho6.nb hA6 (by decide) (by decide)).1 (ho6.nb hA6 (by decide) (by decide)).2 (ho6.nb hC6 (by decide) (by decide)).1 (ho6.nb hC6 (by decide) (by decide)).2)
   have HF4 := Lib.hid (zY (g := g3) (h := g3 + 1) (u0 := .slice X5 t'.blobs.length c5) (u1 := .slice Y5 t'.ents.length d5) (u2 := .int .i64 (s.room : Int)) (u3 := .int .i64 (s.clock : Int)) (x0 := .int .i64 (cc'.phase : Int)) (x1 := .slice A7 cc'.grey.length n7) (x2 := .string ⟨cc'.at_.toArray⟩) hl6 (zn hl6 hA6 (by decide)) (zn hl6 hC6 (by decide)))
   have HF5 := Lib.hid (zy (g := g3) (h := g3 + 1) (u0 := .slice X5 t'.blobs.length c5) (u1 := .slice Y5 t'.ents.length d5) (u2 := .int .i64 (s.room : Int)) (u3 := .int .i64 (s.clock : Int)) (x0 := .int .i64 (cc'.phase : Int)) (x1 := .slice A7 cc'.grey.length n7) (x2 := .string ⟨cc'.at_.toArray⟩) hbB (by omega) (by omega))
   have HF6 := Lib.hid (zW (g := g3) (h := g3 + 1) (u0 := .slice X5 t'.blobs.length c5) (u1 := .slice Y5 t'.ents.length d5) (u2 := .int .i64 (s.room : Int)) (u3 := .int .i64 (s.clock : Int)) (x0 := .int .i64 (cc'.phase : Int)) (x1 := .slice A7 cc'.grey.length n7) (x2 := .string ⟨cc'.at_.toArray⟩) ro6.o8 (by omega) (by omega) (ro6.o8.nb hA6 (by decide) (by decide)).1 (ro6.o8.nb hA6 (by decide) (by decide)).2 (ro6.o8.nb hC6 (by decide) (by decide)).1 (ro6.o8.nb hC6 (by decide) (by decide)).2)
   have HF7 := Lib.hid (Z7 (g := g3) (h := g3 + 1) (.slice X5 t'.blobs.length c5) (.slice Y5 t'.ents.length d5) (.int .i64 (s.room : Int)) (.int .i64 (s.clock : Int)) (.int .i64 (cc'.phase : Int)) (.slice A7 cc'.grey.length n7) (.string ⟨cc'.at_.toArray⟩) ro6.b8 n8a n8b)
   have f0 := hA6.frozen 0
   have f1 := hA6.frozen 1
   have f2 := hA6.frozen 2
   have f3 := hA6.frozen 3
   have y0 := hA6.cell (k := 0) rfl
   have y1 := hA6.cell (k := 1) rfl
   have y2 := hA6.cell (k := 2) rfl
   have y3 := hA6.cell (k := 3) rfl
   have e0 := hC6.frozen 0
   have e1 := hC6.frozen 1
   have e2 := hC6.frozen 2
   have x0 := hC6.cell (k := 0) rfl
   have x1 := hC6.cell (k := 1) rfl
   have x2 := hC6.cell (k := 2) rfl
   obtain ⟨g6, hg6⟩ : ∃ g, g = w6.heap.size := ⟨_, rfl⟩
   rw [← hg6] at h6 h7
   have s0 := h6.cell (k := 0) rfl
   have s1 := h6.cell (k := 1) rfl
   have s2 := h6.cell (k := 2) rfl
   have s3 := h6.cell (k := 3) rfl
   have t0' := h7.cell (k := 0) rfl
   have t1 := h7.cell (k := 1) rfl
   have t2 := h7.cell (k := 2) rfl
   have n1 : ¬ (g6 = g3) := by omega
   have n2 : ¬ (g6 + 1 = g3) := by omega
   have n3 : ¬ (g6 = g3 + 1) := by omega
   have HG6 := Lib.hid hg6
   have HW6 := Lib.hid hW6
   clear hA6 hC6 ho6 hl6 hbB hb56 h6 h7 ho5 hl5 hb5 hb6 hr5 hc7 ro6 hW6 hg6 HMS RO HHB
   repeat' ((fail_if_success (with_reducible refine at_reg_ 11 ?_)); (fail_if_success (with_reducible refine at_sreg_ 11 ?_)); (fail_if_success (with_reducible refine at_ssreg_ 11 ?_)); (fail_if_success at_builtin); (fail_if_success at_make); (first | go_values | go_skip | go_guarded | go_step | go_upon | go_back))
   rw [← HG6.out, ← HW6.out]
   clear HW6 HG6
   go_region
   all_goals (try dsimp only [Exit.then])
   clear f0 f1 f2 f3 y0 y1 y2 y3 e0 e1 e2 x0 x1 x2 s0 s1 s2 s3 t0' t1 t2
   have HRZ := Lib.hid (show RdSt _ X5 c5 Y5 d5 t' from by
    obtain ⟨_, _, _, _, e1, e2, h⟩ := HF3.out.drewX.rows
    cases e1; cases e2; exact h)
   have HCZ := Lib.hid (show RdC _ A7 n7 cc' from by
    obtain ⟨_, _, e1, h⟩ := RdC.of_own (c := cc') (z6 HF4.out (Below.refl _ _).drew)
    cases e1; exact h)
   go_wp2_with fail
   go_roundg (p - (j + 1))
   case measure => have := HGN.out; omega
   case rel =>
    exact ⟨j + 1, t', cc', X5, c5, Y5, d5, A7, n7, rfl, by go_num, by omega, ⟨Arr.drew HF1.out, Arr.drew HF2.out, HRZ.out, HCZ.out, Arr.drew HF7.out, HF6.out.drewX⟩, M1.out, M2.out, by have := M3.out; have := HGL.out; omega, M5.out.symm, KK.out.1, KK.out.2, HF5.out.drew⟩
end Go.Proofs.YtngfnjekjfeacaaGreat
