/- Lemmas of the proof. Conditions: as stated. -/
import Derived.Test.YtpbacomdoddhdaaGreatQX27
set_option linter.unusedVariables false
set_option linter.unusedSimpArgs false
set_option maxRecDepth 100000
namespace Go.Proofs.YtpbacomdoddhdaaGreat
open Go.RowKit Go.Maps
theorem zO (w : World) (e1 e2 : TypeId) (c1 c2 : List Value) : ∃ W, W = (w.alloc (.cells c1.toArray e1)).alloc (.cells c2.toArray e2) ∧ Arr W w.heap.size e1 c1 ∧ Arr W (w.heap.size + 1) e2 c2 ∧ Below w.heap.size w W := by
 have b1 := (Below.refl w.heap.size w).alloc (Nat.le_refl _) (.cells c1.toArray e1)
 have a2 := Arr.new (w.alloc (.cells c1.toArray e1)) e2 c2
 rw [World.size_alloc] at a2
 exact ⟨_, rfl, (Arr.new w e1 c1).alloc _, a2, b1.alloc b1.size _⟩
set_option maxHeartbeats 16000000 in
theorem xR (A : Option Addr) (c : Nat) (B : Option Addr) (d : Nat) (s : StoP) (Ag : Option Addr) (ng : Nat) (cp : ColP) (w : World) (hg : GoodS s) (hr : RdSt w A c B d s) (hgl : cp.grey.length ≤ 1000) (hgc : GoodC s cp) (hc : RdC w Ag ng cp) :
  Calls Tryz.prog 17 #[.agg #[.slice A s.blobs.length c, .slice B s.ents.length d, .int .i64 (s.room : Int), .int .i64 (s.clock : Int)], coV (.slice Ag cp.grey.length ng) cp] w fun e w' => e = .returned (.int .i64 0) ∧ Below w.heap.size w w' := by
 have hlb : s.blobs.length ≤ 24 := hg.b.len
 obtain ⟨phase, grey, at_⟩ := cp
 have h1 := hgc.ph
 simp only at h1 hgl
 rcases (show phase = 0 ∨ phase = 1 ∨ phase = 2 by omega) with rfl | rfl | rfl
 ·clear h1
  obtain ⟨w0, hw0, hS, hC, hb0⟩ := zO w 26 29 [.slice A s.blobs.length c, .slice B s.ents.length d, .int .i64 (s.room : Int), .int .i64 (s.clock : Int)] [.int .i64 0, .slice Ag (grey).length ng, .string ⟨(at_).toArray⟩]
  have hr0 := hr.below hb0
  obtain ⟨H, hH⟩ : ∃ H, H = w.heap.size := ⟨_, rfl⟩
  have HCK := Lib.hid (qY A c B d s w0 hg hr0)
  have HSH := Lib.hid (fun W (h : Below w0.heap.size w0 W) => uH Ag ng ⟨0, grey, at_⟩ s W hgl hgc ((hc.below hb0).below h))
  have HMK := Lib.hid (fun W (h : Below w0.heap.size w0 W) => xq A c s.blobs W (by omega) (hr0.below h).b)
  have HRT := Lib.hid (fun W (h : Below w0.heap.size w0 W) => xf A B c d s (s.room : Int) (s.clock : Int) W hg.rts (hr0.below h))
  have HAL := Lib.hid (fun W (h : Below w0.heap.size w0 W) => K4 A B c d s (s.room : Int) (s.clock : Int) W hg.rts (hr0.below h))
  have HDG := Lib.hid (show ∀ x ∈ s.blobs, x.dig.length ≤ 1000 from fun x hx => by rw [(hg.b.one x hx).1]; have := zQ (zF x.data); omega)
  have hcb := hr0.bc
  have hcm := hr0.bm
  have HR0 := Lib.hid hr0.b
  have HRC := Lib.hid (hc.below hb0)
  have HGD := Lib.hid hg
  have HGC := Lib.hid hgc
  rw [← hH] at hS hC hb0 ⊢
  have hsz : H ≤ w0.heap.size := by rw [hH] at hb0 ⊢; exact hb0.size
  have hHl : H + 1 < w0.heap.size := hC.lt
  have x0 := hS.cell (k := 0) rfl
  have x1 := hS.cell (k := 1) rfl
  have x2 := hS.cell (k := 2) rfl
  have x3 := hS.cell (k := 3) rfl
  rw [hw0, hH] at x0 x1 x2 x3
  have HSX := Lib.hid hS
  have HCX := Lib.hid hC
  clear hg hr hgc hc hr0 hS hC
  go_enter Tryz.func17, Tryz.ntmps17
  go_wp2_with fail
  rw [← hw0, ← hH]
  have HH := Lib.hid hH
  clear hw0 hH x0 x1 x2 x3
  refine ((HCK.out)).mono ?_; rintro e_ w1 ⟨rfl, hb1⟩; dsimp only
  have x0 := (HCX.out.below hb1).cell (k := 0) rfl
  have x1 := (HCX.out.below hb1).cell (k := 1) rfl
  have x2 := (HCX.out.below hb1).cell (k := 2) rfl
  have z0 := (HSX.out.below hb1).cell (k := 0) rfl
  go_wp2_with fail
  clear x0 x1 x2 z0
  refine (((HSH.out _ hb1))).mono ?_; rintro e_ w2 ⟨rfl, hb2⟩; dsimp only
  have hb12 := hb1.trans (hb2.mono hb1.size)
  have x0 := (HCX.out.below hb12).cell (k := 0) rfl
  have x1 := (HCX.out.below hb12).cell (k := 1) rfl
  have x2 := (HCX.out.below hb12).cell (k := 2) rfl
  have z0 := (HSX.out.below hb12).cell (k := 0) rfl
  have z1 := (HSX.out.below hb12).cell (k := 1) rfl
  have z2 := (HSX.out.below hb12).cell (k := 2) rfl
  have z3 := (HSX.out.below hb12).cell (k := 3) rfl
  clear hb1 hb2
  go_wp2_with fail
  clear x0 x1 x2 z0 z1 z2 z3
  refine (((HMK.out _ hb12))).mono ?_; rintro e_ w3 ⟨v3, rfl, ho3, hb3⟩; dsimp only
  have hb13 := hb12.trans (hb3.mono hb12.size)
  have x0 := (HCX.out.below hb13).cell (k := 0) rfl
  have x1 := (HCX.out.below hb13).cell (k := 1) rfl
  have x2 := (HCX.out.below hb13).cell (k := 2) rfl
  have z0 := (HSX.out.below hb13).cell (k := 0) rfl
  have z1 := (HSX.out.below hb13).cell (k := 1) rfl
  have z2 := (HSX.out.below hb13).cell (k := 2) rfl
  have z3 := (HSX.out.below hb13).cell (k := 3) rfl
  clear hb3
  go_wp2_with fail
  go_ret
  exact ⟨rfl, hb0.trans (hb13.mono hsz)⟩
 ·clear h1
  obtain ⟨w0, hw0, hS, hC, hb0⟩ := zO w 26 29 [.slice A s.blobs.length c, .slice B s.ents.length d, .int .i64 (s.room : Int), .int .i64 (s.clock : Int)] [.int .i64 1, .slice Ag (grey).length ng, .string ⟨(at_).toArray⟩]
  have hr0 := hr.below hb0
  obtain ⟨H, hH⟩ : ∃ H, H = w.heap.size := ⟨_, rfl⟩
  have HCK := Lib.hid (qY A c B d s w0 hg hr0)
  have HSH := Lib.hid (fun W (h : Below w0.heap.size w0 W) => uH Ag ng ⟨1, grey, at_⟩ s W hgl hgc ((hc.below hb0).below h))
  have HMK := Lib.hid (fun W (h : Below w0.heap.size w0 W) => xq A c s.blobs W (by omega) (hr0.below h).b)
  have HRT := Lib.hid (fun W (h : Below w0.heap.size w0 W) => xf A B c d s (s.room : Int) (s.clock : Int) W hg.rts (hr0.below h))
  have HAL := Lib.hid (fun W (h : Below w0.heap.size w0 W) => K4 A B c d s (s.room : Int) (s.clock : Int) W hg.rts (hr0.below h))
  have HDG := Lib.hid (show ∀ x ∈ s.blobs, x.dig.length ≤ 1000 from fun x hx => by rw [(hg.b.one x hx).1]; have := zQ (zF x.data); omega)
  have hcb := hr0.bc
  have hcm := hr0.bm
  have HR0 := Lib.hid hr0.b
  have HRC := Lib.hid (hc.below hb0)
  have HGD := Lib.hid hg
  have HGC := Lib.hid hgc
  rw [← hH] at hS hC hb0 ⊢
  have hsz : H ≤ w0.heap.size := by rw [hH] at hb0 ⊢; exact hb0.size
  have hHl : H + 1 < w0.heap.size := hC.lt
  have x0 := hS.cell (k := 0) rfl
  have x1 := hS.cell (k := 1) rfl
  have x2 := hS.cell (k := 2) rfl
  have x3 := hS.cell (k := 3) rfl
  rw [hw0, hH] at x0 x1 x2 x3
  have HSX := Lib.hid hS
  have HCX := Lib.hid hC
  clear hg hr hgc hc hr0 hS hC
  go_enter Tryz.func17, Tryz.ntmps17
  go_wp2_with fail
  rw [← hw0, ← hH]
  have HH := Lib.hid hH
  clear hw0 hH x0 x1 x2 x3
  refine ((HCK.out)).mono ?_; rintro e_ w1 ⟨rfl, hb1⟩; dsimp only
  have x0 := (HCX.out.below hb1).cell (k := 0) rfl
  have x1 := (HCX.out.below hb1).cell (k := 1) rfl
  have x2 := (HCX.out.below hb1).cell (k := 2) rfl
  have z0 := (HSX.out.below hb1).cell (k := 0) rfl
  go_wp2_with fail
  clear x0 x1 x2 z0
  refine (((HSH.out _ hb1))).mono ?_; rintro e_ w2 ⟨rfl, hb2⟩; dsimp only
  have hb12 := hb1.trans (hb2.mono hb1.size)
  have x0 := (HCX.out.below hb12).cell (k := 0) rfl
  have x1 := (HCX.out.below hb12).cell (k := 1) rfl
  have x2 := (HCX.out.below hb12).cell (k := 2) rfl
  have z0 := (HSX.out.below hb12).cell (k := 0) rfl
  have z1 := (HSX.out.below hb12).cell (k := 1) rfl
  have z2 := (HSX.out.below hb12).cell (k := 2) rfl
  have z3 := (HSX.out.below hb12).cell (k := 3) rfl
  clear hb1 hb2
  go_wp2_with fail
  clear x0 x1 x2 z0 z1 z2 z3
  refine (((HMK.out _ hb12))).mono ?_; rintro e_ w3 ⟨v3, rfl, ho3, hb3⟩; dsimp only
  have hb13 := hb12.trans (hb3.mono hb12.size)
  have x0 := (HCX.out.below hb13).cell (k := 0) rfl
  have x1 := (HCX.out.below hb13).cell (k := 1) rfl
  have x2 := (HCX.out.below hb13).cell (k := 2) rfl
  have z0 := (HSX.out.below hb13).cell (k := 0) rfl
  have z1 := (HSX.out.below hb13).cell (k := 1) rfl
  have z2 := (HSX.out.below hb13).cell (k := 2) rfl
  have z3 := (HSX.out.below hb13).cell (k := 3) rfl
  clear hb3
  go_wp2_with fail
  clear x0 x1 x2 z0 z1 z2 z3
  refine (((HRT.out _ hb13))).mono ?_; rintro e_ w4 ⟨v4, R4, rfl, hR4, hl4, ho4, hb4⟩; dsimp only
  have hb14 := hb13.trans (hb4.mono hb13.size)
  have ho34 := zb ho3 hb4
  obtain ⟨A4, c4, rfl, hc4, hr4⟩ := Rd.of_own' ho4
  have HCN := Lib.hid (kE A4 c4 R4 w4 (by omega) hr4)
  have HSB := Lib.hid (Vj HGD.out HGC.out rfl hR4)
  clear hr4 ho4 ho3 hb4 hR4
  go_wp2_with fail
  refine ((HCN.out)).mono ?_; rintro e_ w5 ⟨v5, rfl, ho5, hb5⟩; dsimp only
  have ho35 := zb ho34 hb5
  have hb15 := hb14.trans (hb5.mono hb14.size)
  have z0 := (HSX.out.below hb15).cell (k := 0) rfl
  have z1 := (HSX.out.below hb15).cell (k := 1) rfl
  have z2 := (HSX.out.below hb15).cell (k := 2) rfl
  have z3 := (HSX.out.below hb15).cell (k := 3) rfl
  have h04 := hb14.size
  have hb63 : (s.blobs.length : Int) ≤ 9223372036854775807 := by omega
  have HO34 := Lib.hid ho34
  clear ho34 ho35 hb13 hb12 HRT HAL HMK HSH HCK HCN hb15
  go_wp2_with fail
  clear z0 z1 z2 z3
  go_loopg [8, 35] s.blobs.length (fun gn u i wr => ∃ (k : Nat) (vn : Value), gn = s.blobs.length - k ∧ vn = u ∧ i = .int .i64 k ∧ k ≤ s.blobs.length ∧ wr.ownsRow w4.heap.size 9 1 vn (R4 ++ prt (s.blobs.take k)).length (strs (R4 ++ prt (s.blobs.take k))) ∧ Below w4.heap.size w4 wr)
  case atStart => exact ⟨0, _, rfl, rfl, rfl, by omega, by rw [List.take_zero]; simpa [prt] using ho5, hb5⟩
  case round =>
   clear ho5 hb5
   obtain ⟨k, vn, hgk, rfl, rfl, hk, hown, hbel⟩ := hrel
   have HGK := Lib.hid hgk
   clear hgk
   have hpl := Kd s.blobs k hk
   have hb0r := hb14.trans (hbel.mono hb14.size)
   by_cases hlt : k < s.blobs.length
   rotate_left
   ·obtain rfl : k = s.blobs.length := by omega
    have hlbb : decide (s.blobs.length < s.blobs.length) = false := by simp
    rw [List.take_length] at hown hpl
    have hmd := Za s.blobs
    have hRl : (R4 ++ prt s.blobs).length ≤ 1000 := by rw [List.length_append]; omega
    have HDL := Lib.hid (Vh w4.heap.size vn (R4 ++ prt s.blobs) _ (.pointer (some ⟨H, 0, none⟩)) (fun d => !(s.blobs.any (fun b => b.dig == d))) wr (by omega) hown (Qg wr w4 vn.ownBlock H c A s.blobs (R4 ++ prt s.blobs) (by omega) hcb hcm HDG.out (HR0.out.below hb14) ((HSX.out.below hb14).cell (k := 0) rfl) (by omega) (fun W h => zf hbel hown (Nat.le_refl _) h)))
    have HOR := Lib.hid (zf hbel hown (Nat.le_refl _) (w' := wr) (World.grownBy.refl _ _))
    have HBO := Lib.hid (fun (W : World) (h : wr.grownBy W vn.ownBlock) => zf hbel hown (Nat.le_refl _) h)
    clear hown
    go_wp2_with fail
    refine ((HDL.out)).mono ?_; rintro e_ w6 ⟨v6, rfl, ho6, hg6⟩; dsimp only
    have hb46 := HBO.out w6 hg6
    have hb16 := hb14.trans (hb46.mono hb14.size)
    have x0 := (HCX.out.below hb16).cell (k := 0) rfl
    have x1 := (HCX.out.below hb16).cell (k := 1) rfl
    have x2 := (HCX.out.below hb16).cell (k := 2) rfl
    have hfl : ((R4 ++ prt s.blobs).filter (fun d => !(!(s.blobs.any (fun b => b.dig == d))))).length ≤ 1000 := Nat.le_trans (List.length_filter_le _ _) hRl
    have ho36 := zb HO34.out hb46
    clear hbel hg6 hb0r HDL HOR HBO hpl hRl
    generalize hF : ((R4 ++ prt s.blobs).filter (fun d => !(!(s.blobs.any (fun b => b.dig == d))))) = F at *
    obtain ⟨A3, c3, rfl, hc3, hr3⟩ := Rd.of_own' ho36
    obtain ⟨A6, c6, rfl, hc6, hr6⟩ := Rd.of_own' ho6
    have hrc := HRC.out.below hb16
    have hbq := (Below.refl w6.heap.size w6).alloc (Nat.le_refl _) (.cells #[.slice A3 (mkd s.blobs).length c3, .slice Ag grey.length ng] 27)
    have hAq : Arr (w6.alloc (.cells #[.slice A3 (mkd s.blobs).length c3, .slice Ag grey.length ng] 27)) w6.heap.size 27 [.slice A3 (mkd s.blobs).length c3, .slice Ag grey.length ng] := Arr.new w6 27 _
    have HCC := Lib.hid (vJ w6.heap.size A3 Ag c3 ng (mkd s.blobs) grey _ hc3 hrc.cap (by omega) (by omega) (hAq.cell (k := 0) rfl) (hAq.cell (k := 1) rfl) (hr3.below hbq) (hrc.rd.below hbq))
    have HR6 := Lib.hid (hr6.below hbq)
    have hb1q := hb16.trans (hbq.mono hb16.size)
    clear hr3 hr6 hrc hAq ho36 ho6 hbq
    go_wp2_with fail
    clear x0 x1 x2
    generalize (w6.alloc (.cells #[.slice A3 (mkd s.blobs).length c3, .slice Ag grey.length ng] 27)) = wq at *
    refine ((HCC.out)).mono ?_; rintro e_ w7 ⟨v7, rfl, ho7, hb7⟩; dsimp only
    obtain ⟨A7, c7, rfl, hc7, hr7⟩ := Rd.of_own' ho7
    have hwt := jb A6 A7 c6 c7 F (mkd s.blobs ++ grey) w7 (by omega) (by rw [List.length_append]; omega) (HR6.out.below hb7) hr7 HSB.out
    rw [List.length_append] at hwt
    have HWT := Lib.hid hwt
    clear hwt
    have hb17 := hb1q.trans (hb7.mono hb1q.size)
    clear hr7 ho7 hb7 HR6
    go_wp2_with fail
    refine ((HWT.out)).mono ?_; rintro e_ w8 ⟨rfl, hb8⟩; dsimp only
    have hb18 := hb17.trans (hb8.mono hb17.size)
    go_wp2_with fail
    go_ret
    exact ⟨rfl, hb0.trans (hb18.mono hsz)⟩
   have hlbb : decide (k < s.blobs.length) = true := decide_eq_true hlt
   have hk0 : (0 : Int) ≤ (k : Int) := by omega
   have hk1 : (k : Int) < (s.blobs.length : Int) := by omega
   obtain ⟨bq, oq, Bq, cq, hA, hbq, d0, d1, d2, d3, hsl⟩ := (HR0.out.below hb0r).blob_at k hlt
   subst hA
   have HSU := Lib.hid (ZW s.blobs k hlt)
   have HKL := Lib.hid hlt
   generalize s.blobs[k] = q at *
   generalize hqm : q.mark = qm at *
   have hbox : Arr (wr.alloc (.cells #[.string ⟨q.dig.toArray⟩, .slice Bq q.data.length cq, .int .i64 (q.pins : Int), .bool qm] 96)) wr.heap.size 96 [.string ⟨q.dig.toArray⟩, .slice Bq q.data.length cq, .int .i64 (q.pins : Int), .bool qm] := Arr.new wr 96 _
   have hbA := hbel.alloc hbel.size (.cells #[.string ⟨q.dig.toArray⟩, .slice Bq q.data.length cq, .int .i64 (q.pins : Int), .bool qm] 96)
   have hbn := (Below.refl wr.heap.size wr).alloc (Nat.le_refl _) (.cells #[.string ⟨q.dig.toArray⟩, .slice Bq q.data.length cq, .int .i64 (q.pins : Int), .bool qm] 96)
   have hownA := hown.alloc (.cells #[.string ⟨q.dig.toArray⟩, .slice Bq q.data.length cq, .int .i64 (q.pins : Int), .bool qm] 96)
   have hslA := hsl.below hbn
   have p0 := hbox.cell (k := 0) rfl
   have p1 := hbox.cell (k := 1) rfl
   have p2 := hbox.cell (k := 2) rfl
   have p3 := hbox.cell (k := 3) rfl
   clear hsl hown hbox hbn hb0r
   cases qm with
   | false =>
    have hsu := HSU.out
    rw [if_neg (by decide), List.append_nil] at hsu
    have HSV := Lib.hid hsu
    have HOA := Lib.hid hownA
    clear hsu hownA hslA
    go_wp2_with fail
    go_roundg (s.blobs.length - (k + 1))
    case measure => have := HGK.out; have := HKL.out; omega
    case rel => exact ⟨k + 1, _, rfl, rfl, by go_num, by have := HKL.out; omega, by rw [HSV.out]; exact HOA.out, hbA⟩
   | true =>
    have hsu := HSU.out
    rw [if_pos rfl] at hsu
    have HPT := jF ⟨q.dig.toArray⟩ Bq q.data.length cq q.data (q.pins : Int) true _ rfl hslA.cap hslA.max hslA.rd
    have hk8 : (xt q.data).1.length ≤ 8 := xh _
    rw [uA] at HPT
    have hkl : (xt q.data).1.length = ((xt q.data).1.map (fun p : PartP => p.dig)).length := by rw [List.length_map]
    rw [hkl] at HPT hk8
    generalize (xt q.data).1.map (fun p : PartP => p.dig) = ks at *
    have HSV := Lib.hid hsu
    have HPT' := Lib.hid HPT
    clear hsu HPT hkl hslA
    go_wp2_with fail
    clear d0 d1 d2 d3 p0 p1 p2 p3
    generalize (wr.alloc (.cells #[.string ⟨q.dig.toArray⟩, .slice Bq q.data.length cq, .int .i64 (q.pins : Int), .bool true] 96)) = wA at *
    refine ((HPT'.out)).mono ?_; rintro e_ w8 ⟨v8, rfl, ho8, hb8⟩; dsimp only
    obtain ⟨A8, c8, rfl, _, hr8⟩ := Rd.of_own' ho8
    have hown8 := zb hownA hb8
    have hbA8 := hbA.trans (hb8.mono hbA.size)
    clear ho8 hb8 hownA hbA HPT'
    have hrl : (R4 ++ prt (s.blobs.take k)).length ≤ 1000 := by rw [List.length_append]; omega
    repeat' (fail_if_success (first|at_builtin|at_make));first|go_values|go_skip|go_guarded|go_step|go_upon|go_back
    refine zz rfl (.tmp 41) (.tmp 43) rfl jK (by rfl) hown8 (by rfl) hr8 (uu _) (by omega) hbA8.size ?_
    intro v9 w9 ho9 hg9 hv9
    have hb9 := zf hbA8 hown8 (Nat.le_refl _) hg9
    have HO9 := Lib.hid ho9
    clear ho9 hg9 hv9 hown8 hr8
    go_wp2_with fail
    go_roundg (s.blobs.length - (k + 1))
    case measure => have := HGK.out; have := HKL.out; omega
    case rel => exact ⟨k + 1, _, rfl, rfl, by go_num, by have := HKL.out; omega, by rw [HSV.out, ← List.append_assoc, uJ (R4 ++ prt (s.blobs.take k)) ks, show ((R4 ++ prt (s.blobs.take k)) ++ ks).length = (R4 ++ prt (s.blobs.take k)).length + ks.length from List.length_append]; exact HO9.out, hb9⟩
 ·clear h1
  obtain ⟨w0, hw0, hS, hC, hb0⟩ := zO w 26 29 [.slice A s.blobs.length c, .slice B s.ents.length d, .int .i64 (s.room : Int), .int .i64 (s.clock : Int)] [.int .i64 2, .slice Ag (grey).length ng, .string ⟨(at_).toArray⟩]
  have hr0 := hr.below hb0
  obtain ⟨H, hH⟩ : ∃ H, H = w.heap.size := ⟨_, rfl⟩
  have HCK := Lib.hid (qY A c B d s w0 hg hr0)
  have HSH := Lib.hid (fun W (h : Below w0.heap.size w0 W) => uH Ag ng ⟨2, grey, at_⟩ s W hgl hgc ((hc.below hb0).below h))
  have HMK := Lib.hid (fun W (h : Below w0.heap.size w0 W) => xq A c s.blobs W (by omega) (hr0.below h).b)
  have HRT := Lib.hid (fun W (h : Below w0.heap.size w0 W) => xf A B c d s (s.room : Int) (s.clock : Int) W hg.rts (hr0.below h))
  have HAL := Lib.hid (fun W (h : Below w0.heap.size w0 W) => K4 A B c d s (s.room : Int) (s.clock : Int) W hg.rts (hr0.below h))
  have HDG := Lib.hid (show ∀ x ∈ s.blobs, x.dig.length ≤ 1000 from fun x hx => by rw [(hg.b.one x hx).1]; have := zQ (zF x.data); omega)
  have hcb := hr0.bc
  have hcm := hr0.bm
  have HR0 := Lib.hid hr0.b
  have HRC := Lib.hid (hc.below hb0)
  have HGD := Lib.hid hg
  have HGC := Lib.hid hgc
  rw [← hH] at hS hC hb0 ⊢
  have hsz : H ≤ w0.heap.size := by rw [hH] at hb0 ⊢; exact hb0.size
  have hHl : H + 1 < w0.heap.size := hC.lt
  have x0 := hS.cell (k := 0) rfl
  have x1 := hS.cell (k := 1) rfl
  have x2 := hS.cell (k := 2) rfl
  have x3 := hS.cell (k := 3) rfl
  rw [hw0, hH] at x0 x1 x2 x3
  have HSX := Lib.hid hS
  have HCX := Lib.hid hC
  clear hg hr hgc hc hr0 hS hC
  go_enter Tryz.func17, Tryz.ntmps17
  go_wp2_with fail
  rw [← hw0, ← hH]
  have HH := Lib.hid hH
  clear hw0 hH x0 x1 x2 x3
  refine ((HCK.out)).mono ?_; rintro e_ w1 ⟨rfl, hb1⟩; dsimp only
  have x0 := (HCX.out.below hb1).cell (k := 0) rfl
  have x1 := (HCX.out.below hb1).cell (k := 1) rfl
  have x2 := (HCX.out.below hb1).cell (k := 2) rfl
  have z0 := (HSX.out.below hb1).cell (k := 0) rfl
  go_wp2_with fail
  clear x0 x1 x2 z0
  refine (((HSH.out _ hb1))).mono ?_; rintro e_ w2 ⟨rfl, hb2⟩; dsimp only
  have hb12 := hb1.trans (hb2.mono hb1.size)
  have x0 := (HCX.out.below hb12).cell (k := 0) rfl
  have x1 := (HCX.out.below hb12).cell (k := 1) rfl
  have x2 := (HCX.out.below hb12).cell (k := 2) rfl
  have z0 := (HSX.out.below hb12).cell (k := 0) rfl
  have z1 := (HSX.out.below hb12).cell (k := 1) rfl
  have z2 := (HSX.out.below hb12).cell (k := 2) rfl
  have z3 := (HSX.out.below hb12).cell (k := 3) rfl
  clear hb1 hb2
  go_wp2_with fail
  clear x0 x1 x2 z0 z1 z2 z3
  refine (((HMK.out _ hb12))).mono ?_; rintro e_ w3 ⟨v3, rfl, ho3, hb3⟩; dsimp only
  have hb13 := hb12.trans (hb3.mono hb12.size)
  have x0 := (HCX.out.below hb13).cell (k := 0) rfl
  have x1 := (HCX.out.below hb13).cell (k := 1) rfl
  have x2 := (HCX.out.below hb13).cell (k := 2) rfl
  have z0 := (HSX.out.below hb13).cell (k := 0) rfl
  have z1 := (HSX.out.below hb13).cell (k := 1) rfl
  have z2 := (HSX.out.below hb13).cell (k := 2) rfl
  have z3 := (HSX.out.below hb13).cell (k := 3) rfl
  clear hb3
  go_wp2_with fail
  clear x0 x1 x2 z0 z1 z2 z3
  refine (((HAL.out _ hb13))).mono ?_; rintro e_ w4 ⟨v4, L4, rfl, hL4, hl4, ho4, hb4⟩; dsimp only
  have hb14 := hb13.trans (hb4.mono hb13.size)
  have hml := Za s.blobs
  obtain ⟨A3, c3, rfl, hc3, hr3⟩ := Rd.of_own' (zb ho3 hb4)
  obtain ⟨A4, c4, rfl, hc4, hr4⟩ := Rd.of_own' ho4
  have hwt := jb A4 A3 c4 c3 L4 (mkd s.blobs) w4 (by omega) (by omega) hr4 hr3 (fun x hx => HGC.out.sw rfl x ((hL4.mem x).1 hx))
  have HWT := Lib.hid hwt
  clear hwt hr3 hr4 ho3 ho4 hb4
  go_wp2_with fail
  refine ((HWT.out)).mono ?_; rintro e_ w5 ⟨rfl, hb5⟩; dsimp only
  have hb15 := hb14.trans (hb5.mono hb14.size)
  go_wp2_with fail
  go_ret
  exact ⟨rfl, hb0.trans (hb15.mono hsz)⟩
def zK (bl : List BlobP) (L : List (List UInt8)) : List BlobP := bl.map fun b => if b.dig ∈ L then { b with mark := true } else b
theorem QM (bl : List BlobP) : zK bl [] = bl := by simp [zK]
theorem qf (bl : List BlobP) (L : List (List UInt8)) : (zK bl L).length = bl.length := by simp [zK]
theorem xP (bl : List BlobP) (L : List (List UInt8)) : EqM bl (zK bl L) := by
 unfold EqM zK
 rw [List.map_map]
 refine List.map_congr_left fun b _ => ?_
 show NoM b = NoM (if b.dig ∈ L then { b with mark := true } else b)
 split <;> rfl
theorem xn (bl : List BlobP) (L : List (List UInt8)) (i : Nat) (h : i < bl.length) (h' : i < (zK bl L).length) : (zK bl L)[i] = if bl[i].dig ∈ L then { bl[i] with mark := true } else bl[i] := by
 simp [zK]
theorem Qm {bl : List BlobP} (hr : RisesBy (·.dig) bl) (L : List (List UInt8)) (d : List UInt8) {i : Nat} (hi : i < (zK bl L).length) (hd : (zK bl L)[i].dig = d) : (zK bl L).set i { (zK bl L)[i] with mark := true } = zK bl (L ++ [d]) := by
 have hi' : i < bl.length := by rw [← qf bl L]; exact hi
 refine List.ext_getElem (by rw [List.length_set, qf, qf]) fun j h1 h2 => ?_
 have hj : j < bl.length := by rw [← qf bl (L ++ [d])]; exact h2
 have hdi : ∀ k (h : k < bl.length) (h' : k < (zK bl L).length), (zK bl L)[k].dig = bl[k].dig := fun k h h' => by
  rw [xn bl L k h h']; split <;> rfl
 rw [List.getElem_set, xn bl (L ++ [d]) j hj h2]
 by_cases hij : i = j
 ·subst hij
  rw [if_pos rfl, if_pos (by rw [← hdi i hi' hi, hd]; simp), xn bl L i hi' hi]
  split <;> rfl
 ·rw [if_neg hij, xn bl L j hj (by rw [qf]; exact hj)]
  have hne : bl[j].dig ≠ d := fun e => by
   rw [← hd, hdi i hi' hi] at e
   have hnd := hr.map.nodup
   have := (List.getElem_inj (xs := bl.map (·.dig)) (i := j) (j := i) (h₀ := by simpa using hj) (h₁ := by simpa using hi') hnd).1 (by simpa using e)
   exact hij this.symm
  by_cases hm : bl[j].dig ∈ L
  ·rw [if_pos hm, if_pos (by simp [hm])]
  ·rw [if_neg hm, if_neg (by simp [hm, hne])]
theorem RwX.set1' {α : Type} {S : Shp α} {e : TypeId} {w : World} {base g n cap i j : Nat} {u : Value} {y : α} {l : List α} {N : Nat → Prop} (h : RwX S e w base (.slice (some ⟨g, 0, none⟩) n cap) l N) (hn : n = l.length) (hi : i < l.length) (hj : j < S.size)
  (hR : ∀ W cs, S.R W l[i] cs → S.R W y (cs.set j u)) (hlead : ∀ b, ¬ leads b [u]) :
  (∃ v0, w.cell? ⟨g, i * S.size + j, none⟩ = some v0) ∧ w.frozen? ⟨g, i * S.size + j, none⟩ = false ∧
   RwX S e (w.setCell ⟨g, i * S.size + j, none⟩ u) base (.slice (some ⟨g, 0, none⟩) n cap) (l.set i y) N ∧ w.grownBy (w.setCell ⟨g, i * S.size + j, none⟩ u) (some g) := by
 subst hn; exact h.set1 hi hj hR hlead
set_option maxHeartbeats 8000000 in
theorem VK (A D : Option Addr) (c dc : Nat) (bl : List BlobP) (ds : List (List UInt8)) (w : World) (hl : bl.length ≤ 1000) (hcap : bl.length ≤ c) (hcm : c ≤ maxLen) (hri : RisesBy (·.dig) bl) (hdat : ∀ b ∈ bl, b.data.length ≤ 1000000) (hdig : ∀ x ∈ bl, x.dig.length ≤ 1000) (hrd : Rw BlobS w A bl) (hdn : ds.length ≤ 1000000) (hrd2 : Rd w 1 D ds.length (strs ds)) :
  Calls Tryz.prog 138 #[.slice A bl.length c, .slice D ds.length dc] w fun e w' => ∃ g L, e = .returned (.slice (some ⟨g, 0, none⟩) bl.length bl.length) ∧ StrL L (Rch bl ds) ∧ RwX BlobS 96 w' w.heap.size (.slice (some ⟨g, 0, none⟩) bl.length bl.length) (zK bl L) (fun b => b < w.heap.size) ∧ Below w.heap.size w w' := by
 have HCP := Lib.hid (ZH A c bl w (by omega) hdat hrd)
 have HFR := Lib.hid (fun W (h : Below w.heap.size w W) => Z7 A D c dc bl ds W hl hcap hcm hdig (hrd.below h) hdn (hrd2.below h))
 have HRI := Lib.hid hri
 clear hdat hdig hrd hdn hrd2 hri
 go_enter Tryz.func138, Tryz.ntmps138
 go_wp2_with fail
 refine ((HCP.out)).mono ?_; rintro e_ w1 ⟨q1, rfl, hx1, hb1⟩; dsimp only
 have HF1 := Lib.hid (HFR.out w1 hb1)
 clear HCP HFR
 go_wp2_with fail
 refine ((HF1.out)).mono ?_; rintro e_ w2 ⟨v2, L, rfl, hL, hLl, ho2, hb2⟩; dsimp only
 obtain ⟨AL, cL, rfl, _, hrL⟩ := Rd.of_own' ho2
 have hLb : ∀ a, AL = some a → w1.heap.size ≤ a.block := fun a e => by
  obtain ⟨A', c', e1, _, h⟩ := Sl.of_own ho2
  injection e1 with e1 _ _
  exact h a (by rw [← e1]; exact e)
 have hx2 := hx1.below hb2
 have hb12 := hb1.trans (hb2.mono hb1.size)
 have HRL := Lib.hid hrL
 have HL := Lib.hid hL
 have HLB := Lib.hid hLb
 have hq1 : q1 < w1.heap.size := (hx1.rwo.blk rfl).2
 have hL63 : (L.length : Int) ≤ 9223372036854775807 := by omega
 have hb63 : (bl.length : Int) ≤ 9223372036854775807 := by omega
 have hx2' : RwX BlobS 96 w2 w.heap.size (.slice (some ⟨q1, 0, none⟩) bl.length bl.length) (zK bl []) (fun b => b < w.heap.size) := by rw [QM]; exact hx2
 clear hx1 hb1 hb2 ho2 hL hrL hx2 HF1 hLb
 go_wp2_with fail
 go_loopg [16] L.length (fun gn i wr => ∃ k : Nat, gn = L.length - k ∧ i = .int .i64 k ∧ k ≤ L.length ∧ RwX BlobS 96 wr w.heap.size (.slice (some ⟨q1, 0, none⟩) bl.length bl.length) (zK bl (L.take k)) (fun b => b < w.heap.size) ∧ Below w.heap.size w wr ∧ w2.grownBy wr (some q1))
 case atStart => exact ⟨0, rfl, rfl, by omega, hx2', hb12, World.grownBy.refl _ _⟩
 case round =>
  obtain ⟨k, hgk, rfl, hk, hx, hbk, hgr⟩ := hrel
  have HGK := Lib.hid hgk
  clear hgk hx2' hb12
  by_cases hlt : k < L.length
  rotate_left
  ·obtain rfl : k = L.length := by omega
   have hlb : decide (L.length < L.length) = false := by simp
   rw [List.take_length] at hx
   have HX := Lib.hid hx
   clear hx
   go_wp2_with fail
   go_ret
   exact ⟨_, L, rfl, HL.out, HX.out, hbk⟩
  have hlb : decide (k < L.length) = true := decide_eq_true hlt
  have hk0 : (0 : Int) ≤ (k : Int) := by omega
  have hk1 : (k : Int) < (L.length : Int) := by omega
  have hrLr : Rd wr 1 AL L.length (strs L) := HRL.out.keepb hgr.size (fun b hb ⟨a, e1, e2⟩ => hgr.block b hb (fun e => by
   injection e with e
   have := HLB.out a e1
   omega))
  obtain ⟨bb, off, hAb, _, hcell⟩ := hrLr.2 (by omega)
  subst hAb
  have c0 := hcell k _ (qM L k hlt)
  have hin : InB bl L[k] := ((HL.out.mem _).1 (List.getElem_mem hlt)).inB
  have hin2 : InB (zK bl (L.take k)) L[k] := (Z0 (xP bl (L.take k))).2 hin
  obtain ⟨i, hfi⟩ : ∃ i, (zK bl (L.take k)).findIdx? (fun b => b.dig == L[k]) = some i := by
   rw [Z8] at hin2
   exact Option.isSome_iff_exists.1 hin2
  have hi : i < (zK bl (L.take k)).length := (List.findIdx?_eq_some_iff_getElem.1 hfi).1
  have hid : (zK bl (L.take k))[i].dig = L[k] := by simpa using (List.findIdx?_eq_some_iff_getElem.1 hfi).2.1
  have hib : i < bl.length := by rw [← qf bl (L.take k)]; exact hi
  have hi0 : (0 : Int) ≤ (i : Int) := by omega
  have hi1 : (i : Int) < (bl.length : Int) := by omega
  have hsn := Qm HRI.out (L.take k) L[k] hi hid
  have htk : L.take k ++ [L[k]] = L.take (k + 1) := (List.take_succ_eq_append_getElem hlt).symm
  rw [htk] at hsn
  have hfb := ur (some ⟨q1, 0, none⟩) bl.length (zK bl (L.take k)) L[k] wr (by rw [qf]; omega) (by
   obtain ⟨A9, c9, e1, _, _, hrw⟩ := hx.rwo.rows
   injection e1 with e1 _ _
   subst e1; exact hrw)
  rw [hfi, qf] at hfb
  have HFB := Lib.hid hfb
  have HSN := Lib.hid hsn
  have HKL := Lib.hid hlt
  generalize hLk : L[k] = dk at *
  clear hLk hfb hsn htk hfi hin hin2 hcell hid
  go_wp2_with fail
  clear c0
  refine ((HFB.out)).mono ?_; rintro e_ w5 ⟨rfl, hb5⟩; dsimp only
  rw [QJ]
  have hx5 := hx.below hb5
  have hbk5 := hbk.trans (hb5.mono hbk.size)
  have hgr5 := XS hgr hb5
  obtain ⟨⟨v0, c3⟩, f3, hx6, hg6⟩ := hx5.set1' (i := i) (j := 3) (y := { (zK bl (L.take k))[i] with mark := true }) (u := .bool true) (qf bl (L.take k)).symm hi (by show 3 < 4; omega) (fun W cs h => K1 _ true W cs h) (vj true)
  rw [HSN.out] at hx6
  have hbk6 := hbk5.grown hg6 hbk5.size (fun b e => by cases e; exact (hx5.rwo.blk rfl).1)
  have HX6 := Lib.hid hx6
  have HB6 := Lib.hid hbk6
  have HG6 := Lib.hid (hgr5.trans hg6)
  clear hx hx5 hx6 hbk hbk5 hbk6 hgr hgr5 hg6 hb5 hrLr
  simp only [show BlobS.size = 4 from rfl] at c3 f3 HX6 HB6 HG6
  go_wp2_with fail
  go_roundg (L.length - (k + 1))
  case measure => have := HGK.out; have := HKL.out; omega
  case rel => exact ⟨k + 1, rfl, by go_num, by have := HKL.out; omega, HX6.out, HB6.out, HG6.out⟩
end Go.Proofs.YtpbacomdoddhdaaGreat
namespace Go.Proofs.YtpbacomdoddhdaaGreat
open Go.RowKit
noncomputable def ZL (bl : List BlobP) (ds : List (List UInt8)) : List (List UInt8) := (bl.filter (fun b => @decide (Rch bl ds b.dig) (Classical.propDecidable _))).map (·.dig)
theorem ZT {bl : List BlobP} {ds : List (List UInt8)} {x : List UInt8} : x ∈ ZL bl ds ↔ Rch bl ds x := by
 unfold ZL
 rw [List.mem_map]
 constructor
 ·rintro ⟨b, hb, rfl⟩
  exact @of_decide_eq_true _ (Classical.propDecidable _) (List.mem_filter.1 hb).2
 ·intro h
  obtain ⟨b, hb, rfl⟩ := h.inB
  exact ⟨b, List.mem_filter.2 ⟨hb, @decide_eq_true _ (Classical.propDecidable _) h⟩, rfl⟩
theorem Xm {bl : List BlobP} (hr : RisesBy (·.dig) bl) (ds : List (List UInt8)) : StrL (ZL bl ds) (Rch bl ds) := by
 have h : Rises (ZL bl ds) := by
  have : RisesBy (·.dig) (bl.filter (fun b => @decide (Rch bl ds b.dig) (Classical.propDecidable _))) := List.Pairwise.filter _ hr
  exact this.map
 exact ⟨h.nodup, Yu h, fun x => ZT⟩
noncomputable def zH (s : StoP) (c : ColP) (ds : List (List UInt8)) : StoP × ColP :=
 if c.phase = 1 then (s, ⟨1, uni (c.grey ++ ds), c.at_⟩) else if c.phase = 2 then ({ s with blobs := zK s.blobs (ZL s.blobs ds) }, c) else (s, c)
theorem Xr {s : StoP} {c : ColP} {ds : List (List UInt8)} (h : c.phase = 0) : zH s c ds = (s, c) := by unfold zH; rw [if_neg (by omega), if_neg (by omega)]
theorem UC {s : StoP} {c : ColP} {ds : List (List UInt8)} (h : c.phase = 1) : zH s c ds = (s, ⟨1, uni (c.grey ++ ds), c.at_⟩) := by unfold zH; rw [if_pos h]
theorem UQ {s : StoP} {c : ColP} {ds : List (List UInt8)} (h : c.phase = 2) : zH s c ds = ({ s with blobs := zK s.blobs (ZL s.blobs ds) }, c) := by unfold zH; rw [if_neg (by omega), if_pos h]
theorem Xt (s : StoP) (c : ColP) (ds : List (List UInt8)) : EqM s.blobs (zH s c ds).1.blobs := by
 unfold zH
 split
 ·exact EqM.rfl_ _
 ·split
  ·exact xP _ _
  ·exact EqM.rfl_ _
theorem qQ (s : StoP) (c : ColP) (ds : List (List UInt8)) : (zH s c ds).1 = { s with blobs := (zH s c ds).1.blobs } := by
 unfold zH
 split
 ·rfl
 ·split <;> rfl
theorem xw {s : StoP} (c : ColP) (ds : List (List UInt8)) (hg : GoodS s) : GoodS (zH s c ds).1 := by
 rw [qQ]; exact XM (Xt s c ds) hg
theorem QZ {bl : List BlobP} {L : List (List UInt8)} {x : List UInt8} : x ∈ mkd (zK bl L) ↔ x ∈ mkd bl ∨ (x ∈ L ∧ InB bl x) := by
 rw [kB, kB]
 unfold zK
 constructor
 ·rintro ⟨b, hb, hm, rfl⟩
  obtain ⟨a, ha, rfl⟩ := List.mem_map.1 hb
  by_cases h : a.dig ∈ L
  ·rw [if_pos h]; exact .inr ⟨h, a, ha, rfl⟩
  ·rw [if_neg h] at hm ⊢; exact .inl ⟨a, ha, hm, rfl⟩
 ·rintro (⟨b, hb, hm, rfl⟩ | ⟨hx, b, hb, rfl⟩)
  ·refine ⟨_, List.mem_map.2 ⟨b, hb, rfl⟩, ?_, ?_⟩ <;> split <;> first | rfl | exact hm
  ·exact ⟨_, List.mem_map.2 ⟨b, hb, rfl⟩, by rw [if_pos hx], by rw [if_pos hx]⟩
theorem yA {s t : StoP} {c : ColP} {ds : List (List UInt8)} (hc : GoodC s c) (hr : RisesBy (·.dig) s.blobs) (hr' : RisesBy (·.dig) t.blobs)
  (hh : ∀ d ∈ ds, hexC d = 0) (hrt : ∀ x ∈ rts t, x ∈ rts s ∨ x ∈ ds)
  (hin : ∀ x, InB t.blobs x → InB s.blobs x ∨ x ∈ ds)
  (hmk : ∀ x, x ∈ mkd t.blobs ↔ x ∈ mkd s.blobs)
  (hkd : ∀ x, InB s.blobs x → kids t.blobs x = kids s.blobs x) : GoodC (zH t c ds).1 (zH t c ds).2 := by
 by_cases h1 : c.phase = 1
 ·rw [UC h1]
  refine ⟨by show 1 ≤ 2; omega, fun d hd => ?_, xN _, hc.ah, fun h => absurd rfl h, fun _ => hc.a0 (by omega), fun _ x hx hb => ?_, fun _ b hb hm x hx hi => ?_, fun h => by cases h⟩
  ·rcases List.mem_append.1 (uG.1 hd) with h | h
   ·exact hc.gh d h
   ·exact hh d h
  ·show x ∈ mkd t.blobs ∨ x ∈ uni (c.grey ++ ds)
   rw [uG, List.mem_append]
   rcases hrt x hx with h | h
   ·rcases hin x hb with h2 | h2
    ·rcases hc.mr h1 x h h2 with h3 | h3
     ·exact .inl ((hmk x).2 h3)
     ·exact .inr (.inl h3)
    ·exact .inr (.inr h2)
   ·exact .inr (.inr h)
  ·show x ∈ mkd t.blobs ∨ x ∈ uni (c.grey ++ ds)
   rw [uG, List.mem_append]
   have hbm : b.dig ∈ mkd s.blobs := (hmk _).1 (kB.2 ⟨b, hb, hm, rfl⟩)
   obtain ⟨b', hb', hm', e⟩ := kB.1 hbm
   have hx' : x ∈ kids s.blobs b'.dig := by
    have h2 := hkd b'.dig ⟨b', hb', rfl⟩
    rw [← h2, e]; exact hx
   rcases hin x hi with h2 | h2
   ·rcases hc.mb h1 b' hb' hm' x hx' h2 with h3 | h3
    ·exact .inl ((hmk x).2 h3)
    ·exact .inr (.inl h3)
   ·exact .inr (.inr h2)
 ·by_cases h2 : c.phase = 2
  ·rw [UQ h2]
   have hg0 := hc.g0 h1
   refine ⟨hc.ph, hc.gh, hc.ris, hc.ah, hc.g0, hc.a0, fun h => absurd h h1, fun h => absurd h h1, fun _ x hx => ?_⟩
   show x ∈ mkd (zK t.blobs (ZL t.blobs ds))
   have hE : EqM t.blobs (zK t.blobs (ZL t.blobs ds)) := xP _ _
   have hx' : Rch t.blobs (rts t) x := by
    have : Rch (zK t.blobs (ZL t.blobs ds)) (rts { t with blobs := zK t.blobs (ZL t.blobs ds) }) x := hx
    rw [VE hE, VC hE] at this; exact this
   clear hx
   rw [QZ]
   have key : Rch s.blobs (rts s) x ∨ Rch t.blobs ds x := by
    induction hx' with
    | @root x h3 h4 =>
     rcases hrt x h3 with h | h
     ·rcases hin x h4 with h5 | h5
      ·exact .inl (.root h h5)
      ·exact .inr (.root h5 h4)
     ·exact .inr (.root h h4)
    | @step x y h3 h4 h5 ih =>
     rcases ih with ih | ih
     ·rw [hkd x ih.inB] at h4
      rcases hin y h5 with h6 | h6
      ·exact .inl (.step ih h4 h6)
      ·exact .inr (.root h6 h5)
     ·exact .inr (.step ih h4 h5)
   rcases key with h | h
   ·exact .inl ((hmk x).2 (hc.sw h2 x h))
   ·exact .inr ⟨ZT.2 h, h.inB⟩
  ·have h0 : c.phase = 0 := by have := hc.ph; omega
   rw [Xr h0]
   exact ⟨hc.ph, hc.gh, hc.ris, hc.ah, hc.g0, hc.a0, fun h => absurd h h1, fun h => absurd h h1, fun h => absurd h h2⟩
theorem xE (s : StoP) (c : ColP) (ds : List (List UInt8)) : 8 * unm (zH s c ds).1.blobs + (zH s c ds).2.grey.length ≤ 8 * unm s.blobs + c.grey.length + ds.length := by
 unfold zH
 split
 ·have := Vx (c.grey ++ ds)
  rw [List.length_append] at this
  show 8 * unm s.blobs + (uni (c.grey ++ ds)).length ≤ _
  omega
 ·split
  ·have h : unm (zK s.blobs (ZL s.blobs ds)) ≤ unm s.blobs := by
    unfold unm zK
    generalize ZL s.blobs ds = L
    generalize s.blobs = bl
    induction bl with
    | nil => exact Nat.le_refl _
    | cons b bl ih =>
     rw [List.map_cons, List.filter_cons, List.filter_cons]
     by_cases hb : b.dig ∈ L
     ·rw [if_pos hb]
      cases hm : b.mark with
      | true => simpa [hm] using ih
      | false => simp only [hm]; simp; omega
     ·rw [if_neg hb]
      cases hm : b.mark with
      | true => simpa [hm] using ih
      | false => simpa [hm] using ih
   show 8 * unm (zK s.blobs _) + c.grey.length ≤ _
   omega
  ·show 8 * unm s.blobs + c.grey.length ≤ _
   omega
structure Bsy (m : Nat) (s : StoP) (c : ColP) : Prop where
 g : GoodS s
 gc : GoodC s c
 gr : 8 * unm s.blobs + c.grey.length ≤ 296 + 9 * m
 k7 : ∀ x ∈ s.ents, ∃ j, j < 7 ∧ x.key = keyS j
 ck : s.clock ≤ 24 + m
theorem Bsy.e7 {m : Nat} {s : StoP} {c : ColP} (h : Bsy m s c) : s.ents.length ≤ 7 := by
 have h1 := yD (ks := s.ents.map (·.key)) (by
  have : Rises (s.ents.map (·.key)) := h.g.e.ris.map
  exact this.nodup) (fun k hk => by
  obtain ⟨x, hx, rfl⟩ := List.mem_map.1 hk
  exact h.k7 x hx)
 rwa [List.length_map] at h1
theorem Bsy.up {m n : Nat} {s : StoP} {c : ColP} (h : Bsy m s c) (hn : m ≤ n) : Bsy n s c := ⟨h.g, h.gc, by have := h.gr; omega, h.k7, by have := h.ck; omega⟩
theorem Jb {s : StoP} (hg : GoodS s) : unm s.blobs ≤ 24 := Nat.le_trans (UD _) hg.b.len
theorem Z6 {l : List BlobP} {D : List UInt8} {b : BlobP} (h : b ∈ putB l D) : b ∈ l ∨ b = ⟨shaS D, D, 0, false⟩ := by
 unfold putB at h
 cases hf : l.findIdx? (fun b => b.dig == shaS D) with
 | none =>
  rw [hf] at h
  rcases List.mem_cons.1 ((zx _ _).mem_iff.1 h) with h | h
  ·exact .inr h
  ·exact .inl h
 | some i => rw [hf] at h; exact .inl h
theorem vi {p : BlobP → Bool} (l : List BlobP) (D : List UInt8) : ((putB l D).filter p).length ≤ (l.filter p).length + 1 := by
 unfold putB
 cases hf : l.findIdx? (fun b => b.dig == shaS D) with
 | none =>
  show ((srt _ _).filter p).length ≤ _
  rw [((zx _ _).filter p).length_eq, List.filter_cons]
  split
  ·simp
  ·omega
 | some i => show (l.filter p).length ≤ _; omega
theorem Bsy.put {m : Nat} {s : StoP} {c : ColP} {D : List UInt8} (h : Bsy m s c) (hf : Fits s D) : Bsy (m + 1) (zH (vl s D) c [shaS D]).1 (zH (vl s D) c [shaS D]).2 := by
 have ht : GoodS (vl s D) := hf.good
 have hsub : ∀ b ∈ s.blobs, b ∈ (vl s D).blobs := fun b hb => Qc hb
 refine ⟨xw c _ ht, yA h.gc h.g.b.ris ht.b.ris (fun d hd => ?_) (fun x hx => ?_) (fun x hx => ?_) (fun x => ?_) (fun x hx => ?_), ?_, ?_, ?_⟩
 ·rw [List.mem_singleton.1 hd]; exact zF _
 ·left
  rcases List.mem_append.1 hx with h1 | h1
  ·exact List.mem_append_left _ h1
  ·obtain ⟨b, hb, rfl⟩ := List.mem_map.1 h1
   obtain ⟨h2, h3⟩ := List.mem_filter.1 hb
   rcases Z6 h2 with h4 | h4
   ·exact List.mem_append_right _ (List.mem_map.2 ⟨b, List.mem_filter.2 ⟨h4, h3⟩, rfl⟩)
   ·subst h4; simp at h3
 ·obtain ⟨b, hb, rfl⟩ := hx
  rcases Z6 hb with h4 | h4
  ·exact .inl ⟨b, h4, rfl⟩
  ·subst h4; exact .inr (List.mem_singleton.2 rfl)
 ·rw [kB, kB]
  constructor
  ·rintro ⟨b, hb, hm, e⟩
   rcases Z6 hb with h4 | h4
   ·exact ⟨b, h4, hm, e⟩
   ·subst h4; cases hm
  ·rintro ⟨b, hb, hm, e⟩
   exact ⟨b, hsub b hb, hm, e⟩
 ·exact (vY ht.b.ris h.g.b.ris hsub hx).symm
 ·have h1 := xE (vl s D) c [shaS D]
  have h2 : unm (vl s D).blobs ≤ unm s.blobs + 1 := vi s.blobs D
  have h3 := h.gr
  simp only [List.length_singleton] at h1
  omega
 ·rw [qQ]; exact h.k7
 ·rw [qQ]; have := h.ck; show s.clock ≤ _; omega
theorem uC {l : List EntP} {x y : EntP} (h : y ∈ kO l x) : y ∈ l ∨ (y.key = x.key ∧ y.parts = x.parts) := by
 unfold kO at h
 cases hf : l.findIdx? (fun y => y.key == x.key) with
 | none =>
  rw [hf] at h
  rcases List.mem_cons.1 ((zx _ _).mem_iff.1 h) with h | h
  ·subst h; exact .inr ⟨rfl, rfl⟩
  ·exact .inl h
 | some i =>
  rw [hf] at h
  rcases List.mem_or_eq_of_mem_set h with h | h
  ·exact .inl h
  ·subst h; exact .inr ⟨rfl, rfl⟩
theorem Bsy.pute {m : Nat} {s : StoP} {c : ColP} {K : List UInt8} {ps : List PartP} (h : Bsy m s c) (hK : ∃ j, j < 7 ∧ K = keyS j) (hp : chk ps = 0) (hh : zT s.blobs ps = 0) (hc : s.clock < 1099511627776) : Bsy (m + 1) (zH (qJ s K ps) c (ps.map (·.dig))).1 (zH (qJ s K ps) c (ps.map (·.dig))).2 := by
 have hKx : hexC K = 0 := by obtain ⟨j, _, rfl⟩ := hK; exact zF _
 have ht : GoodS (qJ s K ps) := kJ h.g hKx hp (qA hh) hc (by have := h.e7; omega)
 refine ⟨xw c _ ht, yA h.gc h.g.b.ris ht.b.ris (fun d hd => ?_) (fun x hx => ?_) (fun x hx => .inl hx) (fun x => Iff.rfl) (fun x hx => rfl), ?_, ?_, ?_⟩
 ·obtain ⟨p, hpm, rfl⟩ := List.mem_map.1 hd
  exact ((zq hp).2 p hpm).2.1
 ·rcases List.mem_append.1 hx with h1 | h1
  ·obtain ⟨y, hy, h2⟩ := List.mem_flatMap.1 h1
   rcases uC hy with h3 | ⟨_, h3⟩
   ·exact .inl (List.mem_append_left _ (List.mem_flatMap.2 ⟨y, h3, h2⟩))
   ·rw [h3] at h2; exact .inr h2
  ·exact .inl (List.mem_append_right _ h1)
 ·have h1 := xE (qJ s K ps) c (ps.map (·.dig))
  have h2 : unm (qJ s K ps).blobs = unm s.blobs := rfl
  have h3 := h.gr
  have h4 := (zq hp).1
  rw [List.length_map] at h1
  omega
 ·rw [qQ]
  intro x hx
  rcases uC (show x ∈ kO s.ents _ from hx) with h3 | ⟨h3, _⟩
  ·exact h.k7 x h3
  ·rw [h3]; exact hK
 ·rw [qQ]; have := h.ck; show s.clock + 1 ≤ _; omega
theorem Bsy.hold {m : Nat} {s : StoP} {c : ColP} {i n : Nat} (h : Bsy m s c) (hi : i < s.blobs.length) (hn : n ≤ 5) : Bsy (m + 1) (zH (qT s i s.blobs[i] n) c [s.blobs[i].dig]).1 (zH (qT s i s.blobs[i] n) c [s.blobs[i].dig]).2 := by
 have ht : GoodS (qT s i s.blobs[i] n) := jY h.g hi hn
 have hmem : ∀ b ∈ (qT s i s.blobs[i] n).blobs, ∃ a ∈ s.blobs, a.dig = b.dig ∧ a.data = b.data ∧ a.mark = b.mark ∧ (a.pins = b.pins ∨ b.dig = s.blobs[i].dig) := fun b hb => by
  rcases List.mem_or_eq_of_mem_set hb with h1 | h1
  ·exact ⟨b, h1, rfl, rfl, rfl, .inl rfl⟩
  ·subst h1; exact ⟨_, List.getElem_mem hi, rfl, rfl, rfl, .inr rfl⟩
 have hmem2 : ∀ a ∈ s.blobs, ∃ b ∈ (qT s i s.blobs[i] n).blobs, b.dig = a.dig ∧ b.data = a.data ∧ b.mark = a.mark := fun a ha => by
  obtain ⟨j, hj, rfl⟩ := List.mem_iff_getElem.1 ha
  by_cases hij : i = j
  ·subst hij; exact ⟨_, List.mem_iff_getElem.2 ⟨i, by show i < (s.blobs.set i _).length; rw [List.length_set]; exact hi, rfl⟩, by simp [qT], by simp [qT], by simp [qT]⟩
  ·have hjl : j < (s.blobs.set i { s.blobs[i] with pins := n }).length := by rw [List.length_set]; exact hj
   exact ⟨s.blobs[j], List.mem_iff_getElem.2 ⟨j, hjl, by show (s.blobs.set i { s.blobs[i] with pins := n })[j]'hjl = _; rw [List.getElem_set_ne hij]⟩, rfl, rfl, rfl⟩
 refine ⟨xw c _ ht, yA h.gc h.g.b.ris ht.b.ris (fun d hd => ?_) (fun x hx => ?_) (fun x hx => ?_) (fun x => ?_) (fun x hx => ?_), ?_, ?_, ?_⟩
 ·rw [List.mem_singleton.1 hd, (h.g.b.one _ (List.getElem_mem hi)).1]; exact zF _
 ·rcases List.mem_append.1 hx with h1 | h1
  ·exact .inl (List.mem_append_left _ h1)
  ·obtain ⟨b, hb, rfl⟩ := List.mem_map.1 h1
   obtain ⟨h2, h3⟩ := List.mem_filter.1 hb
   obtain ⟨a, ha, e1, _, _, e4⟩ := hmem b h2
   rcases e4 with e4 | e4
   ·exact .inl (List.mem_append_right _ (List.mem_map.2 ⟨a, List.mem_filter.2 ⟨ha, by rw [e4]; exact h3⟩, e1⟩))
   ·exact .inr (List.mem_singleton.2 e4)
 ·obtain ⟨b, hb, rfl⟩ := hx
  obtain ⟨a, ha, e1, _⟩ := hmem b hb
  exact .inl ⟨a, ha, e1⟩
 ·rw [kB, kB]
  constructor
  ·rintro ⟨b, hb, hm, rfl⟩
   obtain ⟨a, ha, e1, _, e3, _⟩ := hmem b hb
   exact ⟨a, ha, by rw [e3]; exact hm, e1⟩
  ·rintro ⟨a, ha, hm, rfl⟩
   obtain ⟨b, hb, e1, _, e3⟩ := hmem2 a ha
   exact ⟨b, hb, by rw [e3]; exact hm, e1⟩
 ·obtain ⟨a, ha, rfl⟩ := hx
  obtain ⟨b, hb, e1, e2, _⟩ := hmem2 a ha
  rw [← e1, ym ht.b.ris hb, e1, ym h.g.b.ris ha, e2]
 ·have h1 := xE (qT s i s.blobs[i] n) c [s.blobs[i].dig]
  have h2 : unm (qT s i s.blobs[i] n).blobs ≤ 24 := Jb ht
  have h5 : unm (qT s i s.blobs[i] n).blobs ≤ unm s.blobs + 1 := by
   unfold unm qT
   have : ∀ (l : List BlobP) (k : Nat) (y : BlobP) (p : BlobP → Bool), ((l.set k y).filter p).length ≤ (l.filter p).length + 1 := fun l => by
    induction l with
    | nil => intro k y p; simp
    | cons a l ih =>
     intro k y p
     cases k with
     | zero => rw [List.set_cons_zero, List.filter_cons, List.filter_cons]; split <;> split <;> first | omega | (simp only [List.length_cons]; omega)
     | succ k => rw [List.set_cons_succ, List.filter_cons, List.filter_cons]; have := ih k y p; split <;> first | omega | (simp only [List.length_cons]; omega)
   exact this _ _ _ _
  have h3 := h.gr
  simp only [List.length_singleton] at h1
  omega
 ·rw [qQ]; exact h.k7
 ·rw [qQ]; have := h.ck; show s.clock ≤ _; omega
end Go.Proofs.YtpbacomdoddhdaaGreat
namespace Go.Proofs.YtpbacomdoddhdaaGreat
open Go.RowKit Go.Maps
theorem xH {w : World} {base base' size size' n n' : Nat} {e e' : TypeId} {v v' : Value} {xs xs' : List Value} (h : w.ownsRow base e size v n xs) (h' : w.ownsRow base' e' size' v' n' xs') (hne : e ≠ e') : ∀ b, v.ownBlock = some b → v'.ownBlock ≠ some b := fun b hb hb' => by
 rcases h.2 with ⟨rfl, _⟩ | ⟨g, cap, cur, rfl, _, h2, _⟩
 ·cases hb
 ·cases hb
  rcases h'.2 with ⟨rfl, _⟩ | ⟨g', cap', cur', rfl, _, h3, _⟩
  ·cases hb'
  ·cases hb'
   have h4 := Eq.trans (Eq.symm h2) h3
   simp only [Option.some.injEq, Obj.cells.injEq] at h4
   exact hne h4.2.1
structure RunC (w : World) (H K gs gc : Nat) (v1 v2 v3 : Value) (Ag : Option Addr) (ng : Nat) (t : StoP) (cc : ColP) (g : List (List UInt8)) : Prop where
 bs : Arr w gs 26 [v1, v2, .int .i64 (t.room : Int), .int .i64 (t.clock : Int)]
 bc : Arr w gc 29 [.int .i64 (cc.phase : Int), .slice Ag cc.grey.length ng, .string ⟨cc.at_.toArray⟩]
 st : OwSt w H v1 v2 t (fun b => b < K ∨ b = gs ∨ v3.ownBlock = some b)
 gr : RdC w Ag ng cc
 gone : w.ownsRow H 9 1 v3 g.length (strs g)
section
variable {w w' : World} {H K gs gc : Nat} {v1 v2 v3 v3' : Value} {Ag : Option Addr} {ng : Nat} {t : StoP} {cc : ColP} {g : List (List UInt8)}
theorem RunC.below (h : RunC w H K gs gc v1 v2 v3 Ag ng t cc g) (hb : Below w.heap.size w w') : RunC w' H K gs gc v1 v2 v3 Ag ng t cc g := ⟨h.bs.below hb, h.bc.below hb, h.st.below hb, h.gr.below hb, zb h.gone hb⟩
theorem RunC.key (h : RunC w H K gs gc v1 v2 v3 Ag ng t cc g) {B : Nat} (hgr : ∃ vg, w.ownsRow B 9 1 vg cc.grey.length (strs cc.grey) ∧ vg = .slice Ag cc.grey.length ng) (hB : ∀ b, v3.ownBlock = some b → b < B) {g' : List (List UInt8)} (ho : w'.ownsRow H 9 1 v3' g'.length (strs g')) (hg : w.grownBy w' v3.ownBlock) (hv : v3'.ownBlock = v3.ownBlock ∨ ∃ b, v3'.ownBlock = some b ∧ w.heap.size ≤ b) : RunC w' H K gs gc v1 v2 v3' Ag ng t cc g' := by
 obtain ⟨xs, hx⟩ := h.st.b.own_m
 obtain ⟨ys, hy⟩ := h.st.e.own_m
 have n1 := xH h.gone hx (by decide)
 have n2 := xH h.gone hy (by decide)
 have h1 : OwSt w H v1 v2 t (fun b => b < K ∨ b = gs ∨ v3'.ownBlock = some b ∨ v3.ownBlock = some b) := h.st.wider fun b hb => by
  rcases hb with hb | hb | hb | hb
  ·exact .inl (.inl hb)
  ·exact .inl (.inr (.inl hb))
  ·rcases hv with e | ⟨b', e, hb'⟩
   ·exact .inl (.inr (.inr (by rw [← e]; exact hb)))
   ·rw [e] at hb; cases hb; exact .inr hb'
  ·exact .inl (.inr (.inr hb))
 have h2 : OwSt w' H v1 v2 t (fun b => b < K ∨ b = gs ∨ v3'.ownBlock = some b ∨ v3.ownBlock = some b) :=
  ⟨h1.b.other hg (fun b e => n1 b e) (fun b e => .inl (.inr (.inr (.inr e)))), h1.e.other hg (fun b e => n2 b e) (fun b e => .inl (.inr (.inr (.inr e)))), h1.ne⟩
 obtain ⟨vg, hvg, rfl⟩ := hgr
 have hvg' : w'.ownsRow B 9 1 (.slice Ag cc.grey.length ng) cc.grey.length (strs cc.grey) := hvg.kept hg (by
  rcases hvg.2 with ⟨e2, _⟩ | ⟨g2, cap, cur, e2, h4, _⟩
  ·exact .inl (by rw [e2]; rfl)
  ·refine .inr fun e => ?_
   rw [e2] at e
   have h3 : g2 < B := hB g2 e.symm
   omega)
 obtain ⟨_, _, e1, hgr2⟩ := RdC.of_own (c := cc) hvg'
 cases e1
 exact ⟨h.bs.grown hg (zm h.gone h.bs (by decide)), h.bc.grown hg (zm h.gone h.bc (by decide)), h2.mono (fun b hb => hb.imp id fun h => h.imp id .inl), hgr2, ho⟩
end
end Go.Proofs.YtpbacomdoddhdaaGreat
