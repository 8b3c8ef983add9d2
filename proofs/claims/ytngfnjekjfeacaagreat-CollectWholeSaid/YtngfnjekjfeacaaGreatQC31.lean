/- Lemmas of a proof, made shorter by a program. Conditions: none, or as each states. -/
import Derived.Test.YtngfnjekjfeacaaGreatQC30
namespace Go.Proofs.YtngfnjekjfeacaaGreat
open Go.RowKit Go.Maps
set_option linter.unusedVariables false
set_option linter.unusedSimpArgs false
set_option maxRecDepth 100000
theorem zP (w : World) (e1 e2 : TypeId) (c1 c2 : List Value) : ∃ W, W = (w.alloc (.cells c1.toArray e1)).alloc (.cells c2.toArray e2) ∧ Arr W w.heap.size e1 c1 ∧ Arr W (w.heap.size + 1) e2 c2 ∧ Below w.heap.size w W := by
 have b1 := (Below.refl w.heap.size w).alloc (Nat.le_refl _) (.cells c1.toArray e1)
 have a2 := Arr.new (w.alloc (.cells c1.toArray e1)) e2 c2
 rw [World.size_alloc] at a2
 exact ⟨_, rfl, (Arr.new w e1 c1).alloc _, a2, b1.alloc b1.size _⟩
set_option maxHeartbeats 16000000 in
theorem k8 (A : Option Addr) (c : Nat) (B : Option Addr) (d : Nat) (s : StoP) (Ag : Option Addr) (ng : Nat) (cp : ColP) (w : World) (hg : GoodS s) (hr : RdSt w A c B d s) (hgl : cp.grey.length ≤ 1000) (hgc : GoodC s cp) (hc : RdC w Ag ng cp) :
  Calls Tryz.prog 37 #[.agg #[.slice A s.blobs.length c, .slice B s.ents.length d, .int .i64 (s.room : Int), .int .i64 (s.clock : Int)], coV (.slice Ag cp.grey.length ng) cp] w fun e w' => e = .returned (.int .i64 0) ∧ Below w.heap.size w w' := by
 have hlb : s.blobs.length ≤ 24 := hg.b.len
 obtain ⟨phase, grey, at_⟩ := cp
 have h1 := hgc.ph
 simp only at h1 hgl
 rcases (show phase = 0 ∨ phase = 1 ∨ phase = 2 by omega) with rfl | rfl | rfl
 ·clear h1
  obtain ⟨w0, hw0, hS, hC, hb0⟩ := zP w 26 66 [.slice A s.blobs.length c, .slice B s.ents.length d, .int .i64 (s.room : Int), .int .i64 (s.clock : Int)] [.int .i64 0, .slice Ag (grey).length ng, .string ⟨(at_).toArray⟩]
  have hr0 := hr.below hb0
  obtain ⟨H, hH⟩ : ∃ H, H = w.heap.size := ⟨_, rfl⟩
  have HCK := Lib.hid (zQ A c B d s w0 hg hr0)
  have HSH := Lib.hid (fun W (h : Below w0.heap.size w0 W) => vM Ag ng ⟨0, grey, at_⟩ s W hgl hgc ((hc.below hb0).below h))
  have HMK := Lib.hid (fun W (h : Below w0.heap.size w0 W) => xk A c s.blobs W (by omega) (hr0.below h).b)
  have HRT := Lib.hid (fun W (h : Below w0.heap.size w0 W) => kJ A B c d s (s.room : Int) (s.clock : Int) W hg.rts (hr0.below h))
  have HAL := Lib.hid (fun W (h : Below w0.heap.size w0 W) => xt A B c d s (s.room : Int) (s.clock : Int) W hg.rts (hr0.below h))
  have HDG := Lib.hid (show ∀ x ∈ s.blobs, x.dig.length ≤ 1000 from fun x hx => by rw [(hg.b.one x hx).1]; have := zZ (zu x.data); omega)
  have hcb := hr0.bc
  have hcm := hr0.bm
  have HR0 := Lib.hid hr0.b
  have HRC := Lib.hid (hc.below hb0)
  have HGD := Lib.hid hg
  have HGC := Lib.hid hgc
  rw [← hH] at hS hC hb0 ⊢
  have hsz : H ≤ w0.heap.size := by rw [hH] at hb0 ⊢; exact hb0.size
  have hHl : H + 1 < w0.heap.size := hC.lt
  have x0 := hS.cell (k := 0) rfl
  have x1 := hS.cell (k := 1) rfl
  have x2 := hS.cell (k := 2) rfl
  have x3 := hS.cell (k := 3) rfl
  rw [hw0, hH] at x0 x1 x2 x3
  have HSX := Lib.hid hS
  have HCX := Lib.hid hC
  clear hg hr hgc hc hr0 hS hC
  go_enter Tryz.func37, Tryz.ntmps37
  go_wp2_with fail
  rw [← hw0, ← hH]
  have HH := Lib.hid hH
  clear hw0 hH x0 x1 x2 x3
  refine ((HCK.out)).mono ?_; rintro e_ w1 ⟨rfl, hb1⟩; dsimp only
  have x0 := (HCX.out.below hb1).cell (k := 0) rfl
  have x1 := (HCX.out.below hb1).cell (k := 1) rfl
  have x2 := (HCX.out.below hb1).cell (k := 2) rfl
  have z0 := (HSX.out.below hb1).cell (k := 0) rfl
  go_wp2_with fail
  clear x0 x1 x2 z0
  refine (((HSH.out _ hb1))).mono ?_; rintro e_ w2 ⟨rfl, hb2⟩; dsimp only
  have hb12 := hb1.trans (hb2.mono hb1.size)
  have x0 := (HCX.out.below hb12).cell (k := 0) rfl
  have x1 := (HCX.out.below hb12).cell (k := 1) rfl
  have x2 := (HCX.out.below hb12).cell (k := 2) rfl
  have z0 := (HSX.out.below hb12).cell (k := 0) rfl
  have z1 := (HSX.out.below hb12).cell (k := 1) rfl
  have z2 := (HSX.out.below hb12).cell (k := 2) rfl
  have z3 := (HSX.out.below hb12).cell (k := 3) rfl
  clear hb1 hb2
  go_wp2_with fail
  clear x0 x1 x2 z0 z1 z2 z3
  refine (((HMK.out _ hb12))).mono ?_; rintro e_ w3 ⟨v3, rfl, ho3, hb3⟩; dsimp only
  have hb13 := hb12.trans (hb3.mono hb12.size)
  have x0 := (HCX.out.below hb13).cell (k := 0) rfl
  have x1 := (HCX.out.below hb13).cell (k := 1) rfl
  have x2 := (HCX.out.below hb13).cell (k := 2) rfl
  have z0 := (HSX.out.below hb13).cell (k := 0) rfl
  have z1 := (HSX.out.below hb13).cell (k := 1) rfl
  have z2 := (HSX.out.below hb13).cell (k := 2) rfl
  have z3 := (HSX.out.below hb13).cell (k := 3) rfl
  clear hb3
  go_wp2_with fail
  go_ret
  exact ⟨rfl, hb0.trans (hb13.mono hsz)⟩
 ·clear h1
  obtain ⟨w0, hw0, hS, hC, hb0⟩ := zP w 26 66 [.slice A s.blobs.length c, .slice B s.ents.length d, .int .i64 (s.room : Int), .int .i64 (s.clock : Int)] [.int .i64 1, .slice Ag (grey).length ng, .string ⟨(at_).toArray⟩]
  have hr0 := hr.below hb0
  obtain ⟨H, hH⟩ : ∃ H, H = w.heap.size := ⟨_, rfl⟩
  have HCK := Lib.hid (zQ A c B d s w0 hg hr0)
  have HSH := Lib.hid (fun W (h : Below w0.heap.size w0 W) => vM Ag ng ⟨1, grey, at_⟩ s W hgl hgc ((hc.below hb0).below h))
  have HMK := Lib.hid (fun W (h : Below w0.heap.size w0 W) => xk A c s.blobs W (by omega) (hr0.below h).b)
  have HRT := Lib.hid (fun W (h : Below w0.heap.size w0 W) => kJ A B c d s (s.room : Int) (s.clock : Int) W hg.rts (hr0.below h))
  have HAL := Lib.hid (fun W (h : Below w0.heap.size w0 W) => xt A B c d s (s.room : Int) (s.clock : Int) W hg.rts (hr0.below h))
  have HDG := Lib.hid (show ∀ x ∈ s.blobs, x.dig.length ≤ 1000 from fun x hx => by rw [(hg.b.one x hx).1]; have := zZ (zu x.data); omega)
  have hcb := hr0.bc
  have hcm := hr0.bm
  have HR0 := Lib.hid hr0.b
  have HRC := Lib.hid (hc.below hb0)
  have HGD := Lib.hid hg
  have HGC := Lib.hid hgc
  rw [← hH] at hS hC hb0 ⊢
  have hsz : H ≤ w0.heap.size := by rw [hH] at hb0 ⊢; exact hb0.size
  have hHl : H + 1 < w0.heap.size := hC.lt
  have x0 := hS.cell (k := 0) rfl
  have x1 := hS.cell (k := 1) rfl
  have x2 := hS.cell (k := 2) rfl
  have x3 := hS.cell (k := 3) rfl
  rw [hw0, hH] at x0 x1 x2 x3
  have HSX := Lib.hid hS
  have HCX := Lib.hid hC
  clear hg hr hgc hc hr0 hS hC
  go_enter Tryz.func37, Tryz.ntmps37
  go_wp2_with fail
  rw [← hw0, ← hH]
  have HH := Lib.hid hH
  clear hw0 hH x0 x1 x2 x3
  refine ((HCK.out)).mono ?_; rintro e_ w1 ⟨rfl, hb1⟩; dsimp only
  have x0 := (HCX.out.below hb1).cell (k := 0) rfl
  have x1 := (HCX.out.below hb1).cell (k := 1) rfl
  have x2 := (HCX.out.below hb1).cell (k := 2) rfl
  have z0 := (HSX.out.below hb1).cell (k := 0) rfl
  go_wp2_with fail
  clear x0 x1 x2 z0
  refine (((HSH.out _ hb1))).mono ?_; rintro e_ w2 ⟨rfl, hb2⟩; dsimp only
  have hb12 := hb1.trans (hb2.mono hb1.size)
  have x0 := (HCX.out.below hb12).cell (k := 0) rfl
  have x1 := (HCX.out.below hb12).cell (k := 1) rfl
  have x2 := (HCX.out.below hb12).cell (k := 2) rfl
  have z0 := (HSX.out.below hb12).cell (k := 0) rfl
  have z1 := (HSX.out.below hb12).cell (k := 1) rfl
  have z2 := (HSX.out.below hb12).cell (k := 2) rfl
  have z3 := (HSX.out.below hb12).cell (k := 3) rfl
  clear hb1 hb2
  go_wp2_with fail
  clear x0 x1 x2 z0 z1 z2 z3
  refine (((HMK.out _ hb12))).mono ?_; rintro e_ w3 ⟨v3, rfl, ho3, hb3⟩; dsimp only
  have hb13 := hb12.trans (hb3.mono hb12.size)
  have x0 := (HCX.out.below hb13).cell (k := 0) rfl
  have x1 := (HCX.out.below hb13).cell (k := 1) rfl
  have x2 := (HCX.out.below hb13).cell (k := 2) rfl
  have z0 := (HSX.out.below hb13).cell (k := 0) rfl
  have z1 := (HSX.out.below hb13).cell (k := 1) rfl
  have z2 := (HSX.out.below hb13).cell (k := 2) rfl
  have z3 := (HSX.out.below hb13).cell (k := 3) rfl
  clear hb3
  go_wp2_with fail
  clear x0 x1 x2 z0 z1 z2 z3
  refine (((HRT.out _ hb13))).mono ?_; rintro e_ w4 ⟨v4, R4, rfl, hR4, hl4, ho4, hb4⟩; dsimp only
  have hb14 := hb13.trans (hb4.mono hb13.size)
  have ho34 := z6 ho3 hb4
  obtain ⟨A4, c4, rfl, hc4, hr4⟩ := Rd.of_own' ho4
  have HCN := Lib.hid (xh A4 c4 R4 w4 (by omega) hr4)
  have HSB := Lib.hid (Xg HGD.out HGC.out rfl hR4)
  clear hr4 ho4 ho3 hb4 hR4
  go_wp2_with fail
  refine ((HCN.out)).mono ?_; rintro e_ w5 ⟨v5, rfl, ho5, hb5⟩; dsimp only
  have ho35 := z6 ho34 hb5
  have hb15 := hb14.trans (hb5.mono hb14.size)
  have z0 := (HSX.out.below hb15).cell (k := 0) rfl
  have z1 := (HSX.out.below hb15).cell (k := 1) rfl
  have z2 := (HSX.out.below hb15).cell (k := 2) rfl
  have z3 := (HSX.out.below hb15).cell (k := 3) rfl
  have h04 := hb14.size
  have hb63 : (s.blobs.length : Int) ≤ 9223372036854775807 := by omega
  have HO34 := Lib.hid ho34
  clear ho34 ho35 hb13 hb12 HRT HAL HMK HSH HCK HCN hb15
  go_wp2_with fail
  clear z0 z1 z2 z3
  go_loopg [8, 35] s.blobs.length (fun gn u i wr => ∃ (k : Nat) (vn : Value), gn = s.blobs.length - k ∧ vn = u ∧ i = .int .i64 k ∧ k ≤ s.blobs.length ∧ wr.ownsRow w4.heap.size 9 1 vn (R4 ++ prt (s.blobs.take k)).length (strs (R4 ++ prt (s.blobs.take k))) ∧ Below w4.heap.size w4 wr)
  case atStart => exact ⟨0, _, rfl, rfl, rfl, by omega, by rw [List.take_zero]; simpa [prt] using ho5, hb5⟩
  case round =>
   clear ho5 hb5
   obtain ⟨k, vn, hgk, rfl, rfl, hk, hown, hbel⟩ := hrel
   have HGK := Lib.hid hgk
   clear hgk
   have hpl := Kc s.blobs k hk
   have hb0r := hb14.trans (hbel.mono hb14.size)
   by_cases hlt : k < s.blobs.length
   rotate_left
   ·obtain rfl : k = s.blobs.length := by omega
    have hlbb : decide (s.blobs.length < s.blobs.length) = false := by simp
    rw [List.take_length] at hown hpl
    have hmd := jg s.blobs
    have hRl : (R4 ++ prt s.blobs).length ≤ 1000 := by rw [List.length_append]; omega
    have HDL := Lib.hid (Xc w4.heap.size vn (R4 ++ prt s.blobs) _ (.pointer (some ⟨H, 0, none⟩)) (fun d => !(s.blobs.any (fun b => b.dig == d))) wr (by omega) hown (ZB wr w4 vn.ownBlock H c A s.blobs (R4 ++ prt s.blobs) (by omega) hcb hcm HDG.out (HR0.out.below hb14) ((HSX.out.below hb14).cell (k := 0) rfl) (by omega) (fun W h => zc hbel hown (Nat.le_refl _) h)))
    have HOR := Lib.hid (zc hbel hown (Nat.le_refl _) (w' := wr) (World.grownBy.refl _ _))
    have HBO := Lib.hid (fun (W : World) (h : wr.grownBy W vn.ownBlock) => zc hbel hown (Nat.le_refl _) h)
    clear hown
    go_wp2_with fail
    refine ((HDL.out)).mono ?_; rintro e_ w6 ⟨v6, rfl, ho6, hg6⟩; dsimp only
    have hb46 := HBO.out w6 hg6
    have hb16 := hb14.trans (hb46.mono hb14.size)
    have x0 := (HCX.out.below hb16).cell (k := 0) rfl
    have x1 := (HCX.out.below hb16).cell (k := 1) rfl
    have x2 := (HCX.out.below hb16).cell (k := 2) rfl
    have hfl : ((R4 ++ prt s.blobs).filter (fun d => !(!(s.blobs.any (fun b => b.dig == d))))).length ≤ 1000 := Nat.le_trans (List.length_filter_le _ _) hRl
    have ho36 := z6 HO34.out hb46
    clear hbel hg6 hb0r HDL HOR HBO hpl hRl
    generalize hF : ((R4 ++ prt s.blobs).filter (fun d => !(!(s.blobs.any (fun b => b.dig == d))))) = F at *
    obtain ⟨A3, c3, rfl, hc3, hr3⟩ := Rd.of_own' ho36
    obtain ⟨A6, c6, rfl, hc6, hr6⟩ := Rd.of_own' ho6
    have hrc := HRC.out.below hb16
    have hbq := (Below.refl w6.heap.size w6).alloc (Nat.le_refl _) (.cells #[.slice A3 (mkd s.blobs).length c3, .slice Ag grey.length ng] 29)
    have hAq : Arr (w6.alloc (.cells #[.slice A3 (mkd s.blobs).length c3, .slice Ag grey.length ng] 29)) w6.heap.size 29 [.slice A3 (mkd s.blobs).length c3, .slice Ag grey.length ng] := Arr.new w6 29 _
    have HCC := Lib.hid (vk w6.heap.size A3 Ag c3 ng (mkd s.blobs) grey _ hc3 hrc.cap (by omega) (by omega) (hAq.cell (k := 0) rfl) (hAq.cell (k := 1) rfl) (hr3.below hbq) (hrc.rd.below hbq))
    have HR6 := Lib.hid (hr6.below hbq)
    have hb1q := hb16.trans (hbq.mono hb16.size)
    clear hr3 hr6 hrc hAq ho36 ho6 hbq
    go_wp2_with fail
    clear x0 x1 x2
    generalize (w6.alloc (.cells #[.slice A3 (mkd s.blobs).length c3, .slice Ag grey.length ng] 29)) = wq at *
    refine ((HCC.out)).mono ?_; rintro e_ w7 ⟨v7, rfl, ho7, hb7⟩; dsimp only
    obtain ⟨A7, c7, rfl, hc7, hr7⟩ := Rd.of_own' ho7
    have hwt := uR A6 A7 c6 c7 F (mkd s.blobs ++ grey) w7 (by omega) (by rw [List.length_append]; omega) (HR6.out.below hb7) hr7 HSB.out
    rw [List.length_append] at hwt
    have HWT := Lib.hid hwt
    clear hwt
    have hb17 := hb1q.trans (hb7.mono hb1q.size)
    clear hr7 ho7 hb7 HR6
    go_wp2_with fail
    refine ((HWT.out)).mono ?_; rintro e_ w8 ⟨rfl, hb8⟩; dsimp only
    have hb18 := hb17.trans (hb8.mono hb17.size)
    go_wp2_with fail
    go_ret
    exact ⟨rfl, hb0.trans (hb18.mono hsz)⟩
   have hlbb : decide (k < s.blobs.length) = true := decide_eq_true hlt
   have hk0 : (0 : Int) ≤ (k : Int) := by omega
   have hk1 : (k : Int) < (s.blobs.length : Int) := by omega
   obtain ⟨bq, oq, Bq, cq, hA, hbq, d0, d1, d2, d3, hsl⟩ := (HR0.out.below hb0r).blob_at k hlt
   subst hA
   have HSU := Lib.hid (jZ s.blobs k hlt)
   have HKL := Lib.hid hlt
   generalize s.blobs[k] = q at *
   generalize hqm : q.mark = qm at *
   have hbox : Arr (wr.alloc (.cells #[.string ⟨q.dig.toArray⟩, .slice Bq q.data.length cq, .int .i64 (q.pins : Int), .bool qm] 50)) wr.heap.size 50 [.string ⟨q.dig.toArray⟩, .slice Bq q.data.length cq, .int .i64 (q.pins : Int), .bool qm] := Arr.new wr 50 _
   have hbA := hbel.alloc hbel.size (.cells #[.string ⟨q.dig.toArray⟩, .slice Bq q.data.length cq, .int .i64 (q.pins : Int), .bool qm] 50)
   have hbn := (Below.refl wr.heap.size wr).alloc (Nat.le_refl _) (.cells #[.string ⟨q.dig.toArray⟩, .slice Bq q.data.length cq, .int .i64 (q.pins : Int), .bool qm] 50)
   have hownA := hown.alloc (.cells #[.string ⟨q.dig.toArray⟩, .slice Bq q.data.length cq, .int .i64 (q.pins : Int), .bool qm] 50)
   have hslA := hsl.below hbn
   have p0 := hbox.cell (k := 0) rfl
   have p1 := hbox.cell (k := 1) rfl
   have p2 := hbox.cell (k := 2) rfl
   have p3 := hbox.cell (k := 3) rfl
   clear hsl hown hbox hbn hb0r
   cases qm with
   | false =>
    have hsu := HSU.out
    rw [if_neg (by decide), List.append_nil] at hsu
    have HSV := Lib.hid hsu
    have HOA := Lib.hid hownA
    clear hsu hownA hslA
    go_wp2_with fail
    go_roundg (s.blobs.length - (k + 1))
    case measure => have := HGK.out; have := HKL.out; omega
    case rel => exact ⟨k + 1, _, rfl, rfl, by go_num, by have := HKL.out; omega, by rw [HSV.out]; exact HOA.out, hbA⟩
   | true =>
    have hsu := HSU.out
    rw [if_pos rfl] at hsu
    have HPT := xb ⟨q.dig.toArray⟩ Bq q.data.length cq q.data (q.pins : Int) true _ rfl hslA.cap hslA.max hslA.rd
    have hk8 : (q9 q.data).1.length ≤ 8 := kg _
    rw [vT] at HPT
    have hkl : (q9 q.data).1.length = ((q9 q.data).1.map (fun p : PartP => p.dig)).length := by rw [List.length_map]
    rw [hkl] at HPT hk8
    generalize (q9 q.data).1.map (fun p : PartP => p.dig) = ks at *
    have HSV := Lib.hid hsu
    have HPT' := Lib.hid HPT
    clear hsu HPT hkl hslA
    go_wp2_with fail
    clear d0 d1 d2 d3 p0 p1 p2 p3
    generalize (wr.alloc (.cells #[.string ⟨q.dig.toArray⟩, .slice Bq q.data.length cq, .int .i64 (q.pins : Int), .bool true] 50)) = wA at *
    refine ((HPT'.out)).mono ?_; rintro e_ w8 ⟨v8, rfl, ho8, hb8⟩; dsimp only
    obtain ⟨A8, c8, rfl, _, hr8⟩ := Rd.of_own' ho8
    have hown8 := z6 hownA hb8
    have hbA8 := hbA.trans (hb8.mono hbA.size)
    clear ho8 hb8 hownA hbA HPT'
    have hrl : (R4 ++ prt (s.blobs.take k)).length ≤ 1000 := by rw [List.length_append]; omega
    repeat' (fail_if_success (first|at_builtin|at_make));first|go_values|go_skip|go_guarded|go_step|go_upon|go_back
    refine zJ rfl (.tmp 41) (.tmp 43) rfl xu (by rfl) hown8 (by rfl) hr8 (vr _) (by omega) hbA8.size ?_
    intro v9 w9 ho9 hg9 hv9
    have hb9 := zc hbA8 hown8 (Nat.le_refl _) hg9
    have HO9 := Lib.hid ho9
    clear ho9 hg9 hv9 hown8 hr8
    go_wp2_with fail
    go_roundg (s.blobs.length - (k + 1))
    case measure => have := HGK.out; have := HKL.out; omega
    case rel => exact ⟨k + 1, _, rfl, rfl, by go_num, by have := HKL.out; omega, by rw [HSV.out, ← List.append_assoc, y8 (R4 ++ prt (s.blobs.take k)) ks, show ((R4 ++ prt (s.blobs.take k)) ++ ks).length = (R4 ++ prt (s.blobs.take k)).length + ks.length from List.length_append]; exact HO9.out, hb9⟩
 ·clear h1
  obtain ⟨w0, hw0, hS, hC, hb0⟩ := zP w 26 66 [.slice A s.blobs.length c, .slice B s.ents.length d, .int .i64 (s.room : Int), .int .i64 (s.clock : Int)] [.int .i64 2, .slice Ag (grey).length ng, .string ⟨(at_).toArray⟩]
  have hr0 := hr.below hb0
  obtain ⟨H, hH⟩ : ∃ H, H = w.heap.size := ⟨_, rfl⟩
  have HCK := Lib.hid (zQ A c B d s w0 hg hr0)
  have HSH := Lib.hid (fun W (h : Below w0.heap.size w0 W) => vM Ag ng ⟨2, grey, at_⟩ s W hgl hgc ((hc.below hb0).below h))
  have HMK := Lib.hid (fun W (h : Below w0.heap.size w0 W) => xk A c s.blobs W (by omega) (hr0.below h).b)
  have HRT := Lib.hid (fun W (h : Below w0.heap.size w0 W) => kJ A B c d s (s.room : Int) (s.clock : Int) W hg.rts (hr0.below h))
  have HAL := Lib.hid (fun W (h : Below w0.heap.size w0 W) => xt A B c d s (s.room : Int) (s.clock : Int) W hg.rts (hr0.below h))
  have HDG := Lib.hid (show ∀ x ∈ s.blobs, x.dig.length ≤ 1000 from fun x hx => by rw [(hg.b.one x hx).1]; have := zZ (zu x.data); omega)
  have hcb := hr0.bc
  have hcm := hr0.bm
  have HR0 := Lib.hid hr0.b
  have HRC := Lib.hid (hc.below hb0)
  have HGD := Lib.hid hg
  have HGC := Lib.hid hgc
  rw [← hH] at hS hC hb0 ⊢
  have hsz : H ≤ w0.heap.size := by rw [hH] at hb0 ⊢; exact hb0.size
  have hHl : H + 1 < w0.heap.size := hC.lt
  have x0 := hS.cell (k := 0) rfl
  have x1 := hS.cell (k := 1) rfl
  have x2 := hS.cell (k := 2) rfl
  have x3 := hS.cell (k := 3) rfl
  rw [hw0, hH] at x0 x1 x2 x3
  have HSX := Lib.hid hS
  have HCX := Lib.hid hC
  clear hg hr hgc hc hr0 hS hC
  go_enter Tryz.func37, Tryz.ntmps37
  go_wp2_with fail
  rw [← hw0, ← hH]
  have HH := Lib.hid hH
  clear hw0 hH x0 x1 x2 x3
  refine ((HCK.out)).mono ?_; rintro e_ w1 ⟨rfl, hb1⟩; dsimp only
  have x0 := (HCX.out.below hb1).cell (k := 0) rfl
  have x1 := (HCX.out.below hb1).cell (k := 1) rfl
  have x2 := (HCX.out.below hb1).cell (k := 2) rfl
  have z0 := (HSX.out.below hb1).cell (k := 0) rfl
  go_wp2_with fail
  clear x0 x1 x2 z0
  refine (((HSH.out _ hb1))).mono ?_; rintro e_ w2 ⟨rfl, hb2⟩; dsimp only
  have hb12 := hb1.trans (hb2.mono hb1.size)
  have x0 := (HCX.out.below hb12).cell (k := 0) rfl
  have x1 := (HCX.out.below hb12).cell (k := 1) rfl
  have x2 := (HCX.out.below hb12).cell (k := 2) rfl
  have z0 := (HSX.out.below hb12).cell (k := 0) rfl
  have z1 := (HSX.out.below hb12).cell (k := 1) rfl
  have z2 := (HSX.out.below hb12).cell (k := 2) rfl
  have z3 := (HSX.out.below hb12).cell (k := 3) rfl
  clear hb1 hb2
  go_wp2_with fail
  clear x0 x1 x2 z0 z1 z2 z3
  refine (((HMK.out _ hb12))).mono ?_; rintro e_ w3 ⟨v3, rfl, ho3, hb3⟩; dsimp only
  have hb13 := hb12.trans (hb3.mono hb12.size)
  have x0 := (HCX.out.below hb13).cell (k := 0) rfl
  have x1 := (HCX.out.below hb13).cell (k := 1) rfl
  have x2 := (HCX.out.below hb13).cell (k := 2) rfl
  have z0 := (HSX.out.below hb13).cell (k := 0) rfl
  have z1 := (HSX.out.below hb13).cell (k := 1) rfl
  have z2 := (HSX.out.below hb13).cell (k := 2) rfl
  have z3 := (HSX.out.below hb13).cell (k := 3) rfl
  clear hb3
  go_wp2_with fail
  clear x0 x1 x2 z0 z1 z2 z3
  refine (((HAL.out _ hb13))).mono ?_; rintro e_ w4 ⟨v4, L4, rfl, hL4, hl4, ho4, hb4⟩; dsimp only
  have hb14 := hb13.trans (hb4.mono hb13.size)
  have hml := jg s.blobs
  obtain ⟨A3, c3, rfl, hc3, hr3⟩ := Rd.of_own' (z6 ho3 hb4)
  obtain ⟨A4, c4, rfl, hc4, hr4⟩ := Rd.of_own' ho4
  have hwt := uR A4 A3 c4 c3 L4 (mkd s.blobs) w4 (by omega) (by omega) hr4 hr3 (fun x hx => HGC.out.sw rfl x ((hL4.mem x).1 hx))
  have HWT := Lib.hid hwt
  clear hwt hr3 hr4 ho3 ho4 hb4
  go_wp2_with fail
  refine ((HWT.out)).mono ?_; rintro e_ w5 ⟨rfl, hb5⟩; dsimp only
  have hb15 := hb14.trans (hb5.mono hb14.size)
  go_wp2_with fail
  go_ret
  exact ⟨rfl, hb0.trans (hb15.mono hsz)⟩
end Go.Proofs.YtngfnjekjfeacaaGreat
namespace Go.Proofs.YtngfnjekjfeacaaGreat
open Go.RowKit Go.Maps
set_option linter.unusedVariables false
set_option linter.unusedSimpArgs false
set_option maxRecDepth 100000
set_option maxHeartbeats 16000000 in
theorem KD (A : Option Addr) (c : Nat) (B : Option Addr) (d : Nat) (s : StoP) (Ag : Option Addr) (ng : Nat) (cp : ColP) (w : World) (hg : GoodS s) (hr : RdSt w A c B d s) (hp : cp.phase = 2) (hgl : cp.grey.length ≤ 1000) (hgc : GoodC s cp) (hc : RdC w Ag ng cp) :
  Calls Tryz.prog 36 #[.agg #[.slice A s.blobs.length c, .slice B s.ents.length d, .int .i64 (s.room : Int), .int .i64 (s.clock : Int)], coV (.slice Ag cp.grey.length ng) cp] w fun e w' =>
   ∃ v1 v2, e = .returned (.tuple #[stV v1 v2 s, coV (.slice none 0 0) (zG s cp).2.1, .string ⟨(zG s cp).2.2.toArray⟩, .int .i64 0]) ∧ OwSt w' w.heap.size v1 v2 (zG s cp).1 (fun b => b < w.heap.size) ∧ Below w.heap.size w w' := by
 have hlb : s.blobs.length ≤ 24 := hg.b.len
 obtain ⟨phase, grey, at_⟩ := cp
 simp only at hp hgl
 subst hp
 obtain ⟨w0, hw0, hS, hC, hR, hD, hb0⟩ := qM w 26 66 [.slice A s.blobs.length c, .slice B s.ents.length d, .int .i64 (s.room : Int), .int .i64 (s.clock : Int)] [.int .i64 2, .slice Ag grey.length ng, .string ⟨at_.toArray⟩] [.slice none 0 0, .slice none 0 0, .int .i64 0, .int .i64 0] [.int .i64 0, .slice none 0 0, .string ⟨#[]⟩]
 have hr0 := hr.below hb0
 obtain ⟨H, hH⟩ : ∃ H, H = w.heap.size := ⟨_, rfl⟩
 have HCK := Lib.hid (k8 A c B d s Ag ng ⟨2, grey, at_⟩ w0 hg hr0 hgl hgc (hc.below hb0))
 have HST := Lib.hid (fun W (h : Below w0.heap.size w0 W) => Yh A c B d s Ag ng ⟨2, grey, at_⟩ W hg (hr0.below h) rfl hgc)
 rw [← hH] at hS hC hR hD hb0 ⊢
 have hHl : H + 1 + 1 + 1 < w0.heap.size := hD.lt
 have x0 := hS.cell (k := 0) rfl
 have x1 := hS.cell (k := 1) rfl
 have x2 := hS.cell (k := 2) rfl
 have x3 := hS.cell (k := 3) rfl
 have y0 := hC.cell (k := 0) rfl
 have y1 := hC.cell (k := 1) rfl
 have y2 := hC.cell (k := 2) rfl
 rw [hw0, hH] at x0 x1 x2 x3 y0 y1 y2
 clear hg hr hgc hc hr0
 go_enter Tryz.func36, Tryz.ntmps36
 go_wp2_with fail
 rw [← hw0, ← hH]
 have HH := Lib.hid hH
 clear hw0 hH x0 x1 x2 x3 y0 y1 y2
 refine ((HCK.out)).mono ?_; rintro e_ w1 ⟨rfl, hb1⟩; dsimp only
 have x0 := (hC.below hb1).cell (k := 0) rfl
 have x1 := (hC.below hb1).cell (k := 1) rfl
 have x2 := (hC.below hb1).cell (k := 2) rfl
 have z0 := (hS.below hb1).cell (k := 0) rfl
 have z1 := (hS.below hb1).cell (k := 1) rfl
 have z2 := (hS.below hb1).cell (k := 2) rfl
 have z3 := (hS.below hb1).cell (k := 3) rfl
 clear HCK
 go_wp2_with fail
 clear x0 x1 x2 z0 z1 z2 z3
 refine (((HST.out _ hb1))).mono ?_; rintro e_ w2 ⟨v1, v2, rfl, ho, hb2⟩; dsimp only
 have hb12 := hb1.trans (hb2.mono hb1.size)
 obtain ⟨A5, c5, B5, d5, e5, e6, -⟩ := ho.rows
 generalize (zG s ⟨2, grey, at_⟩).1.blobs.length = n5 at e5
 generalize (zG s ⟨2, grey, at_⟩).1.ents.length = n6 at e6
 subst e5 e6
 have hR := hR.below hb12
 have hD := hD.below hb12
 have hB := hb0.trans (hb12.mono (show H ≤ w0.heap.size by omega))
 have h01 := hb1.size
 generalize hcq : (zG s ⟨2, grey, at_⟩).2.1 = cq at *
 generalize hdq : (zG s ⟨2, grey, at_⟩).2.2 = dq at *
 have hF1 := Lib.hid (qq (g := H + 1 + 1) (h := H + 1 + 1 + 1) (u0 := .slice A5 n5 c5) (u1 := .slice B5 n6 d5) (u2 := .int .i64 (s.room : Int)) (u3 := .int .i64 (s.clock : Int)) (x0 := .int .i64 (cq.phase : Int)) (x1 := .slice none 0 0) (x2 := .string ⟨cq.at_.toArray⟩) hR (by omega))
 have hF2 := Lib.hid (qp (g := H + 1 + 1) (h := H + 1 + 1 + 1) (u0 := .slice A5 n5 c5) (u1 := .slice B5 n6 d5) (u2 := .int .i64 (s.room : Int)) (u3 := .int .i64 (s.clock : Int)) (x0 := .int .i64 (cq.phase : Int)) (x1 := .slice none 0 0) (x2 := .string ⟨cq.at_.toArray⟩) hD (by omega))
 have hF3 := Lib.hid (zW (g := H + 1 + 1) (h := H + 1 + 1 + 1) (u0 := .slice A5 n5 c5) (u1 := .slice B5 n6 d5) (u2 := .int .i64 (s.room : Int)) (u3 := .int .i64 (s.clock : Int)) (x0 := .int .i64 (cq.phase : Int)) (x1 := .slice none 0 0) (x2 := .string ⟨cq.at_.toArray⟩) ho (by omega) (by omega) (ho.nb hR (by decide) (by decide)).1 (ho.nb hR (by decide) (by decide)).2 (ho.nb hD (by decide) (by decide)).1 (ho.nb hD (by decide) (by decide)).2)
 have hF5 := Lib.hid (zy (g := H + 1 + 1) (h := H + 1 + 1 + 1) (u0 := .slice A5 n5 c5) (u1 := .slice B5 n6 d5) (u2 := .int .i64 (s.room : Int)) (u3 := .int .i64 (s.clock : Int)) (x0 := .int .i64 (cq.phase : Int)) (x1 := .slice none 0 0) (x2 := .string ⟨cq.at_.toArray⟩) hB (by omega) (by omega))
 have f0 := hR.frozen 0
 have f1 := hR.frozen 1
 have f2 := hR.frozen 2
 have f3 := hR.frozen 3
 have y0 := hR.cell (k := 0) rfl
 have y1 := hR.cell (k := 1) rfl
 have y2 := hR.cell (k := 2) rfl
 have y3 := hR.cell (k := 3) rfl
 have e0 := hD.frozen 0
 have e1 := hD.frozen 1
 have e2 := hD.frozen 2
 have x0 := hD.cell (k := 0) rfl
 have x1 := hD.cell (k := 1) rfl
 have x2 := hD.cell (k := 2) rfl
 clear hR hD ho hB hb12 hb2 hb0 hS hC HST
 simp only [stV, coV]
 go_wp2_with fail
 refine bodyPost_ret (zz rfl _ _ (H + 1 + 1) (H + 1 + 1 + 1) _ _ _ _ _ _ _ _ (by rfl) hF1.out Tryz.underlying26 rfl (by kernel_rfl) (by rfl) hF2.out Tryz.underlying66 rfl (by kernel_rfl)) rfl ?_
 rw [hcq, hdq]
 exact ⟨_, _, rfl, (hF3.out.lower (by omega)).mono (fun b hb => by omega), hF5.out⟩
set_option maxHeartbeats 16000000 in
theorem Ku (A : Option Addr) (c : Nat) (B : Option Addr) (d : Nat) (s : StoP) (Ag : Option Addr) (ng : Nat) (cp : ColP) (w : World) (hg : GoodS s) (hr : RdSt w A c B d s) (hp : cp.phase = 1) (hgl : cp.grey.length ≤ 1000) (hgc : GoodC s cp) (hc : RdC w Ag ng cp) :
  Calls Tryz.prog 36 #[.agg #[.slice A s.blobs.length c, .slice B s.ents.length d, .int .i64 (s.room : Int), .int .i64 (s.clock : Int)], coV (.slice Ag cp.grey.length ng) cp] w fun e w' =>
   ∃ v1 v2 v3, e = .returned (.tuple #[stV v1 v2 s, coV v3 (ze s cp).2, .string ⟨#[]⟩, .int .i64 0]) ∧ OwSt w' w.heap.size v1 v2 (ze s cp).1 (fun b => b < w.heap.size) ∧ w'.ownsRow w.heap.size 9 1 v3 (ze s cp).2.grey.length (strs (ze s cp).2.grey) ∧ Below w.heap.size w w' := by
 have hlb : s.blobs.length ≤ 24 := hg.b.len
 obtain ⟨phase, grey, at_⟩ := cp
 simp only at hp hgl
 subst hp
 obtain ⟨w0, hw0, hS, hC, hR, hD, hb0⟩ := qM w 26 66 [.slice A s.blobs.length c, .slice B s.ents.length d, .int .i64 (s.room : Int), .int .i64 (s.clock : Int)] [.int .i64 1, .slice Ag grey.length ng, .string ⟨at_.toArray⟩] [.slice none 0 0, .slice none 0 0, .int .i64 0, .int .i64 0] [.int .i64 0, .slice none 0 0, .string ⟨#[]⟩]
 have hr0 := hr.below hb0
 obtain ⟨H, hH⟩ : ∃ H, H = w.heap.size := ⟨_, rfl⟩
 have HCK := Lib.hid (k8 A c B d s Ag ng ⟨1, grey, at_⟩ w0 hg hr0 hgl hgc (hc.below hb0))
 have HST := Lib.hid (fun W (h : Below w0.heap.size w0 W) => Z8 A c B d s Ag ng ⟨1, grey, at_⟩ W hg (hr0.below h) rfl (hgc.a0 (by show ¬ (1 = 2); omega)) hgl ((hc.below hb0).below h))
 rw [← hH] at hS hC hR hD hb0 ⊢
 have hHl : H + 1 + 1 + 1 < w0.heap.size := hD.lt
 have x0 := hS.cell (k := 0) rfl
 have x1 := hS.cell (k := 1) rfl
 have x2 := hS.cell (k := 2) rfl
 have x3 := hS.cell (k := 3) rfl
 have y0 := hC.cell (k := 0) rfl
 have y1 := hC.cell (k := 1) rfl
 have y2 := hC.cell (k := 2) rfl
 rw [hw0, hH] at x0 x1 x2 x3 y0 y1 y2
 clear hg hr hgc hc hr0
 go_enter Tryz.func36, Tryz.ntmps36
 go_wp2_with fail
 rw [← hw0, ← hH]
 have HH := Lib.hid hH
 clear hw0 hH x0 x1 x2 x3 y0 y1 y2
 refine ((HCK.out)).mono ?_; rintro e_ w1 ⟨rfl, hb1⟩; dsimp only
 have x0 := (hC.below hb1).cell (k := 0) rfl
 have x1 := (hC.below hb1).cell (k := 1) rfl
 have x2 := (hC.below hb1).cell (k := 2) rfl
 have z0 := (hS.below hb1).cell (k := 0) rfl
 have z1 := (hS.below hb1).cell (k := 1) rfl
 have z2 := (hS.below hb1).cell (k := 2) rfl
 have z3 := (hS.below hb1).cell (k := 3) rfl
 clear HCK
 go_wp2_with fail
 clear x0 x1 x2 z0 z1 z2 z3
 refine (((HST.out _ hb1))).mono ?_; rintro e_ w2 ⟨v1, v2, v3, rfl, ho, hl, hb2⟩; dsimp only
 have hb12 := hb1.trans (hb2.mono hb1.size)
 obtain ⟨A5, c5, B5, d5, e5, e6, -⟩ := ho.rows
 obtain ⟨A6, n6, e7, -, -⟩ := Rd.of_own' hl
 generalize hcq : (ze s ⟨1, grey, at_⟩).2 = cq at *
 generalize hsq : (ze s ⟨1, grey, at_⟩).1 = sq at *
 subst e5 e6 e7
 have h01 := hb1.size
 have h02 := hb12.size
 obtain ⟨W3, hW3, hX3, hY3, hb3⟩ := zP w2 26 66 [.slice A5 sq.blobs.length c5, .slice B5 sq.ents.length d5, .int .i64 (s.room : Int), .int .i64 (s.clock : Int)] [.int .i64 (cq.phase : Int), .slice A6 cq.grey.length n6, .string ⟨cq.at_.toArray⟩]
 obtain ⟨G, hG⟩ : ∃ G, G = w2.heap.size := ⟨_, rfl⟩
 have hb13 := hb12.trans (hb3.mono hb12.size)
 have ho := ho.below hb3
 have hl := z6 hl hb3
 have hR := hR.below hb13
 have hD := hD.below hb13
 have hB := hb0.trans (hb13.mono (show H ≤ w0.heap.size by omega))
 rw [← hG] at hX3 hY3
 have n1 : ¬ (G = H + 1 + 1) := by omega
 have n2 : ¬ (G + 1 = H + 1 + 1) := by omega
 have HG := Lib.hid hG
 clear hb12 hb2 hb0 hS hC HST hb3 hb13 hG
 have o1 := zn hl hR (by decide)
 have o2 := zn hl hD (by decide)
 have hF1 := Lib.hid (qq (g := H + 1 + 1) (h := H + 1 + 1 + 1) (u0 := .slice A5 sq.blobs.length c5) (u1 := .slice B5 sq.ents.length d5) (u2 := .int .i64 (s.room : Int)) (u3 := .int .i64 (s.clock : Int)) (x0 := .int .i64 (cq.phase : Int)) (x1 := .slice A6 cq.grey.length n6) (x2 := .string ⟨cq.at_.toArray⟩) hR (by omega))
 have hF2 := Lib.hid (qp (g := H + 1 + 1) (h := H + 1 + 1 + 1) (u0 := .slice A5 sq.blobs.length c5) (u1 := .slice B5 sq.ents.length d5) (u2 := .int .i64 (s.room : Int)) (u3 := .int .i64 (s.clock : Int)) (x0 := .int .i64 (cq.phase : Int)) (x1 := .slice A6 cq.grey.length n6) (x2 := .string ⟨cq.at_.toArray⟩) hD (by omega))
 have hF3 := Lib.hid (zW (g := H + 1 + 1) (h := H + 1 + 1 + 1) (u0 := .slice A5 sq.blobs.length c5) (u1 := .slice B5 sq.ents.length d5) (u2 := .int .i64 (s.room : Int)) (u3 := .int .i64 (s.clock : Int)) (x0 := .int .i64 (cq.phase : Int)) (x1 := .slice A6 cq.grey.length n6) (x2 := .string ⟨cq.at_.toArray⟩) ho (by omega) (by omega) (ho.nb hR (by decide) (by decide)).1 (ho.nb hR (by decide) (by decide)).2 (ho.nb hD (by decide) (by decide)).1 (ho.nb hD (by decide) (by decide)).2)
 have hF4 := Lib.hid (zY (g := H + 1 + 1) (h := H + 1 + 1 + 1) (u0 := .slice A5 sq.blobs.length c5) (u1 := .slice B5 sq.ents.length d5) (u2 := .int .i64 (s.room : Int)) (u3 := .int .i64 (s.clock : Int)) (x0 := .int .i64 (cq.phase : Int)) (x1 := .slice A6 cq.grey.length n6) (x2 := .string ⟨cq.at_.toArray⟩) hl o1 o2)
 have hF5 := Lib.hid (zy (g := H + 1 + 1) (h := H + 1 + 1 + 1) (u0 := .slice A5 sq.blobs.length c5) (u1 := .slice B5 sq.ents.length d5) (u2 := .int .i64 (s.room : Int)) (u3 := .int .i64 (s.clock : Int)) (x0 := .int .i64 (cq.phase : Int)) (x1 := .slice A6 cq.grey.length n6) (x2 := .string ⟨cq.at_.toArray⟩) hB (by omega) (by omega))
 have HW := Lib.hid hW3
 clear hW3 o1 o2
 go_wp2_with fail
 rw [← HW.out, ← HG.out]
 have f0 := hR.frozen 0
 have f1 := hR.frozen 1
 have f2 := hR.frozen 2
 have f3 := hR.frozen 3
 have y0 := hR.cell (k := 0) rfl
 have y1 := hR.cell (k := 1) rfl
 have y2 := hR.cell (k := 2) rfl
 have y3 := hR.cell (k := 3) rfl
 have e0 := hD.frozen 0
 have e1 := hD.frozen 1
 have e2 := hD.frozen 2
 have x0 := hD.cell (k := 0) rfl
 have x1 := hD.cell (k := 1) rfl
 have x2 := hD.cell (k := 2) rfl
 have b0 := hX3.cell (k := 0) rfl
 have b1 := hX3.cell (k := 1) rfl
 have b2 := hX3.cell (k := 2) rfl
 have b3 := hX3.cell (k := 3) rfl
 have c0 := hY3.cell (k := 0) rfl
 have c1 := hY3.cell (k := 1) rfl
 have c2 := hY3.cell (k := 2) rfl
 clear hR hD ho hB hl hX3 hY3
 go_region
 all_goals (try dsimp only [Exit.then])
 go_wp2_with fail
 refine bodyPost_ret (zz rfl _ _ (H + 1 + 1) (H + 1 + 1 + 1) _ _ _ _ _ _ _ _ (by rfl) (Arr.drew hF1.out) Tryz.underlying26 rfl (by kernel_rfl) (by rfl) (Arr.drew hF2.out) Tryz.underlying66 rfl (by kernel_rfl)) rfl ?_
 rw [hcq, hsq]
 exact ⟨_, _, _, rfl, (hF3.out.drewX.lower (by omega)).mono (fun b hb => by omega), zb hF4.out.drew (by omega), hF5.out.drew⟩
set_option maxHeartbeats 16000000 in
theorem jG (A : Option Addr) (c : Nat) (B : Option Addr) (d : Nat) (s : StoP) (Ag : Option Addr) (ng : Nat) (cp : ColP) (w : World) (hg : GoodS s) (hr : RdSt w A c B d s) (hp : cp.phase = 0) (hgl : cp.grey.length ≤ 1000) (hgc : GoodC s cp) (hc : RdC w Ag ng cp) :
  Calls Tryz.prog 36 #[.agg #[.slice A s.blobs.length c, .slice B s.ents.length d, .int .i64 (s.room : Int), .int .i64 (s.clock : Int)], coV (.slice Ag cp.grey.length ng) cp] w fun e w' =>
   e = .returned (.tuple #[.agg #[.slice none 0 0, .slice none 0 0, .int .i64 0, .int .i64 0], .agg #[.int .i64 0, .slice none 0 0, .string ⟨#[]⟩], .string ⟨#[]⟩, .int .i64 11]) ∧ Below w.heap.size w w' := by
 have hlb : s.blobs.length ≤ 24 := hg.b.len
 obtain ⟨phase, grey, at_⟩ := cp
 simp only at hp hgl
 subst hp
 obtain ⟨w0, hw0, hS, hC, hR, hD, hb0⟩ := qM w 26 66 [.slice A s.blobs.length c, .slice B s.ents.length d, .int .i64 (s.room : Int), .int .i64 (s.clock : Int)] [.int .i64 0, .slice Ag grey.length ng, .string ⟨at_.toArray⟩] [.slice none 0 0, .slice none 0 0, .int .i64 0, .int .i64 0] [.int .i64 0, .slice none 0 0, .string ⟨#[]⟩]
 have hr0 := hr.below hb0
 obtain ⟨H, hH⟩ : ∃ H, H = w.heap.size := ⟨_, rfl⟩
 have HCK := Lib.hid (k8 A c B d s Ag ng ⟨0, grey, at_⟩ w0 hg hr0 hgl hgc (hc.below hb0))
 rw [← hH] at hS hC hR hD hb0 ⊢
 have hHl : H + 1 + 1 + 1 < w0.heap.size := hD.lt
 have x0 := hS.cell (k := 0) rfl
 have x1 := hS.cell (k := 1) rfl
 have x2 := hS.cell (k := 2) rfl
 have x3 := hS.cell (k := 3) rfl
 have y0 := hC.cell (k := 0) rfl
 have y1 := hC.cell (k := 1) rfl
 have y2 := hC.cell (k := 2) rfl
 rw [hw0, hH] at x0 x1 x2 x3 y0 y1 y2
 clear hg hr hgc hc hr0
 go_enter Tryz.func36, Tryz.ntmps36
 go_wp2_with fail
 rw [← hw0, ← hH]
 have HH := Lib.hid hH
 clear hw0 hH x0 x1 x2 x3 y0 y1 y2
 refine ((HCK.out)).mono ?_; rintro e_ w1 ⟨rfl, hb1⟩; dsimp only
 have x0 := (hC.below hb1).cell (k := 0) rfl
 have x1 := (hC.below hb1).cell (k := 1) rfl
 have x2 := (hC.below hb1).cell (k := 2) rfl
 have z0 := (hS.below hb1).cell (k := 0) rfl
 have z1 := (hS.below hb1).cell (k := 1) rfl
 have z2 := (hS.below hb1).cell (k := 2) rfl
 have z3 := (hS.below hb1).cell (k := 3) rfl
 have hR := hR.below hb1
 have hD := hD.below hb1
 have hB := hb0.trans (hb1.mono (show H ≤ w0.heap.size by omega))
 have hF1 := Lib.hid (qq (g := H + 1 + 1) (h := H + 1 + 1 + 1) (u0 := .slice none 0 0) (u1 := .slice none 0 0) (u2 := .int .i64 0) (u3 := .int .i64 0) (x0 := .int .i64 0) (x1 := .slice none 0 0) (x2 := .string ⟨#[]⟩) hR (by omega))
 have hF2 := Lib.hid (qp (g := H + 1 + 1) (h := H + 1 + 1 + 1) (u0 := .slice none 0 0) (u1 := .slice none 0 0) (u2 := .int .i64 0) (u3 := .int .i64 0) (x0 := .int .i64 0) (x1 := .slice none 0 0) (x2 := .string ⟨#[]⟩) hD (by omega))
 have hF5 := Lib.hid (zy (g := H + 1 + 1) (h := H + 1 + 1 + 1) (u0 := .slice none 0 0) (u1 := .slice none 0 0) (u2 := .int .i64 0) (u3 := .int .i64 0) (x0 := .int .i64 0) (x1 := .slice none 0 0) (x2 := .string ⟨#[]⟩) hB (by omega) (by omega))
 have f0 := hR.frozen 0
 have f1 := hR.frozen 1
 have f2 := hR.frozen 2
 have f3 := hR.frozen 3
 have y0 := hR.cell (k := 0) rfl
 have y1 := hR.cell (k := 1) rfl
 have y2 := hR.cell (k := 2) rfl
 have y3 := hR.cell (k := 3) rfl
 have e0 := hD.frozen 0
 have e1 := hD.frozen 1
 have e2 := hD.frozen 2
 have q0 := hD.cell (k := 0) rfl
 have q1 := hD.cell (k := 1) rfl
 have q2 := hD.cell (k := 2) rfl
 clear HCK hR hD hB hb0 hS hC
 go_wp2_with fail
 refine bodyPost_ret (zz rfl _ _ (H + 1 + 1) (H + 1 + 1 + 1) _ _ _ _ _ _ _ _ (by rfl) hF1.out Tryz.underlying26 rfl (by kernel_rfl) (by rfl) hF2.out Tryz.underlying66 rfl (by kernel_rfl)) rfl ?_
 exact ⟨rfl, hF5.out⟩
end Go.Proofs.YtngfnjekjfeacaaGreat
namespace Go.Proofs.YtngfnjekjfeacaaGreat
open Go.RowKit Go.Maps
set_option linter.unusedVariables false
set_option linter.unusedSimpArgs false
set_option maxRecDepth 100000
end Go.Proofs.YtngfnjekjfeacaaGreat
namespace Go.Proofs.YtngfnjekjfeacaaGreat
open Go.RowKit Go.Maps
set_option linter.unusedVariables false
set_option linter.unusedSimpArgs false
set_option maxRecDepth 100000
theorem XP (x : List UInt8) : StrL [x] (fun y => y ∈ [x]) := ⟨(by simp), List.pairwise_singleton _ _, fun _ => Iff.rfl⟩
theorem K9 {A M K : List UInt8} (hA : A = [97, 98, 99]) (hM : M = enc [⟨[120], shaS A, 3⟩]) (hg : GoodS (zo A M K)) : (qE (zo A M K)).grey.length = 1 ∧ (ze (qi (zo A M K)) (qE (zo A M K))).2.grey.length = 1 ∧ (ze (qi (zo A M K)) (qE (zo A M K))).2.phase = 1 := by
 have hp := kn A M K
 have hbM : (⟨shaS M, M, 0, false⟩ : BlobP) ∈ (zo A M K).blobs := hp.mem_iff.2 (by simp)
 have kM : kids (zo A M K).blobs (shaS M) = [shaS A] := by
  have := yV hg.b.ris hbM
  dsimp only at this
  have hc : chk [(⟨[120], shaS A, 3⟩ : PartP)] = 0 := by
   rw [chk, if_neg (by show ¬ 1 > 8; omega), yo (show zL [120] = 0 by decide) (fun m hm => by cases hm) (zu A) (by show 3 ≤ 300; omega)]
   rfl
  rw [this, hM, Ky _ hc]; rfl
 have hg1 : (qE (zo A M K)).grey = [shaS M] := StrL.uniq (yZ (rts (zo A M K))) ⟨(by simp), List.pairwise_singleton _ _, fun x => by rw [XC, List.mem_singleton]⟩
 have hin : InB (qi (zo A M K)).blobs (shaS M) := (yk (qF _)).2 ⟨_, hbM, rfl⟩
 refine ⟨by rw [hg1]; rfl, ?_⟩
 rcases zO (qi (zo A M K)) (qE (zo A M K)) with ⟨h, _⟩ | ⟨d, rest, h, hn, _⟩ | ⟨d, rest, i, hi, h, _, _, hm, _⟩ | ⟨d, rest, i, hi, h, _, _, _, e⟩
 ·rw [hg1] at h; cases h
 ·rw [hg1] at h; cases h; exact absurd hin hn
 ·exfalso
  obtain ⟨a, _, e⟩ := List.mem_map.1 (List.getElem_mem hi)
  have hm' : (qi (zo A M K)).blobs[i].mark = true := hm
  have e' : (qi (zo A M K)).blobs[i] = { a with mark := false } := e.symm
  rw [e'] at hm'; cases hm'
 ·rw [hg1] at h; cases h
  rw [e]
  refine ⟨?_, rfl⟩
  show (uni ([] ++ kids (qi (zo A M K)).blobs (shaS M))).length = 1
  rw [show kids (qi (zo A M K)).blobs (shaS M) = kids (zo A M K).blobs (shaS M) from vW (qF _) _, kM, List.nil_append]
  rw [StrL.uniq (yZ [shaS A]) (XP (shaS A))]; rfl
theorem vD (w : World) (e1 e2 : TypeId) (c1 c2 : List Value) : ∃ W, W = (w.alloc (.cells c1.toArray e1)).alloc (.cells c2.toArray e2) ∧ Arr W w.heap.size e1 c1 ∧ Arr W (w.heap.size + 1) e2 c2 ∧ Below w.heap.size w W := by
 have b1 := (Below.refl w.heap.size w).alloc (Nat.le_refl _) (.cells c1.toArray e1)
 have b2 := b1.alloc b1.size (.cells c2.toArray e2)
 have a1 := (Arr.new w e1 c1).alloc (.cells c2.toArray e2)
 have a2 := Arr.new (w.alloc (.cells c1.toArray e1)) e2 c2
 rw [World.size_alloc] at a2
 exact ⟨_, rfl, a1, a2, b2⟩
theorem uL (s : StoP) : (qi s).blobs.length = s.blobs.length := by show (Kk s.blobs).length = _; simp [Kk]
set_option maxHeartbeats 8000000 in
theorem vF (w : World) : Calls Tryz.prog 34 #[] w fun e w' => e = .returned (.bool true) ∧ Below w.heap.size w w' := by
 obtain ⟨A, hA⟩ : ∃ A : List UInt8, A = [97, 98, 99] := ⟨_, rfl⟩
 obtain ⟨M, hM⟩ : ∃ M, M = enc [⟨[120], shaS A, 3⟩] := ⟨_, rfl⟩
 obtain ⟨K, hK⟩ : ∃ K, K = keyS 0 := ⟨_, rfl⟩
 have hAL : A.length = 3 := by rw [hA]; rfl
 have hg : GoodS (zo A M K) := Yq hAL (K7 hA hM) (YP hA hM) (by rw [hK]; exact zu _)
 obtain ⟨m1, m2, m3⟩ := K9 hA hM hg
 have HSM := Lib.hid (show ∀ w, Calls Tryz.prog 73 #[] w fun e w' => ∃ X c Y d, e = .returned (.agg #[.slice X (zo A M K).blobs.length c, .slice Y (zo A M K).ents.length d, .int .i64 ((zo A M K).room : Int), .int .i64 ((zo A M K).clock : Int)]) ∧ RdSt w' X c Y d (zo A M K) ∧ Below w.heap.size w w' from fun w => KR A M K hA hM hK w)
 have HBG := Lib.hid (show ∀ X c Y d W, RdSt W X c Y d (zo A M K) → Calls Tryz.prog 33 #[.agg #[.slice X (zo A M K).blobs.length c, .slice Y (zo A M K).ents.length d, .int .i64 ((zo A M K).room : Int), .int .i64 ((zo A M K).clock : Int)]] W fun e w' => ∃ v1 v2 v3, e = .returned (.tuple #[stV v1 v2 (qi (zo A M K)), coV v3 (qE (zo A M K)), .int .i64 0]) ∧ OwSt w' W.heap.size v1 v2 (qi (zo A M K)) (fun b => b < W.heap.size) ∧ w'.ownsRow W.heap.size 9 1 v3 (qE (zo A M K)).grey.length (strs (qE (zo A M K)).grey) ∧ Below W.heap.size W w' from fun X c Y d W h => yU X c Y d _ W hg h)
 have HMS := Lib.hid (fun X c Y d Ag ng W (h : RdSt W X c Y d (qi (zo A M K))) (hc : RdC W Ag ng (qE (zo A M K))) => Z8 X c Y d _ Ag ng (qE (zo A M K)) W (kW hg) h rfl rfl (by rw [m1]; omega) hc)
 have g1 : (((qE (zo A M K)).phase : Int) == 1) = true := rfl
 have g2 : (((qE (zo A M K)).grey.length : Int) == 1) = true := by rw [m1]; rfl
 have g3 : (((ze (qi (zo A M K)) (qE (zo A M K))).2.grey.length : Int) == 1) = true := by rw [m2]; rfl
 clear hA hM hK hAL hg m1 m2 m3
 generalize qi (zo A M K) = t at *
 generalize qE (zo A M K) = cc at *
 generalize zo A M K = s at *
 go_enter Tryz.func34, Tryz.ntmps34
 go_wp2_with fail
 refine ((HSM.out w)).mono ?_; rintro e_ w1 ⟨X, c, Y, d, rfl, hr1, hb1⟩; dsimp only
 have HB1 := Lib.hid (HBG.out X c Y d w1 hr1)
 clear hr1
 go_wp2_with fail
 refine ((HB1.out)).mono ?_; rintro e_ w2 ⟨v1, v2, v3, rfl, ho2, hl2, hb2⟩; dsimp only
 obtain ⟨X2, c2, Y2, d2, e1, e2, hr2⟩ := ho2.rows
 obtain ⟨A3, n3, e3, hc3⟩ := RdC.of_own (c := cc) hl2
 subst e1 e2 e3
 have hb12 := hb1.trans (hb2.mono hb1.size)
 obtain ⟨W3, hW3, hA3, hC3, hb3⟩ := vD w2 26 66 [.slice X2 t.blobs.length c2, .slice Y2 t.ents.length d2, .int .i64 (t.room : Int), .int .i64 (t.clock : Int)] [.int .i64 (cc.phase : Int), .slice A3 cc.grey.length n3, .string ⟨cc.at_.toArray⟩]
 have x0 := hA3.cell (k := 0) rfl
 have x1 := hA3.cell (k := 1) rfl
 have x2 := hA3.cell (k := 2) rfl
 have x3 := hA3.cell (k := 3) rfl
 have y0 := hC3.cell (k := 0) rfl
 have y1 := hC3.cell (k := 1) rfl
 have y2 := hC3.cell (k := 2) rfl
 have HM3 := Lib.hid (HMS.out X2 c2 Y2 d2 A3 n3 W3 (hr2.below hb3) (hc3.below hb3))
 have hb13 := hb12.trans (hb3.mono hb12.size)
 have HC3 := Lib.hid hC3
 rw [hW3] at x0 x1 x2 x3 y0 y1 y2
 clear ho2 hl2 hr2 hc3 hb2 hb1 hb12 hb3 hA3 hC3 HBG HSM HB1
 go_wp2_with fail
 rw [← hW3]
 clear x0 x1 x2 x3 y0 y1 y2 hW3
 refine ((HM3.out)).mono ?_; rintro e_ w4 ⟨v4, v5, v6, rfl, ho4, hl4, hb4⟩; dsimp only
 obtain ⟨X4, c4, Y4, d4, e1, e2, _⟩ := ho4.rows
 obtain ⟨A6, n6, e3, _, _⟩ := Rd.of_own' hl4
 subst e1 e2 e3
 have hb14 := hb13.trans (hb4.mono hb13.size)
 have hC4 := HC3.out.below hb4
 obtain ⟨W5, hW5, _, hC5, hb5⟩ := vD w4 26 66 [.slice X4 (ze t cc).1.blobs.length c4, .slice Y4 (ze t cc).1.ents.length d4, .int .i64 (t.room : Int), .int .i64 (t.clock : Int)] [.int .i64 ((ze t cc).2.phase : Int), .slice A6 (ze t cc).2.grey.length n6, .string ⟨(ze t cc).2.at_.toArray⟩]
 have y0 := (hC4.below hb5).cell (k := 0) rfl
 have y1 := (hC4.below hb5).cell (k := 1) rfl
 have z1 := hC5.cell (k := 1) rfl
 have hb15 := hb14.trans (hb5.mono hb14.size)
 rw [hW5] at y0 y1 z1
 clear ho4 hl4 hb4 hb13 hb14 hC4 hC5 hb5 HM3 HMS
 go_wp2_with fail
 go_ret
 rw [← hW5]
 exact ⟨by simp, hb15⟩
end Go.Proofs.YtngfnjekjfeacaaGreat
namespace Go.Proofs.YtngfnjekjfeacaaGreat
open Go.RowKit Go.Maps
set_option linter.unusedVariables false
set_option linter.unusedSimpArgs false
set_option maxRecDepth 100000
theorem YH (l : List RawP) : ∀ b ∈ (sto l).blobs, b.data.length ≤ 148 ∧ b.mark = false := fun b hb => by
 have h := (yM l 12).bone
 have pb : ((sto l).blobs).Perm (kD l).blobs := zD _ _
 have := h b (pb.mem_iff.1 hb)
 exact ⟨this.2.1, this.2.2.2⟩
end Go.Proofs.YtngfnjekjfeacaaGreat
namespace Go.Proofs.YtngfnjekjfeacaaGreat
open Go.RowKit Go.Maps
set_option linter.unusedVariables false
set_option linter.unusedSimpArgs false
set_option maxRecDepth 100000
theorem KP {p : PartP} (h : zL p.name = 0 ∧ hexC p.dig = 0 ∧ p.size ≤ 300) : 34 ≤ (qW p).length := by
 have h1 := Z4 h
 have h2 : (qY p.dig).1.length = 32 := (kP h.2.1).2
 unfold qW
 rw [List.length_append, List.length_append, h2]
 omega
theorem Y0 (l : List PartP) (h : ∀ p ∈ l, zL p.name = 0 ∧ hexC p.dig = 0 ∧ p.size ≤ 300) : 34 * l.length ≤ (l.flatMap qW).length := by
 induction l with
 | nil => simp
 | cons p l ih =>
  have h1 := KP (h p (by simp))
  have h2 := ih (fun q hq => h q (by simp [hq]))
  rw [List.flatMap_cons, List.length_append, List.length_cons]; omega
theorem Xj (b : List UInt8) (h : b.length ≤ 148) : (q9 b).1.length ≤ 4 := by
 rcases Qs b with h1 | ⟨h1, h2⟩
 ·rw [h1]; simp
 ·have hz := zi h2
  have h3 := yj _ hz.1
  have h4 := Y0 _ hz.2
  rw [h1] at h3
  omega
theorem Xe (l : List RawP) : qN 4 (sto l).blobs := fun b hb => Xj b.data (YH l b hb).1
theorem jO (l : List RawP) : (sto l).blobs.length ≤ 12 ∧ (sto l).ents.length ≤ 12 ∧ ∀ x ∈ (sto l).ents, x.parts.length ≤ 3 := by
 have h := yM l 12
 have pb : ((sto l).blobs).Perm (kD l).blobs := zD _ _
 have pe : ((sto l).ents).Perm (kD l).ents := zD _ _
 exact ⟨by rw [pb.length_eq]; exact h.blen, by rw [pe.length_eq]; exact h.elen, fun x hx => (h.eone x (pe.mem_iff.1 hx)).2.2.1⟩
theorem QX (es : List EntP) (h : ∀ x ∈ es, x.parts.length ≤ 3) : (vh es).length ≤ 3 * es.length := by
 induction es with
 | nil => simp [vh]
 | cons x es ih =>
  have h1 := h x (by simp)
  have h2 := ih (fun y hy => h y (by simp [hy]))
  unfold vh at h2 ⊢
  rw [List.flatMap_cons, List.length_append, List.length_map, List.length_cons]; omega
theorem QF (l : List RawP) : 4 * unm (qi (sto l)).blobs + (qE (sto l)).grey.length ≤ 96 := by
 obtain ⟨h1, h2, h3⟩ := jO l
 have h4 := YV (qi (sto l)).blobs
 rw [uL] at h4
 have h5 : (qE (sto l)).grey.length ≤ (rts (sto l)).length := jo _
 have h6 := QX _ h3
 have h7 := yN (sto l).blobs
 have h8 : (rts (sto l)).length = (vh (sto l).ents).length + (xF (sto l).blobs).length := List.length_append
 omega
end Go.Proofs.YtngfnjekjfeacaaGreat
