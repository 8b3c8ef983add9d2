/- Lemmas of a proof, made shorter by a program. Conditions: none, or as each states. -/
import Derived.Test.YtngfnjekjfeacaaGreatQI30
namespace Go.Proofs.YtngfnjekjfeacaaGreat
open Go.RowKit Go.Maps
set_option linter.unusedVariables false
set_option linter.unusedSimpArgs false
set_option maxRecDepth 100000
theorem y9 (w : World) (e1 e2 : TypeId) (c1 c2 : List Value) : ∃ W, W = (w.alloc (.cells c1.toArray e1)).alloc (.cells c2.toArray e2) ∧ Arr W w.heap.size e1 c1 ∧ Arr W (w.heap.size + 1) e2 c2 ∧ Below w.heap.size w W := by
 have b1 := (Below.refl w.heap.size w).alloc (Nat.le_refl _) (.cells c1.toArray e1)
 have a2 := Arr.new (w.alloc (.cells c1.toArray e1)) e2 c2
 rw [World.size_alloc] at a2
 exact ⟨_, rfl, (Arr.new w e1 c1).alloc _, a2, b1.alloc b1.size _⟩
set_option maxHeartbeats 16000000 in
theorem vM (A : Option Addr) (c : Nat) (B : Option Addr) (d : Nat) (s : StoP) (Ag : Option Addr) (ng : Nat) (cp : ColP) (w : World) (hg : GoodS s) (hr : RdSt w A c B d s) (hgl : cp.grey.length ≤ 1000) (hgc : GoodC s cp) (hc : RdC w Ag ng cp) :
  Calls Tryz.prog 37 #[.agg #[.slice A s.blobs.length c, .slice B s.ents.length d, .int .i64 (s.room : Int), .int .i64 (s.clock : Int)], coV (.slice Ag cp.grey.length ng) cp] w fun e w' => e = .returned (.int .i64 0) ∧ Below w.heap.size w w' := by
 have hlb : s.blobs.length ≤ 24 := hg.b.len
 obtain ⟨phase, grey, at_⟩ := cp
 have h1 := hgc.ph
 simp only at h1 hgl
 rcases (show phase = 0 ∨ phase = 1 ∨ phase = 2 by omega) with rfl | rfl | rfl
 ·clear h1
  obtain ⟨w0, hw0, hS, hC, hb0⟩ := y9 w 26 66 [.slice A s.blobs.length c, .slice B s.ents.length d, .int .i64 (s.room : Int), .int .i64 (s.clock : Int)] [.int .i64 0, .slice Ag (grey).length ng, .string ⟨(at_).toArray⟩]
  have hr0 := hr.below hb0
  obtain ⟨H, hH⟩ : ∃ H, H = w.heap.size := ⟨_, rfl⟩
  have HCK := Lib.hid (qh A c B d s w0 hg hr0)
  have HSH := Lib.hid (fun W (h : Below w0.heap.size w0 W) => xT Ag ng ⟨0, grey, at_⟩ s W hgl hgc ((hc.below hb0).below h))
  have HMK := Lib.hid (fun W (h : Below w0.heap.size w0 W) => yk A c s.blobs W (by omega) (hr0.below h).b)
  have HRT := Lib.hid (fun W (h : Below w0.heap.size w0 W) => yc A B c d s (s.room : Int) (s.clock : Int) W hg.rts (hr0.below h))
  have HAL := Lib.hid (fun W (h : Below w0.heap.size w0 W) => Qi A B c d s (s.room : Int) (s.clock : Int) W hg.rts (hr0.below h))
  have HDG := Lib.hid (show ∀ x ∈ s.blobs, x.dig.length ≤ 1000 from fun x hx => by rw [(hg.b.one x hx).1]; have := zV (zB x.data); omega)
  have hcb := hr0.bc
  have hcm := hr0.bm
  have HR0 := Lib.hid hr0.b
  have HRC := Lib.hid (hc.below hb0)
  have HGD := Lib.hid hg
  have HGC := Lib.hid hgc
  rw [← hH] at hS hC hb0 ⊢
  have hsz : H ≤ w0.heap.size := by rw [hH] at hb0 ⊢; exact hb0.size
  have hHl : H + 1 < w0.heap.size := hC.lt
  have x0 := hS.cell (k := 0) rfl
  have x1 := hS.cell (k := 1) rfl
  have x2 := hS.cell (k := 2) rfl
  have x3 := hS.cell (k := 3) rfl
  rw [hw0, hH] at x0 x1 x2 x3
  have HSX := Lib.hid hS
  have HCX := Lib.hid hC
  clear hg hr hgc hc hr0 hS hC
  go_enter Tryz.func37, Tryz.ntmps37
  go_wp2_with fail
  rw [← hw0, ← hH]
  have HH := Lib.hid hH
  clear hw0 hH x0 x1 x2 x3
  refine ((HCK.out)).mono ?_; rintro e_ w1 ⟨rfl, hb1⟩; dsimp only
  have x0 := (HCX.out.below hb1).cell (k := 0) rfl
  have x1 := (HCX.out.below hb1).cell (k := 1) rfl
  have x2 := (HCX.out.below hb1).cell (k := 2) rfl
  have z0 := (HSX.out.below hb1).cell (k := 0) rfl
  go_wp2_with fail
  clear x0 x1 x2 z0
  refine (((HSH.out _ hb1))).mono ?_; rintro e_ w2 ⟨rfl, hb2⟩; dsimp only
  have hb12 := hb1.trans (hb2.mono hb1.size)
  have x0 := (HCX.out.below hb12).cell (k := 0) rfl
  have x1 := (HCX.out.below hb12).cell (k := 1) rfl
  have x2 := (HCX.out.below hb12).cell (k := 2) rfl
  have z0 := (HSX.out.below hb12).cell (k := 0) rfl
  have z1 := (HSX.out.below hb12).cell (k := 1) rfl
  have z2 := (HSX.out.below hb12).cell (k := 2) rfl
  have z3 := (HSX.out.below hb12).cell (k := 3) rfl
  clear hb1 hb2
  go_wp2_with fail
  clear x0 x1 x2 z0 z1 z2 z3
  refine (((HMK.out _ hb12))).mono ?_; rintro e_ w3 ⟨v3, rfl, ho3, hb3⟩; dsimp only
  have hb13 := hb12.trans (hb3.mono hb12.size)
  have x0 := (HCX.out.below hb13).cell (k := 0) rfl
  have x1 := (HCX.out.below hb13).cell (k := 1) rfl
  have x2 := (HCX.out.below hb13).cell (k := 2) rfl
  have z0 := (HSX.out.below hb13).cell (k := 0) rfl
  have z1 := (HSX.out.below hb13).cell (k := 1) rfl
  have z2 := (HSX.out.below hb13).cell (k := 2) rfl
  have z3 := (HSX.out.below hb13).cell (k := 3) rfl
  clear hb3
  go_wp2_with fail
  go_ret
  exact ⟨rfl, hb0.trans (hb13.mono hsz)⟩
 ·clear h1
  obtain ⟨w0, hw0, hS, hC, hb0⟩ := y9 w 26 66 [.slice A s.blobs.length c, .slice B s.ents.length d, .int .i64 (s.room : Int), .int .i64 (s.clock : Int)] [.int .i64 1, .slice Ag (grey).length ng, .string ⟨(at_).toArray⟩]
  have hr0 := hr.below hb0
  obtain ⟨H, hH⟩ : ∃ H, H = w.heap.size := ⟨_, rfl⟩
  have HCK := Lib.hid (qh A c B d s w0 hg hr0)
  have HSH := Lib.hid (fun W (h : Below w0.heap.size w0 W) => xT Ag ng ⟨1, grey, at_⟩ s W hgl hgc ((hc.below hb0).below h))
  have HMK := Lib.hid (fun W (h : Below w0.heap.size w0 W) => yk A c s.blobs W (by omega) (hr0.below h).b)
  have HRT := Lib.hid (fun W (h : Below w0.heap.size w0 W) => yc A B c d s (s.room : Int) (s.clock : Int) W hg.rts (hr0.below h))
  have HAL := Lib.hid (fun W (h : Below w0.heap.size w0 W) => Qi A B c d s (s.room : Int) (s.clock : Int) W hg.rts (hr0.below h))
  have HDG := Lib.hid (show ∀ x ∈ s.blobs, x.dig.length ≤ 1000 from fun x hx => by rw [(hg.b.one x hx).1]; have := zV (zB x.data); omega)
  have hcb := hr0.bc
  have hcm := hr0.bm
  have HR0 := Lib.hid hr0.b
  have HRC := Lib.hid (hc.below hb0)
  have HGD := Lib.hid hg
  have HGC := Lib.hid hgc
  rw [← hH] at hS hC hb0 ⊢
  have hsz : H ≤ w0.heap.size := by rw [hH] at hb0 ⊢; exact hb0.size
  have hHl : H + 1 < w0.heap.size := hC.lt
  have x0 := hS.cell (k := 0) rfl
  have x1 := hS.cell (k := 1) rfl
  have x2 := hS.cell (k := 2) rfl
  have x3 := hS.cell (k := 3) rfl
  rw [hw0, hH] at x0 x1 x2 x3
  have HSX := Lib.hid hS
  have HCX := Lib.hid hC
  clear hg hr hgc hc hr0 hS hC
  go_enter Tryz.func37, Tryz.ntmps37
  go_wp2_with fail
  rw [← hw0, ← hH]
  have HH := Lib.hid hH
  clear hw0 hH x0 x1 x2 x3
  refine ((HCK.out)).mono ?_; rintro e_ w1 ⟨rfl, hb1⟩; dsimp only
  have x0 := (HCX.out.below hb1).cell (k := 0) rfl
  have x1 := (HCX.out.below hb1).cell (k := 1) rfl
  have x2 := (HCX.out.below hb1).cell (k := 2) rfl
  have z0 := (HSX.out.below hb1).cell (k := 0) rfl
  go_wp2_with fail
  clear x0 x1 x2 z0
  refine (((HSH.out _ hb1))).mono ?_; rintro e_ w2 ⟨rfl, hb2⟩; dsimp only
  have hb12 := hb1.trans (hb2.mono hb1.size)
  have x0 := (HCX.out.below hb12).cell (k := 0) rfl
  have x1 := (HCX.out.below hb12).cell (k := 1) rfl
  have x2 := (HCX.out.below hb12).cell (k := 2) rfl
  have z0 := (HSX.out.below hb12).cell (k := 0) rfl
  have z1 := (HSX.out.below hb12).cell (k := 1) rfl
  have z2 := (HSX.out.below hb12).cell (k := 2) rfl
  have z3 := (HSX.out.below hb12).cell (k := 3) rfl
  clear hb1 hb2
  go_wp2_with fail
  clear x0 x1 x2 z0 z1 z2 z3
  refine (((HMK.out _ hb12))).mono ?_; rintro e_ w3 ⟨v3, rfl, ho3, hb3⟩; dsimp only
  have hb13 := hb12.trans (hb3.mono hb12.size)
  have x0 := (HCX.out.below hb13).cell (k := 0) rfl
  have x1 := (HCX.out.below hb13).cell (k := 1) rfl
  have x2 := (HCX.out.below hb13).cell (k := 2) rfl
  have z0 := (HSX.out.below hb13).cell (k := 0) rfl
  have z1 := (HSX.out.below hb13).cell (k := 1) rfl
  have z2 := (HSX.out.below hb13).cell (k := 2) rfl
  have z3 := (HSX.out.below hb13).cell (k := 3) rfl
  clear hb3
  go_wp2_with fail
  clear x0 x1 x2 z0 z1 z2 z3
  refine (((HRT.out _ hb13))).mono ?_; rintro e_ w4 ⟨v4, R4, rfl, hR4, hl4, ho4, hb4⟩; dsimp only
  have hb14 := hb13.trans (hb4.mono hb13.size)
  have ho34 := za ho3 hb4
  obtain ⟨A4, c4, rfl, hc4, hr4⟩ := Rd.of_own' ho4
  have HCN := Lib.hid (kw A4 c4 R4 w4 (by omega) hr4)
  have HSB := Lib.hid (Yi HGD.out HGC.out rfl hR4)
  clear hr4 ho4 ho3 hb4 hR4
  go_wp2_with fail
  refine ((HCN.out)).mono ?_; rintro e_ w5 ⟨v5, rfl, ho5, hb5⟩; dsimp only
  have ho35 := za ho34 hb5
  have hb15 := hb14.trans (hb5.mono hb14.size)
  have z0 := (HSX.out.below hb15).cell (k := 0) rfl
  have z1 := (HSX.out.below hb15).cell (k := 1) rfl
  have z2 := (HSX.out.below hb15).cell (k := 2) rfl
  have z3 := (HSX.out.below hb15).cell (k := 3) rfl
  have h04 := hb14.size
  have hb63 : (s.blobs.length : Int) ≤ 9223372036854775807 := by omega
  have HO34 := Lib.hid ho34
  clear ho34 ho35 hb13 hb12 HRT HAL HMK HSH HCK HCN hb15
  go_wp2_with fail
  clear z0 z1 z2 z3
  go_loopg [8, 35] s.blobs.length (fun gn u i wr => ∃ (k : Nat) (vn : Value), gn = s.blobs.length - k ∧ vn = u ∧ i = .int .i64 k ∧ k ≤ s.blobs.length ∧ wr.ownsRow w4.heap.size 9 1 vn (R4 ++ prt (s.blobs.take k)).length (strs (R4 ++ prt (s.blobs.take k))) ∧ Below w4.heap.size w4 wr)
  case atStart => exact ⟨0, _, rfl, rfl, rfl, by omega, by rw [List.take_zero]; simpa [prt] using ho5, hb5⟩
  case round =>
   clear ho5 hb5
   obtain ⟨k, vn, hgk, rfl, rfl, hk, hown, hbel⟩ := hrel
   have HGK := Lib.hid hgk
   clear hgk
   have hpl := jZ s.blobs k hk
   have hb0r := hb14.trans (hbel.mono hb14.size)
   by_cases hlt : k < s.blobs.length
   rotate_left
   ·obtain rfl : k = s.blobs.length := by omega
    have hlbb : decide (s.blobs.length < s.blobs.length) = false := by simp
    rw [List.take_length] at hown hpl
    have hmd := uc s.blobs
    have hRl : (R4 ++ prt s.blobs).length ≤ 1000 := by rw [List.length_append]; omega
    have HDL := Lib.hid (Ku w4.heap.size vn (R4 ++ prt s.blobs) _ (.pointer (some ⟨H, 0, none⟩)) (fun d => !(s.blobs.any (fun b => b.dig == d))) wr (by omega) hown (jk wr w4 vn.ownBlock H c A s.blobs (R4 ++ prt s.blobs) (by omega) hcb hcm HDG.out (HR0.out.below hb14) ((HSX.out.below hb14).cell (k := 0) rfl) (by omega) (fun W h => ze hbel hown (Nat.le_refl _) h)))
    have HOR := Lib.hid (ze hbel hown (Nat.le_refl _) (w' := wr) (World.grownBy.refl _ _))
    have HBO := Lib.hid (fun (W : World) (h : wr.grownBy W vn.ownBlock) => ze hbel hown (Nat.le_refl _) h)
    clear hown
    go_wp2_with fail
    refine ((HDL.out)).mono ?_; rintro e_ w6 ⟨v6, rfl, ho6, hg6⟩; dsimp only
    have hb46 := HBO.out w6 hg6
    have hb16 := hb14.trans (hb46.mono hb14.size)
    have x0 := (HCX.out.below hb16).cell (k := 0) rfl
    have x1 := (HCX.out.below hb16).cell (k := 1) rfl
    have x2 := (HCX.out.below hb16).cell (k := 2) rfl
    have hfl : ((R4 ++ prt s.blobs).filter (fun d => !(!(s.blobs.any (fun b => b.dig == d))))).length ≤ 1000 := Nat.le_trans (List.length_filter_le _ _) hRl
    have ho36 := za HO34.out hb46
    clear hbel hg6 hb0r HDL HOR HBO hpl hRl
    generalize hF : ((R4 ++ prt s.blobs).filter (fun d => !(!(s.blobs.any (fun b => b.dig == d))))) = F at *
    obtain ⟨A3, c3, rfl, hc3, hr3⟩ := Rd.of_own' ho36
    obtain ⟨A6, c6, rfl, hc6, hr6⟩ := Rd.of_own' ho6
    have hrc := HRC.out.below hb16
    have hbq := (Below.refl w6.heap.size w6).alloc (Nat.le_refl _) (.cells #[.slice A3 (mkd s.blobs).length c3, .slice Ag grey.length ng] 29)
    have hAq : Arr (w6.alloc (.cells #[.slice A3 (mkd s.blobs).length c3, .slice Ag grey.length ng] 29)) w6.heap.size 29 [.slice A3 (mkd s.blobs).length c3, .slice Ag grey.length ng] := Arr.new w6 29 _
    have HCC := Lib.hid (xm w6.heap.size A3 Ag c3 ng (mkd s.blobs) grey _ hc3 hrc.cap (by omega) (by omega) (hAq.cell (k := 0) rfl) (hAq.cell (k := 1) rfl) (hr3.below hbq) (hrc.rd.below hbq))
    have HR6 := Lib.hid (hr6.below hbq)
    have hb1q := hb16.trans (hbq.mono hb16.size)
    clear hr3 hr6 hrc hAq ho36 ho6 hbq
    go_wp2_with fail
    clear x0 x1 x2
    generalize (w6.alloc (.cells #[.slice A3 (mkd s.blobs).length c3, .slice Ag grey.length ng] 29)) = wq at *
    refine ((HCC.out)).mono ?_; rintro e_ w7 ⟨v7, rfl, ho7, hb7⟩; dsimp only
    obtain ⟨A7, c7, rfl, hc7, hr7⟩ := Rd.of_own' ho7
    have hwt := vh A6 A7 c6 c7 F (mkd s.blobs ++ grey) w7 (by omega) (by rw [List.length_append]; omega) (HR6.out.below hb7) hr7 HSB.out
    rw [List.length_append] at hwt
    have HWT := Lib.hid hwt
    clear hwt
    have hb17 := hb1q.trans (hb7.mono hb1q.size)
    clear hr7 ho7 hb7 HR6
    go_wp2_with fail
    refine ((HWT.out)).mono ?_; rintro e_ w8 ⟨rfl, hb8⟩; dsimp only
    have hb18 := hb17.trans (hb8.mono hb17.size)
    go_wp2_with fail
    go_ret
    exact ⟨rfl, hb0.trans (hb18.mono hsz)⟩
   have hlbb : decide (k < s.blobs.length) = true := decide_eq_true hlt
   have hk0 : (0 : Int) ≤ (k : Int) := by omega
   have hk1 : (k : Int) < (s.blobs.length : Int) := by omega
   obtain ⟨bq, oq, Bq, cq, hA, hbq, d0, d1, d2, d3, hsl⟩ := (HR0.out.below hb0r).blob_at k hlt
   subst hA
   have HSU := Lib.hid (uV s.blobs k hlt)
   have HKL := Lib.hid hlt
   generalize s.blobs[k] = q at *
   generalize hqm : q.mark = qm at *
   have hbox : Arr (wr.alloc (.cells #[.string ⟨q.dig.toArray⟩, .slice Bq q.data.length cq, .int .i64 (q.pins : Int), .bool qm] 50)) wr.heap.size 50 [.string ⟨q.dig.toArray⟩, .slice Bq q.data.length cq, .int .i64 (q.pins : Int), .bool qm] := Arr.new wr 50 _
   have hbA := hbel.alloc hbel.size (.cells #[.string ⟨q.dig.toArray⟩, .slice Bq q.data.length cq, .int .i64 (q.pins : Int), .bool qm] 50)
   have hbn := (Below.refl wr.heap.size wr).alloc (Nat.le_refl _) (.cells #[.string ⟨q.dig.toArray⟩, .slice Bq q.data.length cq, .int .i64 (q.pins : Int), .bool qm] 50)
   have hownA := hown.alloc (.cells #[.string ⟨q.dig.toArray⟩, .slice Bq q.data.length cq, .int .i64 (q.pins : Int), .bool qm] 50)
   have hslA := hsl.below hbn
   have p0 := hbox.cell (k := 0) rfl
   have p1 := hbox.cell (k := 1) rfl
   have p2 := hbox.cell (k := 2) rfl
   have p3 := hbox.cell (k := 3) rfl
   clear hsl hown hbox hbn hb0r
   cases qm with
   | false =>
    have hsu := HSU.out
    rw [if_neg (by decide), List.append_nil] at hsu
    have HSV := Lib.hid hsu
    have HOA := Lib.hid hownA
    clear hsu hownA hslA
    go_wp2_with fail
    go_roundg (s.blobs.length - (k + 1))
    case measure => have := HGK.out; have := HKL.out; omega
    case rel => exact ⟨k + 1, _, rfl, rfl, by go_num, by have := HKL.out; omega, by rw [HSV.out]; exact HOA.out, hbA⟩
   | true =>
    have hsu := HSU.out
    rw [if_pos rfl] at hsu
    have HPT := vi ⟨q.dig.toArray⟩ Bq q.data.length cq q.data (q.pins : Int) true _ rfl hslA.cap hslA.max hslA.rd
    have hk8 : (yB q.data).1.length ≤ 8 := yh _
    rw [xp] at HPT
    have hkl : (yB q.data).1.length = ((yB q.data).1.map (fun p : PartP => p.dig)).length := by rw [List.length_map]
    rw [hkl] at HPT hk8
    generalize (yB q.data).1.map (fun p : PartP => p.dig) = ks at *
    have HSV := Lib.hid hsu
    have HPT' := Lib.hid HPT
    clear hsu HPT hkl hslA
    go_wp2_with fail
    clear d0 d1 d2 d3 p0 p1 p2 p3
    generalize (wr.alloc (.cells #[.string ⟨q.dig.toArray⟩, .slice Bq q.data.length cq, .int .i64 (q.pins : Int), .bool true] 50)) = wA at *
    refine ((HPT'.out)).mono ?_; rintro e_ w8 ⟨v8, rfl, ho8, hb8⟩; dsimp only
    obtain ⟨A8, c8, rfl, _, hr8⟩ := Rd.of_own' ho8
    have hown8 := za hownA hb8
    have hbA8 := hbA.trans (hb8.mono hbA.size)
    clear ho8 hb8 hownA hbA HPT'
    have hrl : (R4 ++ prt (s.blobs.take k)).length ≤ 1000 := by rw [List.length_append]; omega
    repeat' (fail_if_success (first|at_builtin|at_make));first|go_values|go_skip|go_guarded|go_step|go_upon|go_back
    refine zv rfl (.tmp 41) (.tmp 43) rfl va (by rfl) hown8 (by rfl) hr8 (xt _) (by omega) hbA8.size ?_
    intro v9 w9 ho9 hg9 hv9
    have hb9 := ze hbA8 hown8 (Nat.le_refl _) hg9
    have HO9 := Lib.hid ho9
    clear ho9 hg9 hv9 hown8 hr8
    go_wp2_with fail
    go_roundg (s.blobs.length - (k + 1))
    case measure => have := HGK.out; have := HKL.out; omega
    case rel => exact ⟨k + 1, _, rfl, rfl, by go_num, by have := HKL.out; omega, by rw [HSV.out, ← List.append_assoc, xV (R4 ++ prt (s.blobs.take k)) ks, show ((R4 ++ prt (s.blobs.take k)) ++ ks).length = (R4 ++ prt (s.blobs.take k)).length + ks.length from List.length_append]; exact HO9.out, hb9⟩
 ·clear h1
  obtain ⟨w0, hw0, hS, hC, hb0⟩ := y9 w 26 66 [.slice A s.blobs.length c, .slice B s.ents.length d, .int .i64 (s.room : Int), .int .i64 (s.clock : Int)] [.int .i64 2, .slice Ag (grey).length ng, .string ⟨(at_).toArray⟩]
  have hr0 := hr.below hb0
  obtain ⟨H, hH⟩ : ∃ H, H = w.heap.size := ⟨_, rfl⟩
  have HCK := Lib.hid (qh A c B d s w0 hg hr0)
  have HSH := Lib.hid (fun W (h : Below w0.heap.size w0 W) => xT Ag ng ⟨2, grey, at_⟩ s W hgl hgc ((hc.below hb0).below h))
  have HMK := Lib.hid (fun W (h : Below w0.heap.size w0 W) => yk A c s.blobs W (by omega) (hr0.below h).b)
  have HRT := Lib.hid (fun W (h : Below w0.heap.size w0 W) => yc A B c d s (s.room : Int) (s.clock : Int) W hg.rts (hr0.below h))
  have HAL := Lib.hid (fun W (h : Below w0.heap.size w0 W) => Qi A B c d s (s.room : Int) (s.clock : Int) W hg.rts (hr0.below h))
  have HDG := Lib.hid (show ∀ x ∈ s.blobs, x.dig.length ≤ 1000 from fun x hx => by rw [(hg.b.one x hx).1]; have := zV (zB x.data); omega)
  have hcb := hr0.bc
  have hcm := hr0.bm
  have HR0 := Lib.hid hr0.b
  have HRC := Lib.hid (hc.below hb0)
  have HGD := Lib.hid hg
  have HGC := Lib.hid hgc
  rw [← hH] at hS hC hb0 ⊢
  have hsz : H ≤ w0.heap.size := by rw [hH] at hb0 ⊢; exact hb0.size
  have hHl : H + 1 < w0.heap.size := hC.lt
  have x0 := hS.cell (k := 0) rfl
  have x1 := hS.cell (k := 1) rfl
  have x2 := hS.cell (k := 2) rfl
  have x3 := hS.cell (k := 3) rfl
  rw [hw0, hH] at x0 x1 x2 x3
  have HSX := Lib.hid hS
  have HCX := Lib.hid hC
  clear hg hr hgc hc hr0 hS hC
  go_enter Tryz.func37, Tryz.ntmps37
  go_wp2_with fail
  rw [← hw0, ← hH]
  have HH := Lib.hid hH
  clear hw0 hH x0 x1 x2 x3
  refine ((HCK.out)).mono ?_; rintro e_ w1 ⟨rfl, hb1⟩; dsimp only
  have x0 := (HCX.out.below hb1).cell (k := 0) rfl
  have x1 := (HCX.out.below hb1).cell (k := 1) rfl
  have x2 := (HCX.out.below hb1).cell (k := 2) rfl
  have z0 := (HSX.out.below hb1).cell (k := 0) rfl
  go_wp2_with fail
  clear x0 x1 x2 z0
  refine (((HSH.out _ hb1))).mono ?_; rintro e_ w2 ⟨rfl, hb2⟩; dsimp only
  have hb12 := hb1.trans (hb2.mono hb1.size)
  have x0 := (HCX.out.below hb12).cell (k := 0) rfl
  have x1 := (HCX.out.below hb12).cell (k := 1) rfl
  have x2 := (HCX.out.below hb12).cell (k := 2) rfl
  have z0 := (HSX.out.below hb12).cell (k := 0) rfl
  have z1 := (HSX.out.below hb12).cell (k := 1) rfl
  have z2 := (HSX.out.below hb12).cell (k := 2) rfl
  have z3 := (HSX.out.below hb12).cell (k := 3) rfl
  clear hb1 hb2
  go_wp2_with fail
  clear x0 x1 x2 z0 z1 z2 z3
  refine (((HMK.out _ hb12))).mono ?_; rintro e_ w3 ⟨v3, rfl, ho3, hb3⟩; dsimp only
  have hb13 := hb12.trans (hb3.mono hb12.size)
  have x0 := (HCX.out.below hb13).cell (k := 0) rfl
  have x1 := (HCX.out.below hb13).cell (k := 1) rfl
  have x2 := (HCX.out.below hb13).cell (k := 2) rfl
  have z0 := (HSX.out.below hb13).cell (k := 0) rfl
  have z1 := (HSX.out.below hb13).cell (k := 1) rfl
  have z2 := (HSX.out.below hb13).cell (k := 2) rfl
  have z3 := (HSX.out.below hb13).cell (k := 3) rfl
  clear hb3
  go_wp2_with fail
  clear x0 x1 x2 z0 z1 z2 z3
  refine (((HAL.out _ hb13))).mono ?_; rintro e_ w4 ⟨v4, L4, rfl, hL4, hl4, ho4, hb4⟩; dsimp only
  have hb14 := hb13.trans (hb4.mono hb13.size)
  have hml := uc s.blobs
  obtain ⟨A3, c3, rfl, hc3, hr3⟩ := Rd.of_own' (za ho3 hb4)
  obtain ⟨A4, c4, rfl, hc4, hr4⟩ := Rd.of_own' ho4
  have hwt := vh A4 A3 c4 c3 L4 (mkd s.blobs) w4 (by omega) (by omega) hr4 hr3 (fun x hx => HGC.out.sw rfl x ((hL4.mem x).1 hx))
  have HWT := Lib.hid hwt
  clear hwt hr3 hr4 ho3 ho4 hb4
  go_wp2_with fail
  refine ((HWT.out)).mono ?_; rintro e_ w5 ⟨rfl, hb5⟩; dsimp only
  have hb15 := hb14.trans (hb5.mono hb14.size)
  go_wp2_with fail
  go_ret
  exact ⟨rfl, hb0.trans (hb15.mono hsz)⟩
end Go.Proofs.YtngfnjekjfeacaaGreat
namespace Go.Proofs.YtngfnjekjfeacaaGreat
open Go.RowKit Go.Maps
set_option linter.unusedVariables false
set_option linter.unusedSimpArgs false
set_option maxRecDepth 100000
theorem ZV {w : World} {base base' size size' n n' : Nat} {e e' : TypeId} {v v' : Value} {xs xs' : List Value} (h : w.ownsRow base e size v n xs) (h' : w.ownsRow base' e' size' v' n' xs') (hne : e ≠ e') : ∀ b, v.ownBlock = some b → v'.ownBlock ≠ some b := fun b hb hb' => by
 rcases h.2 with ⟨rfl, _⟩ | ⟨g, cap, cur, rfl, _, h2, _⟩
 ·cases hb
 ·cases hb
  rcases h'.2 with ⟨rfl, _⟩ | ⟨g', cap', cur', rfl, _, h3, _⟩
  ·cases hb'
  ·cases hb'
   have h4 := Eq.trans (Eq.symm h2) h3
   simp only [Option.some.injEq, Obj.cells.injEq] at h4
   exact hne h4.2.1
structure RunC (w : World) (H K gs gc : Nat) (v1 v2 v3 : Value) (Ag : Option Addr) (ng : Nat) (t : StoP) (cc : ColP) (g : List (List UInt8)) : Prop where
 bs : Arr w gs 26 [v1, v2, .int .i64 (t.room : Int), .int .i64 (t.clock : Int)]
 bc : Arr w gc 66 [.int .i64 (cc.phase : Int), .slice Ag cc.grey.length ng, .string ⟨cc.at_.toArray⟩]
 st : OwSt w H v1 v2 t (fun b => b < K ∨ b = gs ∨ v3.ownBlock = some b)
 gr : RdC w Ag ng cc
 gone : w.ownsRow H 9 1 v3 g.length (strs g)
section
variable {w w' : World} {H K gs gc : Nat} {v1 v2 v3 v3' : Value} {Ag : Option Addr} {ng : Nat} {t : StoP} {cc : ColP} {g : List (List UInt8)}
theorem RunC.below (h : RunC w H K gs gc v1 v2 v3 Ag ng t cc g) (hb : Below w.heap.size w w') : RunC w' H K gs gc v1 v2 v3 Ag ng t cc g := ⟨h.bs.below hb, h.bc.below hb, h.st.below hb, h.gr.below hb, za h.gone hb⟩
theorem RunC.key (h : RunC w H K gs gc v1 v2 v3 Ag ng t cc g) {B : Nat} (hgr : ∃ vg, w.ownsRow B 9 1 vg cc.grey.length (strs cc.grey) ∧ vg = .slice Ag cc.grey.length ng) (hB : ∀ b, v3.ownBlock = some b → b < B) {g' : List (List UInt8)} (ho : w'.ownsRow H 9 1 v3' g'.length (strs g')) (hg : w.grownBy w' v3.ownBlock) (hv : v3'.ownBlock = v3.ownBlock ∨ ∃ b, v3'.ownBlock = some b ∧ w.heap.size ≤ b) : RunC w' H K gs gc v1 v2 v3' Ag ng t cc g' := by
 obtain ⟨xs, hx⟩ := h.st.b.own_m
 obtain ⟨ys, hy⟩ := h.st.e.own_m
 have n1 := ZV h.gone hx (by decide)
 have n2 := ZV h.gone hy (by decide)
 have h1 : OwSt w H v1 v2 t (fun b => b < K ∨ b = gs ∨ v3'.ownBlock = some b ∨ v3.ownBlock = some b) := h.st.wider fun b hb => by
  rcases hb with hb | hb | hb | hb
  ·exact .inl (.inl hb)
  ·exact .inl (.inr (.inl hb))
  ·rcases hv with e | ⟨b', e, hb'⟩
   ·exact .inl (.inr (.inr (by rw [← e]; exact hb)))
   ·rw [e] at hb; cases hb; exact .inr hb'
  ·exact .inl (.inr (.inr hb))
 have h2 : OwSt w' H v1 v2 t (fun b => b < K ∨ b = gs ∨ v3'.ownBlock = some b ∨ v3.ownBlock = some b) :=
  ⟨h1.b.other hg (fun b e => n1 b e) (fun b e => .inl (.inr (.inr (.inr e)))), h1.e.other hg (fun b e => n2 b e) (fun b e => .inl (.inr (.inr (.inr e)))), h1.ne⟩
 obtain ⟨vg, hvg, rfl⟩ := hgr
 have hvg' : w'.ownsRow B 9 1 (.slice Ag cc.grey.length ng) cc.grey.length (strs cc.grey) := hvg.kept hg (by
  rcases hvg.2 with ⟨e2, _⟩ | ⟨g2, cap, cur, e2, h4, _⟩
  ·exact .inl (by rw [e2]; rfl)
  ·refine .inr fun e => ?_
   rw [e2] at e
   have h3 : g2 < B := hB g2 e.symm
   omega)
 obtain ⟨_, _, e1, hgr2⟩ := RdC.of_own (c := cc) hvg'
 cases e1
 exact ⟨h.bs.grown hg (zm h.gone h.bs (by decide)), h.bc.grown hg (zm h.gone h.bc (by decide)), h2.mono (fun b hb => hb.imp id fun h => h.imp id .inl), hgr2, ho⟩
end
end Go.Proofs.YtngfnjekjfeacaaGreat
namespace Go.Proofs.YtngfnjekjfeacaaGreat
open Go.RowKit Go.Maps
set_option linter.unusedVariables false
set_option linter.unusedSimpArgs false
set_option maxRecDepth 100000
theorem KU {P Q : Prop} (h : Hid P → Q) (p : P) : Q := h (Lib.hid p)
theorem OwSt.mixC {w7 w8 : World} {base : Nat} {v1 v1' v2 : Value} {s : StoP} {N : Nat → Prop} {l : List BlobP} (h : OwSt w7 base v1 v2 s N) (hN : ∀ b, N b → b < w7.heap.size) (hv : RwX BlobS 50 w8 w7.heap.size v1' l (fun b => b < w7.heap.size)) (hbs : base ≤ w7.heap.size) (hbl : Below w7.heap.size w7 w8) : OwSt w8 base v1' v2 { s with blobs := l } N := by
 have h1 : ∀ g, v1'.ownBlock = some g → w7.heap.size ≤ g := fun g e => (hv.rwo.blk e).1
 have h2 : ∀ g, v2.ownBlock = some g → g < w7.heap.size := fun g e => (h.e.rwo.blk e).2
 refine ⟨RwX.wider (hv.lower hbs) (N' := fun g => N g ∨ v2.ownBlock = some g) fun b hb => .inl ?_, RwX.below (RwX.wider h.e (N' := fun g => N g ∨ v1'.ownBlock = some g) fun b hb => ?_) hbl, fun g e1 e2 => ?_⟩
 ·rcases hb with hb | hb
  ·exact hN b hb
  ·exact h2 b hb
 ·rcases hb with hb | hb
  ·exact .inl (.inl hb)
  ·exact .inr (h1 b hb)
 ·have := h1 g e1; have := h2 g e2; omega
set_option maxHeartbeats 16000000 in
theorem Qe (A : Option Addr) (c : Nat) (B : Option Addr) (d : Nat) (s : StoP) (Ag : Option Addr) (ng : Nat) (cp : ColP) (D : Option Addr) (nd : Nat) (ds : List (List UInt8)) (b0 : Nat) (N : Nat → Prop) (w : World) (hg : GoodS s) (ho : OwSt w b0 (.slice A s.blobs.length c) (.slice B s.ents.length d) s N) (hb0 : b0 ≤ w.heap.size) (hN : ∀ b, N b → b < w.heap.size) (hgl : cp.grey.length ≤ 2000) (hph : cp.phase ≤ 2) (hc : RdC w Ag ng cp) (hdn : ds.length ≤ nd) (hds : ds.length ≤ 1000) (hD : Rd w 1 D ds.length (strs ds)) :
  Calls Tryz.prog 110 #[.agg #[.slice A s.blobs.length c, .slice B s.ents.length d, .int .i64 (s.room : Int), .int .i64 (s.clock : Int)], coV (.slice Ag cp.grey.length ng) cp, .slice D ds.length nd] w fun e w' =>
   ∃ v1 v3, e = .returned (.tuple #[stV v1 (.slice B s.ents.length d) s, coV v3 (zL s cp ds).2]) ∧ OwSt w' b0 v1 (.slice B s.ents.length d) (zL s cp ds).1 N ∧ w'.ownsRow w.heap.size 9 1 v3 (zL s cp ds).2.grey.length (strs (zL s cp ds).2.grey) ∧ Below w.heap.size w w' := by
 have hlb : s.blobs.length ≤ 24 := hg.b.len
 have HKP0 := Lib.hid (show zL s cp ds = zL s cp ds from rfl)
 obtain ⟨phase, grey, at_⟩ := cp
 simp only at hgl hph
 obtain ⟨w0, hw0, hS, hC, hR, hQ, hbx⟩ := xP w 26 66 [.slice A s.blobs.length c, .slice B s.ents.length d, .int .i64 (s.room : Int), .int .i64 (s.clock : Int)] [.int .i64 (phase : Int), .slice Ag grey.length ng, .string ⟨at_.toArray⟩] [.slice none 0 0, .slice none 0 0, .int .i64 0, .int .i64 0] [.int .i64 0, .slice none 0 0, .string ⟨#[]⟩]
 have hc0 := hc.below hbx
 obtain ⟨H, hH⟩ : ∃ H, H = w.heap.size := ⟨_, rfl⟩
 have how : OwSt w b0 (.slice A s.blobs.length c) (.slice B s.ents.length d) s (fun b => N b ∨ H ≤ b ∧ b < w0.heap.size) := ho.wider fun b hb => hb.imp id (fun h => by omega)
 have ho0 := how.below hbx
 have hD0 := hD.below hbx
 generalize hats : (⟨at_.toArray⟩ : ByteArray) = ats at *
 rw [← hH] at hS hC hR hQ hbx hb0 hN ⊢
 have HN := Lib.hid hN
 clear hN
 have hHl : H + 1 + 1 + 1 < w0.heap.size := hQ.lt
 have HO0 := Lib.hid ho0
 have HSX := Lib.hid (show ∀ W, Below w0.heap.size w0 W → Arr W H 26 [.slice A s.blobs.length c, .slice B s.ents.length d, .int .i64 (s.room : Int), .int .i64 (s.clock : Int)] ∧ Arr W (H + 1) 66 [.int .i64 (phase : Int), .slice Ag grey.length ng, .string ats] ∧ Arr W (H + 2) 26 [.slice none 0 0, .slice none 0 0, .int .i64 0, .int .i64 0] ∧ Arr W (H + 3) 66 [.int .i64 0, .slice none 0 0, .string ⟨#[]⟩] ∧ Rd W 1 D ds.length (strs ds) from fun W h => ⟨hS.below h, hC.below h, hR.below h, hQ.below h, hD0.below h⟩)
 have HSB := Lib.hid (show ∀ W, Below w0.heap.size w0 W → W.cell? ⟨H + 1, 0, none⟩ = some (.int .i64 (phase : Int)) ∧ W.cell? ⟨H + 1, 1, none⟩ = some (.slice Ag grey.length ng) ∧ W.cell? ⟨H + 1, 2, none⟩ = some (.string ats) from fun W h => ⟨(hC.below h).cell (k := 0) rfl, (hC.below h).cell (k := 1) rfl, (hC.below h).cell (k := 2) rfl⟩)
 have HRG := Lib.hid (show ∀ W, Below w0.heap.size w0 W → Rd W 1 Ag grey.length (strs grey) from fun W h => (hc0.below h).rd)
 have hgcap : grey.length ≤ ng := hc0.cap
 have HBX := Lib.hid hbx
 have HG := Lib.hid hg
 clear hg ho how ho0 hc hc0 hD hD0 hS hC hR hQ hbx
 go_enter Tryz.func110, Tryz.ntmps110
 go_wp2_with fail
 rw [← hw0, ← hH]
 have HH := Lib.hid hH
 have HATS := Lib.hid hats
 clear hw0 hH hats
 apply KU
 intro REST
 refine wp_region_held_drew (S := (fun w' => w'.cell? ⟨H + 1, 0, none⟩ = some (.int .i64 (phase : Int)) ∧ w'.cell? ⟨H + 1, 1, none⟩ = some (.slice Ag grey.length ng) ∧ w'.cell? ⟨H + 1, 2, none⟩ = some (.string ats))) (by kernel_rfl) ?_ (fun hHeld => ?_)
 ·exact HSB.out _ (Below.refl _ w0).drew
 have hB := (Below.refl w0.heap.size w0).drew
 generalize w0.drew = wn0 at *
 refine sqTH 0 ?_;try simp only [sqP]
 refine sqTH 1 ?_;try simp only [sqP]
 refine sqTH 2 ?_;try simp only [sqP]
 refine sqTH 3 ?_;try simp only [sqP]
 refine sqTH 5 ?_;try simp only [sqP]
 refine sqTH 6 ?_;try simp only [sqP]
 refine wpAnyH_ready (rs := [4, 8]) (by kernel_rfl) (by simp) ?_
 refine AllReadyH.cons (o := _) rfl (fun K hK => ?_) ?_
 ·
  go_simp
  refine (kw Ag ng grey wn0 (by omega) (HRG.out _ hB)).mono ?_
  rintro e5 w5 ⟨v5, rfl, ho5, hb5⟩
  obtain ⟨A5, c5, rfl, -, -⟩ := Rd.of_own' ho5
  dsimp only
  refine qE hK ?_ (Below wn0.heap.size wn0) (fun W => W.ownsRow w0.heap.size 9 1 (.slice A5 grey.length c5) grey.length (strs grey)) ?_ ?_ (fun wn1 hHeld hst hnew => ?_)
  ·(exact HSB.out _ (hB.trans (Below.mono (show Below wn0.heap.size wn0 _ from by (first | exact (Below.refl _ _).alloc (Nat.le_refl _) _ | exact hb5)) hB.size)))
  ·(first | exact (Below.refl _ _).alloc (Nat.le_refl _) _ | exact hb5)
  ·(exact zc ho5 hB.size)
  replace hB := hB.trans (hst.mono hB.size)
  have hl := hnew
  clear hnew ho5 hb5
  clear hst
  clear hK K
  try simp only [sqP]
  refine sqTH 7 ?_;try simp only [sqP]
  refine wpAnyH_ready (rs := [8]) (by kernel_rfl) (by simp) ?_
  refine AllReadyH.cons (o := _) rfl (fun K hK => ?_) ?_
  ·
   go_simp
   refine qE hK ?_ (Below wn1.heap.size wn1) (fun W => Arr W wn1.heap.size 66 [.int .i64 0, .slice none 0 0, .string ⟨#[]⟩] ∧ w0.heap.size ≤ wn1.heap.size) ?_ ?_ (fun wn2 hHeld hst hnew => ?_)
   ·(exact HSB.out _ (hB.trans (Below.mono (show Below wn1.heap.size wn1 _ from by (first | exact (Below.refl _ _).alloc (Nat.le_refl _) _ | exact hb5)) hB.size)))
   ·(first | exact (Below.refl _ _).alloc (Nat.le_refl _) _ | exact hb5)
   ·(exact ⟨Arr.new _ _ _, hB.size⟩)
   replace hB := hB.trans (hst.mono hB.size)
   replace hl := za hl hst
   obtain ⟨h8, hl8⟩ := hnew
   obtain ⟨g8, hg8⟩ : ∃ g, g = wn1.heap.size := ⟨_, rfl⟩
   rw [← hg8] at h8 hl8 ⊢
   clear hg8
   clear hst
   clear hK K
   try simp only [sqP]
   refine wpAnyH_ready (rs := [9]) (by kernel_rfl) (by simp) ?_
   refine AllReadyH.cons (o := _) rfl (fun K hK => ?_) ?_
   ·
    have z0 := h8.cell (k := 0) rfl
    have z1 := h8.cell (k := 1) rfl
    have z2 := h8.cell (k := 2) rfl
    have f0 := h8.frozen 0
    have f1 := h8.frozen 1
    have f2 := h8.frozen 2
    go_simp
    clear z0 z1 z2 f0 f1 f2
    have hn8 := zm hl h8 (by decide)
    refine qE hK ?_ (fun W => Arr W g8 66 [.int .i64 (phase : Int), .slice A5 grey.length c5, .string ats]) (fun W => Below w0.heap.size w0 W ∧ W.ownsRow w0.heap.size 9 1 (.slice A5 grey.length c5) grey.length (strs grey)) ?_ ?_ (fun wn3 hHeld hF hG => ?_)
    ·exact HSB.out _ (((hB.setCell (p := ⟨g8, 0, none⟩) hl8 _).setCell (p := ⟨g8, 1, none⟩) hl8 _).setCell (p := ⟨g8, 2, none⟩) hl8 _)
    ·exact h8.all3 _ _ _
    ·exact ⟨((hB.setCell (p := ⟨g8, 0, none⟩) hl8 _).setCell (p := ⟨g8, 1, none⟩) hl8 _).setCell (p := ⟨g8, 2, none⟩) hl8 _, qx hl hn8 _ _ _⟩
    clear hB h8 hl hn8
    clear hK K
    try simp only [sqP]
    refine wpAnyH_done (by kernel_rfl) ?_ _
    dsimp only [Exit.then]
    clear hHeld
    obtain ⟨hB, hl⟩ := hG
    have hall := And.intro hB (And.intro hl (And.intro hF hl8))
    clear hB hl hF hl8
    generalize wn3 = wz at hall ⊢
    revert hall
    revert wz
    revert c5
    revert A5
    revert g8
    exact REST.out
   exact AllReadyH.nil
  exact AllReadyH.nil
 refine AllReadyH.cons (o := _) rfl (fun K hK => ?_) ?_
 ·
  go_simp
  refine qE hK ?_ (Below wn0.heap.size wn0) (fun W => Arr W wn0.heap.size 66 [.int .i64 0, .slice none 0 0, .string ⟨#[]⟩] ∧ w0.heap.size ≤ wn0.heap.size) ?_ ?_ (fun wn4 hHeld hst hnew => ?_)
  ·(exact HSB.out _ (hB.trans (Below.mono (show Below wn0.heap.size wn0 _ from by (first | exact (Below.refl _ _).alloc (Nat.le_refl _) _ | exact hb5)) hB.size)))
  ·(first | exact (Below.refl _ _).alloc (Nat.le_refl _) _ | exact hb5)
  ·(exact ⟨Arr.new _ _ _, hB.size⟩)
  replace hB := hB.trans (hst.mono hB.size)
  obtain ⟨h8, hl8⟩ := hnew
  obtain ⟨g8, hg8⟩ : ∃ g, g = wn0.heap.size := ⟨_, rfl⟩
  rw [← hg8] at h8 hl8 ⊢
  clear hg8
  clear hst
  clear hK K
  try simp only [sqP]
  refine wpAnyH_ready (rs := [4]) (by kernel_rfl) (by simp) ?_
  refine AllReadyH.cons (o := _) rfl (fun K hK => ?_) ?_
  ·
   go_simp
   refine (kw Ag ng grey wn4 (by omega) (HRG.out _ hB)).mono ?_
   rintro e5 w5 ⟨v5, rfl, ho5, hb5⟩
   obtain ⟨A5, c5, rfl, -, -⟩ := Rd.of_own' ho5
   dsimp only
   refine qE hK ?_ (Below wn4.heap.size wn4) (fun W => W.ownsRow w0.heap.size 9 1 (.slice A5 grey.length c5) grey.length (strs grey)) ?_ ?_ (fun wn5 hHeld hst hnew => ?_)
   ·(exact HSB.out _ (hB.trans (Below.mono (show Below wn4.heap.size wn4 _ from by (first | exact (Below.refl _ _).alloc (Nat.le_refl _) _ | exact hb5)) hB.size)))
   ·(first | exact (Below.refl _ _).alloc (Nat.le_refl _) _ | exact hb5)
   ·(exact zc ho5 hB.size)
   replace hB := hB.trans (hst.mono hB.size)
   replace h8 := h8.below hst
   have hl := hnew
   clear hnew ho5 hb5
   clear hst
   clear hK K
   try simp only [sqP]
   refine sqTH 7 ?_;try simp only [sqP]
   refine wpAnyH_ready (rs := [9]) (by kernel_rfl) (by simp) ?_
   refine AllReadyH.cons (o := _) rfl (fun K hK => ?_) ?_
   ·
    have z0 := h8.cell (k := 0) rfl
    have z1 := h8.cell (k := 1) rfl
    have z2 := h8.cell (k := 2) rfl
    have f0 := h8.frozen 0
    have f1 := h8.frozen 1
    have f2 := h8.frozen 2
    go_simp
    clear z0 z1 z2 f0 f1 f2
    have hn8 := zm hl h8 (by decide)
    refine qE hK ?_ (fun W => Arr W g8 66 [.int .i64 (phase : Int), .slice A5 grey.length c5, .string ats]) (fun W => Below w0.heap.size w0 W ∧ W.ownsRow w0.heap.size 9 1 (.slice A5 grey.length c5) grey.length (strs grey)) ?_ ?_ (fun wn6 hHeld hF hG => ?_)
    ·exact HSB.out _ (((hB.setCell (p := ⟨g8, 0, none⟩) hl8 _).setCell (p := ⟨g8, 1, none⟩) hl8 _).setCell (p := ⟨g8, 2, none⟩) hl8 _)
    ·exact h8.all3 _ _ _
    ·exact ⟨((hB.setCell (p := ⟨g8, 0, none⟩) hl8 _).setCell (p := ⟨g8, 1, none⟩) hl8 _).setCell (p := ⟨g8, 2, none⟩) hl8 _, qx hl hn8 _ _ _⟩
    clear hB h8 hl hn8
    clear hK K
    try simp only [sqP]
    refine wpAnyH_done (by kernel_rfl) ?_ _
    dsimp only [Exit.then]
    clear hHeld
    obtain ⟨hB, hl⟩ := hG
    have hall := And.intro hB (And.intro hl (And.intro hF hl8))
    clear hB hl hF hl8
    generalize wn6 = wz at hall ⊢
    revert hall
    revert wz
    revert c5
    revert A5
    revert g8
    exact REST.out
   exact AllReadyH.nil
  exact AllReadyH.nil
 exact AllReadyH.nil
 intro g8 A5 c5 wz hall
 obtain ⟨hB, hl, h8, hl8⟩ := hall
 have h3 : phase = 0 ∨ phase = 1 ∨ phase = 2 := by omega
 obtain ⟨hS, hC, hR, hQ, hD⟩ := HSX.out _ hB
 have ho := HO0.out.below hB
 have hwz := hB.size
 have hbz := hB
 have hB := HBX.out.trans (hB.mono (show H ≤ w0.heap.size by omega))
 have y0 := hC.cell (k := 0) rfl
 rcases h3 with h3 | h3 | h3
 ·have HKP := Lib.hid (show zL s ⟨phase, grey, at_⟩ ds = (s, ⟨phase, grey, at_⟩) from Y0 h3)
  have g1 : ((phase : Int) == 1) = false := by rw [h3]; rfl
  have g2 : ((phase : Int) == 2) = false := by rw [h3]; rfl
  clear hC hD HKP0 h3
  repeat' ((fail_if_success (with_reducible refine at_reg_ 7 ?_)); (fail_if_success (with_reducible refine at_sreg_ 7 ?_)); (fail_if_success (with_reducible refine at_ssreg_ 7 ?_)); (fail_if_success at_builtin); (fail_if_success at_make); (first | go_values | go_skip | go_guarded | go_step | go_upon | go_back))
  clear y0 g1 g2
  have hHg : H + 2 ≠ H + 3 := by omega
  have HF1 := Lib.hid (vr (g := H + 2) (h := H + 3) (u0 := (.slice A s.blobs.length c)) (u1 := .slice B s.ents.length d) (u2 := .int .i64 (s.room : Int)) (u3 := .int .i64 (s.clock : Int)) (x0 := .int .i64 (phase : Int)) (x1 := (.slice A5 grey.length c5)) (x2 := .string ats) hR hHg)
  have HF2 := Lib.hid (vj (g := H + 2) (h := H + 3) (u0 := (.slice A s.blobs.length c)) (u1 := .slice B s.ents.length d) (u2 := .int .i64 (s.room : Int)) (u3 := .int .i64 (s.clock : Int)) (x0 := .int .i64 (phase : Int)) (x1 := (.slice A5 grey.length c5)) (x2 := .string ats) hQ hHg)
  have HF3 := Lib.hid (yp (g := H + 2) (h := H + 3) (u0 := (.slice A s.blobs.length c)) (u1 := .slice B s.ents.length d) (u2 := .int .i64 (s.room : Int)) (u3 := .int .i64 (s.clock : Int)) (x0 := .int .i64 (phase : Int)) (x1 := (.slice A5 grey.length c5)) (x2 := .string ats) ho (.inr ⟨by omega, by omega⟩) (.inr ⟨by omega, by omega⟩) (ho.nb hR (by decide) (by decide)).1 (ho.nb hR (by decide) (by decide)).2 (ho.nb hQ (by decide) (by decide)).1 (ho.nb hQ (by decide) (by decide)).2)
  have HF4 := Lib.hid (kf (g := H + 2) (h := H + 3) (u0 := (.slice A s.blobs.length c)) (u1 := .slice B s.ents.length d) (u2 := .int .i64 (s.room : Int)) (u3 := .int .i64 (s.clock : Int)) (x0 := .int .i64 (phase : Int)) (x1 := (.slice A5 grey.length c5)) (x2 := .string ats) hl (zm hl hR (by decide)) (zm hl hQ (by decide)))
  have HF5 := Lib.hid (qp (g := H + 2) (h := H + 3) (u0 := (.slice A s.blobs.length c)) (u1 := .slice B s.ents.length d) (u2 := .int .i64 (s.room : Int)) (u3 := .int .i64 (s.clock : Int)) (x0 := .int .i64 (phase : Int)) (x1 := (.slice A5 grey.length c5)) (x2 := .string ats) hB (by omega) (by omega))
  have f0 := hR.frozen 0
  have f1 := hR.frozen 1
  have f2 := hR.frozen 2
  have f3 := hR.frozen 3
  have y0 := hR.cell (k := 0) rfl
  have y1 := hR.cell (k := 1) rfl
  have y2 := hR.cell (k := 2) rfl
  have y3 := hR.cell (k := 3) rfl
  have e0 := hQ.frozen 0
  have e1 := hQ.frozen 1
  have e2 := hQ.frozen 2
  have x0 := hQ.cell (k := 0) rfl
  have x1 := hQ.cell (k := 1) rfl
  have x2 := hQ.cell (k := 2) rfl
  have s0 := hS.cell (k := 0) rfl
  have s1 := hS.cell (k := 1) rfl
  have s2 := hS.cell (k := 2) rfl
  have s3 := hS.cell (k := 3) rfl
  have t0 := h8.cell (k := 0) rfl
  have t1 := h8.cell (k := 1) rfl
  have t2 := h8.cell (k := 2) rfl
  have n1 : ¬ (H = H + 2) := by omega
  have n2 : ¬ (g8 = H + 2) := by omega
  have n3 : ¬ (H = H + 3) := by omega
  clear hR hQ ho hl hB hS h8
  repeat' ((fail_if_success (with_reducible refine at_reg_ 7 ?_)); (fail_if_success (with_reducible refine at_sreg_ 7 ?_)); (fail_if_success (with_reducible refine at_ssreg_ 7 ?_)); (fail_if_success at_builtin); (fail_if_success at_make); (first | go_values | go_skip | go_guarded | go_step | go_upon | go_back))
  go_region
  all_goals (try dsimp only [Exit.then])
  go_wp2_with fail
  refine bodyPost_ret (yi rfl _ _ (H + 2) (H + 3) _ _ _ _ _ _ _ _ (by rfl) (Arr.drew HF1.out) Tryz.underlying26 rfl (by kernel_rfl) (by rfl) (Arr.drew HF2.out) Tryz.underlying66 rfl (by kernel_rfl)) rfl ?_
  have e9 := HATS.out
  subst e9
  rw [HKP.out]
  exact ⟨_, _, rfl, HF3.out.drewX.mono (fun b hb => .inl hb), zc HF4.out.drew (by omega), HF5.out.drew⟩
 ·have HKP := Lib.hid (show zL s ⟨phase, grey, at_⟩ ds = (s, ⟨phase, uni (grey ++ ds), at_⟩) from by rw [YU h3, h3])
  have g1 : ((phase : Int) == 1) = true := by rw [h3]; rfl
  have y1 := hC.cell (k := 1) rfl
  have hrg : Rd wz 1 Ag grey.length (strs grey) := HRG.out _ hbz
  have HAD := Lib.hid (YO Ag D ng nd grey ds wz hgcap hdn (by omega) (by omega) hrg hD)
  have ho1 := (HO0.out.wider (N' := fun b => N b ∨ H ≤ b) (fun b hb => by
   rcases hb with hb | hb
   ·exact .inl (.inl hb)
   ·by_cases h : b < w0.heap.size
    ·exact .inl (.inr ⟨hb, h⟩)
    ·exact .inr (by omega))).below hbz
  have H8 := Lib.hid h8
  have HHS := Lib.hid hS
  have HHR := Lib.hid hR
  have HHQ := Lib.hid hQ
  have HO1 := Lib.hid ho1
  have HBZ := Lib.hid hB
  clear hC hD HKP0 h3 hrg ho1 ho hl h8 hS hR hQ hB
  go_wp2_with fail
  clear y0 y1 g1
  refine ((HAD.out)).mono ?_; rintro e_ w5 ⟨v5, N5, rfl, hN5, -, ho5, hb5⟩; dsimp only
  obtain rfl := hN5.uni (L := grey ++ ds) (fun x => List.mem_append.symm)
  obtain ⟨A6, c6, rfl, -, -⟩ := Rd.of_own' ho5
  have h8 := H8.out.below hb5
  have hz1 := h8.cell (k := 1) rfl
  have hf1 := h8.frozen 1
  have h8' := h8.set (k := 1) (by simp) (.slice A6 (uni (grey ++ ds)).length c6)
  simp only [List.set_cons_succ, List.set_cons_zero] at h8'
  have hn8 := zm ho5 h8 (by decide)
  have hne := (HO1.out.below hb5).nb h8 (by decide) (by decide)
  have ho' := ((HO1.out.below hb5).setX (g := g8) (k := 1) (.inr (by omega)) hne.1 hne.2 (.slice A6 (uni (grey ++ ds)).length c6)).mono (N' := fun b => N b ∨ H ≤ b ∧ b < w0.heap.size) (fun b hb => hb.imp id And.left)
  have hl' := zf (k := 1) (u := .slice A6 (uni (grey ++ ds)).length c6) ho5 hn8
  have hS' := (HHS.out.below hb5).other (k := 1) (g' := g8) (by omega) (.slice A6 (uni (grey ++ ds)).length c6)
  have hR' := (HHR.out.below hb5).other (k := 1) (g' := g8) (by omega) (.slice A6 (uni (grey ++ ds)).length c6)
  have hQ' := (HHQ.out.below hb5).other (k := 1) (g' := g8) (by omega) (.slice A6 (uni (grey ++ ds)).length c6)
  have hB' := (HBZ.out.trans (hb5.mono (show H ≤ wz.heap.size by omega))).setCell (p := ⟨g8, 1, none⟩) (by simp only; omega) (.slice A6 (uni (grey ++ ds)).length c6)
  have HX := Lib.hid (And.intro ho' (And.intro hl' (And.intro hS' (And.intro hR' (And.intro hQ' (And.intro hB' h8'))))))
  clear ho' hl' hS' hR' hQ' hB' h8' hn8 hne h8 ho5 hb5 hN5
  generalize uni (grey ++ ds) = U at *
  repeat' ((fail_if_success (with_reducible refine at_reg_ 7 ?_)); (fail_if_success (with_reducible refine at_sreg_ 7 ?_)); (fail_if_success (with_reducible refine at_ssreg_ 7 ?_)); (fail_if_success at_builtin); (fail_if_success at_make); (first | go_values | go_skip | go_guarded | go_step | go_upon | go_back))
  clear hz1 hf1
  obtain ⟨ho, hl, hS, hR, hQ, hB, h8⟩ := HX.out
  clear HX
  have hHg : H + 2 ≠ H + 3 := by omega
  have HF1 := Lib.hid (vr (g := H + 2) (h := H + 3) (u0 := (.slice A s.blobs.length c)) (u1 := .slice B s.ents.length d) (u2 := .int .i64 (s.room : Int)) (u3 := .int .i64 (s.clock : Int)) (x0 := .int .i64 (phase : Int)) (x1 := (.slice A6 U.length c6)) (x2 := .string ats) hR hHg)
  have HF2 := Lib.hid (vj (g := H + 2) (h := H + 3) (u0 := (.slice A s.blobs.length c)) (u1 := .slice B s.ents.length d) (u2 := .int .i64 (s.room : Int)) (u3 := .int .i64 (s.clock : Int)) (x0 := .int .i64 (phase : Int)) (x1 := (.slice A6 U.length c6)) (x2 := .string ats) hQ hHg)
  have HF3 := Lib.hid (yp (g := H + 2) (h := H + 3) (u0 := (.slice A s.blobs.length c)) (u1 := .slice B s.ents.length d) (u2 := .int .i64 (s.room : Int)) (u3 := .int .i64 (s.clock : Int)) (x0 := .int .i64 (phase : Int)) (x1 := (.slice A6 U.length c6)) (x2 := .string ats) ho (.inr ⟨by omega, by omega⟩) (.inr ⟨by omega, by omega⟩) (ho.nb hR (by decide) (by decide)).1 (ho.nb hR (by decide) (by decide)).2 (ho.nb hQ (by decide) (by decide)).1 (ho.nb hQ (by decide) (by decide)).2)
  have HF4 := Lib.hid (kf (g := H + 2) (h := H + 3) (u0 := (.slice A s.blobs.length c)) (u1 := .slice B s.ents.length d) (u2 := .int .i64 (s.room : Int)) (u3 := .int .i64 (s.clock : Int)) (x0 := .int .i64 (phase : Int)) (x1 := (.slice A6 U.length c6)) (x2 := .string ats) hl (zm hl hR (by decide)) (zm hl hQ (by decide)))
  have HF5 := Lib.hid (qp (g := H + 2) (h := H + 3) (u0 := (.slice A s.blobs.length c)) (u1 := .slice B s.ents.length d) (u2 := .int .i64 (s.room : Int)) (u3 := .int .i64 (s.clock : Int)) (x0 := .int .i64 (phase : Int)) (x1 := (.slice A6 U.length c6)) (x2 := .string ats) hB (by omega) (by omega))
  have f0 := hR.frozen 0
  have f1 := hR.frozen 1
  have f2 := hR.frozen 2
  have f3 := hR.frozen 3
  have y0 := hR.cell (k := 0) rfl
  have y1 := hR.cell (k := 1) rfl
  have y2 := hR.cell (k := 2) rfl
  have y3 := hR.cell (k := 3) rfl
  have e0 := hQ.frozen 0
  have e1 := hQ.frozen 1
  have e2 := hQ.frozen 2
  have x0 := hQ.cell (k := 0) rfl
  have x1 := hQ.cell (k := 1) rfl
  have x2 := hQ.cell (k := 2) rfl
  have s0 := hS.cell (k := 0) rfl
  have s1 := hS.cell (k := 1) rfl
  have s2 := hS.cell (k := 2) rfl
  have s3 := hS.cell (k := 3) rfl
  have t0 := h8.cell (k := 0) rfl
  have t1 := h8.cell (k := 1) rfl
  have t2 := h8.cell (k := 2) rfl
  have n1 : ¬ (H = H + 2) := by omega
  have n2 : ¬ (g8 = H + 2) := by omega
  have n3 : ¬ (H = H + 3) := by omega
  clear hR hQ ho hl hB hS h8
  repeat' ((fail_if_success (with_reducible refine at_reg_ 7 ?_)); (fail_if_success (with_reducible refine at_sreg_ 7 ?_)); (fail_if_success (with_reducible refine at_ssreg_ 7 ?_)); (fail_if_success at_builtin); (fail_if_success at_make); (first | go_values | go_skip | go_guarded | go_step | go_upon | go_back))
  go_region
  all_goals (try dsimp only [Exit.then])
  go_wp2_with fail
  refine bodyPost_ret (yi rfl _ _ (H + 2) (H + 3) _ _ _ _ _ _ _ _ (by rfl) (Arr.drew HF1.out) Tryz.underlying26 rfl (by kernel_rfl) (by rfl) (Arr.drew HF2.out) Tryz.underlying66 rfl (by kernel_rfl)) rfl ?_
  have e9 := HATS.out
  subst e9
  rw [HKP.out]
  exact ⟨_, _, rfl, HF3.out.drewX.mono (fun b hb => .inl hb), zc HF4.out.drew (by omega), HF5.out.drew⟩
 ·have HKP := Lib.hid (show zL s ⟨phase, grey, at_⟩ ds = ({ s with blobs := zJ s.blobs (Ko s.blobs ds) }, ⟨phase, grey, at_⟩) from YY h3)
  have g1 : ((phase : Int) == 1) = false := by rw [h3]; rfl
  have g2 : ((phase : Int) == 2) = true := by rw [h3]; rfl
  have x0 := hS.cell (k := 0) rfl
  obtain ⟨_, _, _, _, e1, e2, hrd⟩ := ho.rows
  cases e1; cases e2
  have HMA := Lib.hid (KD A D c nd s.blobs ds wz (by omega) hrd.bc hrd.bm HG.out.b.ris (fun b hb => by have := (HG.out.b.one b hb).2.1; omega) (fun x hx => by rw [(HG.out.b.one x hx).1]; have := zV (zB x.data); omega) hrd.b (by omega) hD)
  have H8 := Lib.hid h8
  have HHS := Lib.hid hS
  have HHR := Lib.hid hR
  have HHQ := Lib.hid hQ
  have HO1 := Lib.hid ho
  have HLL := Lib.hid hl
  have HBZ := Lib.hid hB
  have hH2 : H < wz.heap.size := hS.lt
  clear hC hD HKP0 h3 hrd ho hl h8 hS hR hQ hB
  go_wp2_with fail
  clear y0 x0 g1 g2
  refine ((HMA.out)).mono ?_; rintro e_ w5 ⟨g5, L5, rfl, hL5, hx5, hb5⟩; dsimp only
  obtain rfl := hL5.uniq (K9 HG.out.b.ris ds)
  have hS5 := HHS.out.below hb5
  have hz0 := hS5.cell (k := 0) rfl
  have hf0 := hS5.frozen 0
  have ho5 := HO1.out.mixC (fun b hb => by
   rcases hb with hb | hb
   ·have := HN.out b hb; omega
   ·omega) hx5 (by omega) hb5
  have hne := ho5.nb hS5 (by decide) (by decide)
  have ho' := ho5.setX (g := H) (k := 0) (.inr ⟨Nat.le_refl _, by omega⟩) hne.1 hne.2 (.slice (some ⟨g5, 0, none⟩) s.blobs.length s.blobs.length)
  have hl5 := za HLL.out hb5
  have hl' := zf (k := 0) (u := .slice (some ⟨g5, 0, none⟩) s.blobs.length s.blobs.length) hl5 (zm hl5 hS5 (by decide))
  have hS' := hS5.set (k := 0) (by simp) (.slice (some ⟨g5, 0, none⟩) s.blobs.length s.blobs.length)
  simp only [List.set_cons_zero] at hS'
  have h8' := (H8.out.below hb5).other (k := 0) (g' := H) (by omega) (.slice (some ⟨g5, 0, none⟩) s.blobs.length s.blobs.length)
  have hR' := (HHR.out.below hb5).other (k := 0) (g' := H) (by omega) (.slice (some ⟨g5, 0, none⟩) s.blobs.length s.blobs.length)
  have hQ' := (HHQ.out.below hb5).other (k := 0) (g' := H) (by omega) (.slice (some ⟨g5, 0, none⟩) s.blobs.length s.blobs.length)
  have hB' := (HBZ.out.trans (hb5.mono (show H ≤ wz.heap.size by omega))).setCell (p := ⟨H, 0, none⟩) (by simp only; omega) (.slice (some ⟨g5, 0, none⟩) s.blobs.length s.blobs.length)
  have HX := Lib.hid (And.intro ho' (And.intro hl' (And.intro hS' (And.intro hR' (And.intro hQ' (And.intro hB' h8'))))))
  clear ho' hl' hS' hR' hQ' hB' h8' hne ho5 hl5 hb5 hL5 hx5 hS5
  generalize zJ s.blobs (Ko s.blobs ds) = mk at *
  repeat' ((fail_if_success (with_reducible refine at_reg_ 7 ?_)); (fail_if_success (with_reducible refine at_sreg_ 7 ?_)); (fail_if_success (with_reducible refine at_ssreg_ 7 ?_)); (fail_if_success at_builtin); (fail_if_success at_make); (first | go_values | go_skip | go_guarded | go_step | go_upon | go_back))
  clear hz0 hf0
  obtain ⟨ho, hl, hS, hR, hQ, hB, h8⟩ := HX.out
  clear HX
  have hHg : H + 2 ≠ H + 3 := by omega
  have HF1 := Lib.hid (vr (g := H + 2) (h := H + 3) (u0 := (.slice (some ⟨g5, 0, none⟩) s.blobs.length s.blobs.length)) (u1 := .slice B s.ents.length d) (u2 := .int .i64 (s.room : Int)) (u3 := .int .i64 (s.clock : Int)) (x0 := .int .i64 (phase : Int)) (x1 := (.slice A5 grey.length c5)) (x2 := .string ats) hR hHg)
  have HF2 := Lib.hid (vj (g := H + 2) (h := H + 3) (u0 := (.slice (some ⟨g5, 0, none⟩) s.blobs.length s.blobs.length)) (u1 := .slice B s.ents.length d) (u2 := .int .i64 (s.room : Int)) (u3 := .int .i64 (s.clock : Int)) (x0 := .int .i64 (phase : Int)) (x1 := (.slice A5 grey.length c5)) (x2 := .string ats) hQ hHg)
  have HF3 := Lib.hid (yp (g := H + 2) (h := H + 3) (u0 := (.slice (some ⟨g5, 0, none⟩) s.blobs.length s.blobs.length)) (u1 := .slice B s.ents.length d) (u2 := .int .i64 (s.room : Int)) (u3 := .int .i64 (s.clock : Int)) (x0 := .int .i64 (phase : Int)) (x1 := (.slice A5 grey.length c5)) (x2 := .string ats) ho (.inr ⟨by omega, by omega⟩) (.inr ⟨by omega, by omega⟩) (ho.nb hR (by decide) (by decide)).1 (ho.nb hR (by decide) (by decide)).2 (ho.nb hQ (by decide) (by decide)).1 (ho.nb hQ (by decide) (by decide)).2)
  have HF4 := Lib.hid (kf (g := H + 2) (h := H + 3) (u0 := (.slice (some ⟨g5, 0, none⟩) s.blobs.length s.blobs.length)) (u1 := .slice B s.ents.length d) (u2 := .int .i64 (s.room : Int)) (u3 := .int .i64 (s.clock : Int)) (x0 := .int .i64 (phase : Int)) (x1 := (.slice A5 grey.length c5)) (x2 := .string ats) hl (zm hl hR (by decide)) (zm hl hQ (by decide)))
  have HF5 := Lib.hid (qp (g := H + 2) (h := H + 3) (u0 := (.slice (some ⟨g5, 0, none⟩) s.blobs.length s.blobs.length)) (u1 := .slice B s.ents.length d) (u2 := .int .i64 (s.room : Int)) (u3 := .int .i64 (s.clock : Int)) (x0 := .int .i64 (phase : Int)) (x1 := (.slice A5 grey.length c5)) (x2 := .string ats) hB (by omega) (by omega))
  have f0 := hR.frozen 0
  have f1 := hR.frozen 1
  have f2 := hR.frozen 2
  have f3 := hR.frozen 3
  have y0 := hR.cell (k := 0) rfl
  have y1 := hR.cell (k := 1) rfl
  have y2 := hR.cell (k := 2) rfl
  have y3 := hR.cell (k := 3) rfl
  have e0 := hQ.frozen 0
  have e1 := hQ.frozen 1
  have e2 := hQ.frozen 2
  have x0 := hQ.cell (k := 0) rfl
  have x1 := hQ.cell (k := 1) rfl
  have x2 := hQ.cell (k := 2) rfl
  have s0 := hS.cell (k := 0) rfl
  have s1 := hS.cell (k := 1) rfl
  have s2 := hS.cell (k := 2) rfl
  have s3 := hS.cell (k := 3) rfl
  have t0 := h8.cell (k := 0) rfl
  have t1 := h8.cell (k := 1) rfl
  have t2 := h8.cell (k := 2) rfl
  have n1 : ¬ (H = H + 2) := by omega
  have n2 : ¬ (g8 = H + 2) := by omega
  have n3 : ¬ (H = H + 3) := by omega
  clear hR hQ ho hl hB hS h8
  repeat' ((fail_if_success (with_reducible refine at_reg_ 7 ?_)); (fail_if_success (with_reducible refine at_sreg_ 7 ?_)); (fail_if_success (with_reducible refine at_ssreg_ 7 ?_)); (fail_if_success at_builtin); (fail_if_success at_make); (first | go_values | go_skip | go_guarded | go_step | go_upon | go_back))
  go_region
  all_goals (try dsimp only [Exit.then])
  go_wp2_with fail
  refine bodyPost_ret (yi rfl _ _ (H + 2) (H + 3) _ _ _ _ _ _ _ _ (by rfl) (Arr.drew HF1.out) Tryz.underlying26 rfl (by kernel_rfl) (by rfl) (Arr.drew HF2.out) Tryz.underlying66 rfl (by kernel_rfl)) rfl ?_
  have e9 := HATS.out
  subst e9
  rw [HKP.out]
  exact ⟨_, _, rfl, HF3.out.drewX.mono (fun b hb => .inl hb), zc HF4.out.drew (by omega), HF5.out.drew⟩
end Go.Proofs.YtngfnjekjfeacaaGreat
namespace Go.Proofs.YtngfnjekjfeacaaGreat
open Go.RowKit
set_option linter.unusedVariables false
set_option linter.unusedSimpArgs false
set_option maxRecDepth 100000
set_option maxHeartbeats 2000000 in
theorem KB (A : Option Addr) (c : Nat) (x : List PartP) (w : World) (hx8 : x.length ≤ 1000) (hr : Rd w 3 A x.length (pcs x)) :
  Calls Tryz.prog 111 #[.slice A x.length c] w fun e w' => ∃ v, e = .returned v ∧ w'.ownsRow w.heap.size 9 1 v (x.map (·.dig)).length (strs (x.map (·.dig))) ∧ Below w.heap.size w w' := by
 have HR2 := Lib.hid hr
 clear hr
 go_enter Tryz.func111, Tryz.ntmps111
 repeat' (fail_if_success (first|at_builtin|at_make));first|go_values|go_skip|go_guarded|go_step|go_upon|go_back
 go_loopg [3, 8, 5] x.length (fun gn v i u wr => ∃ k : Nat, gn = x.length - k ∧ i = .int .i64 k ∧ k ≤ x.length ∧ wr.ownsRow w.heap.size 9 1 v k (dcs (x.take k)) ∧ Below w.heap.size w wr)
 case atStart => exact ⟨0, rfl, rfl, by omega, World.ownsRow_nil _ _ _ _, Below.refl _ _⟩
 case round =>
  obtain ⟨k, hgk, rfl, hk, ho, hbl⟩ := hrel
  have HGK := Lib.hid hgk
  clear hgk
  by_cases hlt : k < x.length
  ·have hstep := ux x k hlt
   have hat := fun j (hj : j < 3) => qO x k j hlt hj
   obtain ⟨b, off, rfl, hbw', hcell⟩ := (HR2.out.below hbl).2 (by omega)
   have c0 := hcell (k * 3 + 0) _ (hat 0 (by omega))
   have c1 := hcell (k * 3 + 1) _ (hat 1 (by omega))
   have c2 := hcell (k * 3 + 2) _ (hat 2 (by omega))
   rw [Nat.add_zero] at c0
   rw [show off + (k * 3 + 1) = off + k * 3 + 1 by omega] at c1
   rw [show off + (k * 3 + 2) = off + k * 3 + 2 by omega] at c2
   try dsimp only [qF, List.getElem?_cons_zero, List.getElem?_cons_succ] at c0 c1 c2
   generalize (⟨x[k].name.toArray⟩ : ByteArray) = s' at *
   generalize (⟨x[k].dig.toArray⟩ : ByteArray) = t' at *
   generalize (x[k].size : Int) = z' at *
   have HST := Lib.hid hstep
   have hk0 : (0 : Int) ≤ (k : Int) := by omega
   have hk1 : (k : Int) < (x.length : Int) := by omega
   have hcc : decide (k < x.length) = true := decide_eq_true hlt
   clear hstep hat hcell
   repeat' (fail_if_success (first|at_builtin|at_make));first|go_values|go_skip|go_guarded|go_step|go_upon|go_back
   have hbl' := hbl.alloc hbl.size (.cells #[.string s', .string t', .int .i64 z'] 52)
   have ho' := ho.alloc (.cells #[.string s', .string t', .int .i64 z'] 52)
   have hs1 : (wr.alloc (.cells #[.string s', .string t', .int .i64 z'] 52)).heap.size = wr.heap.size + 1 := World.size_alloc _ _
   generalize wr.alloc (.cells #[.string s', .string t', .int .i64 z'] 52) = wb at *
   rw [← hs1]
   clear hs1 ho hbl c0 c1 c2
   refine zi rfl (.tmp 12) (.tmp 15) rfl YE (by rfl) ho' (us := [.string t']) (m := 1) (by rfl) rfl (by intro u hu; simp at hu; subst hu; rfl) (by omega) hbl'.size ?_
   intro v5 w5 ho5 hg5 hv5
   rw [← HST.out] at ho5
   have hbl5 := ze hbl' ho' (Nat.le_refl _) hg5
   repeat' (fail_if_success (first|at_builtin|at_make));first|go_values|go_skip|go_guarded|go_step|go_upon|go_back
   go_roundg (x.length - (k + 1))
   case measure => have := HGK.out; omega
   case rel => exact ⟨k + 1, rfl, by go_num, by omega, ho5, hbl5⟩
  ·obtain rfl : k = x.length := by omega
   have hcc : decide (x.length < x.length) = false := by simp
   rw [List.take_length, xp] at ho
   have hml : (x.map (·.dig)).length = x.length := List.length_map _
   have HML := Lib.hid hml
   clear hml
   repeat' (fail_if_success (first|at_builtin|at_make));first|go_values|go_skip|go_guarded|go_step|go_upon|go_back
   go_ret
   exact ⟨_, rfl, by rw [HML.out]; exact ho, hbl⟩
end Go.Proofs.YtngfnjekjfeacaaGreat
