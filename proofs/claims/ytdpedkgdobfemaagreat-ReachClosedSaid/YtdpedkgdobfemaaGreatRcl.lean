/- The walk of ReachClosed. Conditions: the sizes. -/
import Derived.Test.YtdpedkgdobfemaaGreatRrt
import Derived.Test.YtdpedkgdobfemaaGreatStd
namespace Go.Proofs.YtdpedkgdobfemaaGreat
open Go.RowKit Go.Maps
set_option linter.unusedVariables false
set_option linter.unusedSimpArgs false
set_option maxRecDepth 100000

set_option maxHeartbeats 8000000 in
theorem ReachClosed_walk (A : Option Addr) (n c : Nat) (l : List RawP) (w : World) (hl : l.length = n) (hc : n ≤ c) (hm : c ≤ maxLen) (hok : ∀ r ∈ l, RawOk r) (hr : Rd w 4 A n (rcs l)) :
    Calls Tryz.prog 4 #[.slice A n c] w fun e w' => e = .returned (.bool true) ∧ Below w.heap.size w w' := by
  have HS := Lib.hid (Store_ok A n c l w hl hc hm hok hr)
  have HGS := Lib.hid (sto_good l)
  clear hok hl hr hc hm
  generalize sto l = s at *
  have hbl := HGS.out.b.len
  have hel := HGS.out.e.len
  go_enter Tryz.func4, Tryz.ntmps4
  repeat' ((fail_if_success at_builtin); (fail_if_success at_make); (first | go_values | go_skip | go_guarded | go_step | go_upon | go_back))
  refine ((HS.out)).mono ?_; rintro e_ w1 ⟨v1, v2, rfl, hb, he, hb1⟩; dsimp only
  obtain ⟨Ab, cb, rfl, hcb1, hcb2, hRb⟩ := hb.rows
  obtain ⟨Ae, ce, rfl, hce1, hce2, hRe⟩ := he.rows
  have hrd1 : RdSt w1 Ab cb Ae ce s := ⟨hRb, hRe, hcb1, hcb2, hce1, hce2⟩
  have hA2 : Arr (w1.alloc (.cells #[.slice Ab s.blobs.length cb, .slice Ae s.ents.length ce, .int .i64 (s.room : Int), .int .i64 (s.clock : Int)] 26)) w1.heap.size 26 [.slice Ab s.blobs.length cb, .slice Ae s.ents.length ce, .int .i64 (s.room : Int), .int .i64 (s.clock : Int)] := Arr.new w1 26 _
  have hb2 := (Below.refl w1.heap.size w1).alloc (Nat.le_refl _) (.cells #[.slice Ab s.blobs.length cb, .slice Ae s.ents.length ce, .int .i64 (s.room : Int), .int .i64 (s.clock : Int)] 26)
  have hb12 := hb1.trans (hb2.mono hb1.size)
  have hrd2 := hrd1.below hb2
  have q0 := hA2.cell (k := 0) rfl
  have q1 := hA2.cell (k := 1) rfl
  have q2 := hA2.cell (k := 2) rfl
  have q3 := hA2.cell (k := 3) rfl
  clear hb he hRb hRe hrd1 hb2 hb1
  repeat' ((fail_if_success at_builtin); (fail_if_success at_make); (first | go_values | go_skip | go_guarded | go_step | go_upon | go_back))
  generalize w1.alloc (.cells #[.slice Ab s.blobs.length cb, .slice Ae s.ents.length ce, .int .i64 (s.room : Int), .int .i64 (s.clock : Int)] 26) = w2 at *
  generalize w1.heap.size = gs at *
  clear q0 q1 q2 q3
  refine ((All_ok Ab Ae cb ce s (s.room : Int) (s.clock : Int) w2 HGS.out.rts hrd2)).mono ?_; rintro e_ w3 ⟨v3, L, rfl, hL, hLl, ho3, hb3⟩; dsimp only
  have hb13 := hb12.trans (hb3.mono hb12.size)
  have HA3 := Lib.hid (hA2.below hb3)
  have HRD3 := Lib.hid (hrd2.below hb3)
  obtain ⟨AL, cL, rfl, hcL, hrL⟩ := Rd.of_own' ho3
  have HL := Lib.hid hL
  have HRL := Lib.hid hrL
  have hLn : L.length ≤ 24 := by have := HGS.out.b.len; omega
  clear hA2 hrd2 hb12 hb3 ho3 hL hrL
  have hb63 : (s.blobs.length : Int) ≤ 9223372036854775807 := by omega
  repeat' ((fail_if_success at_builtin); (fail_if_success at_make); (first | go_values | go_skip | go_guarded | go_step | go_upon | go_back))
  refine ((comes_ok w3)).mono ?_; rintro e_ w4 ⟨rfl, hb4⟩; dsimp only
  repeat' ((fail_if_success at_builtin); (fail_if_success at_make); (first | go_values | go_skip | go_guarded | go_step | go_upon | go_back))
  refine ((Sorted_str AL cL L w4 (by omega) (HRL.out.below hb4) HL.out.le)).mono ?_; rintro e_ w5 ⟨rfl, hb5⟩; dsimp only
  have hb45 := hb4.trans (hb5.mono hb4.size)
  have q0 := (HA3.out.below hb45).cell (k := 0) rfl
  clear hb4 hb5
  repeat' ((fail_if_success at_builtin); (fail_if_success at_make); (first | go_values | go_skip | go_guarded | go_step | go_upon | go_back))
  refine ((From_ok Ab AL cb cL s.blobs L w5 (by omega) HRD3.out.bc HRD3.out.bm HGS.out.rts.g (HRD3.out.b.below hb45) (by omega) (HRL.out.below hb45))).mono ?_; rintro e_ w6 ⟨v6, L6, rfl, hL6, _, ho6, hb6⟩; dsimp only
  have hL66 : L6 = L := StrL.uniq (p := Rch s.blobs (rts s)) ⟨hL6.nd, hL6.le, fun x => by
    rw [hL6.mem]
    exact ⟨fun h => h.mono fun y hy _ => (HL.out.mem y).1 hy, fun h => .root ((HL.out.mem x).2 h) h.inB⟩⟩ HL.out
  subst hL66
  obtain ⟨A6, c6, rfl, _, hr6⟩ := Rd.of_own' ho6
  have hb46 := hb45.trans (hb6.mono hb45.size)
  have HEQ := Eq_str A6 AL c6 cL L6 L6 w6 (by omega) (by omega) hr6 (HRL.out.below hb46)
  rw [decide_eq_true rfl] at HEQ
  have HEQ' := Lib.hid HEQ
  clear HEQ hr6 ho6 hL6 hb45 hb6 q0
  repeat' ((fail_if_success at_builtin); (fail_if_success at_make); (first | go_values | go_skip | go_guarded | go_step | go_upon | go_back))
  refine ((HEQ'.out)).mono ?_; rintro e_ w7 ⟨rfl, hb7⟩; dsimp only
  have hb47 := hb46.trans (hb7.mono hb46.size)
  have q0 := (HA3.out.below hb47).cell (k := 0) rfl
  clear hb46 hb7 HEQ'
  repeat' ((fail_if_success at_builtin); (fail_if_success at_make); (first | go_values | go_skip | go_guarded | go_step | go_upon | go_back))
  clear q0
  go_loopg [32] s.blobs.length (fun gn i wr => ∃ k : Nat, gn = s.blobs.length - k ∧ i = .int .i64 k ∧ k ≤ s.blobs.length ∧ Below w3.heap.size w3 wr)
  case atStart => exact ⟨0, rfl, rfl, by omega, hb47⟩
  case round =>
    obtain ⟨k, hgk, rfl, hk, hbel⟩ := hrel
    have HGK := Lib.hid hgk
    clear hgk hb47
    by_cases hlt : k < s.blobs.length
    rotate_left
    · obtain rfl : k = s.blobs.length := by omega
      have hlb : decide (s.blobs.length < s.blobs.length) = false := by simp
      repeat' ((fail_if_success at_builtin); (fail_if_success at_make); (first | go_values | go_skip | go_guarded | go_step | go_upon | go_back))
      go_ret
      exact ⟨rfl, hb13.trans (hbel.mono hb13.size)⟩
    have hlb : decide (k < s.blobs.length) = true := decide_eq_true hlt
    have hk0 : (0 : Int) ≤ (k : Int) := by omega
    have hk1 : (k : Int) < (s.blobs.length : Int) := by omega
    obtain ⟨bq, oq, Bq, cq, hA, hbq, d0, d1, d2, d3, hsl⟩ := (HRD3.out.b.below hbel).blob_at k hlt
    subst hA
    have HKL := Lib.hid hlt
    have HMB := Lib.hid (List.getElem_mem hlt)
    generalize s.blobs[k] = q at *
    have hbn := (Below.refl wr.heap.size wr).alloc (Nat.le_refl _) (.cells #[.string ⟨q.dig.toArray⟩, .slice Bq q.data.length cq, .int .i64 (q.pins : Int), .bool q.mark] 38)
    have hbox : Arr (wr.alloc (.cells #[.string ⟨q.dig.toArray⟩, .slice Bq q.data.length cq, .int .i64 (q.pins : Int), .bool q.mark] 38)) wr.heap.size 38 [.string ⟨q.dig.toArray⟩, .slice Bq q.data.length cq, .int .i64 (q.pins : Int), .bool q.mark] := Arr.new wr 38 _
    have hbA := hbel.trans (hbn.mono hbel.size)
    have hslA := hsl.below hbn
    have p0 := hbox.cell (k := 0) rfl
    have p1 := hbox.cell (k := 1) rfl
    have p2 := hbox.cell (k := 2) rfl
    have p3 := hbox.cell (k := 3) rfl
    have hct := Has_str AL cL L6 q.dig _ (by omega) (HRL.out.below hbA)
    clear hsl hbn
    by_cases hin : q.dig ∈ L6
    rotate_left
    · rw [decide_eq_false hin] at hct
      have HCT := Lib.hid hct
      clear hct hin hbox
      repeat' ((fail_if_success at_builtin); (fail_if_success at_make); (first | go_values | go_skip | go_guarded | go_step | go_upon | go_back))
      refine ((HCT.out)).mono ?_; rintro e_ wx ⟨rfl, rfl⟩; dsimp only
      repeat' ((fail_if_success at_builtin); (fail_if_success at_make); (first | go_values | go_skip | go_guarded | go_step | go_upon | go_back))
      go_roundg (s.blobs.length - (k + 1))
      case measure => have := HGK.out; have := HKL.out; omega
      case rel => exact ⟨k + 1, rfl, by go_num, by have := HKL.out; omega, hbA⟩
    rw [decide_eq_true hin] at hct
    have HCT := Lib.hid hct
    have HIN := Lib.hid hin
    have hkd := kids_mem HGS.out.b.ris HMB.out
    obtain ⟨ks, hks⟩ : ∃ ks, ks = kids s.blobs q.dig := ⟨_, rfl⟩
    have hk8 : ks.length ≤ 8 := by rw [hks, hkd, List.length_map]; exact decL_len _
    have HPT := RParts_ok ⟨q.dig.toArray⟩ Bq q.data.length cq q.data (q.pins : Int) q.mark _ rfl hslA.cap hslA.max hslA.rd
    have hkx : (decL q.data).1.map (fun p : PartP => p.dig) = ks := by rw [hks, hkd]
    have hkl : (decL q.data).1.length = ks.length := by rw [← hkx, List.length_map]
    rw [dcs_strs, hkx, hkl] at HPT
    have HPT' := Lib.hid HPT
    have HKS := Lib.hid hks
    clear hct hin hkd HPT hkx hkl hks hslA
    repeat' ((fail_if_success at_builtin); (fail_if_success at_make); (first | go_values | go_skip | go_guarded | go_step | go_upon | go_back))
    clear d0 d1 d2 d3
    refine ((HCT.out)).mono ?_; rintro e_ wx ⟨rfl, rfl⟩; dsimp only
    repeat' ((fail_if_success at_builtin); (fail_if_success at_make); (first | go_values | go_skip | go_guarded | go_step | go_upon | go_back))
    clear p0 p1 p2 p3 hbox
    generalize (wr.alloc (.cells #[.string ⟨q.dig.toArray⟩, .slice Bq q.data.length cq, .int .i64 (q.pins : Int), .bool q.mark] 38)) = wA at *
    refine ((HPT'.out)).mono ?_; rintro e_ w8 ⟨v8, rfl, ho8, hb8⟩; dsimp only
    obtain ⟨A8, c8, rfl, _, hr8⟩ := Rd.of_own' ho8
    have hb38 := hbA.trans (hb8.mono hbA.size)
    have hk63 : (ks.length : Int) ≤ 9223372036854775807 := by omega
    clear ho8 hb8 hbA HCT HPT'
    repeat' ((fail_if_success at_builtin); (fail_if_success at_make); (first | go_values | go_skip | go_guarded | go_step | go_upon | go_back))
    go_loopg [44] ks.length (fun gn i wr => ∃ j : Nat, gn = ks.length - j ∧ i = .int .i64 j ∧ j ≤ ks.length ∧ Below w8.heap.size w8 wr)
    case atStart => exact ⟨0, rfl, rfl, by omega, Below.refl _ _⟩
    case round =>
      obtain ⟨j, hgj, rfl, hj, hbi⟩ := hrel
      have HGJ := Lib.hid hgj
      have hb3i := hb38.trans (hbi.mono hb38.size)
      clear hgj
      by_cases hlt2 : j < ks.length
      rotate_left
      · obtain rfl : j = ks.length := by omega
        have hlb2 : decide (ks.length < ks.length) = false := by simp
        repeat' ((fail_if_success at_builtin); (fail_if_success at_make); (first | go_values | go_skip | go_guarded | go_step | go_upon | go_back))
        go_roundg (s.blobs.length - (k + 1))
        case measure => have := HGK.out; have := HKL.out; omega
        case rel => exact ⟨k + 1, rfl, by go_num, by have := HKL.out; omega, hb3i⟩
      have hlb2 : decide (j < ks.length) = true := decide_eq_true hlt2
      have hj0 : (0 : Int) ≤ (j : Int) := by omega
      have hj1 : (j : Int) < (ks.length : Int) := by omega
      obtain ⟨bb, off, hAb, _, hcell⟩ := (hr8.below hbi).2 (by omega)
      subst hAb
      have e0 := hcell j _ (strs_at ks j hlt2)
      have hkm := List.getElem_mem hlt2
      have HJL := Lib.hid hlt2
      generalize ks[j] = d at *
      have q0 := (HA3.out.below hb3i).cell (k := 0) rfl
      have HHB := Has_ok _ cb s.blobs d wr (by omega) (HRD3.out.b.below hb3i)
      clear hcell
      cases hany : s.blobs.any (fun x => x.dig == d) with
      | false =>
        rw [hany] at HHB
        have HHB' := Lib.hid HHB
        clear HHB hany hkm
        repeat' ((fail_if_success at_builtin); (fail_if_success at_make); (first | go_values | go_skip | go_guarded | go_step | go_upon | go_back))
        refine ((HHB'.out)).mono ?_; rintro e_ wy ⟨rfl, hby⟩; dsimp only
        have hbiy := hbi.trans (hby.mono hbi.size)
        clear q0 e0 hby
        repeat' ((fail_if_success at_builtin); (fail_if_success at_make); (first | go_values | go_skip | go_guarded | go_step | go_upon | go_back))
        go_roundg (ks.length - (j + 1))
        case measure => have := HGJ.out; have := HJL.out; omega
        case rel => exact ⟨j + 1, rfl, by go_num, by have := HJL.out; omega, hbiy⟩
      | true =>
        rw [hany] at HHB
        have HHB' := Lib.hid HHB
        have hdi : d ∈ L6 := by
          obtain ⟨x, hx, hxd⟩ := List.any_eq_true.1 hany
          refine (HL.out.mem d).2 (.step ((HL.out.mem q.dig).1 HIN.out) (by rw [← HKS.out]; exact hkm) ⟨x, hx, by simpa using hxd⟩)
        clear HHB hany hkm
        repeat' ((fail_if_success at_builtin); (fail_if_success at_make); (first | go_values | go_skip | go_guarded | go_step | go_upon | go_back))
        refine ((HHB'.out)).mono ?_; rintro e_ wy ⟨rfl, hby⟩; dsimp only
        have hbiy := hbi.trans (hby.mono hbi.size)
        have hct := Has_str AL cL L6 d wy (by omega) (HRL.out.below (hb38.trans (hbiy.mono hb38.size)))
        rw [decide_eq_true hdi] at hct
        have HCT := Lib.hid hct
        clear q0 e0 hby hct hdi
        repeat' ((fail_if_success at_builtin); (fail_if_success at_make); (first | go_values | go_skip | go_guarded | go_step | go_upon | go_back))
        refine ((HCT.out)).mono ?_; rintro e_ wx ⟨rfl, rfl⟩; dsimp only
        repeat' ((fail_if_success at_builtin); (fail_if_success at_make); (first | go_values | go_skip | go_guarded | go_step | go_upon | go_back))
        go_roundg (ks.length - (j + 1))
        case measure => have := HGJ.out; have := HJL.out; omega
        case rel => exact ⟨j + 1, rfl, by go_num, by have := HJL.out; omega, hbiy⟩
end Go.Proofs.YtdpedkgdobfemaaGreat
