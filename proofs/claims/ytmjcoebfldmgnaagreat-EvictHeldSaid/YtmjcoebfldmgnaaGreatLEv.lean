/- The walks of EvictFits, EvictTwice, EvictMore. Conditions: the sizes. -/
import Derived.Test.YtmjcoebfldmgnaaGreatRun
import Derived.Test.YtmjcoebfldmgnaaGreatSmS
namespace Go.Proofs.YtmjcoebfldmgnaaGreat
open Go.RowKit Go.Maps
set_option linter.unusedVariables false
set_option linter.unusedSimpArgs false
set_option maxRecDepth 100000

set_option maxHeartbeats 8000000 in
theorem EvictFits_walk (A : Option Addr) (n c : Nat) (l : List RawP) (m : Int) (w : World) (hl : l.length = n) (hc : n ≤ c) (hm : c ≤ maxLen) (hok : ∀ r ∈ l, RawOk r) (hr : Rd w 4 A n (rcs l)) (m0 : -9223372036854775808 ≤ m) (m1 : m ≤ 9223372036854775807) :
    Calls Tryz.prog 4 #[.slice A n c, .int .i64 m] w fun e w' => e = .returned (.bool true) ∧ Below w.heap.size w w' := by
  have HS := Lib.hid (Store_ok A n c l w hl hc hm hok hr)
  have HGS := Lib.hid (sto_good l)
  clear hok hl hr hc hm
  generalize sto l = s at *
  have hbl := HGS.out.b.len
  have hel := HGS.out.e.len
  have HP1 := Lib.hid (fun w' => Picked_ok m 4001 4001 rfl w' m0 m1 (by omega) (by omega))
  have hp1 := pk_lt m (m := 4001) (by omega)
  clear m0 m1
  generalize pk m 4001 = k at *
  -- the store of raw things in a box gs
  go_enter Tryz.func4, Tryz.ntmps4
  repeat' ((fail_if_success at_builtin); (fail_if_success at_make); (first | go_values | go_skip | go_guarded | go_step | go_upon | go_back))
  refine (HS.out).mono ?_; rintro e_ w1 ⟨v1, v2, rfl, hb, he, hb1⟩; dsimp only
  obtain ⟨Ab, cb, rfl, hcb1, hcb2, hRb⟩ := hb.rows
  obtain ⟨Ae, ce, rfl, hce1, hce2, hRe⟩ := he.rows
  have hrd1 : RdSt w1 Ab cb Ae ce s := ⟨hRb, hRe, hcb1, hcb2, hce1, hce2⟩
  have hAs : Arr (w1.alloc (.cells #[.slice Ab s.blobs.length cb, .slice Ae s.ents.length ce, .int .i64 (s.room : Int), .int .i64 (s.clock : Int)] 26)) w1.heap.size 26 [.slice Ab s.blobs.length cb, .slice Ae s.ents.length ce, .int .i64 (s.room : Int), .int .i64 (s.clock : Int)] := Arr.new w1 26 _
  have hb2 := (Below.refl w1.heap.size w1).alloc (Nat.le_refl _) (.cells #[.slice Ab s.blobs.length cb, .slice Ae s.ents.length ce, .int .i64 (s.room : Int), .int .i64 (s.clock : Int)] 26)
  have hb12 := hb1.trans (hb2.mono hb1.size)
  have hrd2 := hrd1.below hb2
  have q0 := hAs.cell (k := 0) rfl
  have q1 := hAs.cell (k := 1) rfl
  have q2 := hAs.cell (k := 2) rfl
  have q3 := hAs.cell (k := 3) rfl
  clear hb he hRb hRe hrd1 hb2 hb1
  repeat' ((fail_if_success at_builtin); (fail_if_success at_make); (first | go_values | go_skip | go_guarded | go_step | go_upon | go_back))
  generalize w1.alloc (.cells #[.slice Ab s.blobs.length cb, .slice Ae s.ents.length ce, .int .i64 (s.room : Int), .int .i64 (s.clock : Int)] 26) = w2 at *
  generalize w1.heap.size = gs at *
  clear q0 q1 q2 q3
  refine ((HP1.out w2)).mono ?_; rintro e_ _ ⟨rfl, rfl⟩; dsimp only
  have q0 := hAs.cell (k := 0) rfl
  have q1 := hAs.cell (k := 1) rfl
  have q2 := hAs.cell (k := 2) rfl
  have q3 := hAs.cell (k := 3) rfl
  have HRUN := Lib.hid (Run_ok Ab cb Ae ce s k w2 (by omega) HGS.out hrd2)
  clear HP1
  repeat' ((fail_if_success at_builtin); (fail_if_success at_make); (first | go_values | go_skip | go_guarded | go_step | go_upon | go_back))
  clear q0 q1 q2 q3
  refine (HRUN.out).mono ?_
  rintro e_ w3 ⟨hra, hb3⟩
  have hb13 := hb12.trans (hb3.mono hb12.size)
  have hAs3 := hAs.below hb3
  cases hev : evRun k s with
  | none =>
    rw [hev] at hra
    obtain rfl := hra
    dsimp only
    clear hrd2 hAs hb12 HRUN hev
    have hb4 := hb13.alloc hb13.size (.cells #[.slice none 0 0, .slice none 0 0, .int .i64 0, .int .i64 0] 26)
    have hAx : Arr (w3.alloc (.cells #[.slice none 0 0, .slice none 0 0, .int .i64 0, .int .i64 0] 26)) w3.heap.size 26 [.slice none 0 0, .slice none 0 0, .int .i64 0, .int .i64 0] := Arr.new w3 26 _
    repeat' ((fail_if_success at_builtin); (fail_if_success at_make); (first | go_values | go_skip | go_guarded | go_step | go_upon | go_back))
    generalize (w3.alloc (.cells #[.slice none 0 0, .slice none 0 0, .int .i64 0, .int .i64 0] 26)) = w4 at *
    generalize w3.heap.size = gx at *
    refine ((comes_ok w4)).mono ?_; rintro e_ w5 ⟨rfl, hb5⟩; dsimp only
    have q0 := (hAx.below hb5).cell (k := 0) rfl
    have hb6 := hb4.trans (hb5.mono hb4.size)
    repeat' ((fail_if_success at_builtin); (fail_if_success at_make); (first | go_values | go_skip | go_guarded | go_step | go_upon | go_back))
    go_ret
    exact ⟨rfl, hb6⟩
  | some p =>
    obtain ⟨t, g⟩ := p
    rw [hev] at hra
    obtain ⟨Ax, cx, Bx, dx, v3, rfl, hrdx, hox⟩ := hra
    dsimp only
    obtain ⟨Ag, cg, rfl, hcg, hrg⟩ := Rd.of_own' hox
    obtain ⟨hgt, hft, hlt, hrt, hct⟩ := evRun_good HGS.out hev
    have htb := hgt.b.len
    have hte := hgt.e.len
    have hus := hgt.used
    have hrm := hgt.room
    have HGT := Lib.hid hgt
    clear hox hrd2 hAs hb12 HRUN hev hrg hgt
    -- the answered store (plain t) in a box gx, world w3 -> w4: A=Ax c=cx B=Bx d=dx
    have hAx : Arr (w3.alloc (.cells #[.slice Ax t.blobs.length cx, .slice Bx t.ents.length dx, .int .i64 (s.room : Int), .int .i64 (s.clock : Int)] 26)) w3.heap.size 26 [.slice Ax t.blobs.length cx, .slice Bx t.ents.length dx, .int .i64 (s.room : Int), .int .i64 (s.clock : Int)] := Arr.new w3 26 _
    have hbx := (Below.refl w3.heap.size w3).alloc (Nat.le_refl _) (.cells #[.slice Ax t.blobs.length cx, .slice Bx t.ents.length dx, .int .i64 (s.room : Int), .int .i64 (s.clock : Int)] 26)
    have hrdx4 := hrdx.below hbx
    have hAs4 := hAs3.below hbx
    have hb14 := hb13.trans (hbx.mono hb13.size)
    clear hrdx hAs3 hbx hb13
    repeat' ((fail_if_success at_builtin); (fail_if_success at_make); (first | go_values | go_skip | go_guarded | go_step | go_upon | go_back))
    generalize (w3.alloc (.cells #[.slice Ax t.blobs.length cx, .slice Bx t.ents.length dx, .int .i64 (s.room : Int), .int .i64 (s.clock : Int)] 26)) = w4 at *
    generalize w3.heap.size = gx at *
    refine ((comes_ok w4)).mono ?_; rintro e_ w5 ⟨rfl, hb5⟩; dsimp only
    have hrdx5 := hrdx4.below hb5
    have hAs5 := hAs4.below hb5
    have hAx5 := hAx.below hb5
    have hb15 := hb14.trans (hb5.mono hb14.size)
    have q0 := hAx5.cell (k := 0) rfl
    have q2 := hAx5.cell (k := 2) rfl
    have hfi := Fits_ok Ax cx t.blobs s.room k w5 (by omega) (by omega) (by omega) (by omega) hrdx5.b
    rw [if_pos (by omega)] at hfi
    have HFI := Lib.hid hfi
    clear hrdx4 hAs4 hAx hb5 hb14 hfi
    repeat' ((fail_if_success at_builtin); (fail_if_success at_make); (first | go_values | go_skip | go_guarded | go_step | go_upon | go_back))
    clear q0 q2
    refine ((HFI.out)).mono ?_; rintro e_ w6 ⟨rfl, hb6⟩; dsimp only
    have hrdx6 := hrdx5.below hb6
    have hAs6 := hAs5.below hb6
    have hAx6 := hAx5.below hb6
    have hb16 := hb15.trans (hb6.mono hb15.size)
    have q0 := hAx6.cell (k := 0) rfl
    have q1 := hAx6.cell (k := 1) rfl
    have q2 := hAx6.cell (k := 2) rfl
    have q3 := hAx6.cell (k := 3) rfl
    have hck := CheckS_ok Ax cx Bx dx t w6 HGT.out hrdx6
    rw [hrt, hct] at hck
    have HCK := Lib.hid hck
    have hlw : IntKind.i64.wrap ((t.ents.length : Int) + (g.length : Int)) = (s.ents.length : Int) := by rw [IntWalk.i64_in _ (by omega)]; omega
    have HAS := Lib.hid (show ∀ W, Below w6.heap.size w6 W → W.cell? ⟨gs, 1, none⟩ = some (.slice Ae s.ents.length ce) ∧ W.cell? ⟨gx, 1, none⟩ = some (.slice Bx t.ents.length dx) from fun W h => ⟨(hAs6.below h).cell (k := 1) rfl, (hAx6.below h).cell (k := 1) rfl⟩)
    clear hrdx5 hrdx6 hAs5 hAs6 hAx5 hAx6 hb6 hb15 hck hct hrt
    repeat' ((fail_if_success at_builtin); (fail_if_success at_make); (first | go_values | go_skip | go_guarded | go_step | go_upon | go_back))
    clear q0 q1 q2 q3
    refine ((HCK.out)).mono ?_; rintro e_ w7 ⟨rfl, hb7⟩; dsimp only
    obtain ⟨q0, q1⟩ := HAS.out _ hb7
    have hb17 := hb16.trans (hb7.mono hb16.size)
    repeat' ((fail_if_success at_builtin); (fail_if_success at_make); (first | go_values | go_skip | go_guarded | go_step | go_upon | go_back))
    go_ret
    exact ⟨by simp, hb17⟩
set_option maxHeartbeats 8000000 in
theorem EvictTwice_walk (A : Option Addr) (n c : Nat) (l : List RawP) (m : Int) (w : World) (hl : l.length = n) (hc : n ≤ c) (hm : c ≤ maxLen) (hok : ∀ r ∈ l, RawOk r) (hr : Rd w 4 A n (rcs l)) (m0 : -9223372036854775808 ≤ m) (m1 : m ≤ 9223372036854775807) :
    Calls Tryz.prog 8 #[.slice A n c, .int .i64 m] w fun e w' => e = .returned (.bool true) ∧ Below w.heap.size w w' := by
  have HS := Lib.hid (Store_ok A n c l w hl hc hm hok hr)
  have HGS := Lib.hid (sto_good l)
  clear hok hl hr hc hm
  generalize sto l = s at *
  have hbl := HGS.out.b.len
  have hel := HGS.out.e.len
  have HP1 := Lib.hid (fun w' => Picked_ok m 4001 4001 rfl w' m0 m1 (by omega) (by omega))
  have hp1 := pk_lt m (m := 4001) (by omega)
  clear m0 m1
  generalize pk m 4001 = k at *
  -- the store of raw things in a box gs
  go_enter Tryz.func8, Tryz.ntmps8
  repeat' ((fail_if_success at_builtin); (fail_if_success at_make); (first | go_values | go_skip | go_guarded | go_step | go_upon | go_back))
  refine (HS.out).mono ?_; rintro e_ w1 ⟨v1, v2, rfl, hb, he, hb1⟩; dsimp only
  obtain ⟨Ab, cb, rfl, hcb1, hcb2, hRb⟩ := hb.rows
  obtain ⟨Ae, ce, rfl, hce1, hce2, hRe⟩ := he.rows
  have hrd1 : RdSt w1 Ab cb Ae ce s := ⟨hRb, hRe, hcb1, hcb2, hce1, hce2⟩
  have hAs : Arr (w1.alloc (.cells #[.slice Ab s.blobs.length cb, .slice Ae s.ents.length ce, .int .i64 (s.room : Int), .int .i64 (s.clock : Int)] 26)) w1.heap.size 26 [.slice Ab s.blobs.length cb, .slice Ae s.ents.length ce, .int .i64 (s.room : Int), .int .i64 (s.clock : Int)] := Arr.new w1 26 _
  have hb2 := (Below.refl w1.heap.size w1).alloc (Nat.le_refl _) (.cells #[.slice Ab s.blobs.length cb, .slice Ae s.ents.length ce, .int .i64 (s.room : Int), .int .i64 (s.clock : Int)] 26)
  have hb12 := hb1.trans (hb2.mono hb1.size)
  have hrd2 := hrd1.below hb2
  have q0 := hAs.cell (k := 0) rfl
  have q1 := hAs.cell (k := 1) rfl
  have q2 := hAs.cell (k := 2) rfl
  have q3 := hAs.cell (k := 3) rfl
  clear hb he hRb hRe hrd1 hb2 hb1
  repeat' ((fail_if_success at_builtin); (fail_if_success at_make); (first | go_values | go_skip | go_guarded | go_step | go_upon | go_back))
  generalize w1.alloc (.cells #[.slice Ab s.blobs.length cb, .slice Ae s.ents.length ce, .int .i64 (s.room : Int), .int .i64 (s.clock : Int)] 26) = w2 at *
  generalize w1.heap.size = gs at *
  clear q0 q1 q2 q3
  refine ((HP1.out w2)).mono ?_; rintro e_ _ ⟨rfl, rfl⟩; dsimp only
  have q0 := hAs.cell (k := 0) rfl
  have q1 := hAs.cell (k := 1) rfl
  have q2 := hAs.cell (k := 2) rfl
  have q3 := hAs.cell (k := 3) rfl
  have HRUN := Lib.hid (Run_ok Ab cb Ae ce s k w2 (by omega) HGS.out hrd2)
  clear HP1
  repeat' ((fail_if_success at_builtin); (fail_if_success at_make); (first | go_values | go_skip | go_guarded | go_step | go_upon | go_back))
  clear q0 q1 q2 q3 hAs hrd2
  refine (HRUN.out).mono ?_
  rintro e_ w3 ⟨hra, hb3⟩
  have hb13 := hb12.trans (hb3.mono hb12.size)
  clear hb3 hb12 HRUN
  cases hev : evRun k s with
  | none =>
    rw [hev] at hra
    obtain rfl := hra
    dsimp only
    clear hev
    have hb4 := hb13.alloc hb13.size (.cells #[.slice none 0 0, .slice none 0 0, .int .i64 0, .int .i64 0] 26)
    repeat' ((fail_if_success at_builtin); (fail_if_success at_make); (first | go_values | go_skip | go_guarded | go_step | go_upon | go_back))
    generalize (w3.alloc (.cells #[.slice none 0 0, .slice none 0 0, .int .i64 0, .int .i64 0] 26)) = w4 at *
    generalize w3.heap.size = gx at *
    refine ((comes_ok w4)).mono ?_; rintro e_ w5 ⟨rfl, hb5⟩; dsimp only
    have hb6 := hb4.trans (hb5.mono hb4.size)
    repeat' ((fail_if_success at_builtin); (fail_if_success at_make); (first | go_values | go_skip | go_guarded | go_step | go_upon | go_back))
    go_ret
    exact ⟨rfl, hb6⟩
  | some p =>
    obtain ⟨t, g⟩ := p
    rw [hev] at hra
    obtain ⟨Ax, cx, Bx, dx, v3, rfl, hrdx, hox⟩ := hra
    dsimp only
    obtain ⟨Ag, cg, rfl, hcg, hrg⟩ := Rd.of_own' hox
    obtain ⟨hgt, _, _, hrt, hct⟩ := evRun_good HGS.out hev
    have htb := hgt.b.len
    have hte := hgt.e.len
    have HAG := Lib.hid (evRun_again HGS.out hev)
    have HGT := Lib.hid hgt
    have HRT := Lib.hid hrt
    have HCT := Lib.hid hct
    clear hox hev hrg hgt hrt hct
    -- the answered store (plain t) in a box gx, world w3 -> w4: A=Ax c=cx B=Bx d=dx
    have hAx : Arr (w3.alloc (.cells #[.slice Ax t.blobs.length cx, .slice Bx t.ents.length dx, .int .i64 (s.room : Int), .int .i64 (s.clock : Int)] 26)) w3.heap.size 26 [.slice Ax t.blobs.length cx, .slice Bx t.ents.length dx, .int .i64 (s.room : Int), .int .i64 (s.clock : Int)] := Arr.new w3 26 _
    have hbx := (Below.refl w3.heap.size w3).alloc (Nat.le_refl _) (.cells #[.slice Ax t.blobs.length cx, .slice Bx t.ents.length dx, .int .i64 (s.room : Int), .int .i64 (s.clock : Int)] 26)
    have hrdx4 := hrdx.below hbx
    have hb14 := hb13.trans (hbx.mono hb13.size)
    clear hrdx hbx hb13
    repeat' ((fail_if_success at_builtin); (fail_if_success at_make); (first | go_values | go_skip | go_guarded | go_step | go_upon | go_back))
    generalize (w3.alloc (.cells #[.slice Ax t.blobs.length cx, .slice Bx t.ents.length dx, .int .i64 (s.room : Int), .int .i64 (s.clock : Int)] 26)) = w4 at *
    generalize w3.heap.size = gx at *
    refine ((comes_ok w4)).mono ?_; rintro e_ w5 ⟨rfl, hb5⟩; dsimp only
    have hrdx5 := hrdx4.below hb5
    have hAx5 := hAx.below hb5
    have hb15 := hb14.trans (hb5.mono hb14.size)
    have q0 := hAx5.cell (k := 0) rfl
    have q1 := hAx5.cell (k := 1) rfl
    have q2 := hAx5.cell (k := 2) rfl
    have q3 := hAx5.cell (k := 3) rfl
    have hr2 := Run_ok Ax cx Bx dx t k w5 (by omega) HGT.out hrdx5
    rw [HAG.out] at hr2
    simp only [RunA, HRT.out, HCT.out] at hr2
    have HR2 := Lib.hid hr2
    clear hrdx4 hAx hb5 hb14 hr2
    repeat' ((fail_if_success at_builtin); (fail_if_success at_make); (first | go_values | go_skip | go_guarded | go_step | go_upon | go_back))
    clear q0 q1 q2 q3
    refine (HR2.out).mono ?_
    rintro e_ w6 ⟨⟨Ay, cy, By, dy, v4, rfl, hrdy, hoy⟩, hb6⟩
    dsimp only
    obtain ⟨Ah, ch, rfl, hch, _⟩ := Rd.of_own' hoy
    have hrdx6 := hrdx5.below hb6
    have hAx6 := hAx5.below hb6
    have hb16 := hb15.trans (hb6.mono hb15.size)
    clear hrdx5 hAx5 hb6 hb15 hoy
    have hAy : Arr (w6.alloc (.cells #[.slice Ay t.blobs.length cy, .slice By t.ents.length dy, .int .i64 (s.room : Int), .int .i64 (s.clock : Int)] 26)) w6.heap.size 26 [.slice Ay t.blobs.length cy, .slice By t.ents.length dy, .int .i64 (s.room : Int), .int .i64 (s.clock : Int)] := Arr.new w6 26 _
    have hby := (Below.refl w6.heap.size w6).alloc (Nat.le_refl _) (.cells #[.slice Ay t.blobs.length cy, .slice By t.ents.length dy, .int .i64 (s.room : Int), .int .i64 (s.clock : Int)] 26)
    have hrdx7 := hrdx6.below hby
    have hrdy7 := hrdy.below hby
    have hAx7 := hAx6.below hby
    have hb17 := hb16.trans (hby.mono hb16.size)
    have q0 := hAx7.cell (k := 0) rfl
    have q1 := hAx7.cell (k := 1) rfl
    have q2 := hAx7.cell (k := 2) rfl
    have q3 := hAx7.cell (k := 3) rfl
    have p0 := hAy.cell (k := 0) rfl
    have p1 := hAy.cell (k := 1) rfl
    have p2 := hAy.cell (k := 2) rfl
    have p3 := hAy.cell (k := 3) rfl
    have hss := SameStore_ok Ax Ay Bx By cx cy dx dy t.blobs t.blobs t.ents t.ents (s.room : Int) (s.clock : Int) _ (by omega) (by omega) (fun b hb => by have := (HGT.out.b.one b hb).2.1; omega) (fun b hb => by have := (HGT.out.b.one b hb).2.1; omega) (by omega) (by omega) (fun x hx => by have := (chk_zero (HGT.out.e.one x hx).2.1).1; omega) (fun x hx => by have := (chk_zero (HGT.out.e.one x hx).2.1).1; omega) hrdx7.b hrdy7.b hrdx7.e hrdy7.e
    rw [sameBL_refl, sameEL_refl] at hss
    have HSS := Lib.hid hss
    clear hrdx6 hAx6 hby hrdy hb16 hss hAx7 hrdx7 hrdy7
    repeat' ((fail_if_success at_builtin); (fail_if_success at_make); (first | go_values | go_skip | go_guarded | go_step | go_upon | go_back))
    generalize (w6.alloc (.cells #[.slice Ay t.blobs.length cy, .slice By t.ents.length dy, .int .i64 (s.room : Int), .int .i64 (s.clock : Int)] 26)) = w7 at *
    clear q0 q1 q2 q3 p0 p1 p2 p3
    refine ((HSS.out)).mono ?_; rintro e_ w8 ⟨rfl, hb8⟩; dsimp only
    have hb18 := hb17.trans (hb8.mono hb17.size)
    repeat' ((fail_if_success at_builtin); (fail_if_success at_make); (first | go_values | go_skip | go_guarded | go_step | go_upon | go_back))
    go_ret
    exact ⟨rfl, hb18⟩
set_option maxHeartbeats 8000000 in
theorem EvictMore_walk (A : Option Addr) (n c : Nat) (l : List RawP) (a b : Int) (w : World) (hl : l.length = n) (hc : n ≤ c) (hm : c ≤ maxLen) (hok : ∀ r ∈ l, RawOk r) (hr : Rd w 4 A n (rcs l)) (a0 : -9223372036854775808 ≤ a) (a1 : a ≤ 9223372036854775807) (b0 : -9223372036854775808 ≤ b) (b1 : b ≤ 9223372036854775807) :
    Calls Tryz.prog 7 #[.slice A n c, .int .i64 a, .int .i64 b] w fun e w' => e = .returned (.bool true) ∧ Below w.heap.size w w' := by
  have HS := Lib.hid (Store_ok A n c l w hl hc hm hok hr)
  have HGS := Lib.hid (sto_good l)
  clear hok hl hr hc hm
  generalize sto l = s at *
  have hbl := HGS.out.b.len
  have hel := HGS.out.e.len
  have HP1 := Lib.hid (fun w' => Picked_ok a 800 800 rfl w' a0 a1 (by omega) (by omega))
  have HP2 := Lib.hid (fun w' => Picked_ok b 800 800 rfl w' b0 b1 (by omega) (by omega))
  have hp1 := pk_lt a (m := 800) (by omega)
  have hp2 := pk_lt b (m := 800) (by omega)
  clear a0 a1 b0 b1
  generalize pk a 800 = ka at *
  generalize pk b 800 = kb at *
  -- the store of raw things in a box gs
  go_enter Tryz.func7, Tryz.ntmps7
  repeat' ((fail_if_success at_builtin); (fail_if_success at_make); (first | go_values | go_skip | go_guarded | go_step | go_upon | go_back))
  refine (HS.out).mono ?_; rintro e_ w1 ⟨v1, v2, rfl, hb, he, hb1⟩; dsimp only
  obtain ⟨Ab, cb, rfl, hcb1, hcb2, hRb⟩ := hb.rows
  obtain ⟨Ae, ce, rfl, hce1, hce2, hRe⟩ := he.rows
  have hrd1 : RdSt w1 Ab cb Ae ce s := ⟨hRb, hRe, hcb1, hcb2, hce1, hce2⟩
  have hAs : Arr (w1.alloc (.cells #[.slice Ab s.blobs.length cb, .slice Ae s.ents.length ce, .int .i64 (s.room : Int), .int .i64 (s.clock : Int)] 26)) w1.heap.size 26 [.slice Ab s.blobs.length cb, .slice Ae s.ents.length ce, .int .i64 (s.room : Int), .int .i64 (s.clock : Int)] := Arr.new w1 26 _
  have hb2 := (Below.refl w1.heap.size w1).alloc (Nat.le_refl _) (.cells #[.slice Ab s.blobs.length cb, .slice Ae s.ents.length ce, .int .i64 (s.room : Int), .int .i64 (s.clock : Int)] 26)
  have hb12 := hb1.trans (hb2.mono hb1.size)
  have hrd2 := hrd1.below hb2
  have q0 := hAs.cell (k := 0) rfl
  have q1 := hAs.cell (k := 1) rfl
  have q2 := hAs.cell (k := 2) rfl
  have q3 := hAs.cell (k := 3) rfl
  clear hb he hRb hRe hrd1 hb2 hb1
  repeat' ((fail_if_success at_builtin); (fail_if_success at_make); (first | go_values | go_skip | go_guarded | go_step | go_upon | go_back))
  generalize w1.alloc (.cells #[.slice Ab s.blobs.length cb, .slice Ae s.ents.length ce, .int .i64 (s.room : Int), .int .i64 (s.clock : Int)] 26) = w2 at *
  generalize w1.heap.size = gs at *
  clear q0 q1 q2 q3
  refine ((HP1.out w2)).mono ?_; rintro e_ _ ⟨rfl, rfl⟩; dsimp only
  repeat' ((fail_if_success at_builtin); (fail_if_success at_make); (first | go_values | go_skip | go_guarded | go_step | go_upon | go_back))
  refine ((HP2.out w2)).mono ?_; rintro e_ _ ⟨rfl, rfl⟩; dsimp only
  have q0 := hAs.cell (k := 0) rfl
  have q1 := hAs.cell (k := 1) rfl
  have q2 := hAs.cell (k := 2) rfl
  have q3 := hAs.cell (k := 3) rfl
  obtain ⟨lo, hlo⟩ : ∃ lo, lo = min ka kb := ⟨_, rfl⟩
  obtain ⟨hi, hhi⟩ : ∃ hi, hi = max ka kb := ⟨_, rfl⟩
  have hmn : min (ka : Int) (kb : Int) = (lo : Int) := by omega
  have hmx : max (ka : Int) (kb : Int) = (hi : Int) := by omega
  have hlh : lo ≤ hi := by omega
  have hh8 : hi ≤ 4000 := by omega
  have HRUN := Lib.hid (Run_ok Ab cb Ae ce s lo w2 (by omega) HGS.out hrd2)
  have HRU2 := Lib.hid (fun W h => Run_ok Ab cb Ae ce s hi W (by omega) HGS.out h)
  have HMR := Lib.hid (fun u y => evRun_more hlh (s := s) (u := u) (y := y))
  clear HP1 HP2 hlo hhi hlh
  repeat' ((fail_if_success at_builtin); (fail_if_success at_make); (first | go_values | go_skip | go_guarded | go_step | go_upon | go_back))
  clear q0 q1 q2 q3
  refine (HRUN.out).mono ?_
  rintro e_ w3 ⟨hra, hb3⟩
  have hb13 := hb12.trans (hb3.mono hb12.size)
  have hAs3 := hAs.below hb3
  have hrd3 := hrd2.below hb3
  clear hb3 hb12 HRUN hAs hrd2
  cases hev : evRun lo s with
  | none =>
    have hno : evRun hi s = none := by
      cases h : evRun hi s with
      | none => rfl
      | some p =>
        obtain ⟨t, x, e, _⟩ := HMR.out p.1 p.2 h
        rw [hev] at e; cases e
    rw [hev] at hra
    obtain rfl := hra
    dsimp only
    clear hev
    have hb4 := hb13.alloc hb13.size (.cells #[.slice none 0 0, .slice none 0 0, .int .i64 0, .int .i64 0] 26)
    have hbx := (Below.refl w3.heap.size w3).alloc (Nat.le_refl _) (.cells #[.slice none 0 0, .slice none 0 0, .int .i64 0, .int .i64 0] 26)
    have hAs4 := hAs3.below hbx
    have hrd4 := hrd3.below hbx
    have q0 := hAs4.cell (k := 0) rfl
    have q1 := hAs4.cell (k := 1) rfl
    have q2 := hAs4.cell (k := 2) rfl
    have q3 := hAs4.cell (k := 3) rfl
    have hru := HRU2.out _ hrd4
    rw [hno] at hru
    have HRU := Lib.hid hru
    clear hru hno HRU2 HMR hbx hAs3 hrd3 hb13 hAs4 hrd4
    repeat' ((fail_if_success at_builtin); (fail_if_success at_make); (first | go_values | go_skip | go_guarded | go_step | go_upon | go_back))
    generalize (w3.alloc (.cells #[.slice none 0 0, .slice none 0 0, .int .i64 0, .int .i64 0] 26)) = w4 at *
    clear q0 q1 q2 q3
    refine (HRU.out).mono ?_
    rintro e_ w5 ⟨hra, hb5⟩
    obtain rfl := hra
    dsimp only
    have hb6 := hb4.trans (hb5.mono hb4.size)
    have hb7 := hb6.alloc hb6.size (.cells #[.slice none 0 0, .slice none 0 0, .int .i64 0, .int .i64 0] 26)
    clear hb4 hb5 hb6 HRU
    repeat' ((fail_if_success at_builtin); (fail_if_success at_make); (first | go_values | go_skip | go_guarded | go_step | go_upon | go_back))
    generalize (w5.alloc (.cells #[.slice none 0 0, .slice none 0 0, .int .i64 0, .int .i64 0] 26)) = w6 at *
    refine ((comes_ok w6)).mono ?_; rintro e_ w7 ⟨rfl, hb8⟩; dsimp only
    have hb9 := hb7.trans (hb8.mono hb7.size)
    repeat' ((fail_if_success at_builtin); (fail_if_success at_make); (first | go_values | go_skip | go_guarded | go_step | go_upon | go_back))
    go_ret
    exact ⟨rfl, hb9⟩
  | some p =>
    obtain ⟨t, x⟩ := p
    rw [hev] at hra
    obtain ⟨Ax, cx, Bx, dx, v3, rfl, hrdx, hox⟩ := hra
    dsimp only
    obtain ⟨Ag, cg, rfl, hcg, hrg⟩ := Rd.of_own' hox
    obtain ⟨hgt, _, hxl, _, _⟩ := evRun_good HGS.out hev
    have HEV := Lib.hid hev
    clear hox hgt hrdx hev
    have hb4 := hb13.alloc hb13.size (.cells #[.slice Ax t.blobs.length cx, .slice Bx t.ents.length dx, .int .i64 (s.room : Int), .int .i64 (s.clock : Int)] 26)
    have hbx := (Below.refl w3.heap.size w3).alloc (Nat.le_refl _) (.cells #[.slice Ax t.blobs.length cx, .slice Bx t.ents.length dx, .int .i64 (s.room : Int), .int .i64 (s.clock : Int)] 26)
    have hAs4 := hAs3.below hbx
    have hrd4 := hrd3.below hbx
    have hrg4 := hrg.below hbx
    have q0 := hAs4.cell (k := 0) rfl
    have q1 := hAs4.cell (k := 1) rfl
    have q2 := hAs4.cell (k := 2) rfl
    have q3 := hAs4.cell (k := 3) rfl
    have HRU := Lib.hid (HRU2.out _ hrd4)
    clear HRU2 hbx hAs3 hrd3 hb13 hAs4 hrd4 hrg
    repeat' ((fail_if_success at_builtin); (fail_if_success at_make); (first | go_values | go_skip | go_guarded | go_step | go_upon | go_back))
    generalize (w3.alloc (.cells #[.slice Ax t.blobs.length cx, .slice Bx t.ents.length dx, .int .i64 (s.room : Int), .int .i64 (s.clock : Int)] 26)) = w4 at *
    clear q0 q1 q2 q3
    refine (HRU.out).mono ?_
    rintro e_ w5 ⟨hra, hb5⟩
    have hb6 := hb4.trans (hb5.mono hb4.size)
    have hrg5 := hrg4.below hb5
    clear hb4 hb5 HRU hrg4
    cases hev : evRun hi s with
    | none =>
      rw [hev] at hra
      obtain rfl := hra
      dsimp only
      have hb7 := hb6.alloc hb6.size (.cells #[.slice none 0 0, .slice none 0 0, .int .i64 0, .int .i64 0] 26)
      clear hb6 hev hrg5
      repeat' ((fail_if_success at_builtin); (fail_if_success at_make); (first | go_values | go_skip | go_guarded | go_step | go_upon | go_back))
      generalize (w5.alloc (.cells #[.slice none 0 0, .slice none 0 0, .int .i64 0, .int .i64 0] 26)) = w6 at *
      refine ((comes_ok w6)).mono ?_; rintro e_ w7 ⟨rfl, hb8⟩; dsimp only
      have hb9 := hb7.trans (hb8.mono hb7.size)
      repeat' ((fail_if_success at_builtin); (fail_if_success at_make); (first | go_values | go_skip | go_guarded | go_step | go_upon | go_back))
      go_ret
      exact ⟨rfl, hb9⟩
    | some p =>
      obtain ⟨u, y⟩ := p
      rw [hev] at hra
      obtain ⟨Ay, cy, By, dy, v4, rfl, hrdy, hoy⟩ := hra
      dsimp only
      obtain ⟨Ah, ch, rfl, hch, hrh⟩ := Rd.of_own' hoy
      obtain ⟨hgu, _, hyl, _, _⟩ := evRun_good HGS.out hev
      obtain ⟨t', x', he', hpre⟩ := HMR.out u y hev
      rw [HEV.out] at he'
      cases he'
      have hxy : x.length ≤ y.length := hpre.length_le
      have hyx : y.take x.length = x := List.prefix_iff_eq_take.1 hpre |>.symm
      have hchm : ch ≤ maxLen := by
        rcases hoy.2 with ⟨e1, _⟩ | ⟨_, cap, _, e1, _, _, _, hm9, _⟩
        · injection e1 with _ _ e3; subst e3; exact Nat.zero_le _
        · injection e1 with _ _ e3; subst e3; exact hm9
      have hb7 := hb6.alloc hb6.size (.cells #[.slice Ay u.blobs.length cy, .slice By u.ents.length dy, .int .i64 (s.room : Int), .int .i64 (s.clock : Int)] 26)
      have hbx := (Below.refl w5.heap.size w5).alloc (Nat.le_refl _) (.cells #[.slice Ay u.blobs.length cy, .slice By u.ents.length dy, .int .i64 (s.room : Int), .int .i64 (s.clock : Int)] 26)
      have hrg6 := hrg5.below hbx
      have hrh6 := hrh.below hbx
      clear hoy hgu hrdy hev hb6 hbx hrg5 hrh hpre
      repeat' ((fail_if_success at_builtin); (fail_if_success at_make); (first | go_values | go_skip | go_guarded | go_step | go_upon | go_back))
      generalize (w5.alloc (.cells #[.slice Ay u.blobs.length cy, .slice By u.ents.length dy, .int .i64 (s.room : Int), .int .i64 (s.clock : Int)] 26)) = w6 at *
      refine ((comes_ok w6)).mono ?_; rintro e_ w7 ⟨rfl, hb8⟩; dsimp only
      have hb9 := hb7.trans (hb8.mono hb7.size)
      have hrg7 := hrg6.below hb8
      have hrh7 := (hrh6.below hb8).pre hxy
      have hst : (strs y).take (x.length * 1) = strs x := by rw [Nat.mul_one, strs, ← List.map_take, hyx]; rfl
      rw [hst] at hrh7
      have HEQ := Lib.hid (fun cc => Eq_str Ag Ah cg cc x x w7 (by omega) (by omega) hrg7 hrh7)
      have g1 : decide ((x.length : Int) ≤ (y.length : Int)) = true := decide_eq_true (by omega)
      have g2 : (0 : Int) ≤ (x.length : Int) := by omega
      have g3 : decide (x.length ≤ y.length) = true := decide_eq_true hxy
      have g4 : (x.length : Int) ≤ (ch : Int) := by omega
      have g5 : (ch : Int) ≤ 9223372036854775807 := by have : maxLen = 9223372036854775807 := rfl; omega
      clear hb7 hb8 hrg6 hrg7 hrh6 hrh7 hst hyx
      repeat' ((fail_if_success at_builtin); (fail_if_success at_make); (first | go_values | go_skip | go_guarded | go_step | go_upon | go_back))
      refine ((HEQ.out ch)).mono ?_; rintro e_ w8 ⟨rfl, hb10⟩; dsimp only
      rw [decide_eq_true rfl]
      have hb11 := hb9.trans (hb10.mono hb9.size)
      repeat' ((fail_if_success at_builtin); (fail_if_success at_make); (first | go_values | go_skip | go_guarded | go_step | go_upon | go_back))
      go_ret
      exact ⟨rfl, hb11⟩
end Go.Proofs.YtmjcoebfldmgnaaGreat
