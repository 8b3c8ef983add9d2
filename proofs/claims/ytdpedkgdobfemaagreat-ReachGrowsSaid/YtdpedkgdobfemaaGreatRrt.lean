/- The walk of ReachRoots. Conditions: the sizes. -/
import Derived.Test.YtdpedkgdobfemaaGreatRch
import Derived.Test.YtdpedkgdobfemaaGreatStore
namespace Go.Proofs.YtdpedkgdobfemaaGreat
open Go.RowKit Go.Maps
set_option linter.unusedVariables false
set_option linter.unusedSimpArgs false
set_option maxRecDepth 100000

theorem mem_rtsE {s : StoP} {x : EntP} (hx : x ∈ s.ents) {q : PartP} (hq : q ∈ x.parts) : q.dig ∈ rts s :=
  List.mem_append.2 (.inl (List.mem_flatMap.2 ⟨x, hx, List.mem_map.2 ⟨q, hq, rfl⟩⟩))
theorem mem_rtsB {s : StoP} {b : BlobP} (hb : b ∈ s.blobs) (hp : 0 < b.pins) : b.dig ∈ rts s :=
  List.mem_append.2 (.inr (List.mem_map.2 ⟨b, List.mem_filter.2 ⟨hb, by simpa using hp⟩, rfl⟩))
set_option maxHeartbeats 8000000 in
theorem ReachRoots_walk (A : Option Addr) (n c : Nat) (l : List RawP) (w : World) (hl : l.length = n) (hc : n ≤ c) (hm : c ≤ maxLen) (hok : ∀ r ∈ l, RawOk r) (hr : Rd w 4 A n (rcs l)) :
    Calls Tryz.prog 3 #[.slice A n c] w fun e w' => e = .returned (.bool true) ∧ Below w.heap.size w w' := by
  have HS := Lib.hid (Store_ok A n c l w hl hc hm hok hr)
  have HGS := Lib.hid (sto_good l)
  clear hok hl hr hc hm
  generalize sto l = s at *
  have hbl := HGS.out.b.len
  have hel := HGS.out.e.len
  go_enter Tryz.func3, Tryz.ntmps3
  repeat' ((fail_if_success at_builtin); (fail_if_success at_make); (first | go_values | go_skip | go_guarded | go_step | go_upon | go_back))
  refine ((HS.out)).mono ?_; rintro e_ w1 ⟨v1, v2, rfl, hb, he, hb1⟩; dsimp only
  obtain ⟨Ab, cb, rfl, hcb1, hcb2, hRb⟩ := hb.rows
  obtain ⟨Ae, ce, rfl, hce1, hce2, hRe⟩ := he.rows
  have hrd1 : RdSt w1 Ab cb Ae ce s := ⟨hRb, hRe, hcb1, hcb2, hce1, hce2⟩
  have hA2 : Arr (w1.alloc (.cells #[.slice Ab s.blobs.length cb, .slice Ae s.ents.length ce, .int .i64 (s.room : Int), .int .i64 (s.clock : Int)] 26)) w1.heap.size 26 [.slice Ab s.blobs.length cb, .slice Ae s.ents.length ce, .int .i64 (s.room : Int), .int .i64 (s.clock : Int)] := Arr.new w1 26 _
  have hb2 := (Below.refl w1.heap.size w1).alloc (Nat.le_refl _) (.cells #[.slice Ab s.blobs.length cb, .slice Ae s.ents.length ce, .int .i64 (s.room : Int), .int .i64 (s.clock : Int)] 26)
  have hb12 := hb1.trans (hb2.mono hb1.size)
  have hrd2 := hrd1.below hb2
  have q0 := hA2.cell (k := 0) rfl
  have q1 := hA2.cell (k := 1) rfl
  have q2 := hA2.cell (k := 2) rfl
  have q3 := hA2.cell (k := 3) rfl
  clear hb he hRb hRe hrd1 hb2 hb1
  repeat' ((fail_if_success at_builtin); (fail_if_success at_make); (first | go_values | go_skip | go_guarded | go_step | go_upon | go_back))
  generalize w1.alloc (.cells #[.slice Ab s.blobs.length cb, .slice Ae s.ents.length ce, .int .i64 (s.room : Int), .int .i64 (s.clock : Int)] 26) = w2 at *
  generalize w1.heap.size = gs at *
  clear q0 q1 q2 q3
  refine ((All_ok Ab Ae cb ce s (s.room : Int) (s.clock : Int) w2 HGS.out.rts hrd2)).mono ?_; rintro e_ w3 ⟨v3, L, rfl, hL, hLl, ho3, hb3⟩; dsimp only
  have hb13 := hb12.trans (hb3.mono hb12.size)
  have HA3 := Lib.hid (hA2.below hb3)
  have HRD3 := Lib.hid (hrd2.below hb3)
  obtain ⟨AL, cL, rfl, hcL, hrL⟩ := Rd.of_own' ho3
  have HL := Lib.hid hL
  have HRL := Lib.hid hrL
  have hLn : L.length ≤ 24 := by have := HGS.out.b.len; omega
  clear hA2 hrd2 hb12 hb3 ho3 hL hrL
  have q1 := HA3.out.cell (k := 1) rfl
  have he63 : (s.ents.length : Int) ≤ 9223372036854775807 := by omega
  have hb63 : (s.blobs.length : Int) ≤ 9223372036854775807 := by omega
  repeat' ((fail_if_success at_builtin); (fail_if_success at_make); (first | go_values | go_skip | go_guarded | go_step | go_upon | go_back))
  clear q1
  go_loopg [18] s.ents.length (fun gn i wr => ∃ k : Nat, gn = s.ents.length - k ∧ i = .int .i64 k ∧ k ≤ s.ents.length ∧ Below w3.heap.size w3 wr)
  case atStart => exact ⟨0, rfl, rfl, by omega, Below.refl _ _⟩
  case round =>
    obtain ⟨k, hgk, rfl, hk, hbel⟩ := hrel
    have HGK := Lib.hid hgk
    clear hgk
    by_cases hlt : k < s.ents.length
    rotate_left
    · obtain rfl : k = s.ents.length := by omega
      have hlb : decide (s.ents.length < s.ents.length) = false := by simp
      have q0 := (HA3.out.below hbel).cell (k := 0) rfl
      repeat' ((fail_if_success at_builtin); (fail_if_success at_make); (first | go_values | go_skip | go_guarded | go_step | go_upon | go_back))
      clear q0
      generalize hwq : wr = wq at *
      clear hwq
      go_loopg [39] s.blobs.length (fun gn i wr => ∃ k : Nat, gn = s.blobs.length - k ∧ i = .int .i64 k ∧ k ≤ s.blobs.length ∧ Below w3.heap.size w3 wr)
      case atStart => exact ⟨0, rfl, rfl, by omega, hbel⟩
      case round =>
        obtain ⟨k, hgk, rfl, hk, hbel⟩ := hrel
        have HGK := Lib.hid hgk
        clear hgk
        by_cases hlt : k < s.blobs.length
        rotate_left
        · obtain rfl : k = s.blobs.length := by omega
          have hlb : decide (s.blobs.length < s.blobs.length) = false := by simp
          repeat' ((fail_if_success at_builtin); (fail_if_success at_make); (first | go_values | go_skip | go_guarded | go_step | go_upon | go_back))
          refine ((comes_ok wr)).mono ?_; rintro e_ wz ⟨rfl, hbz⟩; dsimp only
          have hb1z := hb13.trans ((hbel.trans (hbz.mono hbel.size)).mono hb13.size)
          repeat' ((fail_if_success at_builtin); (fail_if_success at_make); (first | go_values | go_skip | go_guarded | go_step | go_upon | go_back))
          go_ret
          exact ⟨rfl, hb1z⟩
        have hlb : decide (k < s.blobs.length) = true := decide_eq_true hlt
        have hk0 : (0 : Int) ≤ (k : Int) := by omega
        have hk1 : (k : Int) < (s.blobs.length : Int) := by omega
        obtain ⟨bq, oq, Bq, cq, hA, hbq, d0, d1, d2, d3, hsl⟩ := (HRD3.out.b.below hbel).blob_at k hlt
        subst hA
        have HKL := Lib.hid hlt
        have HMB := Lib.hid (List.getElem_mem hlt)
        generalize s.blobs[k] = q at *
        have hbox : Arr (wr.alloc (.cells #[.string ⟨q.dig.toArray⟩, .slice Bq q.data.length cq, .int .i64 (q.pins : Int), .bool q.mark] 38)) wr.heap.size 38 [.string ⟨q.dig.toArray⟩, .slice Bq q.data.length cq, .int .i64 (q.pins : Int), .bool q.mark] := Arr.new wr 38 _
        have hbA := hbel.alloc hbel.size (.cells #[.string ⟨q.dig.toArray⟩, .slice Bq q.data.length cq, .int .i64 (q.pins : Int), .bool q.mark] 38)
        have p2 := hbox.cell (k := 2) rfl
        have p0 := hbox.cell (k := 0) rfl
        clear hsl
        by_cases hp : 0 < q.pins
        · have hpb : decide ((0 : Int) < (q.pins : Int)) = true := decide_eq_true (by omega)
          have hpb' : decide (0 < q.pins) = true := decide_eq_true hp
          have hin : q.dig ∈ L := (HL.out.mem _).2 (.root (mem_rtsB HMB.out hp) ⟨q, HMB.out, rfl⟩)
          have hct := Has_str AL cL L q.dig _ (by omega) (HRL.out.below hbA)
          rw [decide_eq_true hin] at hct
          have HCT := Lib.hid hct
          clear hct hin hp
          repeat' ((fail_if_success at_builtin); (fail_if_success at_make); (first | go_values | go_skip | go_guarded | go_step | go_upon | go_back))
          refine ((HCT.out)).mono ?_; rintro e_ wx ⟨rfl, rfl⟩; dsimp only
          repeat' ((fail_if_success at_builtin); (fail_if_success at_make); (first | go_values | go_skip | go_guarded | go_step | go_upon | go_back))
          go_roundg (s.blobs.length - (k + 1))
          case measure => have := HGK.out; have := HKL.out; omega
          case rel => exact ⟨k + 1, rfl, by go_num, by have := HKL.out; omega, hbA⟩
        · have hpb : decide ((0 : Int) < (q.pins : Int)) = false := decide_eq_false (by omega)
          have hpb' : decide (0 < q.pins) = false := decide_eq_false hp
          clear hp
          repeat' ((fail_if_success at_builtin); (fail_if_success at_make); (first | go_values | go_skip | go_guarded | go_step | go_upon | go_back))
          go_roundg (s.blobs.length - (k + 1))
          case measure => have := HGK.out; have := HKL.out; omega
          case rel => exact ⟨k + 1, rfl, by go_num, by have := HKL.out; omega, hbA⟩
    have hlb : decide (k < s.ents.length) = true := decide_eq_true hlt
    have hk0 : (0 : Int) ≤ (k : Int) := by omega
    have hk1 : (k : Int) < (s.ents.length : Int) := by omega
    obtain ⟨bq, oq, Bq, cq, hA, hbq, d0, d1, d2, d3, hsl⟩ := (HRD3.out.e.below hbel).ent_at k hlt
    subst hA
    have HKL := Lib.hid hlt
    have HME := Lib.hid (List.getElem_mem hlt)
    have hp8 := HGS.out.rts.p _ HME.out
    generalize s.ents[k] = q at *
    have hbox : Arr (wr.alloc (.cells #[.string ⟨q.key.toArray⟩, .slice Bq q.parts.length cq, .int .i64 (q.pins : Int), .int .i64 (q.stamp : Int)] 32)) wr.heap.size 32 [.string ⟨q.key.toArray⟩, .slice Bq q.parts.length cq, .int .i64 (q.pins : Int), .int .i64 (q.stamp : Int)] := Arr.new wr 32 _
    have hbA := hbel.alloc hbel.size (.cells #[.string ⟨q.key.toArray⟩, .slice Bq q.parts.length cq, .int .i64 (q.pins : Int), .int .i64 (q.stamp : Int)] 32)
    have hslA := hsl.below ((Below.refl wr.heap.size wr).alloc (Nat.le_refl _) (.cells #[.string ⟨q.key.toArray⟩, .slice Bq q.parts.length cq, .int .i64 (q.pins : Int), .int .i64 (q.stamp : Int)] 32))
    have p1 := hbox.cell (k := 1) rfl
    have hq63 : (q.parts.length : Int) ≤ 9223372036854775807 := by omega
    clear hsl
    repeat' ((fail_if_success at_builtin); (fail_if_success at_make); (first | go_values | go_skip | go_guarded | go_step | go_upon | go_back))
    clear d0 d1 d2 d3 p1
    generalize (wr.alloc (.cells #[.string ⟨q.key.toArray⟩, .slice Bq q.parts.length cq, .int .i64 (q.pins : Int), .int .i64 (q.stamp : Int)] 32)) = wA at *
    clear hbox
    go_loopg [25] q.parts.length (fun gn i wr => ∃ j : Nat, gn = q.parts.length - j ∧ i = .int .i64 j ∧ j ≤ q.parts.length ∧ Below wA.heap.size wA wr)
    case atStart => exact ⟨0, rfl, rfl, by omega, Below.refl _ _⟩
    case round =>
      obtain ⟨j, hgj, rfl, hj, hbi⟩ := hrel
      have HGJ := Lib.hid hgj
      have hb3i := hbA.trans (hbi.mono hbA.size)
      clear hgj
      by_cases hlt2 : j < q.parts.length
      rotate_left
      · obtain rfl : j = q.parts.length := by omega
        have hlb2 : decide (q.parts.length < q.parts.length) = false := by simp
        repeat' ((fail_if_success at_builtin); (fail_if_success at_make); (first | go_values | go_skip | go_guarded | go_step | go_upon | go_back))
        go_roundg (s.ents.length - (k + 1))
        case measure => have := HGK.out; have := HKL.out; omega
        case rel => exact ⟨k + 1, rfl, by go_num, by have := HKL.out; omega, hb3i⟩
      have hlb2 : decide (j < q.parts.length) = true := decide_eq_true hlt2
      have hj0 : (0 : Int) ≤ (j : Int) := by omega
      have hj1 : (j : Int) < (q.parts.length : Int) := by omega
      obtain ⟨bb, off, hAb, _, hcell⟩ := (hslA.below hbi).rd.2 (by omega)
      subst hAb
      have hat := fun i (hi : i < 3) => pcs_at q.parts j i hlt2 hi
      have c0 := hcell (j * 3 + 0) _ (hat 0 (by omega))
      have c1 := hcell (j * 3 + 1) _ (hat 1 (by omega))
      have c2 := hcell (j * 3 + 2) _ (hat 2 (by omega))
      have hpm := List.getElem_mem hlt2
      have HJL := Lib.hid hlt2
      generalize q.parts[j] = pt at *
      have hin : pt.dig ∈ L := (HL.out.mem _).2 (.root (mem_rtsE HME.out hpm) (by
        obtain ⟨b, hb, e, _⟩ := (HGS.out.ent _ HME.out).2 pt hpm
        exact ⟨b, hb, e⟩))
      obtain ⟨pn, pd, psz⟩ := pt
      dsimp only [pcell, List.getElem?_cons_zero, List.getElem?_cons_succ] at c0 c1 c2 hin
      rw [Nat.add_zero] at c0
      rw [show off + (j * 3 + 1) = off + j * 3 + 1 by omega] at c1
      rw [show off + (j * 3 + 2) = off + j * 3 + 2 by omega] at c2
      have hbx : Arr (wr.alloc (.cells #[.string ⟨pn.toArray⟩, .string ⟨pd.toArray⟩, .int .i64 (psz : Int)] 34)) wr.heap.size 34 [.string ⟨pn.toArray⟩, .string ⟨pd.toArray⟩, .int .i64 (psz : Int)] := Arr.new wr 34 _
      have hbB := hbi.alloc hbi.size (.cells #[.string ⟨pn.toArray⟩, .string ⟨pd.toArray⟩, .int .i64 (psz : Int)] 34)
      have hb3B := hbA.trans (hbB.mono hbA.size)
      have p1 := hbx.cell (k := 1) rfl
      have hct := Has_str AL cL L pd _ (by omega) (HRL.out.below hb3B)
      rw [decide_eq_true hin] at hct
      have HCT := Lib.hid hct
      clear hat hcell hct hin hpm
      repeat' ((fail_if_success at_builtin); (fail_if_success at_make); (first | go_values | go_skip | go_guarded | go_step | go_upon | go_back))
      refine ((HCT.out)).mono ?_; rintro e_ wx ⟨rfl, rfl⟩; dsimp only
      repeat' ((fail_if_success at_builtin); (fail_if_success at_make); (first | go_values | go_skip | go_guarded | go_step | go_upon | go_back))
      go_roundg (q.parts.length - (j + 1))
      case measure => have := HGJ.out; have := HJL.out; omega
      case rel => exact ⟨j + 1, rfl, by go_num, by have := HJL.out; omega, hbB⟩
end Go.Proofs.YtdpedkgdobfemaaGreat
