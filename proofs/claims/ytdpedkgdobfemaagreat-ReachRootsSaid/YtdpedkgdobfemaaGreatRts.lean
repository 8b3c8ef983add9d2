/- From, Roots, All of reach; Contains of strings. Conditions: the sizes. -/
import Derived.Test.YtdpedkgdobfemaaGreatSkw
import Derived.Test.YtdpedkgdobfemaaGreatSCk
import Derived.Carry
namespace Go.Proofs.YtdpedkgdobfemaaGreat
open Go.RowKit Go.Maps
set_option linter.unusedVariables false
set_option linter.unusedSimpArgs false
set_option maxRecDepth 100000

set_option maxHeartbeats 4000000 in
theorem From_ok (A D : Option Addr) (c dc : Nat) (bl : List BlobP) (ds : List (List UInt8)) (w : World) (hl : bl.length ≤ 1000) (hcap : bl.length ≤ c) (hcm : c ≤ maxLen) (hdig : ∀ x ∈ bl, x.dig.length ≤ 1000) (hrd : Rw BlobS w A bl) (hdn : ds.length ≤ 1000000) (hrd2 : Rd w 1 D ds.length (strs ds)) :
    Calls Tryz.prog 13 #[.slice A bl.length c, .slice D ds.length dc] w fun e w' => ∃ v L, e = .returned v ∧ StrL L (Rch bl ds) ∧ L.length ≤ bl.length ∧ w'.ownsRow w.heap.size 9 1 v L.length (strs L) ∧ Below w.heap.size w w' := by
  obtain ⟨b, hb⟩ : ∃ b, b = w.heap.size := ⟨_, rfl⟩
  obtain ⟨gs, hgs⟩ : ∃ g, g = w.heap.size + 1 := ⟨_, rfl⟩
  have hm0 := SetM.made w
  have hm1 : SetM ((w.alloc (.map #[] 0)).alloc (.cells #[.slice A bl.length c, .map (some w.heap.size)] 84)) w.heap.size [] := World.ownsMap.alloc hm0 _
  have hx1 : Arr ((w.alloc (.map #[] 0)).alloc (.cells #[.slice A bl.length c, .map (some w.heap.size)] 84)) (w.alloc (.map #[] 0)).heap.size 84 [.slice A bl.length c, .map (some w.heap.size)] := Arr.new _ _ _
  rw [World.size_alloc, ← hgs, ← hb] at hx1
  rw [← hb] at hm1
  have hb1 := ((Below.refl w.heap.size w).alloc (Nat.le_refl _) (.map #[] 0))
  have hb2 := hb1.alloc hb1.size (.cells #[.slice A bl.length c, .map (some b)] 84)
  have HSK := Lib.hid (Seek_ok gs b c A bl w (by omega) (by omega) (by omega) hl hcap hcm hdig hrd)
  have HB := Lib.hid hb
  have hHb : w.heap.size ≤ b := by omega
  have hgb : gs ≠ b := by omega
  have hd63 : (ds.length : Int) ≤ 9223372036854775807 := by omega
  obtain ⟨w1, hw1⟩ : ∃ w1, w1 = (w.alloc (.map #[] 0)).alloc (.cells #[.slice A bl.length c, .map (some b)] 84) := ⟨_, rfl⟩
  rw [← hw1] at hm1 hx1 hb2
  have HW1 := Lib.hid hw1
  have HGS := Lib.hid hgs
  clear hm0 hb1 hrd hw1 hgs hb
  have hmm := @run_makeMap Tryz.prog
  go_enter Tryz.func13, Tryz.ntmps13
  repeat' ((fail_if_success at_builtin); (fail_if_success at_make); (first | go_values | go_skip | go_guarded | go_step | go_upon | go_back))
  rw [← HB.out, ← HW1.out]
  rw [show b + 1 = gs from by rw [HB.out, HGS.out]]
  clear HW1 HGS hmm
  go_loopg [14] ds.length (fun gn i wr => ∃ (j : Nat) (M' : List (List UInt8)), gn = ds.length - j ∧ i = .int .i64 j ∧ j ≤ ds.length ∧ SeekR bl [] (ds.take j) M' ∧ SetM wr b M' ∧ w1.grownBy wr (some b))
  case atStart => exact ⟨0, [], rfl, rfl, by omega, by rw [List.take_zero]; exact SeekR.nil _ _, hm1, World.grownBy.refl _ _⟩
  case round =>
    obtain ⟨j, M', hgj, rfl, hj, hR, hsetr, hgr⟩ := hrel
    have HGJ := Lib.hid hgj
    have HRR := Lib.hid hR
    have hboxr := hx1.grown hgr (fun e => hgb (by injection e with e; exact e.symm))
    have hb0r := hb2.grown hgr hb2.size (fun k hk => by cases hk; exact hHb)
    have hln1 := HRR.out.len
    have hun0 := unmet_nil bl
    have hun1 := unmet_mono (bl := bl) (M := []) (M' := M') (fun x h => nomatch h)
    simp only [List.length_nil, Nat.zero_add] at hln1
    clear hgj hR
    by_cases hlt : j < ds.length
    rotate_left
    · obtain rfl : j = ds.length := by omega
      have hlb : decide (ds.length < ds.length) = false := by simp
      have hfin := HRR.out
      rw [List.take_length] at hfin
      have HFN := Lib.hid hfin
      have a1 := hboxr.cell (k := 1) rfl
      have hMl : M'.length ≤ bl.length := by omega
      clear hfin hln1 hun0 hun1
      repeat' ((fail_if_success at_builtin); (fail_if_success at_make); (first | go_values | go_skip | go_guarded | go_step | go_upon | go_back))
      refine ((Keys_ok b wr)).mono ?_; rintro e_ wk ⟨rfl, rfl⟩; dsimp only
      have hbk := (Below.refl wr.heap.size wr).alloc (Nat.le_refl _) (.cells #[.map (some b)] 82)
      have HSO := Lib.hid (Sorted_ok b M' wr hsetr (by omega))
      repeat' ((fail_if_success at_builtin); (fail_if_success at_make); (first | go_values | go_skip | go_guarded | go_step | go_upon | go_back))
      refine ((HSO.out)).mono ?_; rintro e_ wz ⟨vz, L, rfl, hL, hLl, hoz, hbz⟩; dsimp only
      have hbkz := hbk.trans (hbz.mono hbk.size)
      have hoz' := own_lower hoz hbk.size
      repeat' ((fail_if_success at_builtin); (fail_if_success at_make); (first | go_values | go_skip | go_guarded | go_step | go_upon | go_back))
      go_ret
      refine ⟨vz, L, rfl, ⟨hL.nd, hL.le, fun x => by rw [hL.mem, HFN.out.all]⟩, by omega, own_lower hoz' hb0r.size, hb0r.trans (hbkz.mono hb0r.size)⟩
    have hlb : decide (j < ds.length) = true := decide_eq_true hlt
    have hj0 : (0 : Int) ≤ (j : Int) := by omega
    have hj1 : (j : Int) < (ds.length : Int) := by omega
    obtain ⟨bb, off, hAb, _, hcell⟩ := (hrd2.below hb0r).2 (by omega)
    subst hAb
    have e0 := hcell j _ (strs_at ds j hlt)
    have HCL := Lib.hid (HSK.out (bl.length + 1) M' ds[j] wr (by omega) (by omega) hb0r hboxr hsetr)
    have HTK := Lib.hid (show ds.take (j + 1) = ds.take j ++ [ds[j]] from List.take_succ_eq_append_getElem hlt)
    generalize ds[j] = kd at *
    clear hcell hun1 hln1 hun0 hb0r hboxr
    repeat' ((fail_if_success at_builtin); (fail_if_success at_make); (first | go_values | go_skip | go_guarded | go_step | go_upon | go_back))
    refine ((HCL.out)).mono ?_; rintro e_ w6 ⟨rfl, M2, hR2, hset6, hg6⟩; dsimp only
    have HR2 := Lib.hid hR2
    clear hR2 e0
    repeat' ((fail_if_success at_builtin); (fail_if_success at_make); (first | go_values | go_skip | go_guarded | go_step | go_upon | go_back))
    go_roundg (ds.length - (j + 1))
    case measure => have := HGJ.out; omega
    case rel => exact ⟨j + 1, M2, rfl, by go_num, by omega, by rw [HTK.out]; exact HRR.out.snoc HR2.out, hset6, hgr.trans hg6⟩
theorem Has_str (A : Option Addr) (c : Nat) (L : List (List UInt8)) (d : List UInt8) (w : World) (hl : L.length ≤ 1000000000) (hr : Rd w 1 A L.length (strs L)) :
    Calls Tryz.prog 9 #[.slice A L.length c, .string ⟨d.toArray⟩] w fun e w' => e = .returned (.bool (decide (d ∈ L))) ∧ w' = w := by
  rcases Nat.eq_zero_or_pos L.length with h0 | h0
  · obtain rfl : L = [] := List.eq_nil_of_length_eq_zero h0
    exact (Tryz.slices_Contains_string_empty A c ⟨d.toArray⟩ w).mono fun e w' ⟨h1, h2⟩ => ⟨by rw [h1]; simp, h2⟩
  · obtain ⟨b, off, rfl, _, hc⟩ := hr.2 h0
    have hz : (L.map fun s => (⟨s.toArray⟩ : ByteArray)).length = L.length := List.length_map _
    refine (Tryz.slices_Contains_string b off L.length c (L.map fun s => ⟨s.toArray⟩) ⟨d.toArray⟩ w (by rw [hz]; exact Nat.le_refl _) (by omega) (fun j hj => ?_)).mono ?_
    · have hj' : j < L.length := by omega
      rw [hc j _ (strs_at L j hj')]
      simp [List.getD, List.getElem?_map, List.getElem?_eq_getElem hj']
    · rintro e w' ⟨rfl, rfl⟩
      refine ⟨?_, rfl⟩
      congr 2
      rw [← hz, List.take_length]
      by_cases hm : d ∈ L
      · rw [decide_eq_true hm, Lib.containsS_iff]; exact List.mem_map.2 ⟨d, hm, rfl⟩
      · rw [decide_eq_false hm, ← Bool.not_eq_true, Lib.containsS_iff]
        intro h
        obtain ⟨x, hx, e⟩ := List.mem_map.1 h
        exact hm (by rw [← str_inj.1 e]; exact hx)
def rtsE (es : List EntP) : List (List UInt8) := es.flatMap (fun x => x.parts.map (·.dig))
def rtsB (bl : List BlobP) : List (List UInt8) := (bl.filter (fun b => decide (0 < b.pins))).map (·.dig)
/-- reach.Roots -/
def rts (s : StoP) : List (List UInt8) := rtsE s.ents ++ rtsB s.blobs
theorem rtsE_succ (es : List EntP) (k : Nat) (h : k < es.length) : rtsE (es.take (k + 1)) = rtsE (es.take k) ++ es[k].parts.map (·.dig) := by
  unfold rtsE
  rw [List.take_succ_eq_append_getElem h, List.flatMap_append]
  simp
theorem rtsB_succ (bl : List BlobP) (k : Nat) (h : k < bl.length) : rtsB (bl.take (k + 1)) = rtsB (bl.take k) ++ (if 0 < bl[k].pins then [bl[k].dig] else []) := by
  unfold rtsB
  rw [List.take_succ_eq_append_getElem h, List.filter_append, List.map_append]
  congr 1
  by_cases hp : 0 < bl[k].pins
  · rw [if_pos hp, List.filter_cons_of_pos (by simpa using hp)]; rfl
  · rw [if_neg hp, List.filter_cons_of_neg (by simpa using hp)]; rfl
theorem rtsE_len (es : List EntP) (h : ∀ x ∈ es, x.parts.length ≤ 8) : (rtsE es).length ≤ 8 * es.length := by
  induction es with
  | nil => simp [rtsE]
  | cons x es ih =>
    have h1 := h x (by simp)
    have h2 := ih (fun y hy => h y (by simp [hy]))
    unfold rtsE at h2 ⊢
    rw [List.flatMap_cons, List.length_append, List.length_map, List.length_cons]; omega
theorem rtsB_len (bl : List BlobP) : (rtsB bl).length ≤ bl.length := by
  unfold rtsB; rw [List.length_map]; exact List.length_filter_le _ _
/-- a store that Roots can be asked of -/
structure RtsOk (s : StoP) : Prop where
  e : s.ents.length ≤ 24
  p : ∀ x ∈ s.ents, x.parts.length ≤ 8
  d : ∀ x ∈ s.ents, ∀ q ∈ x.parts, q.dig.length ≤ 1000
  b : s.blobs.length ≤ 24
  g : ∀ x ∈ s.blobs, x.dig.length ≤ 1000
theorem RtsOk.len {s : StoP} (h : RtsOk s) : (rts s).length ≤ 216 := by
  have h1 := rtsE_len s.ents h.p
  have h2 := rtsB_len s.blobs
  have := h.e
  have := h.b
  unfold rts; rw [List.length_append]; omega
theorem GoodS.rts {s : StoP} (h : GoodS s) : RtsOk s :=
  ⟨by have := h.e.len; omega, fun x hx => (chk_zero (h.e.one x hx).2.1).1, fun x hx q hq => by have := hexC_len ((chk_zero (h.e.one x hx).2.1).2 q hq).2.1; omega, h.b.len, fun x hx => by rw [(h.b.one x hx).1]; have := hexC_len (hexC_sha x.data); omega⟩
set_option maxHeartbeats 8000000 in
theorem Roots_ok (A B : Option Addr) (c d : Nat) (s : StoP) (R C : Int) (w : World) (hs : RtsOk s) (hrd : RdSt w A c B d s) :
    Calls Tryz.prog 40 #[.agg #[.slice A s.blobs.length c, .slice B s.ents.length d, .int .i64 R, .int .i64 C]] w fun e w' => ∃ v L, e = .returned v ∧ StrL L (fun x => x ∈ rts s) ∧ L.length ≤ 216 ∧ w'.ownsRow w.heap.size 9 1 v L.length (strs L) ∧ Below w.heap.size w w' := by
  have hrl := hs.len
  have hel := hs.e
  have hbl := hs.b
  have HS := Lib.hid hs
  have hx0 : Arr (w.alloc (.cells #[.slice A s.blobs.length c, .slice B s.ents.length d, .int .i64 R, .int .i64 C] 26)) w.heap.size 26 [.slice A s.blobs.length c, .slice B s.ents.length d, .int .i64 R, .int .i64 C] := Arr.new w 26 _
  have hb0 := (Below.refl w.heap.size w).alloc (Nat.le_refl _) (.cells #[.slice A s.blobs.length c, .slice B s.ents.length d, .int .i64 R, .int .i64 C] 26)
  have hx1 := hx0.alloc (.map #[] 0)
  have hm1 := SetM.made (w.alloc (.cells #[.slice A s.blobs.length c, .slice B s.ents.length d, .int .i64 R, .int .i64 C] 26))
  have hb1 := hb0.alloc hb0.size (.map #[] 0)
  rw [World.size_alloc] at hm1
  obtain ⟨b, hb⟩ : ∃ b, b = w.heap.size + 1 := ⟨_, rfl⟩
  obtain ⟨gS, hgS⟩ : ∃ g, g = w.heap.size := ⟨_, rfl⟩
  rw [← hgS] at hx1
  rw [← hb] at hm1
  have hgb : gS ≠ b := by omega
  have hwb : w.heap.size ≤ b := by omega
  have HB := Lib.hid hb
  have HG := Lib.hid hgS
  obtain ⟨w1, hw1⟩ : ∃ w1, w1 = (w.alloc (.cells #[.slice A s.blobs.length c, .slice B s.ents.length d, .int .i64 R, .int .i64 C] 26)).alloc (.map #[] 0) := ⟨_, rfl⟩
  have HW := Lib.hid hw1
  rw [← hw1] at hx1 hm1 hb1
  have hmm := @run_makeMap Tryz.prog
  have f1 := hx1.cell (k := 1) rfl
  have he63 : (s.ents.length : Int) ≤ 9223372036854775807 := by omega
  have hb63 : (s.blobs.length : Int) ≤ 9223372036854775807 := by omega
  have f1' := f1
  rw [hw1, hgS] at f1'
  clear hw1 hgS hb hx0 hb0 hs
  go_enter Tryz.func40, Tryz.ntmps40
  repeat' ((fail_if_success at_builtin); (fail_if_success at_make); (first | go_values | go_skip | go_guarded | go_step | go_upon | go_back))
  rw [← HW.out]
  first | rw [← HB.out] | skip
  first | rw [← HG.out] | skip
  clear f1' hmm f1
  go_loopg [14] s.ents.length (fun gn i wr => ∃ k : Nat, gn = s.ents.length - k ∧ i = .int .i64 k ∧ k ≤ s.ents.length ∧ SetM wr b (rtsE (s.ents.take k)) ∧ w1.grownBy wr (some b))
  case atStart => exact ⟨0, rfl, rfl, by omega, hm1, World.grownBy.refl _ _⟩
  case round =>
    obtain ⟨k, hgk, rfl, hk, hset, hgr⟩ := hrel
    have HGK := Lib.hid hgk
    clear hgk
    by_cases hlt : k < s.ents.length
    rotate_left
    · obtain rfl : k = s.ents.length := by omega
      have hlb : decide (s.ents.length < s.ents.length) = false := by simp
      have f0 := (hx1.grown hgr (fun e => hgb (by injection e with e; exact e.symm))).cell (k := 0) rfl
      rw [List.take_length] at hset
      have HSET := Lib.hid hset
      clear hset
      repeat' ((fail_if_success at_builtin); (fail_if_success at_make); (first | go_values | go_skip | go_guarded | go_step | go_upon | go_back))
      clear f0
      generalize hwq : wr = wq at *
      clear hwq
      go_loopg [33] s.blobs.length (fun gn i wr => ∃ k : Nat, gn = s.blobs.length - k ∧ i = .int .i64 k ∧ k ≤ s.blobs.length ∧ SetM wr b (rtsE s.ents ++ rtsB (s.blobs.take k)) ∧ w1.grownBy wr (some b))
      case atStart => exact ⟨0, rfl, rfl, by omega, by rw [List.take_zero]; simpa [rtsB] using HSET.out, hgr⟩
      case round =>
        obtain ⟨k, hgk, rfl, hk, hset, hgr⟩ := hrel
        have HGK := Lib.hid hgk
        have hb0r := hb1.grown hgr hb1.size (fun k hk => by cases hk; exact hwb)
        clear hgk
        by_cases hlt : k < s.blobs.length
        rotate_left
        · obtain rfl : k = s.blobs.length := by omega
          have hlb : decide (s.blobs.length < s.blobs.length) = false := by simp
          rw [List.take_length] at hset
          have hset' : SetM wr b (rts s) := hset
          clear hset
          repeat' ((fail_if_success at_builtin); (fail_if_success at_make); (first | go_values | go_skip | go_guarded | go_step | go_upon | go_back))
          refine ((Keys_ok b wr)).mono ?_; rintro e_ wk ⟨rfl, rfl⟩; dsimp only
          have hbk := (Below.refl wr.heap.size wr).alloc (Nat.le_refl _) (.cells #[.map (some b)] 82)
          have HSO := Lib.hid (Sorted_ok b (rts s) wr hset' (by omega))
          repeat' ((fail_if_success at_builtin); (fail_if_success at_make); (first | go_values | go_skip | go_guarded | go_step | go_upon | go_back))
          refine ((HSO.out)).mono ?_; rintro e_ wz ⟨vz, L, rfl, hL, hLl, hoz, hbz⟩; dsimp only
          have hbkz := hbk.trans (hbz.mono hbk.size)
          have hoz' := own_lower hoz hbk.size
          repeat' ((fail_if_success at_builtin); (fail_if_success at_make); (first | go_values | go_skip | go_guarded | go_step | go_upon | go_back))
          go_ret
          refine ⟨vz, L, rfl, hL, by omega, own_lower hoz' hb0r.size, hb0r.trans (hbkz.mono hb0r.size)⟩
        have hlb : decide (k < s.blobs.length) = true := decide_eq_true hlt
        have hk0 : (0 : Int) ≤ (k : Int) := by omega
        have hk1 : (k : Int) < (s.blobs.length : Int) := by omega
        obtain ⟨bq, oq, Bq, cq, hA, hbq, d0, d1, d2, d3, hsl⟩ := (hrd.b.below hb0r).blob_at k hlt
        subst hA
        have HSU := Lib.hid (rtsB_succ s.blobs k hlt)
        have hxl : s.blobs[k].dig.length ≤ maxLen := by have := HS.out.g _ (List.getElem_mem hlt); unfold maxLen; omega
        have HKL := Lib.hid hlt
        have hLn := rtsE_len s.ents HS.out.p
        have hLm := rtsB_len (s.blobs.take k)
        rw [List.length_take] at hLm
        have hMl : (rtsE s.ents ++ rtsB (s.blobs.take k)).length < maxLen := by rw [List.length_append]; unfold maxLen; omega
        generalize s.blobs[k] = q at *
        have hbox : Arr (wr.alloc (.cells #[.string ⟨q.dig.toArray⟩, .slice Bq q.data.length cq, .int .i64 (q.pins : Int), .bool q.mark] 38)) wr.heap.size 38 [.string ⟨q.dig.toArray⟩, .slice Bq q.data.length cq, .int .i64 (q.pins : Int), .bool q.mark] := Arr.new wr 38 _
        have hgA := hgr.trans (World.grownBy_alloc wr (.cells #[.string ⟨q.dig.toArray⟩, .slice Bq q.data.length cq, .int .i64 (q.pins : Int), .bool q.mark] 38) (some b))
        have hsetA := World.ownsMap.alloc hset (.cells #[.string ⟨q.dig.toArray⟩, .slice Bq q.data.length cq, .int .i64 (q.pins : Int), .bool q.mark] 38)
        have p2 := hbox.cell (k := 2) rfl
        have p0 := hbox.cell (k := 0) rfl
        clear hsl hset hLn hLm
        by_cases hp : 0 < q.pins
        · have hpb : decide ((0 : Int) < (q.pins : Int)) = true := decide_eq_true (by omega)
          have hpb' : decide (0 < q.pins) = true := decide_eq_true hp
          obtain ⟨w3, hput, hset3, hg3⟩ := SetM.put hsetA q.dig hxl hMl
          have hsu := HSU.out
          rw [if_pos hp] at hsu
          have HSV := Lib.hid hsu
          have HST3 := Lib.hid hset3
          clear hsetA hset3 hp hsu HSU
          repeat' ((fail_if_success at_builtin); (fail_if_success at_make); (first | go_values | go_skip | go_guarded | go_step | go_upon | go_back))
          go_roundg (s.blobs.length - (k + 1))
          case measure => have := HGK.out; have := HKL.out; omega
          case rel => exact ⟨k + 1, rfl, by go_num, by have := HKL.out; omega, by rw [HSV.out, ← List.append_assoc]; exact HST3.out, hgA.trans hg3⟩
        · have hpb : decide ((0 : Int) < (q.pins : Int)) = false := decide_eq_false (by omega)
          have hpb' : decide (0 < q.pins) = false := decide_eq_false hp
          have hsu := HSU.out
          rw [if_neg hp, List.append_nil] at hsu
          have HSV := Lib.hid hsu
          have HST3 := Lib.hid hsetA
          clear hsetA hp hsu HSU
          repeat' ((fail_if_success at_builtin); (fail_if_success at_make); (first | go_values | go_skip | go_guarded | go_step | go_upon | go_back))
          go_roundg (s.blobs.length - (k + 1))
          case measure => have := HGK.out; have := HKL.out; omega
          case rel => exact ⟨k + 1, rfl, by go_num, by have := HKL.out; omega, by rw [HSV.out]; exact HST3.out, hgA⟩
    have hlb : decide (k < s.ents.length) = true := decide_eq_true hlt
    have hk0 : (0 : Int) ≤ (k : Int) := by omega
    have hk1 : (k : Int) < (s.ents.length : Int) := by omega
    have hb0r := hb1.grown hgr hb1.size (fun k hk => by cases hk; exact hwb)
    obtain ⟨bq, oq, Bq, cq, hA, hbq, c0, c1, c2, c3, hsl⟩ := hrd.e.ent_at k hlt
    subst hA
    have d0 := ((bcell hb0r).1 bq _ hbq).trans c0
    have d1 := ((bcell hb0r).1 bq _ hbq).trans c1
    have d2 := ((bcell hb0r).1 bq _ hbq).trans c2
    have d3 := ((bcell hb0r).1 bq _ hbq).trans c3
    clear c0 c1 c2 c3
    have HSU := Lib.hid (rtsE_succ s.ents k hlt)
    have hp8 := HS.out.p _ (List.getElem_mem hlt)
    have HPD := Lib.hid (HS.out.d _ (List.getElem_mem hlt))
    have hLn := rtsE_len (s.ents.take k) (fun x hx => HS.out.p x (List.mem_of_mem_take hx))
    rw [List.length_take] at hLn
    have hLn2 : (rtsE (s.ents.take k)).length ≤ 192 := by omega
    have HKL := Lib.hid hlt
    generalize s.ents[k] = q at *
    have hbox : Arr (wr.alloc (.cells #[.string ⟨q.key.toArray⟩, .slice Bq q.parts.length cq, .int .i64 (q.pins : Int), .int .i64 (q.stamp : Int)] 32)) wr.heap.size 32 [.string ⟨q.key.toArray⟩, .slice Bq q.parts.length cq, .int .i64 (q.pins : Int), .int .i64 (q.stamp : Int)] := Arr.new wr 32 _
    have hgA := hgr.trans (World.grownBy_alloc wr (.cells #[.string ⟨q.key.toArray⟩, .slice Bq q.parts.length cq, .int .i64 (q.pins : Int), .int .i64 (q.stamp : Int)] 32) (some b))
    have hsetA : SetM _ b _ := World.ownsMap.alloc hset (.cells #[.string ⟨q.key.toArray⟩, .slice Bq q.parts.length cq, .int .i64 (q.pins : Int), .int .i64 (q.stamp : Int)] 32)
    have p1 := hbox.cell (k := 1) rfl
    have hq63 : (q.parts.length : Int) ≤ 9223372036854775807 := by omega
    clear hset hLn
    repeat' ((fail_if_success at_builtin); (fail_if_success at_make); (first | go_values | go_skip | go_guarded | go_step | go_upon | go_back))
    clear d0 d1 d2 d3 p1
    generalize (wr.alloc (.cells #[.string ⟨q.key.toArray⟩, .slice Bq q.parts.length cq, .int .i64 (q.pins : Int), .int .i64 (q.stamp : Int)] 32)) = wA at *
    clear hbox
    go_loopg [21] q.parts.length (fun gn i wr => ∃ j : Nat, gn = q.parts.length - j ∧ i = .int .i64 j ∧ j ≤ q.parts.length ∧ SetM wr b (rtsE (s.ents.take k) ++ (q.parts.take j).map (·.dig)) ∧ w1.grownBy wr (some b))
    case atStart => exact ⟨0, rfl, rfl, by omega, by rw [List.take_zero]; simpa using hsetA, hgA⟩
    case round =>
      obtain ⟨j, hgj, rfl, hj, hset, hgi⟩ := hrel
      have HGJ := Lib.hid hgj
      have hb0i := hb1.grown hgi hb1.size (fun k hk => by cases hk; exact hwb)
      clear hgj hsetA hgA
      by_cases hlt2 : j < q.parts.length
      rotate_left
      · obtain rfl : j = q.parts.length := by omega
        have hlb2 : decide (q.parts.length < q.parts.length) = false := by simp
        rw [List.take_length, ← HSU.out] at hset
        have HST := Lib.hid hset
        clear hset
        repeat' ((fail_if_success at_builtin); (fail_if_success at_make); (first | go_values | go_skip | go_guarded | go_step | go_upon | go_back))
        go_roundg (s.ents.length - (k + 1))
        case measure => have := HGK.out; have := HKL.out; omega
        case rel => exact ⟨k + 1, rfl, by go_num, by have := HKL.out; omega, HST.out, hgi⟩
      have hlb2 : decide (j < q.parts.length) = true := decide_eq_true hlt2
      have hj0 : (0 : Int) ≤ (j : Int) := by omega
      have hj1 : (j : Int) < (q.parts.length : Int) := by omega
      obtain ⟨bb, off, hAb, _, hcell⟩ := (hsl.below hb0i).rd.2 (by omega)
      subst hAb
      have hat := fun i (hi : i < 3) => pcs_at q.parts j i hlt2 hi
      have c0 := hcell (j * 3 + 0) _ (hat 0 (by omega))
      have c1 := hcell (j * 3 + 1) _ (hat 1 (by omega))
      have c2 := hcell (j * 3 + 2) _ (hat 2 (by omega))
      have hpd : q.parts[j].dig.length ≤ maxLen := by have := HPD.out _ (List.getElem_mem hlt2); unfold maxLen; omega
      have HTK := Lib.hid (show (q.parts.take (j + 1)).map (·.dig) = (q.parts.take j).map (·.dig) ++ [q.parts[j].dig] from by rw [List.take_succ_eq_append_getElem hlt2, List.map_append]; rfl)
      have HJL := Lib.hid hlt2
      generalize q.parts[j] = pt at *
      obtain ⟨pn, pd, psz⟩ := pt
      dsimp only [pcell, List.getElem?_cons_zero, List.getElem?_cons_succ] at c0 c1 c2 hpd HTK
      rw [Nat.add_zero] at c0
      rw [show off + (j * 3 + 1) = off + j * 3 + 1 by omega] at c1
      rw [show off + (j * 3 + 2) = off + j * 3 + 2 by omega] at c2
      have hMl : (rtsE (s.ents.take k) ++ (q.parts.take j).map (·.dig)).length < maxLen := by rw [List.length_append, List.length_map, List.length_take]; unfold maxLen; omega
      have hbx : Arr (wr.alloc (.cells #[.string ⟨pn.toArray⟩, .string ⟨pd.toArray⟩, .int .i64 (psz : Int)] 34)) wr.heap.size 34 [.string ⟨pn.toArray⟩, .string ⟨pd.toArray⟩, .int .i64 (psz : Int)] := Arr.new wr 34 _
      have hgB := hgi.trans (World.grownBy_alloc wr (.cells #[.string ⟨pn.toArray⟩, .string ⟨pd.toArray⟩, .int .i64 (psz : Int)] 34) (some b))
      have hsetB : SetM _ b _ := World.ownsMap.alloc hset (.cells #[.string ⟨pn.toArray⟩, .string ⟨pd.toArray⟩, .int .i64 (psz : Int)] 34)
      have p1 := hbx.cell (k := 1) rfl
      obtain ⟨w3, hput, hset3, hg3⟩ := SetM.put hsetB pd hpd hMl
      have HST3 := Lib.hid hset3
      clear hat hcell hset hset3 hsetB
      repeat' ((fail_if_success at_builtin); (fail_if_success at_make); (first | go_values | go_skip | go_guarded | go_step | go_upon | go_back))
      go_roundg (q.parts.length - (j + 1))
      case measure => have := HGJ.out; have := HJL.out; omega
      case rel => exact ⟨j + 1, rfl, by go_num, by have := HJL.out; omega, by rw [HTK.out, ← List.append_assoc]; exact HST3.out, hgB.trans hg3⟩
end Go.Proofs.YtdpedkgdobfemaaGreat
