/- order.Encode of an order that may be. Conditions: it may be. -/
import Derived.Test.YtdpedkgdobfemaaOrC
namespace Go.Proofs.Ytdpedkgdobfemaa
open Go.RowKit
set_option linter.unusedVariables false
set_option linter.unusedSimpArgs false
set_option maxRecDepth 100000

theorem addO_ok (A : Option Addr) (n c : Nat) (l : List UInt8) (E : Int) (gb base : Nat) (v : Value) (X : List UInt8) (w : World) (hl : l.length = n) (h0 : 0 < n) (hr : Rd w 1 A n (bys l)) (hbox : Arr w gb 25 [v]) (hown : w.ownsRow base 5 1 v X.length (bys X))
    (hbase : base ≤ gb) (hX : X.length + n ≤ 1000000) (hne : v.ownBlock ≠ some gb) :
    Calls Try.prog 28 #[.slice A n c, .int .i64 E, .pointer (some ⟨gb, 0, none⟩)] w fun e w' => e = .returned (.tuple #[]) ∧ ∃ v', Arr w' gb 25 [v'] ∧ w'.ownsRow base 5 1 v' (X ++ l).length (bys (X ++ l)) ∧ v'.ownBlock ≠ some gb ∧ Below base w w' ∧
      w.heap.size ≤ w'.heap.size ∧ (∀ k, k < w.heap.size → k ≠ gb → v.ownBlock ≠ some k → w'.heap[k]? = w.heap[k]? ∧ v'.ownBlock ≠ some k) := by
  have hgl := hbox.lt
  have c0 := hbox.cell (k := 0) rfl
  have f0 := hbox.frozen 0
  go_enter Try.func28, Try.ntmps28
  repeat' ((fail_if_success at_builtin); (fail_if_success at_make); (first | go_values | go_skip | go_guarded | go_step | go_upon | go_back))
  refine wpList_ap rfl (.tmp 5) (.tmp 6) rfl elU8 (by rfl) hown (by rfl) hr (bys_one _) (by omega) (by omega) ?_
  intro v1 w1 ho1 hg1 hw1
  have hgr : ∀ k, k < w.heap.size → v.ownBlock ≠ some k → w1.heap[k]? = w.heap[k]? := fun k hk hn => hg1.block k hk (by simpa using Ne.symm hn)
  have q1 : Arr w1 gb 25 [v] := (hgr gb hgl hne).trans hbox
  have hsz1 := hg1.size
  have c1 := q1.cell (k := 0) rfl
  have f1 := q1.frozen 0
  have q2 := q1.set (k := 0) (by simp) v1
  have hne1 : v1.ownBlock ≠ some gb := by
    rcases hw1 with h | h
    · rw [h]; exact hne
    · rw [h]; intro e; injection e with e; omega
  have hnk : ∀ k, k < w.heap.size → v.ownBlock ≠ some k → v1.ownBlock ≠ some k := fun k hk hn => by
    rcases hw1 with h | h
    · rw [h]; exact hn
    · rw [h]; intro e; injection e with e; omega
  have hlt1 := ho1.lt
  have hb1 : Below base w w1 := ⟨hg1.os, hg1.tape, hg1.output, hg1.size, fun k hk => by
    rcases Nat.lt_or_ge k w.heap.size with h | h
    · exact hgr k h (fun e => by have := (hown.lt k e).1; omega)
    · omega⟩
  obtain ⟨A1, cp1, rfl, hcp1, hrd1⟩ := Rd.of_own' ho1
  repeat' ((fail_if_success at_builtin); (fail_if_success at_make); (first | go_values | go_skip | go_guarded | go_step | go_upon | go_back))
  go_end0
  refine ⟨rfl, _, q2, ?_, hne1, Below.setCell hb1 hbase _, by rw [World.size_setCell]; exact hsz1, fun k hk hkg hkv => ⟨(Below.heap_setCell _ _ _ k hkg).trans (hgr k hk hkv), hnk k hk hkv⟩⟩
  rw [bys_app, List.length_append, hl]
  exact own_other ho1 hne1

theorem dig64 {d : List UInt8} (h : hexC d = 0) : d.length = 64 := by
  unfold hexC at h; split at h
  · cases h
  · omega
theorem fine_partsO {x : List PartP} (h : chk x = 0) : PartsOk x := fun p hp => by
  have h := (chk_zero h).2 p hp
  have h1 := nameC_zero h.1
  have h2 : p.dig.length = 64 := by
    have := h.2.1; unfold hexC at this; split at this
    · cases this
    · omega
  exact ⟨by omega, by omega, by have := h.2.2; omega⟩
set_option maxHeartbeats 4000000 in
theorem OEncode_f0 (k n : Nat) (dig data : List UInt8) (parts : List PartP) (A A' : Option Addr) (c c' dl pl : Nat) (w : World) (hff : fOf k = (⟨false, false, true, false⟩, true)) (hdl : data.length = dl) (hpl : parts.length = pl) (hc : pl ≤ c') (hr : Rd w 3 A' pl (pcs parts)) (hrd : Rd w 1 A dl (bys data)) (hn4 : n ≤ 4000) (ht3 : dl ≤ 300) (hch : chk parts = 0) (h2 : dig = []) (h1 : n = 0) (h4 : parts = []) :
    Calls Try.prog 8 #[.agg #[.int .i64 (k : Int), .int .i64 (n : Int), .string ⟨dig.toArray⟩, .slice A dl c, .slice A' pl c']] w fun e w' => ∃ B d, e = .returned (.tuple #[.slice B (num k ++ encF ⟨false, false, true, false⟩ ⟨k, n, dig, data, parts⟩).length d, .int .i64 0]) ∧ OwnB 5 w.heap.size w' B d (num k ++ encF ⟨false, false, true, false⟩ ⟨k, n, dig, data, parts⟩) ∧ Below w.heap.size w w' := by
  have hk := fOf_le (k := k) (by rw [hff])
  have hz := chk_zero hch
  have hok := fine_partsO hch
  obtain ⟨S, hS⟩ : ∃ S : ByteArray, S = ⟨dig.toArray⟩ := ⟨_, rfl⟩
  have hSd : S.data.toList = dig := by rw [hS]
  have hSs : S.size = dig.length := by rw [hS]; simp [ByteArray.size]
  have hdle : dig.length ≤ 1000 := by rw [h2]; simp
  obtain ⟨w1, hw1⟩ : ∃ w1, w1 = w.alloc (.cells #[.int .i64 (k : Int), .int .i64 (n : Int), .string S, .slice A dl c, .slice A' pl c'] 28) := ⟨_, rfl⟩
  have hb1 : Below w.heap.size w w1 := by rw [hw1]; exact (Below.refl _ _).alloc (Nat.le_refl _) _
  have hr1 : Rd w1 3 A' pl (pcs parts) := by rw [hw1]; exact hr.alloc _
  have hA1 : Arr w1 w.heap.size 28 [.int .i64 (k : Int), .int .i64 (n : Int), .string S, .slice A dl c, .slice A' pl c'] := by rw [hw1]; exact Arr.new w 28 _
  have hck := OCheck_f0 k n dig data parts A A' c c' w1 hff (by omega) (by omega) (by omega) hok (by rw [hpl]; exact hr1) h1 h2 h4
  have hrs : rstC false n dig data parts = 0 := by rw [rstC, if_neg (by omega), if_neg (fun h => by cases h.1), if_neg (by omega), hch]
  rw [hrs, hdl, hpl, ← hS, show ((0 : Nat) : Int) = 0 from rfl] at hck
  rw [← hS]
  have HCK := Lib.hid hck
  have hof := fun w' => Of_ok k w'
  unfold OfAt at hof
  rw [hff] at hof
  simp only [fcs] at hof
  have HOF := Lib.hid hof
  have HW := Lib.hid hw1
  have HR := Lib.hid hr
  have HRD := Lib.hid hrd
  have HDL := Lib.hid hdl
  have HPL := Lib.hid hpl
  have HC := Lib.hid hc
  have HCH := Lib.hid hch
  have HSD := Lib.hid hSd
  have HSS := Lib.hid hSs
  have HDLE := Lib.hid hdle
  have HK := Lib.hid hk
  have hE : num k ++ encF ⟨false, false, true, false⟩ ⟨k, n, dig, data, parts⟩ = (([] ++ num k) ++ txt data) := by simp [encF]
  have HE := Lib.hid hE
  have hl0 := num_le3 k (by omega)
  have hl1 := num_le3 n hn4
  have hl3 := txt_len data (by omega)
  rw [hdl] at hl3
  have HN4 := Lib.hid hn4
  generalize num k ++ encF ⟨false, false, true, false⟩ ⟨k, n, dig, data, parts⟩ = E at *
  clear hE hck hrs hof hff hS hSd hSs hdle hz hok hch hr hrd hdl hpl hc hk hn4 hr1 hw1 h2 h1 h4
  go_enter Try.func8, Try.ntmps8
  repeat' ((fail_if_success at_builtin); (fail_if_success at_make); (first | go_values | go_skip | go_guarded | go_step | go_upon | go_back))
  rw [← HW.out]
  obtain ⟨g, hg⟩ : ∃ g, g = w.heap.size := ⟨_, rfl⟩
  have hgw : w.heap.size ≤ g := by omega
  rw [← hg] at hA1 ⊢
  clear hg
  refine ((HCK.out)).mono ?_; rintro e_ w2 ⟨rfl, hb2⟩; dsimp only
  have hB2 := hb1.trans (hb2.mono hb1.size)
  have hA2 := hA1.below hb2
  have f0 := hA2.cell (k := 0) rfl
  clear hA1 hb1 hb2
  repeat' ((fail_if_success at_builtin); (fail_if_success at_make); (first | go_values | go_skip | go_guarded | go_step | go_upon | go_back))
  refine (((HOF.out w2))).mono ?_; rintro e_ w3 ⟨rfl, hb3⟩; dsimp only
  have hB3 := hB2.trans (hb3.mono hB2.size)
  have hA3 := hA2.below hb3
  clear f0 hA2 hB2 hb3
  have hs3 := hB3.size
  have hB4 := hB3.alloc hs3 (.cells #[.bool false, .bool false, .bool true, .bool false] 61)
  have hA4 := hA3.alloc (.cells #[.bool false, .bool false, .bool true, .bool false] 61)
  have hF4 : Arr (w3.alloc (.cells #[.bool false, .bool false, .bool true, .bool false] 61)) w3.heap.size 61 [.bool false, .bool false, .bool true, .bool false] := Arr.new w3 61 _
  have hs4 : (w3.alloc (.cells #[.bool false, .bool false, .bool true, .bool false] 61)).heap.size = w3.heap.size + 1 := World.size_alloc _ _
  have hB5 := hB4.alloc hB4.size (.cells #[.slice none 0 0] 25)
  have hA5 := hA4.alloc (.cells #[.slice none 0 0] 25)
  have hF5 := hF4.alloc (.cells #[.slice none 0 0] 25)
  have hQ5 := Arr.new (w3.alloc (.cells #[.bool false, .bool false, .bool true, .bool false] 61)) 25 [.slice none 0 0]
  rw [hs4] at hQ5
  have hlt := hA3.lt
  have fo := hA5.cell (k := 0) rfl
  clear hA3 hA4 hF4 hB3 hB4
  repeat' ((fail_if_success at_builtin); (fail_if_success at_make); (first | go_values | go_skip | go_guarded | go_step | go_upon | go_back))
  change Calls _ _ _ ((w3.alloc (.cells #[.bool false, .bool false, .bool true, .bool false] 61)).alloc (.cells [Value.slice none 0 0].toArray 25)) _
  change Below w.heap.size w ((w3.alloc (.cells #[.bool false, .bool false, .bool true, .bool false] 61)).alloc (.cells [Value.slice none 0 0].toArray 25)) at hB5
  change Arr ((w3.alloc (.cells #[.bool false, .bool false, .bool true, .bool false] 61)).alloc (.cells [Value.slice none 0 0].toArray 25)) _ _ _ at hA5
  change Arr ((w3.alloc (.cells #[.bool false, .bool false, .bool true, .bool false] 61)).alloc (.cells [Value.slice none 0 0].toArray 25)) _ _ _ at hF5
  change ((w3.alloc (.cells #[.bool false, .bool false, .bool true, .bool false] 61)).alloc (.cells [Value.slice none 0 0].toArray 25)).cell? _ = _ at fo
  generalize ((w3.alloc (.cells #[.bool false, .bool false, .bool true, .bool false] 61)).alloc (.cells [Value.slice none 0 0].toArray 25)) = w5 at *
  generalize w3.heap.size = gf at *
  clear hs4
  generalize hgb : gf + 1 = gb at *
  have hgo : g ≠ gb := by omega
  have hgf : gf ≠ gb := by omega
  have hbb : w.heap.size ≤ gb := by omega
  clear hgb
  have hk14 := HK.out
  have ho5 : w5.ownsRow w.heap.size 5 1 (.slice none 0 0) ([] : List UInt8).length (bys []) := World.ownsRow_nil _ _ _ _
  have hne5 : (Value.slice none 0 0).ownBlock ≠ some gb := by simp [Value.ownBlock]
  have hno5 : (Value.slice none 0 0).ownBlock ≠ some g := by simp [Value.ownBlock]
  have hnf5 : (Value.slice none 0 0).ownBlock ≠ some gf := by simp [Value.ownBlock]
  obtain ⟨v5, hv5⟩ : ∃ v5, v5 = Value.slice none 0 0 := ⟨_, rfl⟩
  rw [← hv5] at ho5 hne5 hno5 hnf5 hQ5
  clear hv5
  refine ((Number_own k k rfl w5 (by omega))).mono ?_; rintro e_ w6 ⟨A6, c6, rfl, ho6, hb6⟩; dsimp only
  have hA6 := hA5.below hb6
  have hF6 := hF5.below hb6
  have hQ6 := hQ5.below hb6
  have hx6 := own_below ho5 hb6
  have hB6 := hB5.trans (hb6.mono hB5.size)
  clear hA5 hF5 hQ5 ho5 fo
  repeat' ((fail_if_success at_builtin); (fail_if_success at_make); (first | go_values | go_skip | go_guarded | go_step | go_upon | go_back))
  refine ((addO_ok A6 _ c6 (num k) 0 gb w.heap.size v5 ([]) _ rfl (by omega) ho6.rd hQ6 hx6 hbb (by simp only [List.length_append, List.length_nil]; omega) hne5)).mono ?_; rintro e_ w7 ⟨rfl, v7, hQ7, hx7, hne7, hb7, hs7, hk7⟩; dsimp only
  have hB7 := hB6.trans hb7
  have hko7 := hk7 g hA6.lt hgo hno5
  have hkf7 := hk7 gf hF6.lt hgf hnf5
  have hA7 : Arr w7 g 28 _ := hko7.1.trans hA6
  have hF7 : Arr w7 gf 61 _ := hkf7.1.trans hF6
  have hno7 := hko7.2
  have hnf7 := hkf7.2
  clear hk7 hko7 hkf7 hA6 hF6 hQ6 hx6 ho6 hb6 hb7
  have fo0 := hA7.cell (k := 0) rfl
  have fo1 := hA7.cell (k := 1) rfl
  have fo2 := hA7.cell (k := 2) rfl
  have fo3 := hA7.cell (k := 3) rfl
  have fo4 := hA7.cell (k := 4) rfl
  have ff0 := hF7.cell (k := 0) rfl
  have ff1 := hF7.cell (k := 1) rfl
  have ff2 := hF7.cell (k := 2) rfl
  have ff3 := hF7.cell (k := 3) rfl
  have hcv := run_str (w := w7) (A := A) (c := c) Try.underlying25 Try.underlying5 Try.underlying9 HDL.out (HRD.out.below hB7)
  have HTX := Lib.hid (wText_ok ⟨data.toArray⟩ w7 (by have := HDL.out; simp [ByteArray.size]; omega))
  rw [show (⟨data.toArray⟩ : ByteArray).data.toList = data from rfl] at HTX
  repeat' ((fail_if_success at_builtin); (fail_if_success at_make); (first | go_values | go_skip | go_guarded | go_step | go_upon | go_back))
  refine ((HTX.out)).mono ?_; rintro e_ w8 ⟨A8, c8, rfl, ho8, hb8⟩; dsimp only
  have hA8 := hA7.below hb8
  have hF8 := hF7.below hb8
  have hQ8 := hQ7.below hb8
  have hx8 := own_below hx7 hb8
  have hB8 := hB7.trans (hb8.mono hB7.size)
  clear hA7 hF7 hQ7 hx7 fo0 fo1 fo2 fo3 fo4 ff0 ff1 ff2 ff3 hcv HTX
  repeat' ((fail_if_success at_builtin); (fail_if_success at_make); (first | go_values | go_skip | go_guarded | go_step | go_upon | go_back))
  refine ((addO_ok A8 _ c8 (txt data) 0 gb w.heap.size v7 (([] ++ num k)) _ rfl (by omega) ho8.rd hQ8 hx8 hbb (by simp only [List.length_append, List.length_nil]; omega) hne7)).mono ?_; rintro e_ w9 ⟨rfl, v9, hQ9, hx9, hne9, hb9, hs9, hk9⟩; dsimp only
  have hB9 := hB8.trans hb9
  have hko9 := hk9 g hA8.lt hgo hno7
  have hkf9 := hk9 gf hF8.lt hgf hnf7
  have hA9 : Arr w9 g 28 _ := hko9.1.trans hA8
  have hF9 : Arr w9 gf 61 _ := hkf9.1.trans hF8
  have hno9 := hko9.2
  have hnf9 := hkf9.2
  clear hk9 hko9 hkf9 hA8 hF8 hQ8 hx8 ho8 hb8 hb9
  have ff0 := hF9.cell (k := 0) rfl
  have ff1 := hF9.cell (k := 1) rfl
  have ff2 := hF9.cell (k := 2) rfl
  have ff3 := hF9.cell (k := 3) rfl
  obtain ⟨Az, cz, hvz, hcz, hrz⟩ := Rd.of_own' hx9
  subst hvz
  have fq := hQ9.cell (k := 0) rfl
  rw [← HE.out] at hcz hrz fq
  have hEl : E.length ≤ 100000 := by rw [HE.out]; simp only [List.length_append, List.length_nil]; omega
  clear hx9 hQ9 hne9 hno9 hnf9
  repeat' ((fail_if_success at_builtin); (fail_if_success at_make); (first | go_values | go_skip | go_guarded | go_step | go_upon | go_back))
  refine ((Clone_ok Az _ cz E _ rfl hcz (by omega) hrz)).mono ?_; rintro e_ w10 ⟨v10, rfl, ho10, hb10⟩; dsimp only
  obtain ⟨Ay, cy, rfl, hoy⟩ := OwnB.of rfl ho10
  repeat' ((fail_if_success at_builtin); (fail_if_success at_make); (first | go_values | go_skip | go_guarded | go_step | go_upon | go_back))
  go_ret2
  exact ⟨Ay, cy, rfl, hoy.lower hB9.size, hB9.trans (hb10.mono hB9.size)⟩
set_option maxHeartbeats 4000000 in
theorem OEncode_f1 (k n : Nat) (dig data : List UInt8) (parts : List PartP) (A A' : Option Addr) (c c' dl pl : Nat) (w : World) (hff : fOf k = (⟨false, true, false, false⟩, true)) (hdl : data.length = dl) (hpl : parts.length = pl) (hc : pl ≤ c') (hr : Rd w 3 A' pl (pcs parts)) (hrd : Rd w 1 A dl (bys data)) (hn4 : n ≤ 4000) (ht3 : dl ≤ 300) (hch : chk parts = 0) (hdg : hexC dig = 0) (h1 : n = 0) (h3 : data = []) (h4 : parts = []) :
    Calls Try.prog 8 #[.agg #[.int .i64 (k : Int), .int .i64 (n : Int), .string ⟨dig.toArray⟩, .slice A dl c, .slice A' pl c']] w fun e w' => ∃ B d, e = .returned (.tuple #[.slice B (num k ++ encF ⟨false, true, false, false⟩ ⟨k, n, dig, data, parts⟩).length d, .int .i64 0]) ∧ OwnB 5 w.heap.size w' B d (num k ++ encF ⟨false, true, false, false⟩ ⟨k, n, dig, data, parts⟩) ∧ Below w.heap.size w w' := by
  have hk := fOf_le (k := k) (by rw [hff])
  have hz := chk_zero hch
  have hok := fine_partsO hch
  obtain ⟨S, hS⟩ : ∃ S : ByteArray, S = ⟨dig.toArray⟩ := ⟨_, rfl⟩
  have hSd : S.data.toList = dig := by rw [hS]
  have hSs : S.size = dig.length := by rw [hS]; simp [ByteArray.size]
  have hdle : dig.length ≤ 1000 := by rw [dig64 hdg]; omega
  obtain ⟨w1, hw1⟩ : ∃ w1, w1 = w.alloc (.cells #[.int .i64 (k : Int), .int .i64 (n : Int), .string S, .slice A dl c, .slice A' pl c'] 28) := ⟨_, rfl⟩
  have hb1 : Below w.heap.size w w1 := by rw [hw1]; exact (Below.refl _ _).alloc (Nat.le_refl _) _
  have hr1 : Rd w1 3 A' pl (pcs parts) := by rw [hw1]; exact hr.alloc _
  have hA1 : Arr w1 w.heap.size 28 [.int .i64 (k : Int), .int .i64 (n : Int), .string S, .slice A dl c, .slice A' pl c'] := by rw [hw1]; exact Arr.new w 28 _
  have hck := OCheck_f1 k n dig data parts A A' c c' w1 hff (by omega) (by omega) (by omega) hok (by rw [hpl]; exact hr1) h1 h3 h4
  have hrs : rstC true n dig data parts = 0 := by rw [rstC, if_neg (by omega), if_neg (fun h => h.2 hdg), if_neg (by omega), hch]
  rw [hrs, hdl, hpl, ← hS, show ((0 : Nat) : Int) = 0 from rfl] at hck
  rw [← hS]
  have HCK := Lib.hid hck
  have hof := fun w' => Of_ok k w'
  unfold OfAt at hof
  rw [hff] at hof
  simp only [fcs] at hof
  have HOF := Lib.hid hof
  have HW := Lib.hid hw1
  have HR := Lib.hid hr
  have HRD := Lib.hid hrd
  have HDL := Lib.hid hdl
  have HPL := Lib.hid hpl
  have HC := Lib.hid hc
  have HCH := Lib.hid hch
  have HSD := Lib.hid hSd
  have HSS := Lib.hid hSs
  have HDLE := Lib.hid hdle
  have HK := Lib.hid hk
  have hE : num k ++ encF ⟨false, true, false, false⟩ ⟨k, n, dig, data, parts⟩ = (([] ++ num k) ++ (hexB dig).1) := by simp [encF]
  have HE := Lib.hid hE
  have HDG := Lib.hid hdg
  have hl2 := Nat.le_of_eq (hexC_zero hdg).2
  have hl2' := Nat.le_of_eq (hexC_zero hdg).2.symm
  have hl0 := num_le3 k (by omega)
  have hl1 := num_le3 n hn4
  have HN4 := Lib.hid hn4
  generalize num k ++ encF ⟨false, true, false, false⟩ ⟨k, n, dig, data, parts⟩ = E at *
  clear hE hck hrs hof hff hS hSd hSs hdle hz hok hch hr hrd hdl hpl hc hk hn4 hr1 hw1 hdg h1 h3 h4
  go_enter Try.func8, Try.ntmps8
  repeat' ((fail_if_success at_builtin); (fail_if_success at_make); (first | go_values | go_skip | go_guarded | go_step | go_upon | go_back))
  rw [← HW.out]
  obtain ⟨g, hg⟩ : ∃ g, g = w.heap.size := ⟨_, rfl⟩
  have hgw : w.heap.size ≤ g := by omega
  rw [← hg] at hA1 ⊢
  clear hg
  refine ((HCK.out)).mono ?_; rintro e_ w2 ⟨rfl, hb2⟩; dsimp only
  have hB2 := hb1.trans (hb2.mono hb1.size)
  have hA2 := hA1.below hb2
  have f0 := hA2.cell (k := 0) rfl
  clear hA1 hb1 hb2
  repeat' ((fail_if_success at_builtin); (fail_if_success at_make); (first | go_values | go_skip | go_guarded | go_step | go_upon | go_back))
  refine (((HOF.out w2))).mono ?_; rintro e_ w3 ⟨rfl, hb3⟩; dsimp only
  have hB3 := hB2.trans (hb3.mono hB2.size)
  have hA3 := hA2.below hb3
  clear f0 hA2 hB2 hb3
  have hs3 := hB3.size
  have hB4 := hB3.alloc hs3 (.cells #[.bool false, .bool true, .bool false, .bool false] 61)
  have hA4 := hA3.alloc (.cells #[.bool false, .bool true, .bool false, .bool false] 61)
  have hF4 : Arr (w3.alloc (.cells #[.bool false, .bool true, .bool false, .bool false] 61)) w3.heap.size 61 [.bool false, .bool true, .bool false, .bool false] := Arr.new w3 61 _
  have hs4 : (w3.alloc (.cells #[.bool false, .bool true, .bool false, .bool false] 61)).heap.size = w3.heap.size + 1 := World.size_alloc _ _
  have hB5 := hB4.alloc hB4.size (.cells #[.slice none 0 0] 25)
  have hA5 := hA4.alloc (.cells #[.slice none 0 0] 25)
  have hF5 := hF4.alloc (.cells #[.slice none 0 0] 25)
  have hQ5 := Arr.new (w3.alloc (.cells #[.bool false, .bool true, .bool false, .bool false] 61)) 25 [.slice none 0 0]
  rw [hs4] at hQ5
  have hlt := hA3.lt
  have fo := hA5.cell (k := 0) rfl
  clear hA3 hA4 hF4 hB3 hB4
  repeat' ((fail_if_success at_builtin); (fail_if_success at_make); (first | go_values | go_skip | go_guarded | go_step | go_upon | go_back))
  change Calls _ _ _ ((w3.alloc (.cells #[.bool false, .bool true, .bool false, .bool false] 61)).alloc (.cells [Value.slice none 0 0].toArray 25)) _
  change Below w.heap.size w ((w3.alloc (.cells #[.bool false, .bool true, .bool false, .bool false] 61)).alloc (.cells [Value.slice none 0 0].toArray 25)) at hB5
  change Arr ((w3.alloc (.cells #[.bool false, .bool true, .bool false, .bool false] 61)).alloc (.cells [Value.slice none 0 0].toArray 25)) _ _ _ at hA5
  change Arr ((w3.alloc (.cells #[.bool false, .bool true, .bool false, .bool false] 61)).alloc (.cells [Value.slice none 0 0].toArray 25)) _ _ _ at hF5
  change ((w3.alloc (.cells #[.bool false, .bool true, .bool false, .bool false] 61)).alloc (.cells [Value.slice none 0 0].toArray 25)).cell? _ = _ at fo
  generalize ((w3.alloc (.cells #[.bool false, .bool true, .bool false, .bool false] 61)).alloc (.cells [Value.slice none 0 0].toArray 25)) = w5 at *
  generalize w3.heap.size = gf at *
  clear hs4
  generalize hgb : gf + 1 = gb at *
  have hgo : g ≠ gb := by omega
  have hgf : gf ≠ gb := by omega
  have hbb : w.heap.size ≤ gb := by omega
  clear hgb
  have hk14 := HK.out
  have ho5 : w5.ownsRow w.heap.size 5 1 (.slice none 0 0) ([] : List UInt8).length (bys []) := World.ownsRow_nil _ _ _ _
  have hne5 : (Value.slice none 0 0).ownBlock ≠ some gb := by simp [Value.ownBlock]
  have hno5 : (Value.slice none 0 0).ownBlock ≠ some g := by simp [Value.ownBlock]
  have hnf5 : (Value.slice none 0 0).ownBlock ≠ some gf := by simp [Value.ownBlock]
  obtain ⟨v5, hv5⟩ : ∃ v5, v5 = Value.slice none 0 0 := ⟨_, rfl⟩
  rw [← hv5] at ho5 hne5 hno5 hnf5 hQ5
  clear hv5
  refine ((Number_own k k rfl w5 (by omega))).mono ?_; rintro e_ w6 ⟨A6, c6, rfl, ho6, hb6⟩; dsimp only
  have hA6 := hA5.below hb6
  have hF6 := hF5.below hb6
  have hQ6 := hQ5.below hb6
  have hx6 := own_below ho5 hb6
  have hB6 := hB5.trans (hb6.mono hB5.size)
  clear hA5 hF5 hQ5 ho5 fo
  repeat' ((fail_if_success at_builtin); (fail_if_success at_make); (first | go_values | go_skip | go_guarded | go_step | go_upon | go_back))
  refine ((addO_ok A6 _ c6 (num k) 0 gb w.heap.size v5 ([]) _ rfl (by omega) ho6.rd hQ6 hx6 hbb (by simp only [List.length_append, List.length_nil]; omega) hne5)).mono ?_; rintro e_ w7 ⟨rfl, v7, hQ7, hx7, hne7, hb7, hs7, hk7⟩; dsimp only
  have hB7 := hB6.trans hb7
  have hko7 := hk7 g hA6.lt hgo hno5
  have hkf7 := hk7 gf hF6.lt hgf hnf5
  have hA7 : Arr w7 g 28 _ := hko7.1.trans hA6
  have hF7 : Arr w7 gf 61 _ := hkf7.1.trans hF6
  have hno7 := hko7.2
  have hnf7 := hkf7.2
  clear hk7 hko7 hkf7 hA6 hF6 hQ6 hx6 ho6 hb6 hb7
  have fo0 := hA7.cell (k := 0) rfl
  have fo1 := hA7.cell (k := 1) rfl
  have fo2 := hA7.cell (k := 2) rfl
  have fo3 := hA7.cell (k := 3) rfl
  have fo4 := hA7.cell (k := 4) rfl
  have ff0 := hF7.cell (k := 0) rfl
  have ff1 := hF7.cell (k := 1) rfl
  have ff2 := hF7.cell (k := 2) rfl
  have ff3 := hF7.cell (k := 3) rfl
  repeat' ((fail_if_success at_builtin); (fail_if_success at_make); (first | go_values | go_skip | go_guarded | go_step | go_upon | go_back))
  refine ((hBytes_of HSD.out HDG.out w7 (by rw [HSS.out]; have := HDLE.out; omega))).mono ?_; rintro e_ w8 ⟨A8, c8, rfl, ho8, hb8⟩; dsimp only
  have hA8 := hA7.below hb8
  have hF8 := hF7.below hb8
  have hQ8 := hQ7.below hb8
  have hx8 := own_below hx7 hb8
  have hB8 := hB7.trans (hb8.mono hB7.size)
  clear hA7 hF7 hQ7 hx7 fo0 fo1 fo2 fo3 fo4 ff0 ff1 ff2 ff3
  repeat' ((fail_if_success at_builtin); (fail_if_success at_make); (first | go_values | go_skip | go_guarded | go_step | go_upon | go_back))
  refine ((addO_ok A8 _ c8 ((hexB dig).1) 0 gb w.heap.size v7 (([] ++ num k)) _ rfl (by omega) ho8.rd hQ8 hx8 hbb (by simp only [List.length_append, List.length_nil]; omega) hne7)).mono ?_; rintro e_ w9 ⟨rfl, v9, hQ9, hx9, hne9, hb9, hs9, hk9⟩; dsimp only
  have hB9 := hB8.trans hb9
  have hko9 := hk9 g hA8.lt hgo hno7
  have hkf9 := hk9 gf hF8.lt hgf hnf7
  have hA9 : Arr w9 g 28 _ := hko9.1.trans hA8
  have hF9 : Arr w9 gf 61 _ := hkf9.1.trans hF8
  have hno9 := hko9.2
  have hnf9 := hkf9.2
  clear hk9 hko9 hkf9 hA8 hF8 hQ8 hx8 ho8 hb8 hb9
  have ff0 := hF9.cell (k := 0) rfl
  have ff1 := hF9.cell (k := 1) rfl
  have ff2 := hF9.cell (k := 2) rfl
  have ff3 := hF9.cell (k := 3) rfl
  obtain ⟨Az, cz, hvz, hcz, hrz⟩ := Rd.of_own' hx9
  subst hvz
  have fq := hQ9.cell (k := 0) rfl
  rw [← HE.out] at hcz hrz fq
  have hEl : E.length ≤ 100000 := by rw [HE.out]; simp only [List.length_append, List.length_nil]; omega
  clear hx9 hQ9 hne9 hno9 hnf9
  repeat' ((fail_if_success at_builtin); (fail_if_success at_make); (first | go_values | go_skip | go_guarded | go_step | go_upon | go_back))
  refine ((Clone_ok Az _ cz E _ rfl hcz (by omega) hrz)).mono ?_; rintro e_ w10 ⟨v10, rfl, ho10, hb10⟩; dsimp only
  obtain ⟨Ay, cy, rfl, hoy⟩ := OwnB.of rfl ho10
  repeat' ((fail_if_success at_builtin); (fail_if_success at_make); (first | go_values | go_skip | go_guarded | go_step | go_upon | go_back))
  go_ret2
  exact ⟨Ay, cy, rfl, hoy.lower hB9.size, hB9.trans (hb10.mono hB9.size)⟩
set_option maxHeartbeats 4000000 in
theorem OEncode_f2 (k n : Nat) (dig data : List UInt8) (parts : List PartP) (A A' : Option Addr) (c c' dl pl : Nat) (w : World) (hff : fOf k = (⟨false, true, false, true⟩, true)) (hdl : data.length = dl) (hpl : parts.length = pl) (hc : pl ≤ c') (hr : Rd w 3 A' pl (pcs parts)) (hrd : Rd w 1 A dl (bys data)) (hn4 : n ≤ 4000) (ht3 : dl ≤ 300) (hch : chk parts = 0) (hdg : hexC dig = 0) (h1 : n = 0) (h3 : data = []) :
    Calls Try.prog 8 #[.agg #[.int .i64 (k : Int), .int .i64 (n : Int), .string ⟨dig.toArray⟩, .slice A dl c, .slice A' pl c']] w fun e w' => ∃ B d, e = .returned (.tuple #[.slice B (num k ++ encF ⟨false, true, false, true⟩ ⟨k, n, dig, data, parts⟩).length d, .int .i64 0]) ∧ OwnB 5 w.heap.size w' B d (num k ++ encF ⟨false, true, false, true⟩ ⟨k, n, dig, data, parts⟩) ∧ Below w.heap.size w w' := by
  have hk := fOf_le (k := k) (by rw [hff])
  have hz := chk_zero hch
  have hok := fine_partsO hch
  obtain ⟨S, hS⟩ : ∃ S : ByteArray, S = ⟨dig.toArray⟩ := ⟨_, rfl⟩
  have hSd : S.data.toList = dig := by rw [hS]
  have hSs : S.size = dig.length := by rw [hS]; simp [ByteArray.size]
  have hdle : dig.length ≤ 1000 := by rw [dig64 hdg]; omega
  obtain ⟨w1, hw1⟩ : ∃ w1, w1 = w.alloc (.cells #[.int .i64 (k : Int), .int .i64 (n : Int), .string S, .slice A dl c, .slice A' pl c'] 28) := ⟨_, rfl⟩
  have hb1 : Below w.heap.size w w1 := by rw [hw1]; exact (Below.refl _ _).alloc (Nat.le_refl _) _
  have hr1 : Rd w1 3 A' pl (pcs parts) := by rw [hw1]; exact hr.alloc _
  have hA1 : Arr w1 w.heap.size 28 [.int .i64 (k : Int), .int .i64 (n : Int), .string S, .slice A dl c, .slice A' pl c'] := by rw [hw1]; exact Arr.new w 28 _
  have hck := OCheck_f2 k n dig data parts A A' c c' w1 hff (by omega) (by omega) (by omega) hok (by rw [hpl]; exact hr1) h1 h3
  have hrs : rstC true n dig data parts = 0 := by rw [rstC, if_neg (by omega), if_neg (fun h => h.2 hdg), if_neg (by omega), hch]
  rw [hrs, hdl, hpl, ← hS, show ((0 : Nat) : Int) = 0 from rfl] at hck
  rw [← hS]
  have HCK := Lib.hid hck
  have hof := fun w' => Of_ok k w'
  unfold OfAt at hof
  rw [hff] at hof
  simp only [fcs] at hof
  have HOF := Lib.hid hof
  have HW := Lib.hid hw1
  have HR := Lib.hid hr
  have HRD := Lib.hid hrd
  have HDL := Lib.hid hdl
  have HPL := Lib.hid hpl
  have HC := Lib.hid hc
  have HCH := Lib.hid hch
  have HSD := Lib.hid hSd
  have HSS := Lib.hid hSs
  have HDLE := Lib.hid hdle
  have HK := Lib.hid hk
  have hE : num k ++ encF ⟨false, true, false, true⟩ ⟨k, n, dig, data, parts⟩ = ((([] ++ num k) ++ (hexB dig).1) ++ enc parts) := by simp [encF]
  have HE := Lib.hid hE
  have HDG := Lib.hid hdg
  have hl2 := Nat.le_of_eq (hexC_zero hdg).2
  have hl2' := Nat.le_of_eq (hexC_zero hdg).2.symm
  have hl0 := num_le3 k (by omega)
  have hl1 := num_le3 n hn4
  have hl4 := enc_le parts hch
  have HN4 := Lib.hid hn4
  generalize num k ++ encF ⟨false, true, false, true⟩ ⟨k, n, dig, data, parts⟩ = E at *
  clear hE hck hrs hof hff hS hSd hSs hdle hz hok hch hr hrd hdl hpl hc hk hn4 hr1 hw1 hdg h1 h3
  go_enter Try.func8, Try.ntmps8
  repeat' ((fail_if_success at_builtin); (fail_if_success at_make); (first | go_values | go_skip | go_guarded | go_step | go_upon | go_back))
  rw [← HW.out]
  obtain ⟨g, hg⟩ : ∃ g, g = w.heap.size := ⟨_, rfl⟩
  have hgw : w.heap.size ≤ g := by omega
  rw [← hg] at hA1 ⊢
  clear hg
  refine ((HCK.out)).mono ?_; rintro e_ w2 ⟨rfl, hb2⟩; dsimp only
  have hB2 := hb1.trans (hb2.mono hb1.size)
  have hA2 := hA1.below hb2
  have f0 := hA2.cell (k := 0) rfl
  clear hA1 hb1 hb2
  repeat' ((fail_if_success at_builtin); (fail_if_success at_make); (first | go_values | go_skip | go_guarded | go_step | go_upon | go_back))
  refine (((HOF.out w2))).mono ?_; rintro e_ w3 ⟨rfl, hb3⟩; dsimp only
  have hB3 := hB2.trans (hb3.mono hB2.size)
  have hA3 := hA2.below hb3
  clear f0 hA2 hB2 hb3
  have hs3 := hB3.size
  have hB4 := hB3.alloc hs3 (.cells #[.bool false, .bool true, .bool false, .bool true] 61)
  have hA4 := hA3.alloc (.cells #[.bool false, .bool true, .bool false, .bool true] 61)
  have hF4 : Arr (w3.alloc (.cells #[.bool false, .bool true, .bool false, .bool true] 61)) w3.heap.size 61 [.bool false, .bool true, .bool false, .bool true] := Arr.new w3 61 _
  have hs4 : (w3.alloc (.cells #[.bool false, .bool true, .bool false, .bool true] 61)).heap.size = w3.heap.size + 1 := World.size_alloc _ _
  have hB5 := hB4.alloc hB4.size (.cells #[.slice none 0 0] 25)
  have hA5 := hA4.alloc (.cells #[.slice none 0 0] 25)
  have hF5 := hF4.alloc (.cells #[.slice none 0 0] 25)
  have hQ5 := Arr.new (w3.alloc (.cells #[.bool false, .bool true, .bool false, .bool true] 61)) 25 [.slice none 0 0]
  rw [hs4] at hQ5
  have hlt := hA3.lt
  have fo := hA5.cell (k := 0) rfl
  clear hA3 hA4 hF4 hB3 hB4
  repeat' ((fail_if_success at_builtin); (fail_if_success at_make); (first | go_values | go_skip | go_guarded | go_step | go_upon | go_back))
  change Calls _ _ _ ((w3.alloc (.cells #[.bool false, .bool true, .bool false, .bool true] 61)).alloc (.cells [Value.slice none 0 0].toArray 25)) _
  change Below w.heap.size w ((w3.alloc (.cells #[.bool false, .bool true, .bool false, .bool true] 61)).alloc (.cells [Value.slice none 0 0].toArray 25)) at hB5
  change Arr ((w3.alloc (.cells #[.bool false, .bool true, .bool false, .bool true] 61)).alloc (.cells [Value.slice none 0 0].toArray 25)) _ _ _ at hA5
  change Arr ((w3.alloc (.cells #[.bool false, .bool true, .bool false, .bool true] 61)).alloc (.cells [Value.slice none 0 0].toArray 25)) _ _ _ at hF5
  change ((w3.alloc (.cells #[.bool false, .bool true, .bool false, .bool true] 61)).alloc (.cells [Value.slice none 0 0].toArray 25)).cell? _ = _ at fo
  generalize ((w3.alloc (.cells #[.bool false, .bool true, .bool false, .bool true] 61)).alloc (.cells [Value.slice none 0 0].toArray 25)) = w5 at *
  generalize w3.heap.size = gf at *
  clear hs4
  generalize hgb : gf + 1 = gb at *
  have hgo : g ≠ gb := by omega
  have hgf : gf ≠ gb := by omega
  have hbb : w.heap.size ≤ gb := by omega
  clear hgb
  have hk14 := HK.out
  have ho5 : w5.ownsRow w.heap.size 5 1 (.slice none 0 0) ([] : List UInt8).length (bys []) := World.ownsRow_nil _ _ _ _
  have hne5 : (Value.slice none 0 0).ownBlock ≠ some gb := by simp [Value.ownBlock]
  have hno5 : (Value.slice none 0 0).ownBlock ≠ some g := by simp [Value.ownBlock]
  have hnf5 : (Value.slice none 0 0).ownBlock ≠ some gf := by simp [Value.ownBlock]
  obtain ⟨v5, hv5⟩ : ∃ v5, v5 = Value.slice none 0 0 := ⟨_, rfl⟩
  rw [← hv5] at ho5 hne5 hno5 hnf5 hQ5
  clear hv5
  refine ((Number_own k k rfl w5 (by omega))).mono ?_; rintro e_ w6 ⟨A6, c6, rfl, ho6, hb6⟩; dsimp only
  have hA6 := hA5.below hb6
  have hF6 := hF5.below hb6
  have hQ6 := hQ5.below hb6
  have hx6 := own_below ho5 hb6
  have hB6 := hB5.trans (hb6.mono hB5.size)
  clear hA5 hF5 hQ5 ho5 fo
  repeat' ((fail_if_success at_builtin); (fail_if_success at_make); (first | go_values | go_skip | go_guarded | go_step | go_upon | go_back))
  refine ((addO_ok A6 _ c6 (num k) 0 gb w.heap.size v5 ([]) _ rfl (by omega) ho6.rd hQ6 hx6 hbb (by simp only [List.length_append, List.length_nil]; omega) hne5)).mono ?_; rintro e_ w7 ⟨rfl, v7, hQ7, hx7, hne7, hb7, hs7, hk7⟩; dsimp only
  have hB7 := hB6.trans hb7
  have hko7 := hk7 g hA6.lt hgo hno5
  have hkf7 := hk7 gf hF6.lt hgf hnf5
  have hA7 : Arr w7 g 28 _ := hko7.1.trans hA6
  have hF7 : Arr w7 gf 61 _ := hkf7.1.trans hF6
  have hno7 := hko7.2
  have hnf7 := hkf7.2
  clear hk7 hko7 hkf7 hA6 hF6 hQ6 hx6 ho6 hb6 hb7
  have fo0 := hA7.cell (k := 0) rfl
  have fo1 := hA7.cell (k := 1) rfl
  have fo2 := hA7.cell (k := 2) rfl
  have fo3 := hA7.cell (k := 3) rfl
  have fo4 := hA7.cell (k := 4) rfl
  have ff0 := hF7.cell (k := 0) rfl
  have ff1 := hF7.cell (k := 1) rfl
  have ff2 := hF7.cell (k := 2) rfl
  have ff3 := hF7.cell (k := 3) rfl
  repeat' ((fail_if_success at_builtin); (fail_if_success at_make); (first | go_values | go_skip | go_guarded | go_step | go_upon | go_back))
  refine ((hBytes_of HSD.out HDG.out w7 (by rw [HSS.out]; have := HDLE.out; omega))).mono ?_; rintro e_ w8 ⟨A8, c8, rfl, ho8, hb8⟩; dsimp only
  have hA8 := hA7.below hb8
  have hF8 := hF7.below hb8
  have hQ8 := hQ7.below hb8
  have hx8 := own_below hx7 hb8
  have hB8 := hB7.trans (hb8.mono hB7.size)
  clear hA7 hF7 hQ7 hx7 fo0 fo1 fo2 fo3 fo4 ff0 ff1 ff2 ff3
  repeat' ((fail_if_success at_builtin); (fail_if_success at_make); (first | go_values | go_skip | go_guarded | go_step | go_upon | go_back))
  refine ((addO_ok A8 _ c8 ((hexB dig).1) 0 gb w.heap.size v7 (([] ++ num k)) _ rfl (by omega) ho8.rd hQ8 hx8 hbb (by simp only [List.length_append, List.length_nil]; omega) hne7)).mono ?_; rintro e_ w9 ⟨rfl, v9, hQ9, hx9, hne9, hb9, hs9, hk9⟩; dsimp only
  have hB9 := hB8.trans hb9
  have hko9 := hk9 g hA8.lt hgo hno7
  have hkf9 := hk9 gf hF8.lt hgf hnf7
  have hA9 : Arr w9 g 28 _ := hko9.1.trans hA8
  have hF9 : Arr w9 gf 61 _ := hkf9.1.trans hF8
  have hno9 := hko9.2
  have hnf9 := hkf9.2
  clear hk9 hko9 hkf9 hA8 hF8 hQ8 hx8 ho8 hb8 hb9
  have fo0 := hA9.cell (k := 0) rfl
  have fo1 := hA9.cell (k := 1) rfl
  have fo2 := hA9.cell (k := 2) rfl
  have fo3 := hA9.cell (k := 3) rfl
  have fo4 := hA9.cell (k := 4) rfl
  have ff0 := hF9.cell (k := 0) rfl
  have ff1 := hF9.cell (k := 1) rfl
  have ff2 := hF9.cell (k := 2) rfl
  have ff3 := hF9.cell (k := 3) rfl
  repeat' ((fail_if_success at_builtin); (fail_if_success at_make); (first | go_values | go_skip | go_guarded | go_step | go_upon | go_back))
  refine ((Encode_ok A' pl c' parts w9 HPL.out HC.out (HR.out.below hB9) HCH.out)).mono ?_; rintro e_ w10 ⟨A10, c10, rfl, ho10, hb10⟩; dsimp only
  have hA10 := hA9.below hb10
  have hF10 := hF9.below hb10
  have hQ10 := hQ9.below hb10
  have hx10 := own_below hx9 hb10
  have hB10 := hB9.trans (hb10.mono hB9.size)
  clear hA9 hF9 hQ9 hx9 fo0 fo1 fo2 fo3 fo4 ff0 ff1 ff2 ff3
  repeat' ((fail_if_success at_builtin); (fail_if_success at_make); (first | go_values | go_skip | go_guarded | go_step | go_upon | go_back))
  refine ((addO_ok A10 _ c10 (enc parts) 0 gb w.heap.size v9 ((([] ++ num k) ++ (hexB dig).1)) _ rfl (by omega) ho10.rd hQ10 hx10 hbb (by simp only [List.length_append, List.length_nil]; omega) hne9)).mono ?_; rintro e_ w11 ⟨rfl, v11, hQ11, hx11, hne11, hb11, hs11, hk11⟩; dsimp only
  have hB11 := hB10.trans hb11
  have hko11 := hk11 g hA10.lt hgo hno9
  have hkf11 := hk11 gf hF10.lt hgf hnf9
  have hA11 : Arr w11 g 28 _ := hko11.1.trans hA10
  have hF11 : Arr w11 gf 61 _ := hkf11.1.trans hF10
  have hno11 := hko11.2
  have hnf11 := hkf11.2
  clear hk11 hko11 hkf11 hA10 hF10 hQ10 hx10 ho10 hb10 hb11
  have ff0 := hF11.cell (k := 0) rfl
  have ff1 := hF11.cell (k := 1) rfl
  have ff2 := hF11.cell (k := 2) rfl
  have ff3 := hF11.cell (k := 3) rfl
  obtain ⟨Az, cz, hvz, hcz, hrz⟩ := Rd.of_own' hx11
  subst hvz
  have fq := hQ11.cell (k := 0) rfl
  rw [← HE.out] at hcz hrz fq
  have hEl : E.length ≤ 100000 := by rw [HE.out]; simp only [List.length_append, List.length_nil]; omega
  clear hx11 hQ11 hne11 hno11 hnf11
  repeat' ((fail_if_success at_builtin); (fail_if_success at_make); (first | go_values | go_skip | go_guarded | go_step | go_upon | go_back))
  refine ((Clone_ok Az _ cz E _ rfl hcz (by omega) hrz)).mono ?_; rintro e_ w12 ⟨v12, rfl, ho12, hb12⟩; dsimp only
  obtain ⟨Ay, cy, rfl, hoy⟩ := OwnB.of rfl ho12
  repeat' ((fail_if_success at_builtin); (fail_if_success at_make); (first | go_values | go_skip | go_guarded | go_step | go_upon | go_back))
  go_ret2
  exact ⟨Ay, cy, rfl, hoy.lower hB11.size, hB11.trans (hb12.mono hB11.size)⟩
set_option maxHeartbeats 4000000 in
theorem OEncode_f3 (k n : Nat) (dig data : List UInt8) (parts : List PartP) (A A' : Option Addr) (c c' dl pl : Nat) (w : World) (hff : fOf k = (⟨true, false, false, false⟩, true)) (hdl : data.length = dl) (hpl : parts.length = pl) (hc : pl ≤ c') (hr : Rd w 3 A' pl (pcs parts)) (hrd : Rd w 1 A dl (bys data)) (hn4 : n ≤ 4000) (ht3 : dl ≤ 300) (hch : chk parts = 0) (h2 : dig = []) (h3 : data = []) (h4 : parts = []) :
    Calls Try.prog 8 #[.agg #[.int .i64 (k : Int), .int .i64 (n : Int), .string ⟨dig.toArray⟩, .slice A dl c, .slice A' pl c']] w fun e w' => ∃ B d, e = .returned (.tuple #[.slice B (num k ++ encF ⟨true, false, false, false⟩ ⟨k, n, dig, data, parts⟩).length d, .int .i64 0]) ∧ OwnB 5 w.heap.size w' B d (num k ++ encF ⟨true, false, false, false⟩ ⟨k, n, dig, data, parts⟩) ∧ Below w.heap.size w w' := by
  have hk := fOf_le (k := k) (by rw [hff])
  have hz := chk_zero hch
  have hok := fine_partsO hch
  obtain ⟨S, hS⟩ : ∃ S : ByteArray, S = ⟨dig.toArray⟩ := ⟨_, rfl⟩
  have hSd : S.data.toList = dig := by rw [hS]
  have hSs : S.size = dig.length := by rw [hS]; simp [ByteArray.size]
  have hdle : dig.length ≤ 1000 := by rw [h2]; simp
  obtain ⟨w1, hw1⟩ : ∃ w1, w1 = w.alloc (.cells #[.int .i64 (k : Int), .int .i64 (n : Int), .string S, .slice A dl c, .slice A' pl c'] 28) := ⟨_, rfl⟩
  have hb1 : Below w.heap.size w w1 := by rw [hw1]; exact (Below.refl _ _).alloc (Nat.le_refl _) _
  have hr1 : Rd w1 3 A' pl (pcs parts) := by rw [hw1]; exact hr.alloc _
  have hA1 : Arr w1 w.heap.size 28 [.int .i64 (k : Int), .int .i64 (n : Int), .string S, .slice A dl c, .slice A' pl c'] := by rw [hw1]; exact Arr.new w 28 _
  have hck := OCheck_f3 k n dig data parts A A' c c' w1 hff (by omega) (by omega) (by omega) hok (by rw [hpl]; exact hr1) h2 h3 h4
  have hrs : rstC false n dig data parts = 0 := by rw [rstC, if_neg (by omega), if_neg (fun h => by cases h.1), if_neg (by omega), hch]
  rw [hrs, hdl, hpl, ← hS, show ((0 : Nat) : Int) = 0 from rfl] at hck
  rw [← hS]
  have HCK := Lib.hid hck
  have hof := fun w' => Of_ok k w'
  unfold OfAt at hof
  rw [hff] at hof
  simp only [fcs] at hof
  have HOF := Lib.hid hof
  have HW := Lib.hid hw1
  have HR := Lib.hid hr
  have HRD := Lib.hid hrd
  have HDL := Lib.hid hdl
  have HPL := Lib.hid hpl
  have HC := Lib.hid hc
  have HCH := Lib.hid hch
  have HSD := Lib.hid hSd
  have HSS := Lib.hid hSs
  have HDLE := Lib.hid hdle
  have HK := Lib.hid hk
  have hE : num k ++ encF ⟨true, false, false, false⟩ ⟨k, n, dig, data, parts⟩ = (([] ++ num k) ++ num n) := by simp [encF]
  have HE := Lib.hid hE
  have hl0 := num_le3 k (by omega)
  have hl1 := num_le3 n hn4
  have HN4 := Lib.hid hn4
  generalize num k ++ encF ⟨true, false, false, false⟩ ⟨k, n, dig, data, parts⟩ = E at *
  clear hE hck hrs hof hff hS hSd hSs hdle hz hok hch hr hrd hdl hpl hc hk hn4 hr1 hw1 h2 h3 h4
  go_enter Try.func8, Try.ntmps8
  repeat' ((fail_if_success at_builtin); (fail_if_success at_make); (first | go_values | go_skip | go_guarded | go_step | go_upon | go_back))
  rw [← HW.out]
  obtain ⟨g, hg⟩ : ∃ g, g = w.heap.size := ⟨_, rfl⟩
  have hgw : w.heap.size ≤ g := by omega
  rw [← hg] at hA1 ⊢
  clear hg
  refine ((HCK.out)).mono ?_; rintro e_ w2 ⟨rfl, hb2⟩; dsimp only
  have hB2 := hb1.trans (hb2.mono hb1.size)
  have hA2 := hA1.below hb2
  have f0 := hA2.cell (k := 0) rfl
  clear hA1 hb1 hb2
  repeat' ((fail_if_success at_builtin); (fail_if_success at_make); (first | go_values | go_skip | go_guarded | go_step | go_upon | go_back))
  refine (((HOF.out w2))).mono ?_; rintro e_ w3 ⟨rfl, hb3⟩; dsimp only
  have hB3 := hB2.trans (hb3.mono hB2.size)
  have hA3 := hA2.below hb3
  clear f0 hA2 hB2 hb3
  have hs3 := hB3.size
  have hB4 := hB3.alloc hs3 (.cells #[.bool true, .bool false, .bool false, .bool false] 61)
  have hA4 := hA3.alloc (.cells #[.bool true, .bool false, .bool false, .bool false] 61)
  have hF4 : Arr (w3.alloc (.cells #[.bool true, .bool false, .bool false, .bool false] 61)) w3.heap.size 61 [.bool true, .bool false, .bool false, .bool false] := Arr.new w3 61 _
  have hs4 : (w3.alloc (.cells #[.bool true, .bool false, .bool false, .bool false] 61)).heap.size = w3.heap.size + 1 := World.size_alloc _ _
  have hB5 := hB4.alloc hB4.size (.cells #[.slice none 0 0] 25)
  have hA5 := hA4.alloc (.cells #[.slice none 0 0] 25)
  have hF5 := hF4.alloc (.cells #[.slice none 0 0] 25)
  have hQ5 := Arr.new (w3.alloc (.cells #[.bool true, .bool false, .bool false, .bool false] 61)) 25 [.slice none 0 0]
  rw [hs4] at hQ5
  have hlt := hA3.lt
  have fo := hA5.cell (k := 0) rfl
  clear hA3 hA4 hF4 hB3 hB4
  repeat' ((fail_if_success at_builtin); (fail_if_success at_make); (first | go_values | go_skip | go_guarded | go_step | go_upon | go_back))
  change Calls _ _ _ ((w3.alloc (.cells #[.bool true, .bool false, .bool false, .bool false] 61)).alloc (.cells [Value.slice none 0 0].toArray 25)) _
  change Below w.heap.size w ((w3.alloc (.cells #[.bool true, .bool false, .bool false, .bool false] 61)).alloc (.cells [Value.slice none 0 0].toArray 25)) at hB5
  change Arr ((w3.alloc (.cells #[.bool true, .bool false, .bool false, .bool false] 61)).alloc (.cells [Value.slice none 0 0].toArray 25)) _ _ _ at hA5
  change Arr ((w3.alloc (.cells #[.bool true, .bool false, .bool false, .bool false] 61)).alloc (.cells [Value.slice none 0 0].toArray 25)) _ _ _ at hF5
  change ((w3.alloc (.cells #[.bool true, .bool false, .bool false, .bool false] 61)).alloc (.cells [Value.slice none 0 0].toArray 25)).cell? _ = _ at fo
  generalize ((w3.alloc (.cells #[.bool true, .bool false, .bool false, .bool false] 61)).alloc (.cells [Value.slice none 0 0].toArray 25)) = w5 at *
  generalize w3.heap.size = gf at *
  clear hs4
  generalize hgb : gf + 1 = gb at *
  have hgo : g ≠ gb := by omega
  have hgf : gf ≠ gb := by omega
  have hbb : w.heap.size ≤ gb := by omega
  clear hgb
  have hk14 := HK.out
  have ho5 : w5.ownsRow w.heap.size 5 1 (.slice none 0 0) ([] : List UInt8).length (bys []) := World.ownsRow_nil _ _ _ _
  have hne5 : (Value.slice none 0 0).ownBlock ≠ some gb := by simp [Value.ownBlock]
  have hno5 : (Value.slice none 0 0).ownBlock ≠ some g := by simp [Value.ownBlock]
  have hnf5 : (Value.slice none 0 0).ownBlock ≠ some gf := by simp [Value.ownBlock]
  obtain ⟨v5, hv5⟩ : ∃ v5, v5 = Value.slice none 0 0 := ⟨_, rfl⟩
  rw [← hv5] at ho5 hne5 hno5 hnf5 hQ5
  clear hv5
  refine ((Number_own k k rfl w5 (by omega))).mono ?_; rintro e_ w6 ⟨A6, c6, rfl, ho6, hb6⟩; dsimp only
  have hA6 := hA5.below hb6
  have hF6 := hF5.below hb6
  have hQ6 := hQ5.below hb6
  have hx6 := own_below ho5 hb6
  have hB6 := hB5.trans (hb6.mono hB5.size)
  clear hA5 hF5 hQ5 ho5 fo
  repeat' ((fail_if_success at_builtin); (fail_if_success at_make); (first | go_values | go_skip | go_guarded | go_step | go_upon | go_back))
  refine ((addO_ok A6 _ c6 (num k) 0 gb w.heap.size v5 ([]) _ rfl (by omega) ho6.rd hQ6 hx6 hbb (by simp only [List.length_append, List.length_nil]; omega) hne5)).mono ?_; rintro e_ w7 ⟨rfl, v7, hQ7, hx7, hne7, hb7, hs7, hk7⟩; dsimp only
  have hB7 := hB6.trans hb7
  have hko7 := hk7 g hA6.lt hgo hno5
  have hkf7 := hk7 gf hF6.lt hgf hnf5
  have hA7 : Arr w7 g 28 _ := hko7.1.trans hA6
  have hF7 : Arr w7 gf 61 _ := hkf7.1.trans hF6
  have hno7 := hko7.2
  have hnf7 := hkf7.2
  clear hk7 hko7 hkf7 hA6 hF6 hQ6 hx6 ho6 hb6 hb7
  have fo0 := hA7.cell (k := 0) rfl
  have fo1 := hA7.cell (k := 1) rfl
  have fo2 := hA7.cell (k := 2) rfl
  have fo3 := hA7.cell (k := 3) rfl
  have fo4 := hA7.cell (k := 4) rfl
  have ff0 := hF7.cell (k := 0) rfl
  have ff1 := hF7.cell (k := 1) rfl
  have ff2 := hF7.cell (k := 2) rfl
  have ff3 := hF7.cell (k := 3) rfl
  repeat' ((fail_if_success at_builtin); (fail_if_success at_make); (first | go_values | go_skip | go_guarded | go_step | go_upon | go_back))
  refine ((Number_own n n rfl w7 (by have := HN4.out; omega))).mono ?_; rintro e_ w8 ⟨A8, c8, rfl, ho8, hb8⟩; dsimp only
  have hA8 := hA7.below hb8
  have hF8 := hF7.below hb8
  have hQ8 := hQ7.below hb8
  have hx8 := own_below hx7 hb8
  have hB8 := hB7.trans (hb8.mono hB7.size)
  clear hA7 hF7 hQ7 hx7 fo0 fo1 fo2 fo3 fo4 ff0 ff1 ff2 ff3
  repeat' ((fail_if_success at_builtin); (fail_if_success at_make); (first | go_values | go_skip | go_guarded | go_step | go_upon | go_back))
  refine ((addO_ok A8 _ c8 (num n) 0 gb w.heap.size v7 (([] ++ num k)) _ rfl (by omega) ho8.rd hQ8 hx8 hbb (by simp only [List.length_append, List.length_nil]; omega) hne7)).mono ?_; rintro e_ w9 ⟨rfl, v9, hQ9, hx9, hne9, hb9, hs9, hk9⟩; dsimp only
  have hB9 := hB8.trans hb9
  have hko9 := hk9 g hA8.lt hgo hno7
  have hkf9 := hk9 gf hF8.lt hgf hnf7
  have hA9 : Arr w9 g 28 _ := hko9.1.trans hA8
  have hF9 : Arr w9 gf 61 _ := hkf9.1.trans hF8
  have hno9 := hko9.2
  have hnf9 := hkf9.2
  clear hk9 hko9 hkf9 hA8 hF8 hQ8 hx8 ho8 hb8 hb9
  have ff0 := hF9.cell (k := 0) rfl
  have ff1 := hF9.cell (k := 1) rfl
  have ff2 := hF9.cell (k := 2) rfl
  have ff3 := hF9.cell (k := 3) rfl
  obtain ⟨Az, cz, hvz, hcz, hrz⟩ := Rd.of_own' hx9
  subst hvz
  have fq := hQ9.cell (k := 0) rfl
  rw [← HE.out] at hcz hrz fq
  have hEl : E.length ≤ 100000 := by rw [HE.out]; simp only [List.length_append, List.length_nil]; omega
  clear hx9 hQ9 hne9 hno9 hnf9
  repeat' ((fail_if_success at_builtin); (fail_if_success at_make); (first | go_values | go_skip | go_guarded | go_step | go_upon | go_back))
  refine ((Clone_ok Az _ cz E _ rfl hcz (by omega) hrz)).mono ?_; rintro e_ w10 ⟨v10, rfl, ho10, hb10⟩; dsimp only
  obtain ⟨Ay, cy, rfl, hoy⟩ := OwnB.of rfl ho10
  repeat' ((fail_if_success at_builtin); (fail_if_success at_make); (first | go_values | go_skip | go_guarded | go_step | go_upon | go_back))
  go_ret2
  exact ⟨Ay, cy, rfl, hoy.lower hB9.size, hB9.trans (hb10.mono hB9.size)⟩
set_option maxHeartbeats 4000000 in
theorem OEncode_f4 (k n : Nat) (dig data : List UInt8) (parts : List PartP) (A A' : Option Addr) (c c' dl pl : Nat) (w : World) (hff : fOf k = (⟨false, false, false, false⟩, true)) (hdl : data.length = dl) (hpl : parts.length = pl) (hc : pl ≤ c') (hr : Rd w 3 A' pl (pcs parts)) (hrd : Rd w 1 A dl (bys data)) (hn4 : n ≤ 4000) (ht3 : dl ≤ 300) (hch : chk parts = 0) (h2 : dig = []) (h1 : n = 0) (h3 : data = []) (h4 : parts = []) :
    Calls Try.prog 8 #[.agg #[.int .i64 (k : Int), .int .i64 (n : Int), .string ⟨dig.toArray⟩, .slice A dl c, .slice A' pl c']] w fun e w' => ∃ B d, e = .returned (.tuple #[.slice B (num k ++ encF ⟨false, false, false, false⟩ ⟨k, n, dig, data, parts⟩).length d, .int .i64 0]) ∧ OwnB 5 w.heap.size w' B d (num k ++ encF ⟨false, false, false, false⟩ ⟨k, n, dig, data, parts⟩) ∧ Below w.heap.size w w' := by
  have hk := fOf_le (k := k) (by rw [hff])
  have hz := chk_zero hch
  have hok := fine_partsO hch
  obtain ⟨S, hS⟩ : ∃ S : ByteArray, S = ⟨dig.toArray⟩ := ⟨_, rfl⟩
  have hSd : S.data.toList = dig := by rw [hS]
  have hSs : S.size = dig.length := by rw [hS]; simp [ByteArray.size]
  have hdle : dig.length ≤ 1000 := by rw [h2]; simp
  obtain ⟨w1, hw1⟩ : ∃ w1, w1 = w.alloc (.cells #[.int .i64 (k : Int), .int .i64 (n : Int), .string S, .slice A dl c, .slice A' pl c'] 28) := ⟨_, rfl⟩
  have hb1 : Below w.heap.size w w1 := by rw [hw1]; exact (Below.refl _ _).alloc (Nat.le_refl _) _
  have hr1 : Rd w1 3 A' pl (pcs parts) := by rw [hw1]; exact hr.alloc _
  have hA1 : Arr w1 w.heap.size 28 [.int .i64 (k : Int), .int .i64 (n : Int), .string S, .slice A dl c, .slice A' pl c'] := by rw [hw1]; exact Arr.new w 28 _
  have hck := OCheck_f4 k n dig data parts A A' c c' w1 hff (by omega) (by omega) (by omega) hok (by rw [hpl]; exact hr1) h1 h2 h3 h4
  have hrs : rstC false n dig data parts = 0 := by rw [rstC, if_neg (by omega), if_neg (fun h => by cases h.1), if_neg (by omega), hch]
  rw [hrs, hdl, hpl, ← hS, show ((0 : Nat) : Int) = 0 from rfl] at hck
  rw [← hS]
  have HCK := Lib.hid hck
  have hof := fun w' => Of_ok k w'
  unfold OfAt at hof
  rw [hff] at hof
  simp only [fcs] at hof
  have HOF := Lib.hid hof
  have HW := Lib.hid hw1
  have HR := Lib.hid hr
  have HRD := Lib.hid hrd
  have HDL := Lib.hid hdl
  have HPL := Lib.hid hpl
  have HC := Lib.hid hc
  have HCH := Lib.hid hch
  have HSD := Lib.hid hSd
  have HSS := Lib.hid hSs
  have HDLE := Lib.hid hdle
  have HK := Lib.hid hk
  have hE : num k ++ encF ⟨false, false, false, false⟩ ⟨k, n, dig, data, parts⟩ = ([] ++ num k) := by simp [encF]
  have HE := Lib.hid hE
  have hl0 := num_le3 k (by omega)
  have hl1 := num_le3 n hn4
  have HN4 := Lib.hid hn4
  generalize num k ++ encF ⟨false, false, false, false⟩ ⟨k, n, dig, data, parts⟩ = E at *
  clear hE hck hrs hof hff hS hSd hSs hdle hz hok hch hr hrd hdl hpl hc hk hn4 hr1 hw1 h2 h1 h3 h4
  go_enter Try.func8, Try.ntmps8
  repeat' ((fail_if_success at_builtin); (fail_if_success at_make); (first | go_values | go_skip | go_guarded | go_step | go_upon | go_back))
  rw [← HW.out]
  obtain ⟨g, hg⟩ : ∃ g, g = w.heap.size := ⟨_, rfl⟩
  have hgw : w.heap.size ≤ g := by omega
  rw [← hg] at hA1 ⊢
  clear hg
  refine ((HCK.out)).mono ?_; rintro e_ w2 ⟨rfl, hb2⟩; dsimp only
  have hB2 := hb1.trans (hb2.mono hb1.size)
  have hA2 := hA1.below hb2
  have f0 := hA2.cell (k := 0) rfl
  clear hA1 hb1 hb2
  repeat' ((fail_if_success at_builtin); (fail_if_success at_make); (first | go_values | go_skip | go_guarded | go_step | go_upon | go_back))
  refine (((HOF.out w2))).mono ?_; rintro e_ w3 ⟨rfl, hb3⟩; dsimp only
  have hB3 := hB2.trans (hb3.mono hB2.size)
  have hA3 := hA2.below hb3
  clear f0 hA2 hB2 hb3
  have hs3 := hB3.size
  have hB4 := hB3.alloc hs3 (.cells #[.bool false, .bool false, .bool false, .bool false] 61)
  have hA4 := hA3.alloc (.cells #[.bool false, .bool false, .bool false, .bool false] 61)
  have hF4 : Arr (w3.alloc (.cells #[.bool false, .bool false, .bool false, .bool false] 61)) w3.heap.size 61 [.bool false, .bool false, .bool false, .bool false] := Arr.new w3 61 _
  have hs4 : (w3.alloc (.cells #[.bool false, .bool false, .bool false, .bool false] 61)).heap.size = w3.heap.size + 1 := World.size_alloc _ _
  have hB5 := hB4.alloc hB4.size (.cells #[.slice none 0 0] 25)
  have hA5 := hA4.alloc (.cells #[.slice none 0 0] 25)
  have hF5 := hF4.alloc (.cells #[.slice none 0 0] 25)
  have hQ5 := Arr.new (w3.alloc (.cells #[.bool false, .bool false, .bool false, .bool false] 61)) 25 [.slice none 0 0]
  rw [hs4] at hQ5
  have hlt := hA3.lt
  have fo := hA5.cell (k := 0) rfl
  clear hA3 hA4 hF4 hB3 hB4
  repeat' ((fail_if_success at_builtin); (fail_if_success at_make); (first | go_values | go_skip | go_guarded | go_step | go_upon | go_back))
  change Calls _ _ _ ((w3.alloc (.cells #[.bool false, .bool false, .bool false, .bool false] 61)).alloc (.cells [Value.slice none 0 0].toArray 25)) _
  change Below w.heap.size w ((w3.alloc (.cells #[.bool false, .bool false, .bool false, .bool false] 61)).alloc (.cells [Value.slice none 0 0].toArray 25)) at hB5
  change Arr ((w3.alloc (.cells #[.bool false, .bool false, .bool false, .bool false] 61)).alloc (.cells [Value.slice none 0 0].toArray 25)) _ _ _ at hA5
  change Arr ((w3.alloc (.cells #[.bool false, .bool false, .bool false, .bool false] 61)).alloc (.cells [Value.slice none 0 0].toArray 25)) _ _ _ at hF5
  change ((w3.alloc (.cells #[.bool false, .bool false, .bool false, .bool false] 61)).alloc (.cells [Value.slice none 0 0].toArray 25)).cell? _ = _ at fo
  generalize ((w3.alloc (.cells #[.bool false, .bool false, .bool false, .bool false] 61)).alloc (.cells [Value.slice none 0 0].toArray 25)) = w5 at *
  generalize w3.heap.size = gf at *
  clear hs4
  generalize hgb : gf + 1 = gb at *
  have hgo : g ≠ gb := by omega
  have hgf : gf ≠ gb := by omega
  have hbb : w.heap.size ≤ gb := by omega
  clear hgb
  have hk14 := HK.out
  have ho5 : w5.ownsRow w.heap.size 5 1 (.slice none 0 0) ([] : List UInt8).length (bys []) := World.ownsRow_nil _ _ _ _
  have hne5 : (Value.slice none 0 0).ownBlock ≠ some gb := by simp [Value.ownBlock]
  have hno5 : (Value.slice none 0 0).ownBlock ≠ some g := by simp [Value.ownBlock]
  have hnf5 : (Value.slice none 0 0).ownBlock ≠ some gf := by simp [Value.ownBlock]
  obtain ⟨v5, hv5⟩ : ∃ v5, v5 = Value.slice none 0 0 := ⟨_, rfl⟩
  rw [← hv5] at ho5 hne5 hno5 hnf5 hQ5
  clear hv5
  refine ((Number_own k k rfl w5 (by omega))).mono ?_; rintro e_ w6 ⟨A6, c6, rfl, ho6, hb6⟩; dsimp only
  have hA6 := hA5.below hb6
  have hF6 := hF5.below hb6
  have hQ6 := hQ5.below hb6
  have hx6 := own_below ho5 hb6
  have hB6 := hB5.trans (hb6.mono hB5.size)
  clear hA5 hF5 hQ5 ho5 fo
  repeat' ((fail_if_success at_builtin); (fail_if_success at_make); (first | go_values | go_skip | go_guarded | go_step | go_upon | go_back))
  refine ((addO_ok A6 _ c6 (num k) 0 gb w.heap.size v5 ([]) _ rfl (by omega) ho6.rd hQ6 hx6 hbb (by simp only [List.length_append, List.length_nil]; omega) hne5)).mono ?_; rintro e_ w7 ⟨rfl, v7, hQ7, hx7, hne7, hb7, hs7, hk7⟩; dsimp only
  have hB7 := hB6.trans hb7
  have hko7 := hk7 g hA6.lt hgo hno5
  have hkf7 := hk7 gf hF6.lt hgf hnf5
  have hA7 : Arr w7 g 28 _ := hko7.1.trans hA6
  have hF7 : Arr w7 gf 61 _ := hkf7.1.trans hF6
  have hno7 := hko7.2
  have hnf7 := hkf7.2
  clear hk7 hko7 hkf7 hA6 hF6 hQ6 hx6 ho6 hb6 hb7
  have ff0 := hF7.cell (k := 0) rfl
  have ff1 := hF7.cell (k := 1) rfl
  have ff2 := hF7.cell (k := 2) rfl
  have ff3 := hF7.cell (k := 3) rfl
  obtain ⟨Az, cz, hvz, hcz, hrz⟩ := Rd.of_own' hx7
  subst hvz
  have fq := hQ7.cell (k := 0) rfl
  rw [← HE.out] at hcz hrz fq
  have hEl : E.length ≤ 100000 := by rw [HE.out]; simp only [List.length_append, List.length_nil]; omega
  clear hx7 hQ7 hne7 hno7 hnf7
  repeat' ((fail_if_success at_builtin); (fail_if_success at_make); (first | go_values | go_skip | go_guarded | go_step | go_upon | go_back))
  refine ((Clone_ok Az _ cz E _ rfl hcz (by omega) hrz)).mono ?_; rintro e_ w8 ⟨v8, rfl, ho8, hb8⟩; dsimp only
  obtain ⟨Ay, cy, rfl, hoy⟩ := OwnB.of rfl ho8
  repeat' ((fail_if_success at_builtin); (fail_if_success at_make); (first | go_values | go_skip | go_guarded | go_step | go_upon | go_back))
  go_ret2
  exact ⟨Ay, cy, rfl, hoy.lower hB7.size, hB7.trans (hb8.mono hB7.size)⟩
set_option maxHeartbeats 4000000 in
theorem OEncode_f5 (k n : Nat) (dig data : List UInt8) (parts : List PartP) (A A' : Option Addr) (c c' dl pl : Nat) (w : World) (hff : fOf k = (⟨true, true, false, false⟩, true)) (hdl : data.length = dl) (hpl : parts.length = pl) (hc : pl ≤ c') (hr : Rd w 3 A' pl (pcs parts)) (hrd : Rd w 1 A dl (bys data)) (hn4 : n ≤ 4000) (ht3 : dl ≤ 300) (hch : chk parts = 0) (hdg : hexC dig = 0) (h3 : data = []) (h4 : parts = []) :
    Calls Try.prog 8 #[.agg #[.int .i64 (k : Int), .int .i64 (n : Int), .string ⟨dig.toArray⟩, .slice A dl c, .slice A' pl c']] w fun e w' => ∃ B d, e = .returned (.tuple #[.slice B (num k ++ encF ⟨true, true, false, false⟩ ⟨k, n, dig, data, parts⟩).length d, .int .i64 0]) ∧ OwnB 5 w.heap.size w' B d (num k ++ encF ⟨true, true, false, false⟩ ⟨k, n, dig, data, parts⟩) ∧ Below w.heap.size w w' := by
  have hk := fOf_le (k := k) (by rw [hff])
  have hz := chk_zero hch
  have hok := fine_partsO hch
  obtain ⟨S, hS⟩ : ∃ S : ByteArray, S = ⟨dig.toArray⟩ := ⟨_, rfl⟩
  have hSd : S.data.toList = dig := by rw [hS]
  have hSs : S.size = dig.length := by rw [hS]; simp [ByteArray.size]
  have hdle : dig.length ≤ 1000 := by rw [dig64 hdg]; omega
  obtain ⟨w1, hw1⟩ : ∃ w1, w1 = w.alloc (.cells #[.int .i64 (k : Int), .int .i64 (n : Int), .string S, .slice A dl c, .slice A' pl c'] 28) := ⟨_, rfl⟩
  have hb1 : Below w.heap.size w w1 := by rw [hw1]; exact (Below.refl _ _).alloc (Nat.le_refl _) _
  have hr1 : Rd w1 3 A' pl (pcs parts) := by rw [hw1]; exact hr.alloc _
  have hA1 : Arr w1 w.heap.size 28 [.int .i64 (k : Int), .int .i64 (n : Int), .string S, .slice A dl c, .slice A' pl c'] := by rw [hw1]; exact Arr.new w 28 _
  have hck := OCheck_f5 k n dig data parts A A' c c' w1 hff (by omega) (by omega) (by omega) hok (by rw [hpl]; exact hr1) h3 h4
  have hrs : rstC true n dig data parts = 0 := by rw [rstC, if_neg (by omega), if_neg (fun h => h.2 hdg), if_neg (by omega), hch]
  rw [hrs, hdl, hpl, ← hS, show ((0 : Nat) : Int) = 0 from rfl] at hck
  rw [← hS]
  have HCK := Lib.hid hck
  have hof := fun w' => Of_ok k w'
  unfold OfAt at hof
  rw [hff] at hof
  simp only [fcs] at hof
  have HOF := Lib.hid hof
  have HW := Lib.hid hw1
  have HR := Lib.hid hr
  have HRD := Lib.hid hrd
  have HDL := Lib.hid hdl
  have HPL := Lib.hid hpl
  have HC := Lib.hid hc
  have HCH := Lib.hid hch
  have HSD := Lib.hid hSd
  have HSS := Lib.hid hSs
  have HDLE := Lib.hid hdle
  have HK := Lib.hid hk
  have hE : num k ++ encF ⟨true, true, false, false⟩ ⟨k, n, dig, data, parts⟩ = ((([] ++ num k) ++ num n) ++ (hexB dig).1) := by simp [encF]
  have HE := Lib.hid hE
  have HDG := Lib.hid hdg
  have hl2 := Nat.le_of_eq (hexC_zero hdg).2
  have hl2' := Nat.le_of_eq (hexC_zero hdg).2.symm
  have hl0 := num_le3 k (by omega)
  have hl1 := num_le3 n hn4
  have HN4 := Lib.hid hn4
  generalize num k ++ encF ⟨true, true, false, false⟩ ⟨k, n, dig, data, parts⟩ = E at *
  clear hE hck hrs hof hff hS hSd hSs hdle hz hok hch hr hrd hdl hpl hc hk hn4 hr1 hw1 hdg h3 h4
  go_enter Try.func8, Try.ntmps8
  repeat' ((fail_if_success at_builtin); (fail_if_success at_make); (first | go_values | go_skip | go_guarded | go_step | go_upon | go_back))
  rw [← HW.out]
  obtain ⟨g, hg⟩ : ∃ g, g = w.heap.size := ⟨_, rfl⟩
  have hgw : w.heap.size ≤ g := by omega
  rw [← hg] at hA1 ⊢
  clear hg
  refine ((HCK.out)).mono ?_; rintro e_ w2 ⟨rfl, hb2⟩; dsimp only
  have hB2 := hb1.trans (hb2.mono hb1.size)
  have hA2 := hA1.below hb2
  have f0 := hA2.cell (k := 0) rfl
  clear hA1 hb1 hb2
  repeat' ((fail_if_success at_builtin); (fail_if_success at_make); (first | go_values | go_skip | go_guarded | go_step | go_upon | go_back))
  refine (((HOF.out w2))).mono ?_; rintro e_ w3 ⟨rfl, hb3⟩; dsimp only
  have hB3 := hB2.trans (hb3.mono hB2.size)
  have hA3 := hA2.below hb3
  clear f0 hA2 hB2 hb3
  have hs3 := hB3.size
  have hB4 := hB3.alloc hs3 (.cells #[.bool true, .bool true, .bool false, .bool false] 61)
  have hA4 := hA3.alloc (.cells #[.bool true, .bool true, .bool false, .bool false] 61)
  have hF4 : Arr (w3.alloc (.cells #[.bool true, .bool true, .bool false, .bool false] 61)) w3.heap.size 61 [.bool true, .bool true, .bool false, .bool false] := Arr.new w3 61 _
  have hs4 : (w3.alloc (.cells #[.bool true, .bool true, .bool false, .bool false] 61)).heap.size = w3.heap.size + 1 := World.size_alloc _ _
  have hB5 := hB4.alloc hB4.size (.cells #[.slice none 0 0] 25)
  have hA5 := hA4.alloc (.cells #[.slice none 0 0] 25)
  have hF5 := hF4.alloc (.cells #[.slice none 0 0] 25)
  have hQ5 := Arr.new (w3.alloc (.cells #[.bool true, .bool true, .bool false, .bool false] 61)) 25 [.slice none 0 0]
  rw [hs4] at hQ5
  have hlt := hA3.lt
  have fo := hA5.cell (k := 0) rfl
  clear hA3 hA4 hF4 hB3 hB4
  repeat' ((fail_if_success at_builtin); (fail_if_success at_make); (first | go_values | go_skip | go_guarded | go_step | go_upon | go_back))
  change Calls _ _ _ ((w3.alloc (.cells #[.bool true, .bool true, .bool false, .bool false] 61)).alloc (.cells [Value.slice none 0 0].toArray 25)) _
  change Below w.heap.size w ((w3.alloc (.cells #[.bool true, .bool true, .bool false, .bool false] 61)).alloc (.cells [Value.slice none 0 0].toArray 25)) at hB5
  change Arr ((w3.alloc (.cells #[.bool true, .bool true, .bool false, .bool false] 61)).alloc (.cells [Value.slice none 0 0].toArray 25)) _ _ _ at hA5
  change Arr ((w3.alloc (.cells #[.bool true, .bool true, .bool false, .bool false] 61)).alloc (.cells [Value.slice none 0 0].toArray 25)) _ _ _ at hF5
  change ((w3.alloc (.cells #[.bool true, .bool true, .bool false, .bool false] 61)).alloc (.cells [Value.slice none 0 0].toArray 25)).cell? _ = _ at fo
  generalize ((w3.alloc (.cells #[.bool true, .bool true, .bool false, .bool false] 61)).alloc (.cells [Value.slice none 0 0].toArray 25)) = w5 at *
  generalize w3.heap.size = gf at *
  clear hs4
  generalize hgb : gf + 1 = gb at *
  have hgo : g ≠ gb := by omega
  have hgf : gf ≠ gb := by omega
  have hbb : w.heap.size ≤ gb := by omega
  clear hgb
  have hk14 := HK.out
  have ho5 : w5.ownsRow w.heap.size 5 1 (.slice none 0 0) ([] : List UInt8).length (bys []) := World.ownsRow_nil _ _ _ _
  have hne5 : (Value.slice none 0 0).ownBlock ≠ some gb := by simp [Value.ownBlock]
  have hno5 : (Value.slice none 0 0).ownBlock ≠ some g := by simp [Value.ownBlock]
  have hnf5 : (Value.slice none 0 0).ownBlock ≠ some gf := by simp [Value.ownBlock]
  obtain ⟨v5, hv5⟩ : ∃ v5, v5 = Value.slice none 0 0 := ⟨_, rfl⟩
  rw [← hv5] at ho5 hne5 hno5 hnf5 hQ5
  clear hv5
  refine ((Number_own k k rfl w5 (by omega))).mono ?_; rintro e_ w6 ⟨A6, c6, rfl, ho6, hb6⟩; dsimp only
  have hA6 := hA5.below hb6
  have hF6 := hF5.below hb6
  have hQ6 := hQ5.below hb6
  have hx6 := own_below ho5 hb6
  have hB6 := hB5.trans (hb6.mono hB5.size)
  clear hA5 hF5 hQ5 ho5 fo
  repeat' ((fail_if_success at_builtin); (fail_if_success at_make); (first | go_values | go_skip | go_guarded | go_step | go_upon | go_back))
  refine ((addO_ok A6 _ c6 (num k) 0 gb w.heap.size v5 ([]) _ rfl (by omega) ho6.rd hQ6 hx6 hbb (by simp only [List.length_append, List.length_nil]; omega) hne5)).mono ?_; rintro e_ w7 ⟨rfl, v7, hQ7, hx7, hne7, hb7, hs7, hk7⟩; dsimp only
  have hB7 := hB6.trans hb7
  have hko7 := hk7 g hA6.lt hgo hno5
  have hkf7 := hk7 gf hF6.lt hgf hnf5
  have hA7 : Arr w7 g 28 _ := hko7.1.trans hA6
  have hF7 : Arr w7 gf 61 _ := hkf7.1.trans hF6
  have hno7 := hko7.2
  have hnf7 := hkf7.2
  clear hk7 hko7 hkf7 hA6 hF6 hQ6 hx6 ho6 hb6 hb7
  have fo0 := hA7.cell (k := 0) rfl
  have fo1 := hA7.cell (k := 1) rfl
  have fo2 := hA7.cell (k := 2) rfl
  have fo3 := hA7.cell (k := 3) rfl
  have fo4 := hA7.cell (k := 4) rfl
  have ff0 := hF7.cell (k := 0) rfl
  have ff1 := hF7.cell (k := 1) rfl
  have ff2 := hF7.cell (k := 2) rfl
  have ff3 := hF7.cell (k := 3) rfl
  repeat' ((fail_if_success at_builtin); (fail_if_success at_make); (first | go_values | go_skip | go_guarded | go_step | go_upon | go_back))
  refine ((Number_own n n rfl w7 (by have := HN4.out; omega))).mono ?_; rintro e_ w8 ⟨A8, c8, rfl, ho8, hb8⟩; dsimp only
  have hA8 := hA7.below hb8
  have hF8 := hF7.below hb8
  have hQ8 := hQ7.below hb8
  have hx8 := own_below hx7 hb8
  have hB8 := hB7.trans (hb8.mono hB7.size)
  clear hA7 hF7 hQ7 hx7 fo0 fo1 fo2 fo3 fo4 ff0 ff1 ff2 ff3
  repeat' ((fail_if_success at_builtin); (fail_if_success at_make); (first | go_values | go_skip | go_guarded | go_step | go_upon | go_back))
  refine ((addO_ok A8 _ c8 (num n) 0 gb w.heap.size v7 (([] ++ num k)) _ rfl (by omega) ho8.rd hQ8 hx8 hbb (by simp only [List.length_append, List.length_nil]; omega) hne7)).mono ?_; rintro e_ w9 ⟨rfl, v9, hQ9, hx9, hne9, hb9, hs9, hk9⟩; dsimp only
  have hB9 := hB8.trans hb9
  have hko9 := hk9 g hA8.lt hgo hno7
  have hkf9 := hk9 gf hF8.lt hgf hnf7
  have hA9 : Arr w9 g 28 _ := hko9.1.trans hA8
  have hF9 : Arr w9 gf 61 _ := hkf9.1.trans hF8
  have hno9 := hko9.2
  have hnf9 := hkf9.2
  clear hk9 hko9 hkf9 hA8 hF8 hQ8 hx8 ho8 hb8 hb9
  have fo0 := hA9.cell (k := 0) rfl
  have fo1 := hA9.cell (k := 1) rfl
  have fo2 := hA9.cell (k := 2) rfl
  have fo3 := hA9.cell (k := 3) rfl
  have fo4 := hA9.cell (k := 4) rfl
  have ff0 := hF9.cell (k := 0) rfl
  have ff1 := hF9.cell (k := 1) rfl
  have ff2 := hF9.cell (k := 2) rfl
  have ff3 := hF9.cell (k := 3) rfl
  repeat' ((fail_if_success at_builtin); (fail_if_success at_make); (first | go_values | go_skip | go_guarded | go_step | go_upon | go_back))
  refine ((hBytes_of HSD.out HDG.out w9 (by rw [HSS.out]; have := HDLE.out; omega))).mono ?_; rintro e_ w10 ⟨A10, c10, rfl, ho10, hb10⟩; dsimp only
  have hA10 := hA9.below hb10
  have hF10 := hF9.below hb10
  have hQ10 := hQ9.below hb10
  have hx10 := own_below hx9 hb10
  have hB10 := hB9.trans (hb10.mono hB9.size)
  clear hA9 hF9 hQ9 hx9 fo0 fo1 fo2 fo3 fo4 ff0 ff1 ff2 ff3
  repeat' ((fail_if_success at_builtin); (fail_if_success at_make); (first | go_values | go_skip | go_guarded | go_step | go_upon | go_back))
  refine ((addO_ok A10 _ c10 ((hexB dig).1) 0 gb w.heap.size v9 ((([] ++ num k) ++ num n)) _ rfl (by omega) ho10.rd hQ10 hx10 hbb (by simp only [List.length_append, List.length_nil]; omega) hne9)).mono ?_; rintro e_ w11 ⟨rfl, v11, hQ11, hx11, hne11, hb11, hs11, hk11⟩; dsimp only
  have hB11 := hB10.trans hb11
  have hko11 := hk11 g hA10.lt hgo hno9
  have hkf11 := hk11 gf hF10.lt hgf hnf9
  have hA11 : Arr w11 g 28 _ := hko11.1.trans hA10
  have hF11 : Arr w11 gf 61 _ := hkf11.1.trans hF10
  have hno11 := hko11.2
  have hnf11 := hkf11.2
  clear hk11 hko11 hkf11 hA10 hF10 hQ10 hx10 ho10 hb10 hb11
  have ff0 := hF11.cell (k := 0) rfl
  have ff1 := hF11.cell (k := 1) rfl
  have ff2 := hF11.cell (k := 2) rfl
  have ff3 := hF11.cell (k := 3) rfl
  obtain ⟨Az, cz, hvz, hcz, hrz⟩ := Rd.of_own' hx11
  subst hvz
  have fq := hQ11.cell (k := 0) rfl
  rw [← HE.out] at hcz hrz fq
  have hEl : E.length ≤ 100000 := by rw [HE.out]; simp only [List.length_append, List.length_nil]; omega
  clear hx11 hQ11 hne11 hno11 hnf11
  repeat' ((fail_if_success at_builtin); (fail_if_success at_make); (first | go_values | go_skip | go_guarded | go_step | go_upon | go_back))
  refine ((Clone_ok Az _ cz E _ rfl hcz (by omega) hrz)).mono ?_; rintro e_ w12 ⟨v12, rfl, ho12, hb12⟩; dsimp only
  obtain ⟨Ay, cy, rfl, hoy⟩ := OwnB.of rfl ho12
  repeat' ((fail_if_success at_builtin); (fail_if_success at_make); (first | go_values | go_skip | go_guarded | go_step | go_upon | go_back))
  go_ret2
  exact ⟨Ay, cy, rfl, hoy.lower hB11.size, hB11.trans (hb12.mono hB11.size)⟩
theorem fOf_six {k : Nat} (h : (fOf k).2 = true) : fOf k = (⟨false, false, true, false⟩, true) ∨ fOf k = (⟨false, true, false, false⟩, true) ∨ fOf k = (⟨false, true, false, true⟩, true) ∨ fOf k = (⟨true, false, false, false⟩, true) ∨ fOf k = (⟨false, false, false, false⟩, true) ∨ fOf k = (⟨true, true, false, false⟩, true) := by
  have hk := fOf_le h
  have h' : k = 1 ∨ k = 2 ∨ k = 3 ∨ k = 4 ∨ k = 5 ∨ k = 6 ∨ k = 7 ∨ k = 8 ∨ k = 9 ∨ k = 10 ∨ k = 11 ∨ k = 12 ∨ k = 13 ∨ k = 14 := by omega
  clear h hk
  rcases h' with rfl | rfl | rfl | rfl | rfl | rfl | rfl | rfl | rfl | rfl | rfl | rfl | rfl | rfl <;> simp [fOf]
theorem OEncode_ok (o : OrdP) (A A' : Option Addr) (c c' : Nat) (w : World) (hg : GoodO o) (hc : o.parts.length ≤ c') (hr : Rd w 3 A' o.parts.length (pcs o.parts)) (hrd : Rd w 1 A o.data.length (bys o.data)) :
    Calls Try.prog 8 #[ordV o A c A' c'] w fun e w' => ∃ B d, e = .returned (.tuple #[.slice B (encO o).length d, .int .i64 0]) ∧ OwnB 5 w.heap.size w' B d (encO o) ∧ Below w.heap.size w w' := by
  obtain ⟨k, n, dig, data, parts⟩ := o
  have n0 := hg.n0; have d0 := hg.d0; have t0 := hg.t0; have p0 := hg.p0; have d1 := hg.d1; have n1 := hg.n1; have t1 := hg.t1; have p1 := hg.p1
  dsimp only at *
  unfold encO ordV
  dsimp only
  rcases fOf_six hg.kind with h | h | h | h | h | h <;> dsimp only at h <;> rw [h] at n0 d0 t0 p0 d1 ⊢ <;> dsimp only at n0 d0 t0 p0 d1
  · exact OEncode_f0 k n dig data parts A A' c c' _ _ w h rfl rfl hc hr hrd n1 t1 p1 (d0 rfl) (n0 rfl) (p0 rfl)
  · exact OEncode_f1 k n dig data parts A A' c c' _ _ w h rfl rfl hc hr hrd n1 t1 p1 (d1 rfl) (n0 rfl) (t0 rfl) (p0 rfl)
  · exact OEncode_f2 k n dig data parts A A' c c' _ _ w h rfl rfl hc hr hrd n1 t1 p1 (d1 rfl) (n0 rfl) (t0 rfl)
  · exact OEncode_f3 k n dig data parts A A' c c' _ _ w h rfl rfl hc hr hrd n1 t1 p1 (d0 rfl) (t0 rfl) (p0 rfl)
  · exact OEncode_f4 k n dig data parts A A' c c' _ _ w h rfl rfl hc hr hrd n1 t1 p1 (d0 rfl) (n0 rfl) (t0 rfl) (p0 rfl)
  · exact OEncode_f5 k n dig data parts A A' c c' _ _ w h rfl rfl hc hr hrd n1 t1 p1 (d1 rfl) (t0 rfl) (p0 rfl)
--OENC
end Go.Proofs.Ytdpedkgdobfemaa
