/- RoomMore, RoomAdds, walked. Conditions: the slice's size. -/
import Derived.Test.YtooohfckhepcmaaFly
import Derived.Test.YtooohfckhepcmaaStore
namespace Go.Proofs.Ytooohfckhepcmaa
open Go.RowKit
set_option linter.unusedVariables false
set_option linter.unusedSimpArgs false
set_option maxRecDepth 100000

set_option maxHeartbeats 4000000 in
theorem RoomMore_walk (A : Option Addr) (n c : Nat) (l : List RawP) (a m : Int) (w : World) (hl : l.length = n) (hc : n ≤ c) (hm : c ≤ maxLen) (hok : ∀ r ∈ l, RawOk r) (hr : Rd w 4 A n (rcs l))
    (a0 : -9223372036854775808 ≤ a) (a1 : a ≤ 9223372036854775807) (m0 : -9223372036854775808 ≤ m) (m1 : m ≤ 9223372036854775807) :
    Calls Try.prog 8 #[.slice A n c, .int .i64 a, .int .i64 m] w fun e w' => e = .returned (.bool true) ∧ Below w.heap.size w w' := by
  have HS := Lib.hid (Store_ok A n c l w hl hc hm hok hr)
  have HP1 := Lib.hid (fun w' => Picked_ok a 4001 4001 rfl w' a0 a1 (by omega) (by omega))
  have HP2 := Lib.hid (fun w' => Picked_ok m 4000 4000 rfl w' m0 m1 (by omega) (by omega))
  have hp1 := pk_lt a (m := 4001) (by omega)
  have hp2 := pk_lt m (m := 4000) (by omega)
  have hg := sto_good l
  have hlen := hg.b.len
  have huse : usd (sto l).blobs ≤ 4000 := Nat.le_trans hg.used hg.room
  clear hok hl hr a0 a1 m0 m1 hg
  generalize (sto l).blobs = bl at *
  generalize pk a 4001 = p1 at *
  generalize pk m 4000 = p2 at *
  have hn1 : ((p2 : Int) + 1) = ((p2 + 1 : Nat) : Int) := by omega
  have HN1 := Lib.hid hn1
  clear hn1
  go_enter Try.func8, Try.ntmps8
  repeat' ((fail_if_success at_builtin); (fail_if_success at_make); (first | go_values | go_skip | go_guarded | go_step | go_upon | go_back))
  refine ((HS.out)).mono ?_; rintro e_ w1 ⟨v1, v2, rfl, hb, he, hb1⟩; dsimp only
  obtain ⟨Ab, cb, rfl, hcb1, hcb2, hRb⟩ := hb.rows
  obtain ⟨Ae, ce, rfl, _, _, _⟩ := he.rows
  have hfl := fld_blobs Ab Ae bl.length (sto l).ents.length cb ce ((sto l).room : Int) ((sto l).clock : Int) w1
  have HRB := Lib.hid hRb
  clear hb he hRb
  repeat' ((fail_if_success at_builtin); (fail_if_success at_make); (first | go_values | go_skip | go_guarded | go_step | go_upon | go_back))
  clear hfl
  refine ((HP1.out w1)).mono ?_; rintro e_ _ ⟨rfl, rfl⟩; dsimp only
  repeat' ((fail_if_success at_builtin); (fail_if_success at_make); (first | go_values | go_skip | go_guarded | go_step | go_upon | go_back))
  refine ((HP2.out w1)).mono ?_; rintro e_ _ ⟨rfl, rfl⟩; dsimp only
  repeat' ((fail_if_success at_builtin); (fail_if_success at_make); (first | go_values | go_skip | go_guarded | go_step | go_upon | go_back))
  have HK1 := Lib.hid (Lacks_ok Ab cb bl p1 p2 w1 (by omega) (by omega) (by omega) (by omega) HRB.out)
  refine ((HK1.out)).mono ?_; rintro e_ w2 ⟨rfl, hb2⟩; dsimp only
  have hb12 := hb1.trans (hb2.mono hb1.size)
  have HRB2 := Lib.hid (HRB.out.below hb2)
  repeat' ((fail_if_success at_builtin); (fail_if_success at_make); (first | go_values | go_skip | go_guarded | go_step | go_upon | go_back))
  rw [HN1.out]
  have HK2 := Lib.hid (Lacks_ok Ab cb bl p1 (p2 + 1) w2 (by omega) (by omega) (by omega) (by omega) HRB2.out)
  refine ((HK2.out)).mono ?_; rintro e_ w3 ⟨rfl, hb3⟩; dsimp only
  have hb13 := hb12.trans (hb3.mono hb12.size)
  repeat' ((fail_if_success at_builtin); (fail_if_success at_make); (first | go_values | go_skip | go_guarded | go_step | go_upon | go_back))
  have HK3 := Lib.hid (Lacks_ok none 0 [] 3 5 w3 (by simp) (by simp [usd]) (by omega) (by omega) Rw.nil_)
  refine ((HK3.out)).mono ?_; rintro e_ w4 ⟨rfl, hb4⟩; dsimp only
  have hb14 := hb13.trans (hb4.mono hb13.size)
  rw [show usd [] + 5 - 3 = 2 from rfl]
  generalize usd bl = u at *
  clear HN1
  rcases Nat.lt_or_ge (u + p2) p1 with hcs | hcs
  · rw [show u + p2 - p1 = 0 by omega, show u + (p2 + 1) - p1 = 0 by omega]
    have g1 : decide ((0 : Int) = 0 + 1) = false := by decide
    repeat' ((fail_if_success at_builtin); (fail_if_success at_make); (first | go_values | go_skip | go_guarded | go_step | go_upon | go_back))
    go_ret
    exact ⟨rfl, hb14⟩
  · obtain ⟨z, hz⟩ : ∃ z, z = u + p2 - p1 := ⟨_, rfl⟩
    rw [← hz, show u + (p2 + 1) - p1 = z + 1 by omega]
    have hz4 : z ≤ 8000 := by omega
    have g1 : (((z + 1 : Nat) : Int) == (z : Int) + 1) = true := by rw [beq_iff_eq]; omega
    have g2 : (((z : Int) + 1) == (z : Int) + 1) = true := by rw [beq_iff_eq]
    clear hz
    repeat' ((fail_if_success at_builtin); (fail_if_success at_make); (first | go_values | go_skip | go_guarded | go_step | go_upon | go_back))
    go_ret
    exact ⟨rfl, hb14⟩
set_option maxHeartbeats 8000000 in
theorem RoomAdds_walk (A : Option Addr) (n c : Nat) (l : List RawP) (a m : Int) (w : World) (hl : l.length = n) (hc : n ≤ c) (hm : c ≤ maxLen) (hok : ∀ r ∈ l, RawOk r) (hr : Rd w 4 A n (rcs l))
    (a0 : -9223372036854775808 ≤ a) (a1 : a ≤ 9223372036854775807) (m0 : -9223372036854775808 ≤ m) (m1 : m ≤ 9223372036854775807) :
    Calls Try.prog 9 #[.slice A n c, .int .i64 a, .int .i64 m] w fun e w' => e = .returned (.bool true) ∧ Below w.heap.size w w' := by
  have HS := Lib.hid (Store_ok A n c l w hl hc hm hok hr)
  have HP1 := Lib.hid (fun w' => Picked_ok a 4001 4001 rfl w' a0 a1 (by omega) (by omega))
  have HP2 := Lib.hid (fun w' => Picked_ok m 4001 4001 rfl w' m0 m1 (by omega) (by omega))
  have hp1 := pk_lt a (m := 4001) (by omega)
  have hp2 := pk_lt m (m := 4001) (by omega)
  have hg := sto_good l
  have hlen := hg.b.len
  have huse : usd (sto l).blobs ≤ 4000 := Nat.le_trans hg.used hg.room
  clear hok hl hr a0 a1 m0 m1 hg
  generalize (sto l).blobs = bl at *
  generalize pk a 4001 = p1 at *
  generalize pk m 4001 = p2 at *
  go_enter Try.func9, Try.ntmps9
  repeat' ((fail_if_success at_builtin); (fail_if_success at_make); (first | go_values | go_skip | go_guarded | go_step | go_upon | go_back))
  refine ((HS.out)).mono ?_; rintro e_ w1 ⟨v1, v2, rfl, hb, he, hb1⟩; dsimp only
  obtain ⟨Ab, cb, rfl, hcb1, hcb2, hRb⟩ := hb.rows
  obtain ⟨Ae, ce, rfl, _, _, _⟩ := he.rows
  have hfl := fld_blobs Ab Ae bl.length (sto l).ents.length cb ce ((sto l).room : Int) ((sto l).clock : Int) w1
  have HRB := Lib.hid hRb
  have HB1 := Lib.hid hb1
  clear hb he hRb hb1
  repeat' ((fail_if_success at_builtin); (fail_if_success at_make); (first | go_values | go_skip | go_guarded | go_step | go_upon | go_back))
  clear hfl
  refine ((HP1.out w1)).mono ?_; rintro e_ _ ⟨rfl, rfl⟩; dsimp only
  repeat' ((fail_if_success at_builtin); (fail_if_success at_make); (first | go_values | go_skip | go_guarded | go_step | go_upon | go_back))
  refine ((HP2.out w1)).mono ?_; rintro e_ _ ⟨rfl, rfl⟩; dsimp only
  repeat' ((fail_if_success at_builtin); (fail_if_success at_make); (first | go_values | go_skip | go_guarded | go_step | go_upon | go_back))
  go_loopg [8, 24] bl.length (fun gn u i wr => ∃ j : Nat, gn = bl.length - j ∧ i = .int .i64 j ∧ j ≤ bl.length ∧ u = .int .i64 ((usd (bl.take j) : Nat) : Int) ∧ Below w1.heap.size w1 wr)
  case atStart => exact ⟨0, rfl, rfl, by omega, rfl, Below.refl _ _⟩
  case round =>
    obtain ⟨j, hgk, rfl, hj, rfl, hbl⟩ := hrel
    have HGK := Lib.hid hgk
    clear hgk
    by_cases hlt : j < bl.length
    · have hcc : decide (j < bl.length) = true := decide_eq_true hlt
      obtain ⟨b, off, B, cc, rfl, hbb, c0, c1, c2, c3, hs⟩ := (HRB.out.below hbl).blob_at j hlt
      have hj0 : (0 : Int) ≤ (j : Int) := by omega
      have hj1 : (j : Int) < (bl.length : Int) := by omega
      have hst := usd_step bl j hlt
      have hle := usd_take bl (j + 1)
      have hle2 : usd (bl.take j) + bl[j].data.length ≤ 4000 := by omega
      have HST := Lib.hid hst
      clear hst hle hs
      have hb1 := (Below.refl wr.heap.size wr).alloc (Nat.le_refl _) (.cells #[.string ⟨bl[j].dig.toArray⟩, .slice B bl[j].data.length cc, .int .i64 (bl[j].pins : Int), .bool bl[j].mark] 48)
      have hb2 := hbl.trans (hb1.mono hbl.size)
      generalize bl[j].data.length = d at *
      generalize usd (bl.take j) = u at *
      generalize bl[j] = x at *
      clear hb1
      repeat' ((fail_if_success at_builtin); (fail_if_success at_make); (first | go_values | go_skip | go_guarded | go_step | go_upon | go_back))
      go_roundg (bl.length - (j + 1))
      case measure => have := HGK.out; omega
      case rel => exact ⟨j + 1, rfl, by go_num, by omega, by rw [HST.out]; go_num, hb2⟩
    · obtain rfl : j = bl.length := by omega
      have hcc : decide (bl.length < bl.length) = false := by simp
      rw [List.take_length]
      have HRB1 := Lib.hid (HRB.out.below hbl)
      have HK1 := Lib.hid (Lacks_ok Ab cb bl p1 p2 wr (by omega) (by omega) (by omega) (by omega) HRB1.out)
      repeat' ((fail_if_success at_builtin); (fail_if_success at_make); (first | go_values | go_skip | go_guarded | go_step | go_upon | go_back))
      refine ((HK1.out)).mono ?_; rintro e_ w2 ⟨rfl, hb2⟩; dsimp only
      have HRB2 := Lib.hid (HRB1.out.below hb2)
      have HF := Lib.hid (Fits_ok Ab cb bl p1 p2 w2 (by omega) (by omega) (by omega) (by omega) HRB2.out)
      have hb12 := hbl.trans (hb2.mono hbl.size)
      clear hb2 hbl
      repeat' ((fail_if_success at_builtin); (fail_if_success at_make); (first | go_values | go_skip | go_guarded | go_step | go_upon | go_back))
      refine ((HF.out)).mono ?_; rintro e_ w3 ⟨rfl, hb3⟩; dsimp only
      have HRB3 := Lib.hid (HRB2.out.below hb3)
      have hb13 := hb12.trans (hb3.mono hb12.size)
      clear hb3 hb12
      have hkc := fun (w : World) (C : Array Value) (n c : Nat) => Lib.run_convert_bytes_const (P := Try.prog) w 25 5 C n c Try.underlying25 Try.underlying5
      have hz4 : OwnZ (w3.alloc (.cells #[.int .u8 97, .int .u8 98, .int .u8 99] 5 (3, 4))) w3.heap.size (some ⟨w3.heap.size, 0, none⟩) 3 [97, 98, 99] := ⟨w3.heap.size, [], (3, 4), rfl, Nat.le_refl _, World.alloc_heap_new _ _, rfl, by simp [maxLen], .inr (Nat.le_refl _)⟩
      have hs4 := hz4.sl.1
      have hb4 := (Below.refl w3.heap.size w3).alloc (Nat.le_refl _) (.cells #[.int .u8 97, .int .u8 98, .int .u8 99] 5 (3, 4))
      have hg4 : (w3.alloc (.cells #[.int .u8 97, .int .u8 98, .int .u8 99] 5 (3, 4))).heap.size = w3.heap.size + 1 := by simp
      clear hz4
      repeat' ((fail_if_success at_builtin); (fail_if_success at_make); (first | go_values | go_skip | go_guarded | go_step | go_upon | go_back))
      clear hkc
      generalize w3.alloc (.cells #[.int .u8 97, .int .u8 98, .int .u8 99] 5 (3, 4)) = w4 at *
      rw [← hg4]
      have hb14 := hb13.trans (hb4.mono hb13.size)
      have HRB4 := Lib.hid (HRB3.out.below hb4)
      clear hb4 hb13
      generalize w3.heap.size = g3 at *
      have hrw := Rw.newB (w := w4) (e := 48) [⟨[], [97, 98, 99], 0, false⟩] [(⟨[], [97, 98, 99], 0, false⟩, blcell ⟨[], [97, 98, 99], 0, false⟩ (some ⟨g3, 0, none⟩) 3)] rfl (fun p hp => by simp at hp; subst hp; exact ⟨_, _, rfl, hs4⟩) [.string ⟨#[]⟩, .slice (some ⟨g3, 0, none⟩) 3 3, .int .i64 0, .bool false] rfl
      have HU1 := Lib.hid (Used_ok _ 1 _ _ (by simp) (by simp [usd]) hrw)
      have hb5 := (Below.refl w4.heap.size w4).alloc (Nat.le_refl _) (.cells #[.string ⟨#[]⟩, .slice (some ⟨g3, 0, none⟩) 3 3, .int .i64 0, .bool false] 48)
      have hb15 := hb14.trans (hb5.mono hb14.size)
      have HRB5 := Lib.hid (HRB4.out.below hb5)
      clear hrw hs4 hb14 hb5 hg4
      refine ((HU1.out)).mono ?_; rintro e_ w6 ⟨rfl, hb6⟩; dsimp only
      rw [show usd [(⟨[], [97, 98, 99], 0, false⟩ : BlobP)] = 3 from rfl]
      have hb16 := hb15.trans (hb6.mono hb15.size)
      have HU2 := Lib.hid (Used_ok Ab cb bl w6 (by omega) (by omega) (HRB5.out.below hb6))
      have hb06 := HB1.out.trans (hb16.mono HB1.out.size)
      clear hb6 hb15 hb16
      generalize usd bl = u at *
      have hmx : max (0 : Int) ((u : Int) + (p2 : Int) - (p1 : Int)) = ((u + p2 - p1 : Nat) : Int) := by omega
      rcases Nat.lt_or_ge p1 (u + p2) with hcs | hcs
      · rw [if_neg (by omega)]
        obtain ⟨z, hz⟩ : ∃ z, z = u + p2 - p1 := ⟨_, rfl⟩
        rw [← hz] at hmx ⊢
        have g1 : ((z : Int) == 0) = false := by rw [beq_eq_false_iff_ne]; omega
        clear hz
        repeat' ((fail_if_success at_builtin); (fail_if_success at_make); (first | go_values | go_skip | go_guarded | go_step | go_upon | go_back))
        refine ((HU2.out)).mono ?_; rintro e_ w7 ⟨rfl, hb7⟩; dsimp only
        have hb17 := hb06.trans (hb7.mono hb06.size)
        repeat' ((fail_if_success at_builtin); (fail_if_success at_make); (first | go_values | go_skip | go_guarded | go_step | go_upon | go_back))
        go_ret
        exact ⟨rfl, hb17⟩
      · rw [if_pos (by omega), show u + p2 - p1 = 0 by omega]
        rw [show u + p2 - p1 = 0 by omega] at hmx
        repeat' ((fail_if_success at_builtin); (fail_if_success at_make); (first | go_values | go_skip | go_guarded | go_step | go_upon | go_back))
        refine ((HU2.out)).mono ?_; rintro e_ w7 ⟨rfl, hb7⟩; dsimp only
        have hb17 := hb06.trans (hb7.mono hb06.size)
        repeat' ((fail_if_success at_builtin); (fail_if_success at_make); (first | go_values | go_skip | go_guarded | go_step | go_upon | go_back))
        go_ret
        exact ⟨rfl, hb17⟩
end Go.Proofs.Ytooohfckhepcmaa
