/- action.Encode and Key. Conditions: the sizes. -/
import Derived.Test.YtkfipkmkmhkfaaaAct
import Derived.Test.YtkfipkmkmhkfaaaSum
import Derived.Test.YtkfipkmkmhkfaaaShelf
namespace Go.Proofs.Ytkfipkmkmhkfaaa
open Go.RowKit
set_option linter.unusedVariables false
set_option linter.unusedSimpArgs false
set_option maxRecDepth 100000

def encA (c : List UInt8) (x : List PartP) : List UInt8 := [65, 65, 49] ++ (txt c ++ enc x)
theorem holds_rd {w : World} {A : Option Addr} {c : Nat} {l : List UInt8} (h : Rd w 1 A l.length (bys l)) : Lib.HoldsBytes w (.slice A l.length c) l := by
  refine ⟨A, c, rfl, fun e => ?_, fun a e i x hx => ?_⟩
  · rcases Nat.eq_zero_or_pos l.length with h0 | h0
    · exact List.eq_nil_of_length_eq_zero h0
    · obtain ⟨_, _, h1, _⟩ := h.2 h0; rw [e] at h1; cases h1
  · have hi := (List.getElem?_eq_some_iff.1 hx).1
    obtain ⟨b, off, h1, _, hc⟩ := h.2 (by omega)
    rw [e] at h1; cases h1
    rw [Addr.add_mid]
    exact hc i _ (by rw [bys, List.getElem?_map, hx]; rfl)
theorem rd_fresh {B : Nat} {w : World} {v : Value} {l : List UInt8} (h : Lib.FreshBytes B w v l) : ∃ A c, v = .slice A l.length c ∧ Rd w 1 A l.length (bys l) ∧ l.length ≤ c ∧ c ≤ maxLen := by
  obtain ⟨g, cap, zs, rfl, hB, hlc, hcm, hzl, hz, hb, hc, hf⟩ := h
  refine ⟨_, cap, rfl, ⟨by rw [bys_len, Nat.mul_one], fun h0 => ⟨g, 0, rfl, ?_, fun j u hu => ?_⟩⟩, hlc, hcm⟩
  · exact World.block_lt_of_cell? w ⟨g, 0, none⟩ (hc 0 (by omega))
  · have hj := (List.getElem?_eq_some_iff.1 hu).1
    rw [bys_len] at hj
    rw [Nat.zero_add, hc j (by omega)]
    rw [bys_at l j hj] at hu
    rw [← hu]
    have hzj : j < zs.length := by omega
    have h1 : (Lib.bytesOf (zs.take l.length))[j]? = l[j]? := by rw [hb]
    rw [Lib.bytesOf, List.getElem?_map, List.getElem?_take, if_pos hj, List.getElem?_eq_getElem hzj, List.getElem?_eq_getElem hj] at h1
    simp only [Option.map_some, Option.some.injEq] at h1
    have h2 := hz zs[j] (List.getElem_mem hzj)
    rw [← h1, UInt8.toNat_ofNat', List.getD_eq_getElem?_getD, List.getElem?_eq_getElem hzj]
    simp only [Option.getD_some]
    congr 2; omega
theorem join3 (a b c : List UInt8) : Lib.join [a, b, c] [] = a ++ (b ++ c) := by simp [Lib.join, List.intercalate]
theorem lens3 (a b c : List UInt8) : Lib.lens [a, b, c] = a.length + (b.length + (c.length + 0)) := rfl

set_option maxHeartbeats 2000000 in
theorem AEncode_ok (s : ByteArray) (A : Option Addr) (n c : Nat) (x : List PartP) (w : World) (hs : s.size ≤ 140737488351232) (hl : x.length = n) (hc : n ≤ c) (hr : Rd w 3 A n (pcs x)) (hact : actC s.data.toList x = 0) :
    Calls Try.prog 11 #[.agg #[.string s, .slice A n c]] w fun e w' => ∃ A' c', e = .returned (.tuple #[.slice A' (encA s.data.toList x).length c', .int .i64 0]) ∧ Rd w' 1 A' (encA s.data.toList x).length (bys (encA s.data.toList x)) ∧ (encA s.data.toList x).length ≤ c' ∧ c' ≤ maxLen ∧ Below w.heap.size w w' := by
  have hcm : cmdC s.data.toList = 0 := by
    by_cases h : cmdC s.data.toList = 0
    · exact h
    · rw [actC, if_pos h] at hact; exact absurd hact h
  have hchk : chk x = 0 := by rw [actC, hcm, if_neg (by decide)] at hact; exact hact
  have hsz : s.data.toList.length = s.size := by rw [Array.length_toList]; rfl
  have hs60 : s.size ≤ 60 := by
    rw [cmdC] at hcm
    split at hcm
    · cases hcm
    · omega
  have hz := chk_zero hchk
  have hok : PartsOk x := fun p hp => by
    have h := hz.2 p hp
    have h1 := nameC_zero h.1
    have h2 : p.dig.length = 64 := by
      have := h.2.1; unfold hexC at this; split at this
      · cases this
      · omega
    exact ⟨by omega, by omega, by have := h.2.2; omega⟩
  obtain ⟨w1, hw1⟩ : ∃ w1, w1 = w.alloc (.cells #[.string s, .slice A n c] 26) := ⟨_, rfl⟩
  have hb1 : Below w.heap.size w w1 := by rw [hw1]; exact (Below.refl _ _).alloc (Nat.le_refl _) _
  have hA1 : Arr w1 w.heap.size 26 [.string s, .slice A n c] := by rw [hw1]; exact Arr.new w _ _
  have hr1 : Rd w1 3 A n (pcs x) := by rw [hw1]; exact hr.alloc _
  have HCK := ACheck_ok s A n c x w1 hs hl hc (by omega) hok hr1
  rw [hact] at HCK
  have HC := Lib.hid HCK
  have HW := Lib.hid hw1
  have HL := Lib.hid hl
  have HCH := Lib.hid hchk
  have HT := Lib.hid (fun w' => wText_ok s w' (by omega))
  have HTL := Lib.hid (txt_len s.data.toList (by omega))
  have HEL := Lib.hid (enc_le x hchk)
  have HSZ := Lib.hid hsz
  have hkc := fun (w : World) (C : Array Value) (n c : Nat) => Lib.run_convert_bytes_const (P := Try.prog) w 35 5 C n c Try.underlying35 Try.underlying5
  clear hcm hchk hok hz hact HCK hl hr hsz hw1
  have HENC : encA s.data.toList x = [65, 65, 49] ++ (txt s.data.toList ++ enc x) := rfl
  have HEN := Lib.hid HENC
  generalize encA s.data.toList x = EA at *
  clear HENC
  go_enter Try.func11, Try.ntmps11
  repeat' ((fail_if_success at_builtin); (fail_if_success at_make); (first | go_values | go_skip | go_guarded | go_step | go_upon | go_back))
  rw [← HW.out]
  obtain ⟨g, hg⟩ : ∃ g, g = w.heap.size := ⟨_, rfl⟩
  rw [← hg] at hA1 ⊢
  clear hg
  refine ((HC.out)).mono ?_; rintro e_ w2 ⟨rfl, hb2⟩; dsimp only
  have hb12 := hb1.trans (hb2.mono hb1.size)
  have hA2 := hA1.below hb2
  have hr2 := hr1.below hb2
  have f0 := hA2.cell (k := 0) rfl
  rw [show ((0 : Nat) : Int) = 0 from rfl]
  repeat' ((fail_if_success at_builtin); (fail_if_success at_make); (first | go_values | go_skip | go_guarded | go_step | go_upon | go_back))
  refine ((HT.out w2)).mono ?_; rintro e_ w3 ⟨A3, c3, rfl, ho3, hb3⟩; dsimp only
  have hb13 := hb12.trans (hb3.mono hb12.size)
  have hA3 := hA2.below hb3
  have hr3 := hr2.below hb3
  have f1 := hA3.cell (k := 1) rfl
  clear f0
  repeat' ((fail_if_success at_builtin); (fail_if_success at_make); (first | go_values | go_skip | go_guarded | go_step | go_upon | go_back))
  refine ((Encode_ok A n c x w3 HL.out hc hr3 HCH.out)).mono ?_; rintro e_ w4 ⟨A4, c4, rfl, ho4, hb4⟩; dsimp only
  have hb14 := hb13.trans (hb4.mono hb13.size)
  have hrt := ho3.rd.below hb4
  have hre := ho4.rd
  generalize txt s.data.toList = T at *
  generalize enc x = E at *
  clear f1
  repeat' ((fail_if_success at_builtin); (fail_if_success at_make); (first | go_values | go_skip | go_guarded | go_step | go_upon | go_back))
  have hb5 := hb14.alloc hb14.size (.cells #[.int .u8 65, .int .u8 65, .int .u8 49] 5 (3, 4))
  have hrs : Rd (w4.alloc (.cells #[.int .u8 65, .int .u8 65, .int .u8 49] 5 (3, 4))) 1 (some ⟨w4.heap.size, 0, none⟩) 3 (bys [65, 65, 49]) :=
    ⟨rfl, fun _ => ⟨_, 0, rfl, by simp, fun j u hu => by rw [Nat.zero_add]; exact fz_cell (World.alloc_heap_new w4 _) hu⟩⟩
  have hrt5 := hrt.alloc (.cells #[.int .u8 65, .int .u8 65, .int .u8 49] 5 (3, 4))
  have hre5 := hre.alloc (.cells #[.int .u8 65, .int .u8 65, .int .u8 49] 5 (3, 4))
  have hs5 : (w4.alloc (.cells #[.int .u8 65, .int .u8 65, .int .u8 49] 5 (3, 4))).heap.size = w4.heap.size + 1 := World.size_alloc _ _
  rw [← hs5]
  generalize w4.alloc (.cells #[.int .u8 65, .int .u8 65, .int .u8 49] 5 (3, 4)) = w5 at *
  have hb6 := hb5.alloc hb5.size (.cells #[.slice (some ⟨w4.heap.size, 0, none⟩) 3 3, .slice A3 T.length c3, .slice A4 E.length c4] 35)
  have hA6 := Arr.new w5 35 [.slice (some ⟨w4.heap.size, 0, none⟩) 3 3, .slice A3 T.length c3, .slice A4 E.length c4]
  have hrs6 := hrs.alloc (.cells #[.slice (some ⟨w4.heap.size, 0, none⟩) 3 3, .slice A3 T.length c3, .slice A4 E.length c4] 35)
  have hrt6 := hrt5.alloc (.cells #[.slice (some ⟨w4.heap.size, 0, none⟩) 3 3, .slice A3 T.length c3, .slice A4 E.length c4] 35)
  have hre6 := hre5.alloc (.cells #[.slice (some ⟨w4.heap.size, 0, none⟩) 3 3, .slice A3 T.length c3, .slice A4 E.length c4] 35)
  have hA6' : Arr (w5.alloc (.cells #[.slice (some ⟨w4.heap.size, 0, none⟩) 3 3, .slice A3 T.length c3, .slice A4 E.length c4] 35)) w5.heap.size 35 [.slice (some ⟨w4.heap.size, 0, none⟩) 3 3, .slice A3 T.length c3, .slice A4 E.length c4] := hA6
  generalize w5.alloc (.cells #[.slice (some ⟨w4.heap.size, 0, none⟩) 3 3, .slice A3 T.length c3, .slice A4 E.length c4] 35) = w6 at *
  have hP : Lib.PartsAt w6 ⟨w5.heap.size, 0, none⟩ [.slice (some ⟨w4.heap.size, 0, none⟩) 3 3, .slice A3 T.length c3, .slice A4 E.length c4] [[65, 65, 49], T, E] := by
    refine ⟨rfl, fun i v hi => ?_, fun i v l hi hl => ?_⟩
    · rw [Addr.add_mid, Nat.zero_add]; exact hA6'.cell hi
    · match i, hi, hl with
      | 0, hi, hl => cases hi; cases hl; exact holds_rd (c := 3) (l := [65, 65, 49]) hrs6
      | 1, hi, hl => cases hi; cases hl; exact holds_rd hrt6
      | 2, hi, hl => cases hi; cases hl; exact holds_rd hre6
  have hJ := Try.bytes_Join_many w5.heap.size 0 3 3 _ [[65, 65, 49], T, E] (.slice none 0 0) [] w6 rfl (by omega) hP (by omega) ⟨none, 0, rfl, fun _ => rfl, fun a e => by cases e⟩ (by omega) (by
    rw [lens3]; have := HTL.out; have := HEL.out; have := HSZ.out; simp only [List.length_cons, List.length_nil]; omega)
  rw [join3, ← HEN.out] at hJ
  refine ((hJ)).mono ?_; rintro e_ w7 ⟨v7, rfl, hfr, hb7⟩; dsimp only
  obtain ⟨A7, c7, rfl, hr7, hc7, hm7⟩ := rd_fresh hfr
  repeat' ((fail_if_success at_builtin); (fail_if_success at_make); (first | go_values | go_skip | go_guarded | go_step | go_upon | go_back))
  go_ret2
  exact ⟨A7, c7, rfl, hr7, hc7, hm7, hb6.trans (hb7.mono hb6.size)⟩

set_option maxHeartbeats 2000000 in
theorem AEncode_bad (s : ByteArray) (A : Option Addr) (n c : Nat) (x : List PartP) (w : World) (hs : s.size ≤ 140737488351232) (hl : x.length = n) (hc : n ≤ c) (hm : n ≤ 9223372036854775807) (hok : PartsOk x) (hr : Rd w 3 A n (pcs x)) (hact : actC s.data.toList x ≠ 0) :
    Calls Try.prog 11 #[.agg #[.string s, .slice A n c]] w fun e w' => e = .returned (.tuple #[.slice none 0 0, .int .i64 (actC s.data.toList x)]) ∧ Below w.heap.size w w' := by
  obtain ⟨w1, hw1⟩ : ∃ w1, w1 = w.alloc (.cells #[.string s, .slice A n c] 26) := ⟨_, rfl⟩
  have hb1 : Below w.heap.size w w1 := by rw [hw1]; exact (Below.refl _ _).alloc (Nat.le_refl _) _
  have hr1 : Rd w1 3 A n (pcs x) := by rw [hw1]; exact hr.alloc _
  have HC := Lib.hid (ACheck_ok s A n c x w1 hs hl hc hm hok hr1)
  have HW := Lib.hid hw1
  have e1 : ((actC s.data.toList x : Int) != 0) = true := by rw [bne_iff_ne]; omega
  clear hw1 hl hok hr hr1 hact
  generalize actC s.data.toList x = ac at *
  go_enter Try.func11, Try.ntmps11
  repeat' ((fail_if_success at_builtin); (fail_if_success at_make); (first | go_values | go_skip | go_guarded | go_step | go_upon | go_back))
  rw [← HW.out]
  refine ((HC.out)).mono ?_; rintro e_ w2 ⟨rfl, hb2⟩; dsimp only
  repeat' ((fail_if_success at_builtin); (fail_if_success at_make); (first | go_values | go_skip | go_guarded | go_step | go_upon | go_back))
  go_ret2
  exact ⟨rfl, hb1.trans (hb2.mono hb1.size)⟩

set_option maxHeartbeats 2000000 in
theorem AKey_ok (s : ByteArray) (A : Option Addr) (n c : Nat) (x : List PartP) (w : World) (hs : s.size ≤ 140737488351232) (hl : x.length = n) (hc : n ≤ c) (hr : Rd w 3 A n (pcs x)) (hact : actC s.data.toList x = 0) (hle : (encA s.data.toList x).length ≤ 2000) :
    Calls Try.prog 10 #[.agg #[.string s, .slice A n c]] w fun e w' => e = .returned (.tuple #[.string ⟨(shaS (encA s.data.toList x)).toArray⟩, .int .i64 0]) ∧ Below w.heap.size w w' := by
  obtain ⟨w1, hw1⟩ : ∃ w1, w1 = w.alloc (.cells #[.string s, .slice A n c] 26) := ⟨_, rfl⟩
  have hb1 : Below w.heap.size w w1 := by rw [hw1]; exact (Below.refl _ _).alloc (Nat.le_refl _) _
  have hr1 : Rd w1 3 A n (pcs x) := by rw [hw1]; exact hr.alloc _
  have HC := Lib.hid (AEncode_ok s A n c x w1 hs hl hc hr1 hact)
  have HW := Lib.hid hw1
  clear hw1 hl hr hr1 hact
  generalize encA s.data.toList x = E at *
  go_enter Try.func10, Try.ntmps10
  repeat' ((fail_if_success at_builtin); (fail_if_success at_make); (first | go_values | go_skip | go_guarded | go_step | go_upon | go_back))
  rw [← HW.out]
  refine ((HC.out)).mono ?_; rintro e_ w2 ⟨A2, c2, rfl, hr2, hc2, hm2, hb2⟩; dsimp only
  have hb12 := hb1.trans (hb2.mono hb1.size)
  repeat' ((fail_if_success at_builtin); (fail_if_success at_make); (first | go_values | go_skip | go_guarded | go_step | go_upon | go_back))
  refine ((Sum_ok A2 E.length c2 E w2 rfl hle hc2 hr2)).mono ?_; rintro e_ w3 ⟨rfl, hb3⟩; dsimp only
  repeat' ((fail_if_success at_builtin); (fail_if_success at_make); (first | go_values | go_skip | go_guarded | go_step | go_upon | go_back))
  go_ret2
  exact ⟨rfl, hb12.trans (hb3.mono hb12.size)⟩
theorem AKey_bad (s : ByteArray) (A : Option Addr) (n c : Nat) (x : List PartP) (w : World) (hs : s.size ≤ 140737488351232) (hl : x.length = n) (hc : n ≤ c) (hm : n ≤ 9223372036854775807) (hok : PartsOk x) (hr : Rd w 3 A n (pcs x)) (hact : actC s.data.toList x ≠ 0) :
    Calls Try.prog 10 #[.agg #[.string s, .slice A n c]] w fun e w' => e = .returned (.tuple #[.string ⟨#[]⟩, .int .i64 (actC s.data.toList x)]) ∧ Below w.heap.size w w' := by
  obtain ⟨w1, hw1⟩ : ∃ w1, w1 = w.alloc (.cells #[.string s, .slice A n c] 26) := ⟨_, rfl⟩
  have hb1 : Below w.heap.size w w1 := by rw [hw1]; exact (Below.refl _ _).alloc (Nat.le_refl _) _
  have hr1 : Rd w1 3 A n (pcs x) := by rw [hw1]; exact hr.alloc _
  have HC := Lib.hid (AEncode_bad s A n c x w1 hs hl hc hm hok hr1 hact)
  have HW := Lib.hid hw1
  have e1 : ((actC s.data.toList x : Int) != 0) = true := by rw [bne_iff_ne]; omega
  clear hw1 hl hok hr hr1 hact
  generalize actC s.data.toList x = ac at *
  go_enter Try.func10, Try.ntmps10
  repeat' ((fail_if_success at_builtin); (fail_if_success at_make); (first | go_values | go_skip | go_guarded | go_step | go_upon | go_back))
  rw [← HW.out]
  refine ((HC.out)).mono ?_; rintro e_ w2 ⟨rfl, hb2⟩; dsimp only
  repeat' ((fail_if_success at_builtin); (fail_if_success at_make); (first | go_values | go_skip | go_guarded | go_step | go_upon | go_back))
  go_ret2
  exact ⟨rfl, hb1.trans (hb2.mono hb1.size)⟩
end Go.Proofs.Ytkfipkmkmhkfaaa
