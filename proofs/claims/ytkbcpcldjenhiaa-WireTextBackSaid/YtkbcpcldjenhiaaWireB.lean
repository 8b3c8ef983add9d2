/- The walks of WireBack and WireTextBack. Conditions: an int64's bounds, the sizes. -/
import Derived.Test.YtkbcpcldjenhiaaText
namespace Go.Proofs.Ytkbcpcldjenhiaa
open Go.RowKit
set_option linter.unusedVariables false
set_option linter.unusedSimpArgs false
set_option maxRecDepth 20000
set_option maxHeartbeats 200000
theorem Concat2_at (A B : Option Addr) (n m c d : Nat) (l k : List UInt8) (w : World) (hl : l.length = n) (hk : k.length = m) (hc : n ≤ c) (hd : m ≤ d) (hnm : n + m ≤ 140737488355328) (e : TypeId)
    (hr : Rd w 1 A n (bys l)) (hr' : Rd w 1 B m (bys k)) :
    Calls Try.prog 20 #[.slice (some ⟨w.heap.size, 0, none⟩) 2 2] (w.alloc (.cells #[.slice A n c, .slice B m d] e)) fun e w' => ∃ A' c', e = .returned (.slice A' (l ++ k).length c') ∧ OwnB 5 w.heap.size w' A' c' (l ++ k) ∧ Below w.heap.size w w' := by
  refine (Concat2_ok w.heap.size A B n m c d l k _ hl hk hc hd hnm (by simp) (by simp) (hr.alloc _) (hr'.alloc _)).mono ?_
  rintro e w' ⟨A', c', rfl, ho, hb⟩
  exact ⟨A', c', rfl, ho.lower (by simp), ((Below.refl _ w).alloc (Nat.le_refl _) _).trans (hb.mono (by simp))⟩

theorem WireBack_walk (p : Int) (A : Option Addr) (n c : Nat) (l : List UInt8) (w : World) (h0 : -9223372036854775808 ≤ p) (h1 : p ≤ 9223372036854775807) (hl : l.length = n) (hc : n ≤ c) (hm : c ≤ 140737488351232) (hr : Rd w 1 A n (bys l)) :
    Calls Try.prog 4 #[.int .i64 p, .slice A n c] w fun e w' => e = .returned (.bool true) ∧ Below w.heap.size w w' := by
  go_enter Try.func4, Try.ntmps4
  repeat' ((fail_if_success at_builtin); (fail_if_success at_make); (first | go_values | go_skip | go_guarded | go_step | go_upon | go_back))
  refine ((Picked_ok p 4294967296 4294967296 rfl _ h0 h1 (by omega) (by omega))).mono ?_; rintro e_ w_ ⟨rfl, rfl⟩; dsimp only
  have hp := pk_lt p (show 0 < 4294967296 by omega)
  generalize pk p 4294967296 = P at *
  repeat' ((fail_if_success at_builtin); (fail_if_success at_make); (first | go_values | go_skip | go_guarded | go_step | go_upon | go_back))
  refine ((Number_own P _ rfl _ (by omega))).mono ?_; rintro e_ w1 ⟨A1, c1, rfl, ho1, hb1⟩; dsimp only
  have hl4 := (num_len P 4 (by omega)).1
  have hl5 := (num_len P 4 (by omega)).2
  have hc1 := ho1.cap
  repeat' ((fail_if_success at_builtin); (fail_if_success at_make); (first | go_values | go_skip | go_guarded | go_step | go_upon | go_back))
  have hrd := rdNum_num P l (by omega)
  have hln : (num P ++ l).length = (num P).length + n := by rw [List.length_append, hl]
  have HC := Lib.hid (Concat2_at A1 A (num P).length n c1 c (num P) l w1 rfl hl hc1 hc (by omega) 22 ho1.rd (hr.below hb1))
  generalize num P ++ l = L at HC hrd hln
  have hle : L.length ≤ 140737488353280 := by omega
  have HR := fun (A : Option Addr) (c : Nat) (w : World) hcp hr => ReadNumber_at (A := A) (c := c) (w := w) 0 rfl hrd rfl hcp hle hr
  have HR := Lib.hid HR
  clear hrd hln
  refine ((HC.out)).mono ?_; rintro e_ w2 ⟨A2, c2, rfl, ho2, hb2⟩; dsimp only
  repeat' ((fail_if_success at_builtin); (fail_if_success at_make); (first | go_values | go_skip | go_guarded | go_step | go_upon | go_back))
  have hb12 := hb1.trans (hb2.mono hb1.size)
  refine ((HR.out A2 c2 w2 ho2.cap ho2.rd)).mono ?_; rintro e_ w3 ⟨A3, c3, rfl, ho3, hb3⟩; dsimp only
  clear HR HC
  have hb13 := hb12.trans (hb3.mono hb12.size)
  have hr1 := hr.below hb13
  subst hl
  have hs1 := run_str (P := Try.prog) (w := w3) (c := c3) (src := 22) (dst := 9) Try.underlying22 Try.underlying5 Try.underlying9 rfl (l := l) ho3.rd
  have hs2 := run_str (P := Try.prog) (w := w3) (c := c) (src := 22) (dst := 9) Try.underlying22 Try.underlying5 Try.underlying9 rfl (l := l) hr1
  clear hc1
  have hg1 : (((num P).length : Int) ≥ 1) := by omega
  have hg2 : (((num P).length : Int) ≤ 5) := by omega
  repeat' ((fail_if_success at_builtin); (fail_if_success at_make); (first | go_values | go_skip | go_guarded | go_step | go_upon | go_back))
  go_ret
  exact ⟨rfl, hb13⟩

theorem rdTxt_txt (t more : List UInt8) (h : t.length ≤ 2000) : rdTxt (txt t ++ more) = (t, more, 0) := by
  have h1 := rdNum_num t.length (t ++ more) (by omega)
  rw [rdTxt, txt, List.append_assoc, h1]
  simp only [ne_eq, not_true_eq_false, if_false]
  rw [if_neg (by omega), if_neg (by rw [List.length_append]; omega)]
  simp
theorem rdTxt_short (t : List UInt8) (j : Nat) (h : t.length ≤ 2000) (hj : j < (txt t).length) : rdTxt ((txt t).take j) = ([], [], 8) := by
  by_cases hn : j < (num t.length).length
  · have h1 := rdNum_short t.length j (by omega) hn
    rw [rdTxt, txt, List.take_append_of_le_length (by omega), h1]
    simp
  · have h1 := rdNum_num t.length (t.take (j - (num t.length).length)) (by omega)
    have h2 : (txt t).take j = num t.length ++ t.take (j - (num t.length).length) := by
      rw [txt, List.take_append, List.take_of_length_le (by omega)]
    simp only [txt, List.length_append] at hj
    rw [rdTxt, h2, h1]
    simp only [ne_eq, not_true_eq_false, if_false]
    rw [if_neg (by omega), if_pos (by rw [List.length_take]; omega)]

theorem WireTextBack_walk (s : ByteArray) (A : Option Addr) (n c : Nat) (l : List UInt8) (p : Int) (w : World) (hs : s.size ≤ 140737488351232) (hl : l.length = n) (hc : n ≤ c) (hm : c ≤ 140737488351232) (hr : Rd w 1 A n (bys l))
    (h0 : -9223372036854775808 ≤ p) (h1 : p ≤ 9223372036854775807) :
    Calls Try.prog 5 #[.string s, .slice A n c, .int .i64 p] w fun e w' => e = .returned (.bool true) ∧ Below w.heap.size w w' := by
  go_enter Try.func5, Try.ntmps5
  repeat' ((fail_if_success at_builtin); (fail_if_success at_make); (first | go_values | go_skip | go_guarded | go_step | go_upon | go_back))
  have ht : (s.extract 0 (if (1000 : Int) < s.size then 1000 else (s.size : Int)).toNat).size ≤ 2000 := by
    rw [ByteArray.size_extract]; split <;> omega
  generalize s.extract 0 (if (1000 : Int) < s.size then 1000 else (s.size : Int)).toNat = t at *
  obtain ⟨T, rfl⟩ : ∃ T : List UInt8, t = ⟨T.toArray⟩ := ⟨t.data.toList, by cases t; simp⟩
  have hT : T.length ≤ 2000 := by rw [← List.size_toArray]; exact ht
  have hlen := txt_len T hT
  have hrd := rdTxt_txt T l hT
  have hsh := rdTxt_short T
  have HT := Lib.hid (wText_ok ⟨T.toArray⟩ w ht)
  dsimp only at HT
  generalize txt T = X at *
  refine ((HT.out)).mono ?_; rintro e_ w1 ⟨A1, c1, rfl, ho1, hb1⟩; dsimp only
  clear HT
  have hc1 := ho1.cap
  have hne : ((X.length : Int) == 0) = false := by rw [beq_eq_false_iff_ne]; omega
  have hln : (X ++ l).length = X.length + n := by rw [List.length_append, hl]
  have HC := Lib.hid (Concat2_at A1 A X.length n c1 c X l w1 rfl hl hc1 hc (by omega) 22 ho1.rd (hr.below hb1))
  generalize X ++ l = L at HC hrd hln
  have hle : L.length ≤ 140737488353280 := by omega
  have HR := fun (A : Option Addr) (c : Nat) (w : World) hcp hr => ReadText_at (A := A) (c := c) (w := w) 0 rfl hrd rfl hcp hle hr
  have HR := Lib.hid HR
  have HS := Lib.hid hsh
  clear hrd hln hle hsh
  repeat' ((fail_if_success at_builtin); (fail_if_success at_make); (first | go_values | go_skip | go_guarded | go_step | go_upon | go_back))
  refine ((HC.out)).mono ?_; rintro e_ w2 ⟨A2, c2, rfl, ho2, hb2⟩; dsimp only
  repeat' ((fail_if_success at_builtin); (fail_if_success at_make); (first | go_values | go_skip | go_guarded | go_step | go_upon | go_back))
  have hb12 := hb1.trans (hb2.mono hb1.size)
  refine ((HR.out A2 c2 w2 ho2.cap ho2.rd)).mono ?_; rintro e_ w3 ⟨A3, c3, rfl, ho3, hb3⟩; dsimp only
  clear HR HC
  have hb13 := hb12.trans (hb3.mono hb12.size)
  repeat' ((fail_if_success at_builtin); (fail_if_success at_make); (first | go_values | go_skip | go_guarded | go_step | go_upon | go_back))
  refine ((Picked_ok p X.length _ rfl _ h0 h1 (by omega) (by omega))).mono ?_; rintro e_ w_ ⟨rfl, rfl⟩; dsimp only
  have hp := pk_lt p (show 0 < X.length by omega)
  generalize pk p X.length = P at *
  have hr4 := (((ho1.rd.below hb2).below hb3).pre (k := P) (by omega))
  rw [Nat.mul_one, bys_take] at hr4
  have HR2 := Lib.hid (ReadText_at (A := A1) (n := P) (c := c1) 8 rfl (HS.out P hT hp) (by rw [List.length_take]; omega) (by omega) (by omega) hr4)
  clear hr4 HS
  repeat' ((fail_if_success at_builtin); (fail_if_success at_make); (first | go_values | go_skip | go_guarded | go_step | go_upon | go_back))
  refine ((HR2.out)).mono ?_; rintro e_ w4 ⟨A4, c4, rfl, ho4, hb4⟩; dsimp only
  clear HR2
  have hb14 := hb13.trans (hb4.mono hb13.size)
  subst hl
  have hs1 := run_str (P := Try.prog) (c := c3) (src := 22) (dst := 9) Try.underlying22 Try.underlying5 Try.underlying9 rfl (l := l) (ho3.rd.below hb4)
  have hs2 := run_str (P := Try.prog) (c := c) (src := 22) (dst := 9) Try.underlying22 Try.underlying5 Try.underlying9 rfl (l := l) (hr.below hb14)
  repeat' ((fail_if_success at_builtin); (fail_if_success at_make); (first | go_values | go_skip | go_guarded | go_step | go_upon | go_back))
  go_ret
  exact ⟨rfl, hb14⟩
end Go.Proofs.Ytkbcpcldjenhiaa
