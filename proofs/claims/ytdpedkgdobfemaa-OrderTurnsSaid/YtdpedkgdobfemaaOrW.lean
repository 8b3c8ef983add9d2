/- The walks of OrderBack, OrderTorn, OrderTurns. Conditions: the sizes. -/
import Derived.Test.YtdpedkgdobfemaaOrD
import Derived.Test.YtdpedkgdobfemaaOrO
import Derived.Test.YtdpedkgdobfemaaEqP
import Derived.Test.YtdpedkgdobfemaaTurn1
namespace Go.Proofs.Ytdpedkgdobfemaa
open Go.RowKit
set_option linter.unusedVariables false
set_option linter.unusedSimpArgs false
set_option maxRecDepth 100000

set_option maxHeartbeats 4000000 in
theorem OrderBack_walk (A : Option Addr) (n c : Nat) (l : List RawP) (w : World) (hl : l.length = n) (hc : n ≤ c) (hm : c ≤ maxLen) (hok : ∀ r ∈ l, RawOk r) (hr : Rd w 4 A n (rcs l)) :
    Calls Try.prog 5 #[.slice A n c] w fun e w' => e = .returned (.bool true) ∧ Below w.heap.size w w' := by
  have HOR := Lib.hid (Orders_ok A n c l 20 20 rfl (by omega) w hl hc hm hok hr)
  clear hl hok hr hc hm
  go_enter Try.func5, Try.ntmps5
  repeat' ((fail_if_success at_builtin); (fail_if_success at_make); (first | go_values | go_skip | go_guarded | go_step | go_upon | go_back))
  refine ((HOR.out)).mono ?_; rintro e_ w1 ⟨v1, os, rfl, ho1, hg1, hl1, hb1⟩; dsimp only
  obtain ⟨ps1, h1, h2, h3, h4⟩ := ho1
  repeat' ((fail_if_success at_builtin); (fail_if_success at_make); (first | go_values | go_skip | go_guarded | go_step | go_upon | go_back))
  refine wpList_apN rfl (.tmp 10) (.tmp 12) rfl elOrd (by rfl) h3 (us := [.int .i64 9, .int .i64 300, .string ⟨#[]⟩, .slice none 0 0, .slice none 0 0]) (by rfl) rfl (oc_one ⟨9, 300, [], [], []⟩ none 0 none 0) (by show (os.length + 1) * 80 ≤ 140737488355328; omega) hb1.size ?_
  intro v2 w2 ho2 hg2 hv2
  have hrw := RwO.snoc (x := ⟨9, 300, [], [], []⟩) (cs := ocell ⟨9, 300, [], [], []⟩ none 0 none 0) h1 h2 h3 h4 ⟨none, 0, none, 0, rfl, Sl.nil_ _ _, Sl.nil_ _ _⟩ (fun b _ hl => by obtain ⟨a, e | e, _⟩ := oc_leads hl <;> cases e) ho2 hg2 hv2
  obtain ⟨A2, c2, rfl, hc2, hm2, hr2⟩ := hrw.rows
  have hb2 := below_own hb1 h3 (Nat.le_refl _) hg2
  have hgz : ∀ o ∈ os ++ [(⟨9, 300, [], [], []⟩ : OrdP)], GoodO o := fun o ho => by
    rcases List.mem_append.1 ho with h | h
    · exact hg1 o h
    · have := List.mem_singleton.1 h; subst this; exact (good_f (k := 9) (f := ⟨true, false, false, false⟩) rfl (fun h => by cases h) (fun _ => rfl) (fun _ => rfl) (fun _ => rfl) (by omega) (fun h => by cases h) (by simp) rfl)
  have hlz : (os ++ [(⟨9, 300, [], [], []⟩ : OrdP)]).length ≤ 21 := by rw [List.length_append]; simp only [List.length_cons, List.length_nil]; omega
  have HGZ := Lib.hid hgz
  clear h1 h2 h3 h4 ho2 hg2 hv2 hrw hgz hg1 hl1 hb1
  generalize os ++ [(⟨9, 300, [], [], []⟩ : OrdP)] = zs at *
  have hlz63 : (zs.length : Int) ≤ 9223372036854775807 := by omega
  repeat' ((fail_if_success at_builtin); (fail_if_success at_make); (first | go_values | go_skip | go_guarded | go_step | go_upon | go_back))
  go_loopg [15] zs.length (fun gn i wr => ∃ k : Nat, gn = zs.length - k ∧ i = .int .i64 k ∧ k ≤ zs.length ∧ Below w2.heap.size w2 wr)
  case atStart => exact ⟨0, rfl, rfl, by omega, Below.refl _ _⟩
  case round =>
    obtain ⟨k, hgk, rfl, hk, hbel⟩ := hrel
    have HGK := Lib.hid hgk
    clear hgk
    by_cases hlt : k < zs.length
    rotate_left
    · obtain rfl : k = zs.length := by omega
      have hlb : decide (zs.length < zs.length) = false := by simp
      repeat' ((fail_if_success at_builtin); (fail_if_success at_make); (first | go_values | go_skip | go_guarded | go_step | go_upon | go_back))
      go_ret
      exact ⟨rfl, hb2.trans (hbel.mono hb2.size)⟩
    have hlb : decide (k < zs.length) = true := decide_eq_true hlt
    have hk0 : (0 : Int) ≤ (k : Int) := by omega
    have hk1 : (k : Int) < (zs.length : Int) := by omega
    obtain ⟨b, off, B, c, B', c', rfl, hbw, d0, d1, d2, d3, d4, hs, hs'⟩ := (hr2.below hbel).ord_at k hlt
    have HGO := Lib.hid (HGZ.out _ (List.getElem_mem hlt))
    have HKL := Lib.hid hlt
    generalize zs[k] = o at *
    have hbox : Arr (wr.alloc (.cells #[.int .i64 (o.kind : Int), .int .i64 (o.n : Int), .string ⟨o.dig.toArray⟩, .slice B o.data.length c, .slice B' o.parts.length c'] 28)) wr.heap.size 28 [.int .i64 (o.kind : Int), .int .i64 (o.n : Int), .string ⟨o.dig.toArray⟩, .slice B o.data.length c, .slice B' o.parts.length c'] := Arr.new wr 28 _
    have hb3 := hbel.alloc hbel.size (.cells #[.int .i64 (o.kind : Int), .int .i64 (o.n : Int), .string ⟨o.dig.toArray⟩, .slice B o.data.length c, .slice B' o.parts.length c'] 28)
    have hbn := (Below.refl wr.heap.size wr).alloc (Nat.le_refl _) (.cells #[.int .i64 (o.kind : Int), .int .i64 (o.n : Int), .string ⟨o.dig.toArray⟩, .slice B o.data.length c, .slice B' o.parts.length c'] 28)
    have hs3 := hs.below hbn
    have hs3' := hs'.below hbn
    have HE := fun (w3 : World) (h1 : Sl w3 1 B o.data.length c (bys o.data)) (h2 : Sl w3 3 B' o.parts.length c' (pcs o.parts)) => OEncode_ok o B B' c c' w3 HGO.out h2.cap h2.rd h1.rd
    unfold ordV at HE
    have HEN := Lib.hid HE
    clear HE hs hs' hbn hbw
    repeat' ((fail_if_success at_builtin); (fail_if_success at_make); (first | go_values | go_skip | go_guarded | go_step | go_upon | go_back))
    clear d0 d1 d2 d3 d4
    generalize (wr.alloc (.cells #[.int .i64 (o.kind : Int), .int .i64 (o.n : Int), .string ⟨o.dig.toArray⟩, .slice B o.data.length c, .slice B' o.parts.length c'] 28)) = w3 at *
    generalize wr.heap.size = g3 at *
    refine ((HEN.out w3 hs3 hs3')).mono ?_; rintro e_ w4 ⟨B4, e4, rfl, hz4, hb4⟩; dsimp only
    have hlen := encO_le o HGO.out
    have hb34 := hb3.trans (hb4.mono hb3.size)
    have hcap4 := hz4.cap
    have hmax4 : e4 ≤ maxLen := by
      rcases hz4.own.2 with ⟨h1, h2⟩ | ⟨_, cap, _, h1, _, _, _, h2, _⟩
      · injection h1 with _ _ h3; subst h3; exact Nat.zero_le _
      · injection h1 with _ _ h3; subst h3; exact h2
    have HD := ODecode_ok B4 (encO o).length e4 (encO o) w4 rfl hcap4 (by omega) hz4.rd
    rw [decO_enc o HGO.out] at HD
    unfold DecPost ordV at HD
    dsimp only at HD
    rw [show ((0 : Nat) : Int) = 0 from rfl] at HD
    have HDC := Lib.hid HD
    have hbox4 := hbox.below hb4
    have hs4 := hs3.below hb4
    have hs4' := hs3'.below hb4
    clear HD hbox hs3 hs3' hb3 hb4 hz4
    generalize encO o = E at *
    repeat' ((fail_if_success at_builtin); (fail_if_success at_make); (first | go_values | go_skip | go_guarded | go_step | go_upon | go_back))
    refine ((HDC.out)).mono ?_; rintro e_ w5 ⟨B5, c5, B5', c5', rfl, hr5, hr5', hcd5, hcp5, hb5⟩; dsimp only
    have hbox5 := hbox4.below hb5
    have hb35 := hb34.trans (hb5.mono hb34.size)
    have hs5 := hs4.below hb5
    have hs5' := hs4'.below hb5
    have hbx6 : Arr (w5.alloc (.cells #[.int .i64 (o.kind : Int), .int .i64 (o.n : Int), .string ⟨o.dig.toArray⟩, .slice B5 o.data.length c5, .slice B5' o.parts.length c5'] 28)) w5.heap.size 28 [.int .i64 (o.kind : Int), .int .i64 (o.n : Int), .string ⟨o.dig.toArray⟩, .slice B5 o.data.length c5, .slice B5' o.parts.length c5'] := Arr.new w5 28 _
    have hb36 := hb35.alloc hb35.size (.cells #[.int .i64 (o.kind : Int), .int .i64 (o.n : Int), .string ⟨o.dig.toArray⟩, .slice B5 o.data.length c5, .slice B5' o.parts.length c5'] 28)
    have hbx5 := hbox5.alloc (.cells #[.int .i64 (o.kind : Int), .int .i64 (o.n : Int), .string ⟨o.dig.toArray⟩, .slice B5 o.data.length c5, .slice B5' o.parts.length c5'] 28)
    have hbn := (Below.refl w5.heap.size w5).alloc (Nat.le_refl _) (.cells #[.int .i64 (o.kind : Int), .int .i64 (o.n : Int), .string ⟨o.dig.toArray⟩, .slice B5 o.data.length c5, .slice B5' o.parts.length c5'] 28)
    have hs6 := hs5.below hbn
    have hs6' := hs5'.below hbn
    have hr6 := hr5.below hbn
    have hr6' := hr5'.below hbn
    repeat' ((fail_if_success (with_reducible refine at_reg_ 6 ?_)); (fail_if_success (with_reducible refine at_sreg_ 6 ?_)); (fail_if_success (with_reducible refine at_ssreg_ 6 ?_)); (fail_if_success at_builtin); (fail_if_success at_make); (first | go_values | go_skip | go_guarded | go_step | go_upon | go_back))
    generalize (w5.alloc (.cells #[.int .i64 (o.kind : Int), .int .i64 (o.n : Int), .string ⟨o.dig.toArray⟩, .slice B5 o.data.length c5, .slice B5' o.parts.length c5'] 28)) = w6 at *
    generalize w5.heap.size = g6 at *
    have x0 := hbx5.cell (k := 0) rfl
    have x1 := hbx5.cell (k := 1) rfl
    have x2 := hbx5.cell (k := 2) rfl
    have x3 := hbx5.cell (k := 3) rfl
    have x4 := hbx5.cell (k := 4) rfl
    have y0 := hbx6.cell (k := 0) rfl
    have y1 := hbx6.cell (k := 1) rfl
    have y2 := hbx6.cell (k := 2) rfl
    have y3 := hbx6.cell (k := 3) rfl
    have y4 := hbx6.cell (k := 4) rfl
    have q1 := run_str (P := Try.prog) (c := c) (src := 25) (dst := 9) Try.underlying25 Try.underlying5 Try.underlying9 rfl hs6.rd
    have q2 := run_str (P := Try.prog) (c := c5) (src := 25) (dst := 9) Try.underlying25 Try.underlying5 Try.underlying9 rfl hr6
    have HEQ := Lib.hid (EqualP_same B' B5' o.parts.length c' c5' o.parts w6 rfl (by have := (chk_zero HGO.out.p1).1; omega) hs6'.rd hr6')
    generalize (⟨o.dig.toArray⟩ : ByteArray) = SD at *
    generalize (⟨o.data.toArray⟩ : ByteArray) = ST at *
    clear hbx5 hbx6 hbn hs6 hs6' hr6 hr6' hs5 hs5' hs4 hs4' hr5 hr5' hbox4 hbox5 HDC HEN hb5
    repeat' ((fail_if_success at_builtin); (fail_if_success at_make); (first | go_values | go_skip | go_guarded | go_step | go_upon | go_back))
    refine ((HEQ.out)).mono ?_; rintro e_ w7 ⟨rfl, hb7⟩; dsimp only
    clear x0 x1 x2 x3 x4 y0 y1 y2 y3 y4 q1 q2
    have hb37 := hb36.trans (hb7.mono hb36.size)
    repeat' ((fail_if_success at_builtin); (fail_if_success at_make); (first | go_values | go_skip | go_guarded | go_step | go_upon | go_back))
    go_roundg (zs.length - (k + 1))
    case measure => have := HGK.out; have := HKL.out; omega
    case rel => exact ⟨k + 1, rfl, by go_num, by have := HKL.out; omega, hb37⟩
set_option maxHeartbeats 4000000 in
theorem OrderTorn_walk (A : Option Addr) (n c : Nat) (l : List RawP) (m : Int) (y : UInt8) (w : World) (hl : l.length = n) (hc : n ≤ c) (hm : c ≤ maxLen) (hok : ∀ r ∈ l, RawOk r) (hr : Rd w 4 A n (rcs l)) (hm0 : -9223372036854775808 ≤ m) (hm1 : m ≤ 9223372036854775807) :
    Calls Try.prog 3 #[.slice A n c, .int .i64 m, .int .u8 (y.toNat : Int)] w fun e w' => e = .returned (.bool true) ∧ Below w.heap.size w w' := by
  have HOR := Lib.hid (Orders_ok A n c l 10 10 rfl (by omega) w hl hc hm hok hr)
  clear hl hok hr hc hm
  go_enter Try.func3, Try.ntmps3
  repeat' ((fail_if_success at_builtin); (fail_if_success at_make); (first | go_values | go_skip | go_guarded | go_step | go_upon | go_back))
  refine ((HOR.out)).mono ?_; rintro e_ w1 ⟨v1, os, rfl, ho1, hg1, hl1, hb1⟩; dsimp only
  obtain ⟨ps1, h1, h2, h3, h4⟩ := ho1
  repeat' ((fail_if_success at_builtin); (fail_if_success at_make); (first | go_values | go_skip | go_guarded | go_step | go_upon | go_back))
  refine wpList_apN rfl (.tmp 16) (.tmp 18) rfl elOrd (by rfl) h3 (us := [.int .i64 10, .int .i64 0, .string ⟨#[]⟩, .slice none 0 0, .slice none 0 0]) (by rfl) rfl (oc_one ⟨10, 0, [], [], []⟩ none 0 none 0) (by show (os.length + 1) * 80 ≤ 140737488355328; omega) hb1.size ?_
  intro v2 w2 ho2 hg2 hv2
  have hrw := RwO.snoc (x := ⟨10, 0, [], [], []⟩) (cs := ocell ⟨10, 0, [], [], []⟩ none 0 none 0) h1 h2 h3 h4 ⟨none, 0, none, 0, rfl, Sl.nil_ _ _, Sl.nil_ _ _⟩ (fun b _ hl => by obtain ⟨a, e | e, _⟩ := oc_leads hl <;> cases e) ho2 hg2 hv2
  obtain ⟨A2, c2, rfl, hc2, hm2, hr2⟩ := hrw.rows
  have hb2 := below_own hb1 h3 (Nat.le_refl _) hg2
  have hgz : ∀ o ∈ os ++ [(⟨10, 0, [], [], []⟩ : OrdP)], GoodO o := fun o ho => by
    rcases List.mem_append.1 ho with h | h
    · exact hg1 o h
    · have := List.mem_singleton.1 h; subst this; exact (good_f (k := 10) (f := ⟨false, false, false, false⟩) rfl (fun _ => rfl) (fun _ => rfl) (fun _ => rfl) (fun _ => rfl) (by omega) (fun h => by cases h) (by simp) rfl)
  have hlz : (os ++ [(⟨10, 0, [], [], []⟩ : OrdP)]).length ≤ 21 := by rw [List.length_append]; simp only [List.length_cons, List.length_nil]; omega
  have HGZ := Lib.hid hgz
  clear h1 h2 h3 h4 ho2 hg2 hv2 hrw hgz hg1 hl1 hb1
  generalize os ++ [(⟨10, 0, [], [], []⟩ : OrdP)] = zs at *
  have hlz63 : (zs.length : Int) ≤ 9223372036854775807 := by omega
  repeat' ((fail_if_success at_builtin); (fail_if_success at_make); (first | go_values | go_skip | go_guarded | go_step | go_upon | go_back))
  go_loopg [21] zs.length (fun gn i wr => ∃ k : Nat, gn = zs.length - k ∧ i = .int .i64 k ∧ k ≤ zs.length ∧ Below w2.heap.size w2 wr)
  case atStart => exact ⟨0, rfl, rfl, by omega, Below.refl _ _⟩
  case round =>
    obtain ⟨k, hgk, rfl, hk, hbel⟩ := hrel
    have HGK := Lib.hid hgk
    clear hgk
    by_cases hlt : k < zs.length
    rotate_left
    · obtain rfl : k = zs.length := by omega
      have hlb : decide (zs.length < zs.length) = false := by simp
      repeat' ((fail_if_success at_builtin); (fail_if_success at_make); (first | go_values | go_skip | go_guarded | go_step | go_upon | go_back))
      go_ret
      exact ⟨rfl, hb2.trans (hbel.mono hb2.size)⟩
    have hlb : decide (k < zs.length) = true := decide_eq_true hlt
    have hk0 : (0 : Int) ≤ (k : Int) := by omega
    have hk1 : (k : Int) < (zs.length : Int) := by omega
    obtain ⟨b, off, B, c, B', c', rfl, hbw, d0, d1, d2, d3, d4, hs, hs'⟩ := (hr2.below hbel).ord_at k hlt
    have HGO := Lib.hid (HGZ.out _ (List.getElem_mem hlt))
    have HKL := Lib.hid hlt
    generalize zs[k] = o at *
    have hbox : Arr (wr.alloc (.cells #[.int .i64 (o.kind : Int), .int .i64 (o.n : Int), .string ⟨o.dig.toArray⟩, .slice B o.data.length c, .slice B' o.parts.length c'] 28)) wr.heap.size 28 [.int .i64 (o.kind : Int), .int .i64 (o.n : Int), .string ⟨o.dig.toArray⟩, .slice B o.data.length c, .slice B' o.parts.length c'] := Arr.new wr 28 _
    have hb3 := hbel.alloc hbel.size (.cells #[.int .i64 (o.kind : Int), .int .i64 (o.n : Int), .string ⟨o.dig.toArray⟩, .slice B o.data.length c, .slice B' o.parts.length c'] 28)
    have hbn := (Below.refl wr.heap.size wr).alloc (Nat.le_refl _) (.cells #[.int .i64 (o.kind : Int), .int .i64 (o.n : Int), .string ⟨o.dig.toArray⟩, .slice B o.data.length c, .slice B' o.parts.length c'] 28)
    have hs3 := hs.below hbn
    have hs3' := hs'.below hbn
    have HE := fun (w3 : World) (h1 : Sl w3 1 B o.data.length c (bys o.data)) (h2 : Sl w3 3 B' o.parts.length c' (pcs o.parts)) => OEncode_ok o B B' c c' w3 HGO.out h2.cap h2.rd h1.rd
    unfold ordV at HE
    have HEN := Lib.hid HE
    clear HE hs hs' hbn hbw
    repeat' ((fail_if_success at_builtin); (fail_if_success at_make); (first | go_values | go_skip | go_guarded | go_step | go_upon | go_back))
    clear d0 d1 d2 d3 d4
    generalize (wr.alloc (.cells #[.int .i64 (o.kind : Int), .int .i64 (o.n : Int), .string ⟨o.dig.toArray⟩, .slice B o.data.length c, .slice B' o.parts.length c'] 28)) = w3 at *
    generalize wr.heap.size = g3 at *
    refine ((HEN.out w3 hs3 hs3')).mono ?_; rintro e_ w4 ⟨B4, e4, rfl, hz4, hb4⟩; dsimp only
    have hlen := encO_le o HGO.out
    have hb34 := hb3.trans (hb4.mono hb3.size)
    have hcap4 := hz4.cap
    have hmax4 : e4 ≤ maxLen := by
      rcases hz4.own.2 with ⟨h1, h2⟩ | ⟨_, cap, _, h1, _, _, _, h2, _⟩
      · injection h1 with _ _ h3; subst h3; exact Nat.zero_le _
      · injection h1 with _ _ h3; subst h3; exact h2
    have i0 : (((encO o).length : Int) == 0) = false := by rw [beq_eq_false_iff_ne]; omega
    have i0' : ((encO o).length == 0) = false := by rw [beq_eq_false_iff_ne]; omega
    obtain ⟨j, hj⟩ : ∃ j, j = pk m (encO o).length := ⟨_, rfl⟩
    have hjl : j < (encO o).length := by rw [hj]; exact pk_lt m (by omega)
    have HP := Lib.hid (fun w' => Picked_ok m (encO o).length ((encO o).length : Int) rfl w' hm0 hm1 (by omega) (by omega))
    rw [← hj] at HP
    have he0 := decO_torn o j HGO.out hjl
    have HMO := Lib.hid (decO_more o [y] HGO.out (by simp) (by simp))
    have ik0 : (0 : Int) ≤ (j : Int) := by omega
    have ikc : (j : Int) ≤ (e4 : Int) := by omega
    have hc63 : (e4 : Int) ≤ 9223372036854775807 := by unfold maxLen at hmax4; omega
    have hr4 := hz4.rd
    have hrk := hr4.pre (k := j) (by omega)
    rw [Nat.mul_one, bys_take] at hrk
    have htl : ((encO o).take j).length = j := by rw [List.length_take]; omega
    have HD1 := ODecode_ok B4 j e4 ((encO o).take j) w4 htl (by omega) (by omega) hrk
    unfold DecPost ordV at HD1
    generalize hR1 : decO ((encO o).take j) = R1 at *
    obtain ⟨p1, f1⟩ := R1
    dsimp only at HD1 he0
    have HD1' := Lib.hid HD1
    have ie1 : ((f1 : Int) == 0) = false := by rw [beq_eq_false_iff_ne]; omega
    have HIE := Lib.hid ie1
    clear hj HD1 hrk htl hR1 hz4 he0 ie1 hs3 hs3' hbox hb3 hb4 HEN
    generalize encO o = E at *
    repeat' ((fail_if_success at_builtin); (fail_if_success at_make); (first | go_values | go_skip | go_guarded | go_step | go_upon | go_back))
    clear i0 i0'
    refine ((HP.out _)).mono ?_; rintro e_ _ ⟨rfl, rfl⟩; dsimp only
    repeat' ((fail_if_success at_builtin); (fail_if_success at_make); (first | go_values | go_skip | go_guarded | go_step | go_upon | go_back))
    refine ((HD1'.out)).mono ?_; rintro e_ w5 ⟨B5, c5, B5', c5', rfl, _, _, _, _, hb5⟩; dsimp only
    have hb35 := hb34.trans (hb5.mono hb34.size)
    have hb36 := hb35.alloc hb35.size (.cells #[.int .i64 (p1.kind : Int), .int .i64 (p1.n : Int), .string ⟨p1.dig.toArray⟩, .slice B5 p1.data.length c5, .slice B5' p1.parts.length c5'] 28)
    have hr6 := (hr4.below hb5).alloc (.cells #[.int .i64 (p1.kind : Int), .int .i64 (p1.n : Int), .string ⟨p1.dig.toArray⟩, .slice B5 p1.data.length c5, .slice B5' p1.parts.length c5'] 28)
    clear hb35 hb5 HD1' hr4
    repeat' ((fail_if_success at_builtin); (fail_if_success at_make); (first | go_values | go_skip | go_guarded | go_step | go_upon | go_back))
    generalize (w5.alloc (.cells #[.int .i64 (p1.kind : Int), .int .i64 (p1.n : Int), .string ⟨p1.dig.toArray⟩, .slice B5 p1.data.length c5, .slice B5' p1.parts.length c5'] 28)) = w6 at *
    generalize w5.heap.size = g6 at *
    refine ((SClone_ok B4 E.length e4 E w6 rfl hcap4 (by omega) hr6)).mono ?_; rintro e_ w7 ⟨v7, rfl, ho7, hb7⟩; dsimp only
    have hb37 := hb36.trans (hb7.mono hb36.size)
    have hs36 := hb36.size
    repeat' ((fail_if_success at_builtin); (fail_if_success at_make); (first | go_values | go_skip | go_guarded | go_step | go_upon | go_back))
    refine wpList_apN rfl (.tmp 49) (.tmp 51) rfl elU8 (by rfl) ho7 (us := bys [y]) (m := 1) (by rfl) rfl (bys_one _) (by omega) hb7.size ?_
    intro v8 w8 ho8 hg8 _
    have hb38 := below_own hb37 ho7 hs36 hg8
    rw [← bys_app] at ho8
    obtain ⟨A8, c8, rfl, hc8, hr8⟩ := Rd.of_own' ho8
    have HD2 := ODecode_ok A8 (E.length + 1) c8 (E ++ [y]) w8 (by rw [List.length_append]; rfl) hc8 (by omega) hr8
    rw [HMO.out] at HD2
    unfold DecPost ordV noO at HD2
    dsimp only at HD2
    have HD2' := Lib.hid HD2
    clear HMO ho8 hg8 ho7 hb37 hr8 HD2 hr6 hb7 hb36 hs36
    generalize E ++ [y] = Ey at *
    repeat' ((fail_if_success at_builtin); (fail_if_success at_make); (first | go_values | go_skip | go_guarded | go_step | go_upon | go_back))
    have hie := HIE.out
    refine ((HD2'.out)).mono ?_; rintro e_ w9 ⟨B9, c9, B9', c9', rfl, _, _, _, _, hb9⟩; dsimp only
    rw [show ((3 : Nat) : Int) = 3 from rfl]
    have hb39 := hb38.trans (hb9.mono hb38.size)
    have hb40 := hb39.alloc hb39.size (.cells #[.int .i64 ((0 : Nat) : Int), .int .i64 ((0 : Nat) : Int), .string ⟨([] : List UInt8).toArray⟩, .slice B9 ([] : List UInt8).length c9, .slice B9' ([] : List PartP).length c9'] 28)
    clear hb38 hb9 hb39 HD2'
    repeat' ((fail_if_success at_builtin); (fail_if_success at_make); (first | go_values | go_skip | go_guarded | go_step | go_upon | go_back))
    go_roundg (zs.length - (k + 1))
    case measure => have := HGK.out; have := HKL.out; omega
    case rel => exact ⟨k + 1, rfl, by go_num, by have := HKL.out; omega, hb40⟩
set_option maxHeartbeats 4000000 in
theorem OrderTurns_walk (A : Option Addr) (n c : Nat) (l : List RawP) (m : Int) (y : UInt8) (w : World) (hl : l.length = n) (hc : n ≤ c) (hm : c ≤ maxLen) (hok : ∀ r ∈ l, RawOk r) (hr : Rd w 4 A n (rcs l)) (hm0 : -9223372036854775808 ≤ m) (hm1 : m ≤ 9223372036854775807) :
    Calls Try.prog 4 #[.slice A n c, .int .i64 m, .int .u8 (y.toNat : Int)] w fun e w' => e = .returned (.bool true) ∧ Below w.heap.size w w' := by
  have HOR := Lib.hid (Orders_ok A n c l 10 10 rfl (by omega) w hl hc hm hok hr)
  clear hl hok hr hc hm
  go_enter Try.func4, Try.ntmps4
  repeat' ((fail_if_success at_builtin); (fail_if_success at_make); (first | go_values | go_skip | go_guarded | go_step | go_upon | go_back))
  refine ((HOR.out)).mono ?_; rintro e_ w1 ⟨v1, os, rfl, ho1, hg1, hl1, hb1⟩; dsimp only
  obtain ⟨ps1, h1, h2, h3, h4⟩ := ho1
  repeat' ((fail_if_success at_builtin); (fail_if_success at_make); (first | go_values | go_skip | go_guarded | go_step | go_upon | go_back))
  refine wpList_apN rfl (.tmp 17) (.tmp 19) rfl elOrd (by rfl) h3 (us := [.int .i64 10, .int .i64 0, .string ⟨#[]⟩, .slice none 0 0, .slice none 0 0]) (by rfl) rfl (oc_one ⟨10, 0, [], [], []⟩ none 0 none 0) (by show (os.length + 1) * 80 ≤ 140737488355328; omega) hb1.size ?_
  intro v2 w2 ho2 hg2 hv2
  have hrw := RwO.snoc (x := ⟨10, 0, [], [], []⟩) (cs := ocell ⟨10, 0, [], [], []⟩ none 0 none 0) h1 h2 h3 h4 ⟨none, 0, none, 0, rfl, Sl.nil_ _ _, Sl.nil_ _ _⟩ (fun b _ hl => by obtain ⟨a, e | e, _⟩ := oc_leads hl <;> cases e) ho2 hg2 hv2
  obtain ⟨A2, c2, rfl, hc2, hm2, hr2⟩ := hrw.rows
  have hb2 := below_own hb1 h3 (Nat.le_refl _) hg2
  have hgz : ∀ o ∈ os ++ [(⟨10, 0, [], [], []⟩ : OrdP)], GoodO o := fun o ho => by
    rcases List.mem_append.1 ho with h | h
    · exact hg1 o h
    · have := List.mem_singleton.1 h; subst this; exact (good_f (k := 10) (f := ⟨false, false, false, false⟩) rfl (fun _ => rfl) (fun _ => rfl) (fun _ => rfl) (fun _ => rfl) (by omega) (fun h => by cases h) (by simp) rfl)
  have hlz : (os ++ [(⟨10, 0, [], [], []⟩ : OrdP)]).length ≤ 21 := by rw [List.length_append]; simp only [List.length_cons, List.length_nil]; omega
  have HGZ := Lib.hid hgz
  clear h1 h2 h3 h4 ho2 hg2 hv2 hrw hgz hg1 hl1 hb1
  generalize os ++ [(⟨10, 0, [], [], []⟩ : OrdP)] = zs at *
  have hlz63 : (zs.length : Int) ≤ 9223372036854775807 := by omega
  repeat' ((fail_if_success at_builtin); (fail_if_success at_make); (first | go_values | go_skip | go_guarded | go_step | go_upon | go_back))
  go_loopg [22] zs.length (fun gn i wr => ∃ k : Nat, gn = zs.length - k ∧ i = .int .i64 k ∧ k ≤ zs.length ∧ Below w2.heap.size w2 wr)
  case atStart => exact ⟨0, rfl, rfl, by omega, Below.refl _ _⟩
  case round =>
    obtain ⟨k, hgk, rfl, hk, hbel⟩ := hrel
    have HGK := Lib.hid hgk
    clear hgk
    by_cases hlt : k < zs.length
    rotate_left
    · obtain rfl : k = zs.length := by omega
      have hlb : decide (zs.length < zs.length) = false := by simp
      repeat' ((fail_if_success at_builtin); (fail_if_success at_make); (first | go_values | go_skip | go_guarded | go_step | go_upon | go_back))
      go_ret
      exact ⟨rfl, hb2.trans (hbel.mono hb2.size)⟩
    have hlb : decide (k < zs.length) = true := decide_eq_true hlt
    have hk0 : (0 : Int) ≤ (k : Int) := by omega
    have hk1 : (k : Int) < (zs.length : Int) := by omega
    obtain ⟨b, off, B, c, B', c', rfl, hbw, d0, d1, d2, d3, d4, hs, hs'⟩ := (hr2.below hbel).ord_at k hlt
    have HGO := Lib.hid (HGZ.out _ (List.getElem_mem hlt))
    have HKL := Lib.hid hlt
    generalize zs[k] = o at *
    have hbox : Arr (wr.alloc (.cells #[.int .i64 (o.kind : Int), .int .i64 (o.n : Int), .string ⟨o.dig.toArray⟩, .slice B o.data.length c, .slice B' o.parts.length c'] 28)) wr.heap.size 28 [.int .i64 (o.kind : Int), .int .i64 (o.n : Int), .string ⟨o.dig.toArray⟩, .slice B o.data.length c, .slice B' o.parts.length c'] := Arr.new wr 28 _
    have hb3 := hbel.alloc hbel.size (.cells #[.int .i64 (o.kind : Int), .int .i64 (o.n : Int), .string ⟨o.dig.toArray⟩, .slice B o.data.length c, .slice B' o.parts.length c'] 28)
    have hbn := (Below.refl wr.heap.size wr).alloc (Nat.le_refl _) (.cells #[.int .i64 (o.kind : Int), .int .i64 (o.n : Int), .string ⟨o.dig.toArray⟩, .slice B o.data.length c, .slice B' o.parts.length c'] 28)
    have hs3 := hs.below hbn
    have hs3' := hs'.below hbn
    have HE := fun (w3 : World) (h1 : Sl w3 1 B o.data.length c (bys o.data)) (h2 : Sl w3 3 B' o.parts.length c' (pcs o.parts)) => OEncode_ok o B B' c c' w3 HGO.out h2.cap h2.rd h1.rd
    unfold ordV at HE
    have HEN := Lib.hid HE
    clear HE hs hs' hbn hbw
    repeat' ((fail_if_success at_builtin); (fail_if_success at_make); (first | go_values | go_skip | go_guarded | go_step | go_upon | go_back))
    clear d0 d1 d2 d3 d4
    generalize (wr.alloc (.cells #[.int .i64 (o.kind : Int), .int .i64 (o.n : Int), .string ⟨o.dig.toArray⟩, .slice B o.data.length c, .slice B' o.parts.length c'] 28)) = w3 at *
    generalize wr.heap.size = g3 at *
    refine ((HEN.out w3 hs3 hs3')).mono ?_; rintro e_ w4 ⟨B4, e4, rfl, hz4, hb4⟩; dsimp only
    have hlen := encO_le o HGO.out
    have hb34 := hb3.trans (hb4.mono hb3.size)
    have hcap4 := hz4.cap
    have hmax4 : e4 ≤ maxLen := by
      rcases hz4.own.2 with ⟨h1, h2⟩ | ⟨_, cap, _, h1, _, _, _, h2, _⟩
      · injection h1 with _ _ h3; subst h3; exact Nat.zero_le _
      · injection h1 with _ _ h3; subst h3; exact h2
    have i0 : (((encO o).length : Int) == 0) = false := by rw [beq_eq_false_iff_ne]; omega
    have i0' : ((encO o).length == 0) = false := by rw [beq_eq_false_iff_ne]; omega
    have HT := Lib.hid (Turned_ok B4 (encO o).length e4 (encO o) m y w4 rfl (by omega) hcap4 (by omega) hz4.rd hm0 hm1)
    obtain ⟨D, hD⟩ : ∃ D, turn1 (encO o) (pk m (encO o).length) (max y 1) = D := ⟨_, rfl⟩
    have hDl : D.length = (encO o).length := by rw [← hD, turn1_len]
    rw [hD, ← hDl] at HT
    rw [← hDl]
    rw [← hDl] at hlen hcap4 i0 i0'
    clear hD hDl hz4 hs3 hs3' hbox hb3 hb4 HEN
    repeat' ((fail_if_success at_builtin); (fail_if_success at_make); (first | go_values | go_skip | go_guarded | go_step | go_upon | go_back))
    refine ((HT.out)).mono ?_; rintro e_ w5 ⟨A5, c5, rfl, hc5, hcm5, hr5, hb5⟩; dsimp only
    have hb35 := hb34.trans (hb5.mono hb34.size)
    have HD := ODecode_ok A5 D.length c5 D w5 rfl hc5 (by omega) hr5
    have HIN := Lib.hid (fun (p : OrdP) => decO_inv (b := D) (o := p))
    unfold DecPost ordV at HD
    generalize decO D = R at *
    obtain ⟨p, f⟩ := R
    dsimp only at HD
    have HDC := Lib.hid HD
    clear HT hb34 hb5 HD
    repeat' ((fail_if_success at_builtin); (fail_if_success at_make); (first | go_values | go_skip | go_guarded | go_step | go_upon | go_back))
    refine ((HDC.out)).mono ?_; rintro e_ w6 ⟨B6, c6, B6', c6', rfl, hr6, hr6', hcd6, hcp6, hb6⟩; dsimp only
    have hb36 := hb35.trans (hb6.mono hb35.size)
    have hrd6 := hr5.below hb6
    have hbn := (Below.refl w6.heap.size w6).alloc (Nat.le_refl _) (.cells #[.int .i64 (p.kind : Int), .int .i64 (p.n : Int), .string ⟨p.dig.toArray⟩, .slice B6 p.data.length c6, .slice B6' p.parts.length c6'] 28)
    have hbx7 : Arr (w6.alloc (.cells #[.int .i64 (p.kind : Int), .int .i64 (p.n : Int), .string ⟨p.dig.toArray⟩, .slice B6 p.data.length c6, .slice B6' p.parts.length c6'] 28)) w6.heap.size 28 [.int .i64 (p.kind : Int), .int .i64 (p.n : Int), .string ⟨p.dig.toArray⟩, .slice B6 p.data.length c6, .slice B6' p.parts.length c6'] := Arr.new w6 28 _
    have hb37 := hb36.trans (hbn.mono hb36.size)
    have hrd7 := hrd6.below hbn
    have hr7 := hr6.below hbn
    have hr7' := hr6'.below hbn
    repeat' ((fail_if_success (with_reducible refine at_reg_ 7 ?_)); (fail_if_success (with_reducible refine at_sreg_ 7 ?_)); (fail_if_success (with_reducible refine at_ssreg_ 7 ?_)); (fail_if_success at_builtin); (fail_if_success at_make); (first | go_values | go_skip | go_guarded | go_step | go_upon | go_back))
    generalize (w6.alloc (.cells #[.int .i64 (p.kind : Int), .int .i64 (p.n : Int), .string ⟨p.dig.toArray⟩, .slice B6 p.data.length c6, .slice B6' p.parts.length c6'] 28)) = w7 at *
    generalize w6.heap.size = g7 at *
    clear hr5 hrd6 hr6 hr6' hb6 hbn hb36 HDC
    by_cases hf : f = 0
    rotate_left
    · have e1 : ((f : Int) == 0) = false := by rw [beq_eq_false_iff_ne]; omega
      clear hbx7 hr7 hr7' hrd7
      repeat' ((fail_if_success at_builtin); (fail_if_success at_make); (first | go_values | go_skip | go_guarded | go_step | go_upon | go_back))
      go_roundg (zs.length - (k + 1))
      case measure => have := HGK.out; have := HKL.out; omega
      case rel => exact ⟨k + 1, rfl, by go_num, by have := HKL.out; omega, hb37⟩
    subst hf
    obtain ⟨hEX, hGX⟩ := HIN.out p rfl
    have e1 : ((((0 : Nat) : Int)) == 0) = true := rfl
    have HE2 := OEncode_ok p B6 B6' c6 c6' w7 hGX hcp6 hr7' hr7
    rw [hEX] at HE2
    unfold ordV at HE2
    have HEN := Lib.hid HE2
    have x0 := hbx7.cell (k := 0) rfl
    have x1 := hbx7.cell (k := 1) rfl
    have x2 := hbx7.cell (k := 2) rfl
    have x3 := hbx7.cell (k := 3) rfl
    have x4 := hbx7.cell (k := 4) rfl
    clear hEX hGX HE2 HIN hr7 hr7' hbx7
    rw [show ((0 : Nat) : Int) = 0 from rfl]
    repeat' ((fail_if_success at_builtin); (fail_if_success at_make); (first | go_values | go_skip | go_guarded | go_step | go_upon | go_back))
    refine ((HEN.out)).mono ?_; rintro e_ w8 ⟨B8, c8, rfl, hz8, hb8⟩; dsimp only
    clear x0 x1 x2 x3 x4
    have hb38 := hb37.trans (hb8.mono hb37.size)
    have hrd8 := hrd7.below hb8
    have q1 := run_str (P := Try.prog) (c := c8) (src := 25) (dst := 9) Try.underlying25 Try.underlying5 Try.underlying9 rfl hz8.rd
    have q2 := run_str (P := Try.prog) (c := c5) (src := 25) (dst := 9) Try.underlying25 Try.underlying5 Try.underlying9 rfl hrd8
    generalize (⟨D.toArray⟩ : ByteArray) = T at *
    clear hz8 hb8 hrd7 hrd8 HEN
    repeat' ((fail_if_success at_builtin); (fail_if_success at_make); (first | go_values | go_skip | go_guarded | go_step | go_upon | go_back))
    go_roundg (zs.length - (k + 1))
    case measure => have := HGK.out; have := HKL.out; omega
    case rel => exact ⟨k + 1, rfl, by go_num, by have := HKL.out; omega, hb38⟩
end Go.Proofs.Ytdpedkgdobfemaa
