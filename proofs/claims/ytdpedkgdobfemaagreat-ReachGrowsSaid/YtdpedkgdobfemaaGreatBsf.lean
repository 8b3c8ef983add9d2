/- slices.BinarySearchFunc of blobs, of entries. Conditions: the sizes. -/
import Derived.Test.YtdpedkgdobfemaaGreatIns
import Derived.Test.YtdpedkgdobfemaaGreatSort
namespace Go.Proofs.YtdpedkgdobfemaaGreat
open Go.RowKit
set_option linter.unusedVariables false
set_option linter.unusedSimpArgs false
set_option maxRecDepth 100000

theorem cmp_zero : ∀ x y : List UInt8, Lib.compareBytes x y = 0 ↔ x = y
  | [], [] => by simp [Lib.compareBytes]
  | [], _ :: _ => by simp [Lib.compareBytes]
  | _ :: _, [] => by simp [Lib.compareBytes]
  | a :: x, b :: y => by
    rw [Lib.compareBytes]
    rcases u8_tri a b with h | h | h
    · rw [if_pos h]
      exact ⟨fun e => by omega, fun e => by cases e; exact absurd h (UInt8.lt_irrefl _)⟩
    · subst h
      rw [if_neg (UInt8.lt_irrefl _), if_neg (UInt8.lt_irrefl _), cmp_zero x y]
      simp
    · rw [if_neg (UInt8.lt_asymm h), if_pos h]
      exact ⟨fun e => by omega, fun e => by cases e; exact absurd h (UInt8.lt_irrefl _)⟩
theorem PutCmpB_ok (s t : ByteArray) (v1 v2 v3 : Value) (w : World) :
    Calls Tryz.prog 101 #[.agg #[.string s, v1, v2, v3], .string t] w fun e w' => e = .returned (.int .i64 (Lib.compareBytes s.data.toList t.data.toList)) ∧ Below w.heap.size w w' := by
  have hA1 := Arr.new w 38 [.string s, v1, v2, v3]
  have hA : Arr (w.alloc (.cells #[.string s, v1, v2, v3] 38)) w.heap.size 38 [.string s, v1, v2, v3] := hA1
  have hb := (Below.refl w.heap.size w).alloc (Nat.le_refl _) (.cells #[.string s, v1, v2, v3] 38)
  have a0 := hA.cell (k := 0) rfl
  have HC := Lib.hid (fun W => Tryz.strings_Compare s t W)
  clear hA1 hA
  go_enter Tryz.func101, Tryz.ntmps101
  repeat' ((fail_if_success at_builtin); (fail_if_success at_make); (first | go_values | go_skip | go_guarded | go_step | go_upon | go_back))
  generalize w.alloc (.cells #[.string s, v1, v2, v3] 38) = W at *
  refine ((HC.out W)).mono ?_; rintro e_ w1 ⟨rfl, rfl⟩; dsimp only
  repeat' ((fail_if_success at_builtin); (fail_if_success at_make); (first | go_values | go_skip | go_guarded | go_step | go_upon | go_back))
  go_ret
  exact ⟨rfl, hb⟩
theorem PutCmpE_ok (s t : ByteArray) (v1 v2 v3 : Value) (w : World) :
    Calls Tryz.prog 109 #[.agg #[.string s, v1, v2, v3], .string t] w fun e w' => e = .returned (.int .i64 (Lib.compareBytes s.data.toList t.data.toList)) ∧ Below w.heap.size w w' := by
  have hA1 := Arr.new w 32 [.string s, v1, v2, v3]
  have hA : Arr (w.alloc (.cells #[.string s, v1, v2, v3] 32)) w.heap.size 32 [.string s, v1, v2, v3] := hA1
  have hb := (Below.refl w.heap.size w).alloc (Nat.le_refl _) (.cells #[.string s, v1, v2, v3] 32)
  have a0 := hA.cell (k := 0) rfl
  have HC := Lib.hid (fun W => Tryz.strings_Compare s t W)
  clear hA1 hA
  go_enter Tryz.func109, Tryz.ntmps109
  repeat' ((fail_if_success at_builtin); (fail_if_success at_make); (first | go_values | go_skip | go_guarded | go_step | go_upon | go_back))
  generalize w.alloc (.cells #[.string s, v1, v2, v3] 32) = W at *
  refine ((HC.out W)).mono ?_; rintro e_ w1 ⟨rfl, rfl⟩; dsimp only
  repeat' ((fail_if_success at_builtin); (fail_if_success at_make); (first | go_values | go_skip | go_guarded | go_step | go_upon | go_back))
  go_ret
  exact ⟨rfl, hb⟩
set_option maxHeartbeats 8000000 in
theorem BsB_ok (A : Option Addr) (c : Nat) (l : List BlobP) (d : List UInt8) (w : World) (hl : l.length ≤ 100000) (hris : RisesBy (·.dig) l) (hA : Rw BlobS w A l) :
    Calls Tryz.prog 100 #[.slice A l.length c, .string ⟨d.toArray⟩, .func (.func 101) #[] #[]] w fun e w' =>
      ∃ i f, e = .returned (.tuple #[.int .i64 ((i : Nat) : Int), .bool f]) ∧ i ≤ l.length ∧ (∀ k (h : k < l.length), k < i → Op.bytesLess l[k].dig d = true) ∧ (∀ k (h : k < l.length), i ≤ k → Op.bytesLess l[k].dig d = false) ∧ (f = true ↔ ∃ h : i < l.length, l[i].dig = d) ∧ Below w.heap.size w w' := by
  obtain ⟨t, ht⟩ : ∃ t : ByteArray, t = ⟨d.toArray⟩ := ⟨_, rfl⟩
  rw [← ht]
  have HT := Lib.hid ht
  have HRI := Lib.hid hris
  clear ht hris
  have HCM := Lib.hid (fun (x : BlobP) (A' : Option Addr) (c' : Nat) W => PutCmpB_ok ⟨x.dig.toArray⟩ t (.slice A' x.data.length c') (.int .i64 (x.pins : Int)) (.bool x.mark) W)
  go_enter Tryz.func100, Tryz.ntmps100
  repeat' ((fail_if_success at_builtin); (fail_if_success at_make); (first | go_values | go_skip | go_guarded | go_step | go_upon | go_back))
  go_loopg [9, 10] l.length (fun gn u v wr => ∃ i j : Nat, gn = j - i ∧ u = .int .i64 i ∧ v = .int .i64 j ∧ i ≤ j ∧ j ≤ l.length ∧ (∀ k (h : k < l.length), k < i → Op.bytesLess l[k].dig d = true) ∧ (∀ k (h : k < l.length), j ≤ k → Op.bytesLess l[k].dig d = false) ∧ Below w.heap.size w wr)
  case atStart => exact ⟨0, l.length, rfl, rfl, rfl, by omega, by omega, fun k _ h => absurd h (by omega), fun k h h' => absurd h (by omega), Below.refl _ _⟩
  case round =>
    obtain ⟨i, j, hgk, rfl, rfl, hij, hjl, h1, h2, hbl⟩ := hrel
    have HGK := Lib.hid hgk
    have H1 := Lib.hid h1
    have H2 := Lib.hid h2
    clear hgk h1 h2
    by_cases hlt : i < j
    · have hcc : decide (i < j) = true := decide_eq_true hlt
      have hhl : (i + j) / 2 < l.length := by omega
      obtain ⟨b, off, B, cb, rfl, hbb, c0, c1, c2, c3, hs⟩ := (hA.below hbl).blob_at ((i + j) / 2) hhl
      have hcm := HCM.out l[(i + j) / 2] B cb wr
      have HM := Lib.hid (show (((i : Int) + (j : Int)) / 2 = (((i + j) / 2 : Nat) : Int)) ∧ (((i : Int) + (j : Int)) / 2 + 1 = (((i + j) / 2 + 1 : Nat) : Int)) from ⟨by omega, by omega⟩)
      have hps := List.pairwise_iff_getElem.1 HRI.out
      obtain ⟨sx, hsx⟩ : ∃ s : ByteArray, s = ⟨(l[(i + j) / 2]).dig.toArray⟩ := ⟨_, rfl⟩
      rw [← hsx] at c0 hcm
      have hcp : Lib.compareBytes sx.data.toList t.data.toList = Lib.compareBytes (l[(i + j) / 2]).dig d := by rw [hsx, HT.out]
      rw [hcp] at hcm
      cases hle : Op.bytesLess (l[(i + j) / 2]).dig d with
      | true =>
        have hz := compare_lt hle
        have HP := Lib.hid (show ∀ k (h : k < l.length), k < (i + j) / 2 + 1 → Op.bytesLess l[k].dig d = true from fun k h hk => by
          rcases Nat.lt_or_ge k ((i + j) / 2) with h1 | h1
          · exact bl_trans (hps k _ h hhl h1) hle
          · have : k = (i + j) / 2 := by omega
            subst this; exact hle)
        clear hps hle hsx hcp hs
        generalize Lib.compareBytes (l[(i + j) / 2]).dig d = z at *
        generalize l[(i + j) / 2] = x at *
        have hz1 : decide (z < 0) = true := decide_eq_true hz
        have HCL := Lib.hid hcm
        clear hcm
        repeat' ((fail_if_success at_builtin); (fail_if_success at_make); (first | go_values | go_skip | go_guarded | go_step | go_upon | go_back))
        refine ((HCL.out)).mono ?_; rintro e_ w5 ⟨rfl, hb5⟩; dsimp only
        have hbl5 := hbl.trans (hb5.mono hbl.size)
        repeat' ((fail_if_success at_builtin); (fail_if_success at_make); (first | go_values | go_skip | go_guarded | go_step | go_upon | go_back))
        go_roundg (j - ((i + j) / 2 + 1))
        case measure => have := HGK.out; omega
        case rel => exact ⟨(i + j) / 2 + 1, j, rfl, by rw [HM.out.2], rfl, by omega, hjl, HP.out, H2.out, hbl5⟩
      | false =>
        have hz := compare_ge hle
        have HP := Lib.hid (show ∀ k (h : k < l.length), (i + j) / 2 ≤ k → Op.bytesLess l[k].dig d = false from fun k h hk => by
          rcases Nat.lt_or_ge ((i + j) / 2) k with h1 | h1
          · cases hq : Op.bytesLess l[k].dig d with
            | false => rfl
            | true => have := bl_trans (hps _ k hhl h h1) hq; rw [hle] at this; cases this
          · have : k = (i + j) / 2 := by omega
            subst this; exact hle)
        clear hps hle hsx hcp hs
        generalize Lib.compareBytes (l[(i + j) / 2]).dig d = z at *
        generalize l[(i + j) / 2] = x at *
        have hz1 : decide (z < 0) = false := decide_eq_false hz
        have HCL := Lib.hid hcm
        clear hcm
        repeat' ((fail_if_success at_builtin); (fail_if_success at_make); (first | go_values | go_skip | go_guarded | go_step | go_upon | go_back))
        refine ((HCL.out)).mono ?_; rintro e_ w5 ⟨rfl, hb5⟩; dsimp only
        have hbl5 := hbl.trans (hb5.mono hbl.size)
        repeat' ((fail_if_success at_builtin); (fail_if_success at_make); (first | go_values | go_skip | go_guarded | go_step | go_upon | go_back))
        go_roundg ((i + j) / 2 - i)
        case measure => have := HGK.out; omega
        case rel => exact ⟨i, (i + j) / 2, rfl, rfl, by rw [HM.out.1], by omega, by omega, H1.out, HP.out, hbl5⟩
    · obtain rfl : i = j := by omega
      have hcc : decide (i < i) = false := by simp
      by_cases hin : i < l.length
      · have hcd : decide (i < l.length) = true := decide_eq_true hin
        have hi0 : (0 : Int) ≤ (i : Int) := by omega
        have hi1 : (i : Int) < (l.length : Int) := by omega
        obtain ⟨b, off, B, cb, rfl, hbb, c0, c1, c2, c3, hs⟩ := (hA.below hbl).blob_at i hin
        have hcm := HCM.out l[i] B cb wr
        obtain ⟨sx, hsx⟩ : ∃ s : ByteArray, s = ⟨(l[i]).dig.toArray⟩ := ⟨_, rfl⟩
        rw [← hsx] at c0 hcm
        have hcp : Lib.compareBytes sx.data.toList t.data.toList = Lib.compareBytes (l[i]).dig d := by rw [hsx, HT.out]
        rw [hcp] at hcm
        have HQ := Lib.hid (cmp_zero (l[i]).dig d)
        have HE := Lib.hid (show ((∃ h : i < l.length, l[i].dig = d) ↔ l[i].dig = d) from ⟨fun ⟨_, h⟩ => h, fun h => ⟨hin, h⟩⟩)
        clear hsx hcp hs
        generalize Lib.compareBytes (l[i]).dig d = z at *
        generalize l[i] = x at *
        have HCL := Lib.hid hcm
        clear hcm
        repeat' ((fail_if_success at_builtin); (fail_if_success at_make); (first | go_values | go_skip | go_guarded | go_step | go_upon | go_back))
        refine ((HCL.out)).mono ?_; rintro e_ w5 ⟨rfl, hb5⟩; dsimp only
        have hbl5 := hbl.trans (hb5.mono hbl.size)
        repeat' ((fail_if_success at_builtin); (fail_if_success at_make); (first | go_values | go_skip | go_guarded | go_step | go_upon | go_back))
        go_ret2
        refine ⟨i, z == 0, rfl, by omega, H1.out, H2.out, ?_, hbl5⟩
        rw [HE.out, beq_iff_eq, HQ.out]
      · have hcd : decide (i < l.length) = false := decide_eq_false hin
        repeat' ((fail_if_success at_builtin); (fail_if_success at_make); (first | go_values | go_skip | go_guarded | go_step | go_upon | go_back))
        go_ret2
        refine ⟨i, false, rfl, by omega, H1.out, H2.out, ⟨fun h => (by cases h), fun ⟨h, _⟩ => absurd h hin⟩, hbl⟩
set_option maxHeartbeats 8000000 in
theorem BsE_ok (A : Option Addr) (c : Nat) (l : List EntP) (d : List UInt8) (w : World) (hl : l.length ≤ 100000) (hris : RisesBy (·.key) l) (hA : Rw EntS w A l) :
    Calls Tryz.prog 108 #[.slice A l.length c, .string ⟨d.toArray⟩, .func (.func 109) #[] #[]] w fun e w' =>
      ∃ i f, e = .returned (.tuple #[.int .i64 ((i : Nat) : Int), .bool f]) ∧ i ≤ l.length ∧ (∀ k (h : k < l.length), k < i → Op.bytesLess l[k].key d = true) ∧ (∀ k (h : k < l.length), i ≤ k → Op.bytesLess l[k].key d = false) ∧ (f = true ↔ ∃ h : i < l.length, l[i].key = d) ∧ Below w.heap.size w w' := by
  obtain ⟨t, ht⟩ : ∃ t : ByteArray, t = ⟨d.toArray⟩ := ⟨_, rfl⟩
  rw [← ht]
  have HT := Lib.hid ht
  have HRI := Lib.hid hris
  clear ht hris
  have HCM := Lib.hid (fun (x : EntP) (A' : Option Addr) (c' : Nat) W => PutCmpE_ok ⟨x.key.toArray⟩ t (.slice A' x.parts.length c') (.int .i64 (x.pins : Int)) (.int .i64 (x.stamp : Int)) W)
  go_enter Tryz.func108, Tryz.ntmps108
  repeat' ((fail_if_success at_builtin); (fail_if_success at_make); (first | go_values | go_skip | go_guarded | go_step | go_upon | go_back))
  go_loopg [9, 10] l.length (fun gn u v wr => ∃ i j : Nat, gn = j - i ∧ u = .int .i64 i ∧ v = .int .i64 j ∧ i ≤ j ∧ j ≤ l.length ∧ (∀ k (h : k < l.length), k < i → Op.bytesLess l[k].key d = true) ∧ (∀ k (h : k < l.length), j ≤ k → Op.bytesLess l[k].key d = false) ∧ Below w.heap.size w wr)
  case atStart => exact ⟨0, l.length, rfl, rfl, rfl, by omega, by omega, fun k _ h => absurd h (by omega), fun k h h' => absurd h (by omega), Below.refl _ _⟩
  case round =>
    obtain ⟨i, j, hgk, rfl, rfl, hij, hjl, h1, h2, hbl⟩ := hrel
    have HGK := Lib.hid hgk
    have H1 := Lib.hid h1
    have H2 := Lib.hid h2
    clear hgk h1 h2
    by_cases hlt : i < j
    · have hcc : decide (i < j) = true := decide_eq_true hlt
      have hhl : (i + j) / 2 < l.length := by omega
      obtain ⟨b, off, B, cb, rfl, hbb, c0, c1, c2, c3, hs⟩ := (hA.below hbl).ent_at ((i + j) / 2) hhl
      have hcm := HCM.out l[(i + j) / 2] B cb wr
      have HM := Lib.hid (show (((i : Int) + (j : Int)) / 2 = (((i + j) / 2 : Nat) : Int)) ∧ (((i : Int) + (j : Int)) / 2 + 1 = (((i + j) / 2 + 1 : Nat) : Int)) from ⟨by omega, by omega⟩)
      have hps := List.pairwise_iff_getElem.1 HRI.out
      obtain ⟨sx, hsx⟩ : ∃ s : ByteArray, s = ⟨(l[(i + j) / 2]).key.toArray⟩ := ⟨_, rfl⟩
      rw [← hsx] at c0 hcm
      have hcp : Lib.compareBytes sx.data.toList t.data.toList = Lib.compareBytes (l[(i + j) / 2]).key d := by rw [hsx, HT.out]
      rw [hcp] at hcm
      cases hle : Op.bytesLess (l[(i + j) / 2]).key d with
      | true =>
        have hz := compare_lt hle
        have HP := Lib.hid (show ∀ k (h : k < l.length), k < (i + j) / 2 + 1 → Op.bytesLess l[k].key d = true from fun k h hk => by
          rcases Nat.lt_or_ge k ((i + j) / 2) with h1 | h1
          · exact bl_trans (hps k _ h hhl h1) hle
          · have : k = (i + j) / 2 := by omega
            subst this; exact hle)
        clear hps hle hsx hcp hs
        generalize Lib.compareBytes (l[(i + j) / 2]).key d = z at *
        generalize l[(i + j) / 2] = x at *
        have hz1 : decide (z < 0) = true := decide_eq_true hz
        have HCL := Lib.hid hcm
        clear hcm
        repeat' ((fail_if_success at_builtin); (fail_if_success at_make); (first | go_values | go_skip | go_guarded | go_step | go_upon | go_back))
        refine ((HCL.out)).mono ?_; rintro e_ w5 ⟨rfl, hb5⟩; dsimp only
        have hbl5 := hbl.trans (hb5.mono hbl.size)
        repeat' ((fail_if_success at_builtin); (fail_if_success at_make); (first | go_values | go_skip | go_guarded | go_step | go_upon | go_back))
        go_roundg (j - ((i + j) / 2 + 1))
        case measure => have := HGK.out; omega
        case rel => exact ⟨(i + j) / 2 + 1, j, rfl, by rw [HM.out.2], rfl, by omega, hjl, HP.out, H2.out, hbl5⟩
      | false =>
        have hz := compare_ge hle
        have HP := Lib.hid (show ∀ k (h : k < l.length), (i + j) / 2 ≤ k → Op.bytesLess l[k].key d = false from fun k h hk => by
          rcases Nat.lt_or_ge ((i + j) / 2) k with h1 | h1
          · cases hq : Op.bytesLess l[k].key d with
            | false => rfl
            | true => have := bl_trans (hps _ k hhl h h1) hq; rw [hle] at this; cases this
          · have : k = (i + j) / 2 := by omega
            subst this; exact hle)
        clear hps hle hsx hcp hs
        generalize Lib.compareBytes (l[(i + j) / 2]).key d = z at *
        generalize l[(i + j) / 2] = x at *
        have hz1 : decide (z < 0) = false := decide_eq_false hz
        have HCL := Lib.hid hcm
        clear hcm
        repeat' ((fail_if_success at_builtin); (fail_if_success at_make); (first | go_values | go_skip | go_guarded | go_step | go_upon | go_back))
        refine ((HCL.out)).mono ?_; rintro e_ w5 ⟨rfl, hb5⟩; dsimp only
        have hbl5 := hbl.trans (hb5.mono hbl.size)
        repeat' ((fail_if_success at_builtin); (fail_if_success at_make); (first | go_values | go_skip | go_guarded | go_step | go_upon | go_back))
        go_roundg ((i + j) / 2 - i)
        case measure => have := HGK.out; omega
        case rel => exact ⟨i, (i + j) / 2, rfl, rfl, by rw [HM.out.1], by omega, by omega, H1.out, HP.out, hbl5⟩
    · obtain rfl : i = j := by omega
      have hcc : decide (i < i) = false := by simp
      by_cases hin : i < l.length
      · have hcd : decide (i < l.length) = true := decide_eq_true hin
        have hi0 : (0 : Int) ≤ (i : Int) := by omega
        have hi1 : (i : Int) < (l.length : Int) := by omega
        obtain ⟨b, off, B, cb, rfl, hbb, c0, c1, c2, c3, hs⟩ := (hA.below hbl).ent_at i hin
        have hcm := HCM.out l[i] B cb wr
        obtain ⟨sx, hsx⟩ : ∃ s : ByteArray, s = ⟨(l[i]).key.toArray⟩ := ⟨_, rfl⟩
        rw [← hsx] at c0 hcm
        have hcp : Lib.compareBytes sx.data.toList t.data.toList = Lib.compareBytes (l[i]).key d := by rw [hsx, HT.out]
        rw [hcp] at hcm
        have HQ := Lib.hid (cmp_zero (l[i]).key d)
        have HE := Lib.hid (show ((∃ h : i < l.length, l[i].key = d) ↔ l[i].key = d) from ⟨fun ⟨_, h⟩ => h, fun h => ⟨hin, h⟩⟩)
        clear hsx hcp hs
        generalize Lib.compareBytes (l[i]).key d = z at *
        generalize l[i] = x at *
        have HCL := Lib.hid hcm
        clear hcm
        repeat' ((fail_if_success at_builtin); (fail_if_success at_make); (first | go_values | go_skip | go_guarded | go_step | go_upon | go_back))
        refine ((HCL.out)).mono ?_; rintro e_ w5 ⟨rfl, hb5⟩; dsimp only
        have hbl5 := hbl.trans (hb5.mono hbl.size)
        repeat' ((fail_if_success at_builtin); (fail_if_success at_make); (first | go_values | go_skip | go_guarded | go_step | go_upon | go_back))
        go_ret2
        refine ⟨i, z == 0, rfl, by omega, H1.out, H2.out, ?_, hbl5⟩
        rw [HE.out, beq_iff_eq, HQ.out]
      · have hcd : decide (i < l.length) = false := decide_eq_false hin
        repeat' ((fail_if_success at_builtin); (fail_if_success at_make); (first | go_values | go_skip | go_guarded | go_step | go_upon | go_back))
        go_ret2
        refine ⟨i, false, rfl, by omega, H1.out, H2.out, ⟨fun h => (by cases h), fun ⟨h, _⟩ => absurd h hin⟩, hbl⟩
end Go.Proofs.YtdpedkgdobfemaaGreat
