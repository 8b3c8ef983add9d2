/- strings.Builder: copyCheck and WriteByte at a builder of the call's own; hex.Text. Conditions: the sizes. -/
import Derived.Test.YtkfipkmkmhkfaaaNumW
import Derived.Test.YtkfipkmkmhkfaaaShelf
import Derived.Lib.Builder
import Derived.Lib.UnsafeStr
import Derived.Laws.Externs
namespace Go.Proofs.Ytkfipkmkmhkfaaa
open Go.RowKit
set_option linter.unusedVariables false
set_option linter.unusedSimpArgs false
set_option maxRecDepth 20000

theorem sizeBld : (Try.prog.info? 55).map (·.size) = some 2 := by kernel_rfl
theorem liesBld : liesAt Try.prog Try.prog.depth 55 (2 / Try.prog.cellsOf 55) 0 55 1 = true := by kernel_rfl

theorem copyCheck_used (b : Nat) (w : World) (h0 : w.cell? ⟨b, 0, none⟩ = some (.pointer (some ⟨b, 0, none⟩))) :
    Calls Try.prog 38 #[.pointer (some ⟨b, 0, none⟩)] w fun e w' => e = .returned (.tuple #[]) ∧ w = w' := by
  obtain ⟨j, hj, _⟩ := Option.map_eq_some_iff.1 sizeBld
  have hne := fun W => Lib.run_neq_ptr_same (P := Try.prog) W (tp := 53) ⟨b, 0, none⟩ Try.underlying53 hj
  clear hj
  go_enter Try.func38, Try.ntmps38
  go_wp2
  go_end0
  exact ⟨rfl, rfl⟩
theorem copyCheck_fresh (b : Nat) (w : World) (h0 : w.cell? ⟨b, 0, none⟩ = some (.pointer none)) (hsh : w.shape? b = some (55, 2)) (hfz : w.frozen? ⟨b, 0, none⟩ = false) :
    Calls Try.prog 38 #[.pointer (some ⟨b, 0, none⟩)] w fun e w' => e = .returned (.tuple #[]) ∧ w.setCell ⟨b, 0, none⟩ (.pointer (some ⟨b, 0, none⟩)) = w' := by
  obtain ⟨j, hj, hjs⟩ := Option.map_eq_some_iff.1 sizeBld
  have h1 := Lib.run_to_unsafe (P := Try.prog) w (src := 53) (dst := 105) ⟨b, 0, none⟩ Try.underlying53 Try.underlying105 hj (by rw [hjs]; decide) hsh (Nat.zero_lt_succ 1)
  have h2 := Lib.run_from_unsafe (P := Try.prog) w (src := 105) (dst := 53) ⟨b, 0, none⟩ Try.underlying105 Try.underlying53 hj hsh liesBld
  have h3 : ∀ W, (callFunc 59 #[.pointer (some ⟨b, 0, none⟩)]).run Try.prog W = .ok (.value (.pointer (some ⟨b, 0, none⟩))) W := fun W => by
    rw [run_callFunc_extern Try.func59 (by kernel_rfl) (by kernel_rfl) (by kernel_rfl) (e := Extern.AbiNoEscape.same) (by kernel_rfl), Lib.run_noEscape]
    rfl
  clear hj
  go_enter Try.func38, Try.ntmps38
  go_wp2
  go_end0
  exact ⟨rfl, rfl⟩
theorem copyCheck_ok (B b : Nat) (bs : List Value) (w : World) (h : Lib.IsBuilder 55 5 B b bs w) :
    Calls Try.prog 38 #[.pointer (some ⟨b, 0, none⟩)] w fun e w' => e = .returned (.tuple #[]) ∧ (Lib.BuilderAt 55 5 B b (.pointer (some ⟨b, 0, none⟩)) bs w' ∧ Below B w w') := by
  rcases h with h | h
  · refine (copyCheck_fresh b w h.cell0 h.shape h.frozen0).mono fun e w' ⟨he, hw⟩ => ⟨he, ?_⟩
    subst hw
    exact ⟨h.used _, (Below.refl _ _).setCell (p := ⟨b, 0, none⟩) h.1 _⟩
  · refine (copyCheck_used b w h.cell0).mono fun e w' ⟨he, hw⟩ => ⟨he, ?_⟩
    subst hw
    exact ⟨h, Below.refl _ _⟩

theorem WriteByte_ok (B b : Nat) (bs : List Value) (c : Int) (w : World) (h : Lib.IsBuilder 55 5 B b bs w) (hlen : bs.length + 1 ≤ 140737488355328) (hBw : B ≤ w.heap.size) :
    Calls Try.prog 65 #[.pointer (some ⟨b, 0, none⟩), .int .u8 c] w fun e w' => e = .returned .nilIface ∧ (Lib.BuilderAt 55 5 B b (.pointer (some ⟨b, 0, none⟩)) (bs ++ [.int .u8 c]) w' ∧ Below B w w') := by
  go_enter Try.func65, Try.ntmps65
  repeat' ((fail_if_success at_builtin); (fail_if_success at_make); (first | go_values | go_skip | go_guarded | go_step | go_upon | go_back))
  refine ((copyCheck_ok B b bs _ h)).mono ?_; rintro e_ w1 ⟨rfl, h1, hb1⟩; dsimp only
  obtain ⟨hB, v, hbk, hown, hne⟩ := h1
  have c0 : w1.cell? ⟨b, 0, none⟩ = some (.pointer (some ⟨b, 0, none⟩)) := by rw [Lib.cell_of_heap hbk]; rfl
  have c1 : w1.cell? ⟨b, 1, none⟩ = some v := by rw [Lib.cell_of_heap hbk]; rfl
  have hz := hb1.size
  repeat' ((fail_if_success at_builtin); (fail_if_success at_make); (first | go_values | go_skip | go_guarded | go_step | go_upon | go_back))
  refine wpList_apN rfl _ _ rfl elU8 (by rfl) hown rfl rfl (by simp; rfl) (by omega) (by omega) ?_
  intro v' w2 hown' hgrow _
  have hlt : b < w1.heap.size := by
    rcases Nat.lt_or_ge b w1.heap.size with h' | h'
    · exact h'
    · simp [Array.getElem?_eq_none h'] at hbk
  have hb2 : w2.heap[b]? = some (.cells #[.pointer (some ⟨b, 0, none⟩), v] 55 (0, 0)) := by
    rw [hgrow.block b hlt (fun e => hne e.symm)]
    exact hbk
  have d0 : w2.cell? ⟨b, 0, none⟩ = some (.pointer (some ⟨b, 0, none⟩)) := by rw [Lib.cell_of_heap hb2]; rfl
  have d1 : w2.cell? ⟨b, 1, none⟩ = some v := by rw [Lib.cell_of_heap hb2]; rfl
  have f1 : w2.frozen? ⟨b, 1, none⟩ = false := Lib.frozen_of_heap hb2 1
  obtain ⟨g, cap, rfl⟩ : ∃ g cap, v' = .slice (some ⟨g, 0, none⟩) (bs.length + 1) cap := by
    rcases hown'.2 with ⟨_, h0⟩ | ⟨g, cap, cur, hv, _⟩
    · omega
    · exact ⟨g, cap, hv⟩
  repeat' ((fail_if_success at_builtin); (fail_if_success at_make); (first | go_values | go_skip | go_guarded | go_step | go_upon | go_back))
  go_ret
  refine ⟨rfl, ?_, ?_⟩
  · exact Lib.BuilderAt.put (T := 55) (e := 5) hB hb2 (bs' := bs ++ [.int .u8 c]) (by simpa using hown') (by decide)
  · exact (hb1.grown hgrow (by omega) (fun k hk => (hown.lt k hk).1)).setCell (p := ⟨b, 1, none⟩) hB _

/-! ### hex.Text -/
/-- a digit -/
def dig (n : Nat) : UInt8 := if n < 10 then UInt8.ofNat (48 + n) else UInt8.ofNat (87 + n)
def hx1 (c : UInt8) : List UInt8 := [dig (c.toNat / 16), dig (c.toNat % 16)]
def hexs (l : List UInt8) : List UInt8 := l.flatMap hx1
theorem hexs_len (l : List UInt8) : (hexs l).length = 2 * l.length := by
  induction l with
  | nil => rfl
  | cons x l ih => simp only [hexs, List.flatMap_cons, List.length_append, List.length_cons] at *; rw [ih]; simp [hx1]; omega
theorem hexs_snoc (l : List UInt8) (k : Nat) (h : k < l.length) : hexs (l.take (k + 1)) = hexs (l.take k) ++ hx1 l[k] := by
  unfold hexs; rw [List.take_succ_eq_append_getElem h, List.flatMap_append, List.flatMap_cons, List.flatMap_nil, List.append_nil]

theorem digAt (m : Nat) (h : m < (⟨#[48, 49, 50, 51, 52, 53, 54, 55, 56, 57, 97, 98, 99, 100, 101, 102]⟩ : ByteArray).size) :
    ((⟨#[48, 49, 50, 51, 52, 53, 54, 55, 56, 57, 97, 98, 99, 100, 101, 102]⟩ : ByteArray)[m]'h).toNat = (dig m).toNat := by
  have key : ∀ m : Fin 16, ((⟨#[48, 49, 50, 51, 52, 53, 54, 55, 56, 57, 97, 98, 99, 100, 101, 102]⟩ : ByteArray)[m.val]'m.isLt).toNat = (dig m.val).toNat := by decide
  exact key ⟨m, h⟩

theorem Text_ok (A : Option Addr) (n c : Nat) (l : List UInt8) (w : World) (hl : l.length = n) (hn : n ≤ 70368744177664) (hc : n ≤ c) (hr : Rd w 1 A n (bys l)) :
    Calls Try.prog 47 #[.slice A n c] w fun e w' => e = .returned (.string ⟨(hexs l).toArray⟩) ∧ Below w.heap.size w w' := by
  go_enter Try.func47, Try.ntmps47
  repeat' ((fail_if_success at_builtin); (fail_if_success at_make); (first | go_values | go_skip | go_guarded | go_step | go_upon | go_back))
  go_loopw [5, 8] (fun u i wr => ∃ k : Nat, i = .int .i64 k ∧ k ≤ n ∧ Lib.IsBuilder 55 5 w.heap.size w.heap.size (bys (hexs (l.take k))) wr ∧ Below w.heap.size w wr) (fun _ i _ => n - (intOf i).toNat)
  case atStart => exact ⟨0, rfl, by omega, Lib.fresh_isBuilder _ _ _, (Below.refl _ _).alloc (Nat.le_refl _) _⟩
  case round =>
    obtain ⟨k, rfl, hk, hB, hbel⟩ := hrel
    have hle := hexs_len (l.take k)
    rw [List.length_take] at hle
    by_cases hlt : k < n
    · obtain ⟨b, off, u, rfl, _, hu, hcell⟩ := (hr.below hbel).at_ hlt
      rw [bys_at l k (by omega)] at hu
      cases hu
      have HS := Lib.hid (hexs_snoc l k (by omega))
      generalize l[k] = x at *
      have hx := x.toNat_lt
      repeat' ((fail_if_success at_builtin); (fail_if_success at_make); (first | go_values | go_skip | go_guarded | go_step | go_upon | go_back))
      rw [dif_pos ⟨by omega, by omega⟩]
      simp only [digAt, Result.andThen]
      repeat' ((fail_if_success at_builtin); (fail_if_success at_make); (first | go_values | go_skip | go_guarded | go_step | go_upon | go_back))
      refine ((WriteByte_ok _ _ _ _ _ hB (by rw [bys_len]; omega) hbel.size)).mono ?_; rintro e_ w1 ⟨rfl, hB1, hb1⟩; dsimp only
      have hbel1 := hbel.trans hb1
      repeat' ((fail_if_success at_builtin); (fail_if_success at_make); (first | go_values | go_skip | go_guarded | go_step | go_upon | go_back))
      rw [dif_pos ⟨by omega, by omega⟩]
      simp only [digAt, Result.andThen]
      repeat' ((fail_if_success at_builtin); (fail_if_success at_make); (first | go_values | go_skip | go_guarded | go_step | go_upon | go_back))
      refine ((WriteByte_ok _ _ _ _ _ (.inr hB1) (by simp [bys_len]; omega) hbel1.size)).mono ?_; rintro e_ w2 ⟨rfl, hB2, hb2⟩; dsimp only
      have hbel2 := hbel1.trans hb2
      repeat' ((fail_if_success at_builtin); (fail_if_success at_make); (first | go_values | go_skip | go_guarded | go_step | go_upon | go_back))
      go_roundw
      case rel => exact ⟨k + 1, by go_num, by omega, .inr (by rw [HS.out, bys_app]; simpa [hx1, bys] using hB2), hbel2⟩
      case measure => simp [intOf]; omega
    · obtain rfl : k = n := by omega
      rw [List.take_of_length_le (by omega)] at hB
      repeat' ((fail_if_success at_builtin); (fail_if_success at_make); (first | go_values | go_skip | go_guarded | go_step | go_upon | go_back))
      refine ((Try.Builder_String_any _ _ (hexs l) _ hB hbel.size)).mono ?_; rintro e_ w1 ⟨rfl, hb1⟩; dsimp only
      repeat' ((fail_if_success at_builtin); (fail_if_success at_make); (first | go_values | go_skip | go_guarded | go_step | go_upon | go_back))
      go_ret
      exact ⟨rfl, hbel.trans hb1⟩
end Go.Proofs.Ytkfipkmkmhkfaaa
