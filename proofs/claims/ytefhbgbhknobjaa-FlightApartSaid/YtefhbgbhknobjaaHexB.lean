/- hex.Bytes. Condition: none (a string of any size). -/
import Derived.Test.YtefhbgbhknobjaaBld
namespace Go.Proofs.Ytefhbgbhknobjaa
open Go.RowKit
set_option linter.unusedVariables false
set_option linter.unusedSimpArgs false
set_option maxRecDepth 20000

def digs : ByteArray := ⟨#[48, 49, 50, 51, 52, 53, 54, 55, 56, 57, 97, 98, 99, 100, 101, 102]⟩
/-- what a digit is worth; -1: it is none -/
def val (c : UInt8) : Int := Lib.indexByte [48, 49, 50, 51, 52, 53, 54, 55, 56, 57, 97, 98, 99, 100, 101, 102] c
def unhx : List UInt8 → Option (List UInt8)
  | [] => some []
  | [_] => none
  | a :: b :: r => if val a < 0 ∨ val b < 0 then none else (unhx r).map (UInt8.ofNat (16 * (val a).toNat + (val b).toNat) :: ·)
def hexB (l : List UInt8) : List UInt8 × Nat :=
  if 4000 < l.length then ([], 1) else if l.length % 2 = 1 then ([], 3) else match unhx l with | none => ([], 3) | some r => (r, 0)

theorem val_range (c : UInt8) : -1 ≤ val c ∧ val c ≤ 15 := by
  have key : ∀ n : Fin 256, -1 ≤ val (UInt8.ofNat n.val) ∧ val (UInt8.ofNat n.val) ≤ 15 := by decide +kernel
  have := key ⟨c.toNat, c.toNat_lt⟩
  rw [show UInt8.ofNat (c.toNat) = c from UInt8.ofNat_toNat] at this
  exact this

theorem IB_at (c : UInt8) (w : World) : Calls Try.prog 40 #[.string digs, .int .u8 (c.toNat : Int)] w fun e w' => e = .returned (.int .i64 (val c)) ∧ w' = w := by
  refine (Try.strings_IndexByte digs (c.toNat : Int) w).mono fun e w' ⟨he, hw⟩ => ⟨?_, hw⟩
  rw [he]
  have : ((c.toNat : Int)).toNat.toUInt8 = c := by rw [Int.toNat_natCast]; exact UInt8.ofNat_toNat
  rw [this]; rfl

theorem hBytes_ok (s : ByteArray) (w : World) (hs : s.size ≤ 140737488351232) :
    Calls Try.prog 32 #[.string s] w fun e w' => ∃ A c, e = .returned (.tuple #[.slice A (hexB s.data.toList).1.length c, .int .i64 (hexB s.data.toList).2]) ∧ OwnB 5 w.heap.size w' A c (hexB s.data.toList).1 ∧ Below w.heap.size w w' := by
  have hsz : s.data.toList.length = s.size := by rw [Array.length_toList]; rfl
  by_cases hbig : 4000 < s.size
  · have hfin : hexB s.data.toList = ([], 1) := by rw [hexB, if_pos (by omega)]
    have HF := Lib.hid hfin; clear hfin
    go_enter Try.func32, Try.ntmps32
    repeat' ((fail_if_success at_builtin); (fail_if_success at_make); (first | go_values | go_skip | go_guarded | go_step | go_upon | go_back))
    go_ret2
    rw [HF.out]
    exact ⟨none, 0, rfl, OwnB.nil_ _ _ _, Below.refl _ _⟩
  · by_cases hodd : s.size % 2 = 1
    · have hfin : hexB s.data.toList = ([], 3) := by rw [hexB, if_neg (by omega), if_pos (by omega)]
      have HF := Lib.hid hfin; clear hfin
      have h2 : ((s.size : Int) % 2 != 0) = true := by rw [bne_iff_ne]; omega
      clear hodd
      go_enter Try.func32, Try.ntmps32
      repeat' ((fail_if_success at_builtin); (fail_if_success at_make); (first | go_values | go_skip | go_guarded | go_step | go_upon | go_back))
      go_ret2
      rw [HF.out]
      exact ⟨none, 0, rfl, OwnB.nil_ _ _ _, Below.refl _ _⟩
    · have hfin : hexB s.data.toList = match unhx s.data.toList with | none => ([], 3) | some r => (r, 0) := by rw [hexB, if_neg (by omega), if_neg (by omega)]
      have HF := Lib.hid hfin; clear hfin
      have h2 : ((s.size : Int) % 2 != 0) = false := by rw [bne_eq_false_iff_eq]; omega
      obtain ⟨q, hq⟩ : ∃ q, s.size = 2 * q := ⟨s.size / 2, by omega⟩
      have hq1 : q * 2 ≤ s.size := by omega
      have hq2 : s.size ≤ q * 2 := by omega
      have HZ := Lib.hid hsz
      clear hodd hq hsz
      go_enter Try.func32, Try.ntmps32
      repeat' ((fail_if_success at_builtin); (fail_if_success at_make); (first | go_values | go_skip | go_guarded | go_step | go_upon | go_back))
      refine wpList_mk rfl _ _ rfl elU8 q rfl rfl (by omega) (by omega) ?_
      intro w1 g1 hown1 hb1
      repeat' ((fail_if_success at_builtin); (fail_if_success at_make); (first | go_values | go_skip | go_guarded | go_step | go_upon | go_back))
      go_loopw [4, 5, 6, 7] (fun v i x y wr => ∃ (k : Nat) (acc : List UInt8), i = .int .i64 ((2 * k : Nat) : Int) ∧ k ≤ q ∧ acc.length = k ∧ unhx s.data.toList = (unhx (s.data.toList.drop (2 * k))).map (acc ++ ·) ∧
        wr.ownsRow w.heap.size 5 1 v acc.length (bys acc) ∧ Below w.heap.size w wr) (fun _ i _ _ _ => s.size - (intOf i).toNat)
      case atStart => exact ⟨0, [], rfl, by omega, rfl, by simp, hown1, hb1⟩
      case round =>
        obtain ⟨k, acc, rfl, hk, hacc, hun, hown, hbel⟩ := hrel
        have HU := Lib.hid hun; clear hun
        have HA := Lib.hid hacc; clear hacc
        have hsw := hbel.size
        generalize hm : 2 * k = m at *
        have HM := Lib.hid hm
        by_cases hlt : k < q
        · have hm1 : m + 1 < s.size := by omega
          have hm0 : m < s.size := by omega
          have hi0 : (0 : Int) ≤ (m : Int) := by omega
          have hi1 : (m : Int) < (s.size : Int) := by omega
          have hi2 : (m : Int) + 1 < (s.size : Int) := by omega
          have hi3 : (0 : Int) ≤ (m : Int) + 1 := by omega
          have hw1 : IntKind.i64.wrap ((m : Int) + 1) = (m : Int) + 1 := IntWalk.i64_in _ (by omega)
          have hn1 : ((m : Int) + 1).toNat = m + 1 := by omega
          have hd : s.data.toList.drop m = s[m] :: s[m + 1] :: s.data.toList.drop (m + 2) := by
            have hz := HZ.out
            rw [List.drop_eq_getElem_cons (by omega), List.drop_eq_getElem_cons (i := m + 1) (by omega)]
            rfl
          have HD := Lib.hid hd
          have ra := val_range s[m]
          have rb := val_range s[m + 1]
          clear hm hd
          by_cases hbad : val s[m] < 0 ∨ val s[m + 1] < 0
          · have hfin : hexB s.data.toList = ([], 3) := by rw [HF.out, HU.out, HD.out, unhx, if_pos hbad]; rfl
            have HG := Lib.hid hfin; clear hfin
            have ha0 : val s[m] < 0 ∨ ¬ val s[m] < 0 ∧ val s[m + 1] < 0 := by omega
            clear hbad
            rcases ha0 with ha0 | ⟨ha0, ha1⟩
            all_goals
              repeat' ((fail_if_success at_builtin); (fail_if_success at_make); (first | go_values | go_skip | go_guarded | go_step | go_upon | go_back))
              go_quiet ((go_at_call 40; exact Calls.quiet_of_same (IB_at _ _)))
              repeat' ((fail_if_success at_builtin); (fail_if_success at_make); (first | go_values | go_skip | go_guarded | go_step | go_upon | go_back))
              go_ret2
              rw [HG.out]
              exact ⟨none, 0, rfl, OwnB.nil_ _ _ _, bdrewN hbel _⟩
          · have hstep : unhx s.data.toList = (unhx (s.data.toList.drop (m + 2))).map ((acc ++ [UInt8.ofNat (16 * (val s[m]).toNat + (val s[m + 1]).toNat)]) ++ ·) := by
              rw [HU.out, HD.out, unhx, if_neg hbad, Option.map_map]
              congr 1; funext x; simp
            have HG := Lib.hid hstep; clear hstep
            have hna : ¬ val s[m] < 0 := fun h => hbad (.inl h)
            have hnb : ¬ val s[m + 1] < 0 := fun h => hbad (.inr h)
            clear hbad
            have hacl := HA.out
            repeat' ((fail_if_success at_builtin); (fail_if_success at_make); (first | go_values | go_skip | go_guarded | go_step | go_upon | go_back))
            go_quiet ((go_at_call 40; exact Calls.quiet_of_same (IB_at _ _)))
            repeat' ((fail_if_success at_builtin); (fail_if_success at_make); (first | go_values | go_skip | go_guarded | go_step | go_upon | go_back))
            refine wpList_apN rfl (.tmp 40) (.tmp 46) rfl elU8 (by rfl) (own_drewN hown nq) rfl rfl (by simp; rfl) (by omega) hsw ?_
            intro v2 w2 hown2 hg2 _
            have hb2 := below_own (bdrewN hbel nq) (own_drewN hown nq) (Nat.le_refl _) hg2
            have e1 : bys (acc ++ [UInt8.ofNat (16 * (val s[m]).toNat + (val s[m + 1]).toNat)]) = bys acc ++ [.int .u8 (16 * val s[m] + val s[m + 1])] := by
              rw [bys_app]; congr 1
              simp only [bys, List.map_cons, List.map_nil, UInt8.toNat_ofNat']
              congr 2; omega
            repeat' ((fail_if_success at_builtin); (fail_if_success at_make); (first | go_values | go_skip | go_guarded | go_step | go_upon | go_back))
            rw [← e1] at hown2
            go_roundw
            case rel => exact ⟨k + 1, acc ++ [UInt8.ofNat (16 * (val s[m]).toNat + (val s[m + 1]).toNat)], by have := HM.out; go_num, by omega, by rw [List.length_append]; simp only [List.length_cons, List.length_nil]; omega, by rw [show 2 * (k + 1) = m + 2 by have := HM.out; omega]; exact HG.out, by rw [List.length_append]; exact hown2, hb2⟩
            case measure => simp [intOf]; omega
        · have hkq : k = q := by omega
          have hfin : hexB s.data.toList = (acc, 0) := by
            rw [HF.out, HU.out, List.drop_of_length_le (by have := HZ.out; omega), unhx]; simp
          have HG := Lib.hid hfin; clear hfin
          obtain ⟨A1, c1, rfl, hc1, _⟩ := Rd.of_own' hown
          have hmm : s.size ≤ m := by omega
          clear hkq hm
          repeat' ((fail_if_success at_builtin); (fail_if_success at_make); (first | go_values | go_skip | go_guarded | go_step | go_upon | go_back))
          go_ret2
          rw [HG.out]
          exact ⟨A1, c1, rfl, ⟨hown, hc1⟩, hbel⟩
end Go.Proofs.Ytefhbgbhknobjaa
