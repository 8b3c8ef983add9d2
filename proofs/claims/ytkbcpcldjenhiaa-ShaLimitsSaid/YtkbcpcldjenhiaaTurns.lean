/- The walk of HexTurns. Condition: the string's size. -/
import Derived.Test.YtkbcpcldjenhiaaHexB
namespace Go.Proofs.Ytkbcpcldjenhiaa
open Go.RowKit
set_option linter.unusedVariables false
set_option linter.unusedSimpArgs false
set_option maxRecDepth 20000
theorem dig_val (a : UInt8) (h : ¬ val a < 0) : dig (val a).toNat = a := by
  have key : ∀ n : Fin 256, ¬ val (UInt8.ofNat n.val) < 0 → dig (val (UInt8.ofNat n.val)).toNat = UInt8.ofNat n.val := by decide +kernel
  have := key ⟨a.toNat, a.toNat_lt⟩
  rw [show UInt8.ofNat (a.toNat) = a from UInt8.ofNat_toNat] at this
  exact this h
theorem hexs_unhx : ∀ (l r : List UInt8), unhx l = some r → hexs r = l
  | [], r, h => by simp [unhx] at h; subst h; rfl
  | [_], r, h => by simp [unhx] at h
  | a :: b :: l, r, h => by
    rw [unhx] at h
    split at h
    · cases h
    · rename_i hv
      simp only [Option.map_eq_some_iff] at h
      obtain ⟨r', hr, rfl⟩ := h
      have ih := hexs_unhx l r' hr
      have ra := val_range a
      have rb := val_range b
      have ea := dig_val a (fun h => hv (.inl h))
      have eb := dig_val b (fun h => hv (.inr h))
      show dig ((UInt8.ofNat (16 * (val a).toNat + (val b).toNat)).toNat / 16) :: dig ((UInt8.ofNat (16 * (val a).toNat + (val b).toNat)).toNat % 16) :: hexs r' = _
      have e : (UInt8.ofNat (16 * (val a).toNat + (val b).toNat)).toNat = 16 * (val a).toNat + (val b).toNat := by rw [UInt8.toNat_ofNat']; omega
      rw [e, show (16 * (val a).toNat + (val b).toNat) / 16 = (val a).toNat by omega, show (16 * (val a).toNat + (val b).toNat) % 16 = (val b).toNat by omega, ea, eb, ih]

theorem hBytes_at {s : ByteArray} {r : List UInt8} {er : Nat} (E : Int) (hE : er = E) (h : hexB s.data.toList = (r, er)) (w : World) (hs : s.size ≤ 140737488351232) :
    Calls Try.prog 15 #[.string s] w fun e w' => ∃ A c, e = .returned (.tuple #[.slice A r.length c, .int .i64 E]) ∧ OwnB 5 w.heap.size w' A c r ∧ Below w.heap.size w w' := by
  subst hE
  have := hBytes_ok s w hs
  rw [h] at this
  exact this

theorem HexTurns_walk (s : ByteArray) (w : World) (hs : s.size ≤ 140737488351232) :
    Calls Try.prog 3 #[.string s] w fun e w' => e = .returned (.bool true) ∧ Below w.heap.size w w' := by
  have hk : hexB ([48, 97, 102, 102] : List UInt8) = ([10, 255], 0) := by decide +kernel
  have H2 := Lib.hid (fun (w : World) => hBytes_at (s := ⟨#[48, 97, 102, 102]⟩) 0 rfl hk w (by decide))
  obtain ⟨r, er, hr⟩ : ∃ r er, hexB s.data.toList = (r, er) := ⟨_, _, rfl⟩
  have hcase : (er = 0 ∧ r.length ≤ 2000 ∧ hexs r = s.data.toList) ∨ (er ≠ 0 ∧ r = []) := by
    unfold hexB at hr
    split at hr
    · cases hr; right; exact ⟨by omega, rfl⟩
    · split at hr
      · cases hr; right; exact ⟨by omega, rfl⟩
      · split at hr
        · cases hr; right; exact ⟨by omega, rfl⟩
        · rename_i r' hu
          cases hr; left
          have h1 := hexs_unhx _ _ hu
          have h2 := hexs_len r
          rw [h1] at h2
          exact ⟨rfl, by omega, h1⟩
  have hq2 := fun (w1 : World) (A : Option Addr) (c base : Nat) (ho : OwnB 5 base w1 A c [10, 255]) => run_str (P := Try.prog) (n := 2) (c := c) (src := 22) (dst := 9) Try.underlying22 Try.underlying5 Try.underlying9 rfl ho.rd
  have Q2 := Lib.hid hq2
  clear hq2 hk
  rcases hcase with ⟨rfl, hlen, hh⟩ | ⟨her, rfl⟩
  · have H1 := Lib.hid (hBytes_at 0 rfl hr w hs)
    have hse : s = ⟨(hexs r).toArray⟩ := by rw [hh]
    have HH := Lib.hid hse
    clear hr hh hse
    go_enter Try.func3, Try.ntmps3
    repeat' ((fail_if_success at_builtin); (fail_if_success at_make); (first | go_values | go_skip | go_guarded | go_step | go_upon | go_back))
    refine ((H1.out)).mono ?_; rintro e_ w1 ⟨A1, c1, rfl, ho1, hb1⟩; dsimp only
    repeat' ((fail_if_success at_builtin); (fail_if_success at_make); (first | go_values | go_skip | go_guarded | go_step | go_upon | go_back))
    refine ((H2.out _)).mono ?_; rintro e_ w2 ⟨A2, c2, rfl, ho2, hb2⟩; dsimp only
    have hb12 := hb1.trans (hb2.mono hb1.size)
    have q2 := Q2.out _ _ _ _ ho2
    repeat' ((fail_if_success at_builtin); (fail_if_success at_make); (first | go_values | go_skip | go_guarded | go_step | go_upon | go_back))
    refine ((Text_ok A1 _ c1 r _ rfl (by omega) ho1.cap (ho1.rd.below hb2))).mono ?_; rintro e_ w3 ⟨rfl, hb3⟩; dsimp only
    rw [← HH.out]
    repeat' ((fail_if_success at_builtin); (fail_if_success at_make); (first | go_values | go_skip | go_guarded | go_step | go_upon | go_back))
    go_ret
    exact ⟨rfl, hb12.trans (hb3.mono hb12.size)⟩
  · have H1 := Lib.hid (hBytes_at _ rfl hr w hs)
    have he1 : ((er : Int) != 0) = true := by rw [bne_iff_ne]; omega
    clear hr
    go_enter Try.func3, Try.ntmps3
    repeat' ((fail_if_success at_builtin); (fail_if_success at_make); (first | go_values | go_skip | go_guarded | go_step | go_upon | go_back))
    refine ((H1.out)).mono ?_; rintro e_ w1 ⟨A1, c1, rfl, ho1, hb1⟩; dsimp only
    repeat' ((fail_if_success at_builtin); (fail_if_success at_make); (first | go_values | go_skip | go_guarded | go_step | go_upon | go_back))
    refine ((H2.out _)).mono ?_; rintro e_ w2 ⟨A2, c2, rfl, ho2, hb2⟩; dsimp only
    have hb12 := hb1.trans (hb2.mono hb1.size)
    have q2 := Q2.out _ _ _ _ ho2
    repeat' ((fail_if_success at_builtin); (fail_if_success at_make); (first | go_values | go_skip | go_guarded | go_step | go_upon | go_back))
    go_ret
    exact ⟨rfl, hb12⟩
end Go.Proofs.Ytkbcpcldjenhiaa
