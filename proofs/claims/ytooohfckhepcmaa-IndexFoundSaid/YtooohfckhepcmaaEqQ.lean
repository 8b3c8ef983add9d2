/- slices.Equal over the same parts only draws. Conditions: the sizes. -/
import Derived.Test.YtooohfckhepcmaaEqP
namespace Go.Proofs.Ytooohfckhepcmaa
open Go.RowKit
set_option linter.unusedVariables false
set_option linter.unusedSimpArgs false
set_option maxRecDepth 100000



theorem EqualP_quiet (A B : Option Addr) (n c d : Nat) (x : List PartP) (w : World) (hl : x.length = n) (hn : n ≤ 140737488351232) (hr : Rd w 3 A n (pcs x)) (hs : Rd w 3 B n (pcs x)) :
    Calls Try.prog 21 #[.slice A n c, .slice B n d] w fun e w' => e = .returned (.bool true) ∧ ∃ q, w' = w.drewN q := by
  have hnn : ((n : Int) != (n : Int)) = false := by simp
  have HL := Lib.hid hl
  clear hl
  go_enter Try.func21, Try.ntmps21
  repeat' ((fail_if_success at_builtin); (fail_if_success at_make); (first | go_values | go_skip | go_guarded | go_step | go_upon | go_back))
  go_loopg [5, 13] n (fun gn u i wr => ∃ k q : Nat, gn = n - k ∧ i = .int .i64 k ∧ k ≤ n ∧ wr = w.drewN q)
  case atStart => exact ⟨0, 0, rfl, rfl, by omega, rfl⟩
  case round =>
    obtain ⟨k, q, hgk, rfl, hk, hwq⟩ := hrel
    have hbel : Below w.heap.size w wr := by rw [hwq]; exact bdrewN (Below.refl _ _) q
    have HWQ := Lib.hid hwq
    clear hwq
    have HGK := Lib.hid hgk
    clear hgk
    by_cases hlt : k < n
    · have hkl : k < x.length := by have := HL.out; omega
      obtain ⟨b, off, rfl, _, hcell⟩ := (hr.below hbel).2 (by omega)
      obtain ⟨b', off', rfl, _, hcell'⟩ := (hs.below hbel).2 (by omega)
      have hat := fun j (hj : j < 3) => pcs_at x k j hkl hj
      generalize x[k] = p at *
      have c0 := hcell (k * 3 + 0) _ (hat 0 (by omega))
      have c1 := hcell (k * 3 + 1) _ (hat 1 (by omega))
      have c2 := hcell (k * 3 + 2) _ (hat 2 (by omega))
      have d0 := hcell' (k * 3 + 0) _ (hat 0 (by omega))
      have d1 := hcell' (k * 3 + 1) _ (hat 1 (by omega))
      have d2 := hcell' (k * 3 + 2) _ (hat 2 (by omega))
      rw [Nat.add_zero] at c0 d0
      rw [show off + (k * 3 + 1) = off + k * 3 + 1 by omega] at c1
      rw [show off + (k * 3 + 2) = off + k * 3 + 2 by omega] at c2
      rw [show off' + (k * 3 + 1) = off' + k * 3 + 1 by omega] at d1
      rw [show off' + (k * 3 + 2) = off' + k * 3 + 2 by omega] at d2
      obtain ⟨pn, pd, psz⟩ := p
      dsimp only [pcell, List.getElem?_cons_zero, List.getElem?_cons_succ] at c0 c1 c2 d0 d1 d2
      generalize (⟨pn.toArray⟩ : ByteArray) = s at *
      generalize (⟨pd.toArray⟩ : ByteArray) = t at *
      clear hat hcell hcell'
      have hk0 : (0 : Int) ≤ (k : Int) := by omega
      have hk1 : (k : Int) < (n : Int) := by omega
      repeat' ((fail_if_success at_builtin); (fail_if_success at_make); (first | go_values | go_skip | go_guarded | go_step | go_upon | go_back))

      go_quiet (fail)
      repeat' ((fail_if_success at_builtin); (fail_if_success at_make); (first | go_values | go_skip | go_guarded | go_step | go_upon | go_back))
      go_roundg (n - (k + 1))
      case measure => have := HGK.out; omega
      case rel => exact ⟨k + 1, _, rfl, by go_num, by omega, by rw [HWQ.out]; exact World.drewN_drewN _ _ _⟩
    · repeat' ((fail_if_success at_builtin); (fail_if_success at_make); (first | go_values | go_skip | go_guarded | go_step | go_upon | go_back))
      go_ret
      exact ⟨rfl, q, HWQ.out⟩

end Go.Proofs.Ytooohfckhepcmaa
