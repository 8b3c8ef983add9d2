/- slices.Equal over parts. Conditions: the sizes. -/
import Derived.Test.YtmjcoebfldmgnaaGreatEnc
namespace Go.Proofs.YtmjcoebfldmgnaaGreat
open Go.RowKit
set_option linter.unusedVariables false
set_option linter.unusedSimpArgs false
set_option maxRecDepth 100000

theorem EqualP_same (A B : Option Addr) (n c d : Nat) (x : List PartP) (w : World) (hl : x.length = n) (hn : n ≤ 140737488351232) (hr : Rd w 3 A n (pcs x)) (hs : Rd w 3 B n (pcs x)) :
    Calls Tryz.prog 61 #[.slice A n c, .slice B n d] w fun e w' => e = .returned (.bool true) ∧ Below w.heap.size w w' := by
  have hnn : ((n : Int) != (n : Int)) = false := by simp
  have HL := Lib.hid hl
  clear hl
  go_enter Tryz.func61, Tryz.ntmps61
  repeat' ((fail_if_success at_builtin); (fail_if_success at_make); (first | go_values | go_skip | go_guarded | go_step | go_upon | go_back))
  go_loopg [5, 13] n (fun gn u i wr => ∃ k : Nat, gn = n - k ∧ i = .int .i64 k ∧ k ≤ n ∧ Below w.heap.size w wr)
  case atStart => exact ⟨0, rfl, rfl, by omega, Below.refl _ _⟩
  case round =>
    obtain ⟨k, hgk, rfl, hk, hbel⟩ := hrel
    have HGK := Lib.hid hgk
    clear hgk
    by_cases hlt : k < n
    · have hkl : k < x.length := by have := HL.out; omega
      obtain ⟨b, off, rfl, _, hcell⟩ := (hr.below hbel).2 (by omega)
      obtain ⟨b', off', rfl, _, hcell'⟩ := (hs.below hbel).2 (by omega)
      have hat := fun j (hj : j < 3) => pcs_at x k j hkl hj
      generalize x[k] = p at *
      have c0 := hcell (k * 3 + 0) _ (hat 0 (by omega))
      have c1 := hcell (k * 3 + 1) _ (hat 1 (by omega))
      have c2 := hcell (k * 3 + 2) _ (hat 2 (by omega))
      have d0 := hcell' (k * 3 + 0) _ (hat 0 (by omega))
      have d1 := hcell' (k * 3 + 1) _ (hat 1 (by omega))
      have d2 := hcell' (k * 3 + 2) _ (hat 2 (by omega))
      rw [Nat.add_zero] at c0 d0
      rw [show off + (k * 3 + 1) = off + k * 3 + 1 by omega] at c1
      rw [show off + (k * 3 + 2) = off + k * 3 + 2 by omega] at c2
      rw [show off' + (k * 3 + 1) = off' + k * 3 + 1 by omega] at d1
      rw [show off' + (k * 3 + 2) = off' + k * 3 + 2 by omega] at d2
      obtain ⟨pn, pd, psz⟩ := p
      dsimp only [pcell, List.getElem?_cons_zero, List.getElem?_cons_succ] at c0 c1 c2 d0 d1 d2
      generalize (⟨pn.toArray⟩ : ByteArray) = s at *
      generalize (⟨pd.toArray⟩ : ByteArray) = t at *
      clear hat hcell hcell'
      have hk0 : (0 : Int) ≤ (k : Int) := by omega
      have hk1 : (k : Int) < (n : Int) := by omega
      repeat' ((fail_if_success at_builtin); (fail_if_success at_make); (first | go_values | go_skip | go_guarded | go_step | go_upon | go_back))

      go_quiet (fail)
      repeat' ((fail_if_success at_builtin); (fail_if_success at_make); (first | go_values | go_skip | go_guarded | go_step | go_upon | go_back))
      go_roundg (n - (k + 1))
      case measure => have := HGK.out; omega
      case rel => exact ⟨k + 1, rfl, by go_num, by omega, bdrewN hbel _⟩
    · repeat' ((fail_if_success at_builtin); (fail_if_success at_make); (first | go_values | go_skip | go_guarded | go_step | go_upon | go_back))
      go_ret
      exact ⟨rfl, hbel⟩

theorem bytes_ne {s t : ByteArray} (h : ¬ s = t) : (s.toList == t.toList) = false := by
  rw [beq_eq_false_iff_ne, ByteArray.toList_eq, ByteArray.toList_eq]
  intro e; apply h
  cases s; cases t; simp only [ByteArray.mk.injEq]; exact Array.toList_inj.1 e
theorem EqualP_diff (A B : Option Addr) (n m c d : Nat) (x y : List PartP) (w : World) (hl : x.length = n) (hl' : y.length = m) (hn : n ≤ 140737488351232) (hm : m ≤ 140737488351232) (hr : Rd w 3 A n (pcs x)) (hs : Rd w 3 B m (pcs y)) (hne : x ≠ y) :
    Calls Tryz.prog 61 #[.slice A n c, .slice B m d] w fun e w' => e = .returned (.bool false) ∧ Below w.heap.size w w' := by
  have HL := Lib.hid hl
  have HL' := Lib.hid hl'
  have HNE := Lib.hid hne
  clear hl hl' hne
  by_cases hnm : n = m
  · subst hnm
    have hnn : ((n : Int) != (n : Int)) = false := by simp
    go_enter Tryz.func61, Tryz.ntmps61
    repeat' ((fail_if_success at_builtin); (fail_if_success at_make); (first | go_values | go_skip | go_guarded | go_step | go_upon | go_back))
    go_loopg [5, 13] n (fun gn u i wr => ∃ k : Nat, gn = n - k ∧ i = .int .i64 k ∧ k ≤ n ∧ x.take k = y.take k ∧ Below w.heap.size w wr)
    case atStart => exact ⟨0, rfl, rfl, by omega, rfl, Below.refl _ _⟩
    case round =>
      obtain ⟨k, hgk, rfl, hk, htk, hbel⟩ := hrel
      have HGK := Lib.hid hgk
      have HTK := Lib.hid htk
      clear hgk htk
      by_cases hlt : k < n
      · have hkl : k < x.length := by have := HL.out; omega
        have hkl' : k < y.length := by have := HL'.out; omega
        obtain ⟨b, off, rfl, _, hcell⟩ := (hr.below hbel).2 (by omega)
        obtain ⟨b', off', rfl, _, hcell'⟩ := (hs.below hbel).2 (by omega)
        have hat := fun j (hj : j < 3) => pcs_at x k j hkl hj
        have hat' := fun j (hj : j < 3) => pcs_at y k j hkl' hj
        have HS := Lib.hid (fun (h : x[k] = y[k]) => (by rw [List.take_succ_eq_append_getElem hkl, List.take_succ_eq_append_getElem hkl', HTK.out, h] : x.take (k + 1) = y.take (k + 1)))
        generalize x[k] = p at *
        generalize y[k] = q at *
        have c0 := hcell (k * 3 + 0) _ (hat 0 (by omega))
        have c1 := hcell (k * 3 + 1) _ (hat 1 (by omega))
        have c2 := hcell (k * 3 + 2) _ (hat 2 (by omega))
        have d0 := hcell' (k * 3 + 0) _ (hat' 0 (by omega))
        have d1 := hcell' (k * 3 + 1) _ (hat' 1 (by omega))
        have d2 := hcell' (k * 3 + 2) _ (hat' 2 (by omega))
        rw [Nat.add_zero] at c0 d0
        rw [show off + (k * 3 + 1) = off + k * 3 + 1 by omega] at c1
        rw [show off + (k * 3 + 2) = off + k * 3 + 2 by omega] at c2
        rw [show off' + (k * 3 + 1) = off' + k * 3 + 1 by omega] at d1
        rw [show off' + (k * 3 + 2) = off' + k * 3 + 2 by omega] at d2
        obtain ⟨pn, pd, psz⟩ := p
        obtain ⟨qn, qd, qsz⟩ := q
        dsimp only [pcell, List.getElem?_cons_zero, List.getElem?_cons_succ] at c0 c1 c2 d0 d1 d2
        obtain ⟨s, hs⟩ : ∃ s : ByteArray, s = ⟨pn.toArray⟩ := ⟨_, rfl⟩
        obtain ⟨t, ht⟩ : ∃ s : ByteArray, s = ⟨pd.toArray⟩ := ⟨_, rfl⟩
        obtain ⟨s', hs'⟩ : ∃ s : ByteArray, s = ⟨qn.toArray⟩ := ⟨_, rfl⟩
        obtain ⟨t', ht'⟩ : ∃ s : ByteArray, s = ⟨qd.toArray⟩ := ⟨_, rfl⟩
        rw [← hs] at c0
        rw [← ht] at c1
        rw [← hs'] at d0
        rw [← ht'] at d1
        have H4 := Lib.hid (And.intro hs (And.intro ht (And.intro hs' ht')))
        clear hat hcell hcell' hat' hs ht hs' ht'
        have hk0 : (0 : Int) ≤ (k : Int) := by omega
        have hk1 : (k : Int) < (n : Int) := by omega
        by_cases hss : s = s'
        · subst hss
          by_cases htt : t = t'
          · subst htt
            by_cases hzz : psz = qsz
            · subst hzz
              have HS2 := Lib.hid (HS.out (by
                have h1 : pn = qn := by have := H4.out.1.symm.trans H4.out.2.2.1; simpa using this
                have h2 : pd = qd := by have := H4.out.2.1.symm.trans H4.out.2.2.2; simpa using this
                rw [h1, h2]))
              repeat' ((fail_if_success at_builtin); (fail_if_success at_make); (first | go_values | go_skip | go_guarded | go_step | go_upon | go_back))
              go_quiet (fail)
              repeat' ((fail_if_success at_builtin); (fail_if_success at_make); (first | go_values | go_skip | go_guarded | go_step | go_upon | go_back))
              go_roundg (n - (k + 1))
              case measure => have := HGK.out; omega
              case rel => exact ⟨k + 1, rfl, by go_num, by omega, HS2.out, bdrewN hbel _⟩
            · have e1 : ((psz : Int) == (qsz : Int)) = false := by rw [beq_eq_false_iff_ne]; omega
              have e2 : ¬ ((psz : Int) = (qsz : Int)) := by omega
              have e3 : (psz == qsz) = false := by rw [beq_eq_false_iff_ne]; exact hzz
              repeat' ((fail_if_success at_builtin); (fail_if_success at_make); (first | go_values | go_skip | go_guarded | go_step | go_upon | go_back))
              go_quiet (fail)
              repeat' ((fail_if_success at_builtin); (fail_if_success at_make); (first | go_values | go_skip | go_guarded | go_step | go_upon | go_back))
              go_ret
              exact ⟨rfl, bdrewN hbel _⟩
          · have e1 : (t.toList == t'.toList) = false := bytes_ne htt
            repeat' ((fail_if_success at_builtin); (fail_if_success at_make); (first | go_values | go_skip | go_guarded | go_step | go_upon | go_back))
            go_quiet (fail)
            repeat' ((fail_if_success at_builtin); (fail_if_success at_make); (first | go_values | go_skip | go_guarded | go_step | go_upon | go_back))
            go_ret
            exact ⟨rfl, bdrewN hbel _⟩
        · have e1 : (s.toList == s'.toList) = false := bytes_ne hss
          repeat' ((fail_if_success at_builtin); (fail_if_success at_make); (first | go_values | go_skip | go_guarded | go_step | go_upon | go_back))
          go_quiet (fail)
          repeat' ((fail_if_success at_builtin); (fail_if_success at_make); (first | go_values | go_skip | go_guarded | go_step | go_upon | go_back))
          go_ret
          exact ⟨rfl, bdrewN hbel _⟩
      · exfalso
        apply HNE.out
        have h1 := HTK.out
        rwa [List.take_of_length_le (by have := HL.out; omega), List.take_of_length_le (by have := HL'.out; omega)] at h1
  · have hnn : ((n : Int) != (m : Int)) = true := by rw [bne_iff_ne]; omega
    go_enter Tryz.func61, Tryz.ntmps61
    repeat' ((fail_if_success at_builtin); (fail_if_success at_make); (first | go_values | go_skip | go_guarded | go_step | go_upon | go_back))
    go_ret
    exact ⟨rfl, Below.refl _ _⟩
end Go.Proofs.YtmjcoebfldmgnaaGreat
