/- reach.Parts. Conditions: the sizes. -/
import Derived.Test.YtmjcoebfldmgnaaGreatMan
namespace Go.Proofs.YtmjcoebfldmgnaaGreat
open Go.RowKit
set_option linter.unusedVariables false
set_option linter.unusedSimpArgs false
set_option maxRecDepth 100000

theorem elStr : El Tryz.prog 35 9 1 16 := El.mk' (z := .string ByteArray.empty) Tryz.underlying35 (by kernel_rfl) rfl (by omega) (by omega)
/-- digests as cells -/
def dcs (l : List PartP) : List Value := l.map fun p => .string ⟨p.dig.toArray⟩
theorem dcs_len (l : List PartP) : (dcs l).length = l.length := by simp [dcs]
theorem dcs_one (l : List PartP) : ∀ u ∈ dcs l, u.oneCell' = true := by
  intro u hu; simp only [dcs, List.mem_map] at hu; obtain ⟨_, _, rfl⟩ := hu; rfl
theorem dcs_step (l : List PartP) (k : Nat) (h : k < l.length) : dcs (l.take (k + 1)) = dcs (l.take k) ++ [.string ⟨l[k].dig.toArray⟩] := by
  rw [dcs, List.take_succ_eq_append_getElem h, List.map_append]; rfl
theorem decGo_len : ∀ (n : Nat) (out : List PartP) (l : List UInt8), (decGo n out l).2.1.length ≤ out.length + n
  | 0, out, l => Nat.le_refl _
  | n + 1, out, l => by
    rw [decGo]
    split
    · exact Nat.zero_le _
    · have := decGo_len n (out ++ [(stepD l).1]) (stepD l).2.1
      rw [List.length_append] at this; simp only [List.length_cons, List.length_nil] at this; omega
theorem decL_len (b : List UInt8) : (decL b).1.length ≤ 8 := by
  have h0 := decGo_len (rdNum (b.drop 3)).1 [] (rdNum (b.drop 3)).2.1
  simp only [List.length_nil, Nat.zero_add] at h0
  unfold decL
  split
  · exact Nat.zero_le _
  · split
    · exact Nat.zero_le _
    · split
      · exact Nat.zero_le _
      · split
        · exact Nat.zero_le _
        · split
          · exact Nat.zero_le _
          · split
            · exact Nat.zero_le _
            · split
              · exact Nat.zero_le _
              · dsimp only; omega

set_option maxHeartbeats 2000000 in
theorem RParts_ok (s : ByteArray) (A : Option Addr) (n c : Nat) (l : List UInt8) (pn : Int) (mk : Bool) (w : World) (hl : l.length = n) (hc : n ≤ c) (hm : c ≤ maxLen) (hr : Rd w 1 A n (bys l)) :
    Calls Tryz.prog 85 #[.agg #[.string s, .slice A n c, .int .i64 pn, .bool mk]] w fun e w' => ∃ v, e = .returned v ∧ w'.ownsRow w.heap.size 9 1 v (decL l).1.length (dcs (decL l).1) ∧ Below w.heap.size w w' := by
  have HD := Lib.hid (fun w' hr' => Decode_ok A n c l w' hl hc hm hr')
  have hx8 := decL_len l
  generalize decL l = D at *
  obtain ⟨x, er⟩ := D
  dsimp only at HD hx8 ⊢
  obtain ⟨w1, hw1⟩ : ∃ w1, w1 = w.alloc (.cells #[.string s, .slice A n c, .int .i64 pn, .bool mk] 51) := ⟨_, rfl⟩
  have hb1 : Below w.heap.size w w1 := by rw [hw1]; exact (Below.refl _ _).alloc (Nat.le_refl _) _
  have hr1 : Rd w1 1 A n (bys l) := by rw [hw1]; exact hr.alloc _
  have HW := Lib.hid hw1
  clear hw1 hl hr
  go_enter Tryz.func85, Tryz.ntmps85
  repeat' ((fail_if_success at_builtin); (fail_if_success at_make); (first | go_values | go_skip | go_guarded | go_step | go_upon | go_back))
  rw [← HW.out]
  refine ((HD.out w1 hr1)).mono ?_; rintro e_ w2 ⟨v2, rfl, ho2, hb2⟩; dsimp only
  have hb12 := hb1.trans (hb2.mono hb1.size)
  obtain ⟨A2, c2, rfl, hc2, hr2⟩ := Rd.of_own' ho2
  have HR2 := Lib.hid hr2
  clear ho2 hr1
  repeat' ((fail_if_success at_builtin); (fail_if_success at_make); (first | go_values | go_skip | go_guarded | go_step | go_upon | go_back))
  go_loopg [5, 16, 7] x.length (fun gn v i u wr => ∃ k : Nat, gn = x.length - k ∧ i = .int .i64 k ∧ k ≤ x.length ∧ wr.ownsRow w2.heap.size 9 1 v k (dcs (x.take k)) ∧ Below w2.heap.size w2 wr ∧ Below w.heap.size w wr)
  case atStart => exact ⟨0, rfl, rfl, by omega, World.ownsRow_nil _ _ _ _, Below.refl _ _, hb12⟩
  case round =>
    obtain ⟨k, hgk, rfl, hk, ho, hbl, hbel⟩ := hrel
    have HGK := Lib.hid hgk
    clear hgk
    by_cases hlt : k < x.length
    · have hstep := dcs_step x k hlt
      have hat := fun j (hj : j < 3) => pcs_at x k j hlt hj
      obtain ⟨b, off, rfl, hbw', hcell⟩ := (HR2.out.below hbl).2 (by omega)
      have c0 := hcell (k * 3 + 0) _ (hat 0 (by omega))
      have c1 := hcell (k * 3 + 1) _ (hat 1 (by omega))
      have c2 := hcell (k * 3 + 2) _ (hat 2 (by omega))
      rw [Nat.add_zero] at c0
      rw [show off + (k * 3 + 1) = off + k * 3 + 1 by omega] at c1
      rw [show off + (k * 3 + 2) = off + k * 3 + 2 by omega] at c2
      try dsimp only [pcell, List.getElem?_cons_zero, List.getElem?_cons_succ] at c0 c1 c2
      generalize (⟨x[k].name.toArray⟩ : ByteArray) = s' at *
      generalize (⟨x[k].dig.toArray⟩ : ByteArray) = t' at *
      generalize (x[k].size : Int) = z' at *
      have HST := Lib.hid hstep
      have hk0 : (0 : Int) ≤ (k : Int) := by omega
      have hk1 : (k : Int) < (x.length : Int) := by omega
      have hcc : decide (k < x.length) = true := decide_eq_true hlt
      clear hstep hat hcell
      repeat' ((fail_if_success at_builtin); (fail_if_success at_make); (first | go_values | go_skip | go_guarded | go_step | go_upon | go_back))
      have hbl' := hbl.alloc hbl.size (.cells #[.string s', .string t', .int .i64 z'] 48)
      have hbel' := hbel.alloc hbel.size (.cells #[.string s', .string t', .int .i64 z'] 48)
      have ho' := ho.alloc (.cells #[.string s', .string t', .int .i64 z'] 48)
      have hs1 : (wr.alloc (.cells #[.string s', .string t', .int .i64 z'] 48)).heap.size = wr.heap.size + 1 := World.size_alloc _ _
      generalize wr.alloc (.cells #[.string s', .string t', .int .i64 z'] 48) = wb at *
      rw [← hs1]
      clear hs1 ho hbl hbel c0 c1 c2
      refine wpList_apN rfl (.tmp 20) (.tmp 23) rfl elStr (by rfl) ho' (us := [.string t']) (m := 1) (by rfl) rfl (by intro u hu; simp at hu; subst hu; rfl) (by omega) hbl'.size ?_
      intro v5 w5 ho5 hg5 hv5
      rw [← HST.out] at ho5
      have hbl5 := below_own hbl' ho' (Nat.le_refl _) hg5
      have hbel5 := hb12.trans (hbl5.mono hb12.size)
      repeat' ((fail_if_success at_builtin); (fail_if_success at_make); (first | go_values | go_skip | go_guarded | go_step | go_upon | go_back))
      go_roundg (x.length - (k + 1))
      case measure => have := HGK.out; omega
      case rel => exact ⟨k + 1, rfl, by go_num, by omega, ho5, hbl5, hbel5⟩
    · obtain rfl : k = x.length := by omega
      have hcc : decide (x.length < x.length) = false := by simp
      rw [List.take_length] at ho
      repeat' ((fail_if_success at_builtin); (fail_if_success at_make); (first | go_values | go_skip | go_guarded | go_step | go_upon | go_back))
      go_ret
      exact ⟨_, rfl, own_lower ho hb12.size, hbel⟩
end Go.Proofs.YtmjcoebfldmgnaaGreat
