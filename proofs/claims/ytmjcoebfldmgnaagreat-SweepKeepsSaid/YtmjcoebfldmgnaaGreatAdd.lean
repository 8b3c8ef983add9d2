/- mark.Add; the walk of MarkAdds. Conditions: the sizes. -/
import Derived.Test.YtmjcoebfldmgnaaGreatStr
namespace Go.Proofs.YtmjcoebfldmgnaaGreat
open Go.RowKit
set_option linter.unusedVariables false
set_option linter.unusedSimpArgs false
set_option maxRecDepth 100000

set_option maxHeartbeats 4000000 in
theorem Add_ok (A B : Option Addr) (c d : Nat) (L M : List (List UInt8)) (w : World) (hc : L.length ≤ c) (hd : M.length ≤ d) (hl : L.length ≤ 100000000) (hm : M.length ≤ 100000000) (hr : Rd w 1 A L.length (strs L)) (hr' : Rd w 1 B M.length (strs M)) :
    Calls Tryz.prog 112 #[.slice A L.length c, .slice B M.length d] w fun e w' => ∃ v N, e = .returned v ∧ StrL N (fun x => x ∈ L ∨ x ∈ M) ∧ N.length ≤ L.length + M.length ∧ w'.ownsRow w.heap.size 9 1 v N.length (strs N) ∧ Below w.heap.size w w' := by
  have hbox : Arr (w.alloc (.cells #[.slice A L.length c, .slice B M.length d] 35)) w.heap.size 35 [.slice A L.length c, .slice B M.length d] := Arr.new w 35 _
  have hb1 := (Below.refl w.heap.size w).alloc (Nat.le_refl _) (.cells #[.slice A L.length c, .slice B M.length d] 35)
  have hr1 := hr.below hb1
  have hr1' := hr'.below hb1
  have HCC := Lib.hid (ConcatS_ok w.heap.size A B c d L M _ hc hd (by omega) (by omega) (hbox.cell (k := 0) rfl) (hbox.cell (k := 1) rfl) hr1 hr1')
  have hlm : (L ++ M).length ≤ 200000000 := by rw [List.length_append]; omega
  have HLM := Lib.hid (show (L ++ M).length = L.length + M.length from List.length_append)
  have HMM := Lib.hid (fun x => show x ∈ L ++ M ↔ x ∈ L ∨ x ∈ M from List.mem_append)
  clear hr hr' hr1 hr1' hbox
  go_enter Tryz.func112, Tryz.ntmps112
  repeat' ((fail_if_success at_builtin); (fail_if_success at_make); (first | go_values | go_skip | go_guarded | go_step | go_upon | go_back))
  generalize (w.alloc (.cells #[.slice A L.length c, .slice B M.length d] 35)) = w1 at *
  refine ((HCC.out)).mono ?_; rintro e_ w2 ⟨v2, rfl, ho2, hb2⟩; dsimp only
  have hb12 := hb1.trans (hb2.mono hb1.size)
  have hs1 := hb1.size
  generalize L ++ M = K at *
  clear HCC hb1 hb2
  repeat' ((fail_if_success at_builtin); (fail_if_success at_make); (first | go_values | go_skip | go_guarded | go_step | go_upon | go_back))
  refine ((Sort_own _ v2 K w2 (by omega) ho2)).mono ?_; rintro e_ w3 ⟨rfl, ho3, hg3⟩; dsimp only
  have hb13 := below_own hb12 ho2 hs1 hg3
  have hp := sorted_pw K
  have hperm := List.mergeSort_perm K leB
  have hkl : (K.mergeSort leB).length = K.length := List.length_mergeSort K
  rw [← hkl] at ho3
  have HKP := Lib.hid (And.intro hp (And.intro hperm hkl))
  generalize K.mergeSort leB = Q at *
  clear ho2 hg3 hb12 hp hperm
  repeat' ((fail_if_success at_builtin); (fail_if_success at_make); (first | go_values | go_skip | go_guarded | go_step | go_upon | go_back))
  refine ((Compact_own _ v2 Q w3 (by omega) ho3)).mono ?_; rintro e_ w4 ⟨v4, rfl, ho4, hg4⟩; dsimp only
  have hb14 := below_own hb13 ho3 hs1 hg4
  have HST := Lib.hid (compact_strL HKP.out.1)
  have hcl := Lib.compact_length_le Q
  obtain ⟨A4, c4, rfl, _, hr4⟩ := Rd.of_own' ho4
  generalize Lib.compact Q = N at *
  clear ho3 hg4 hb13 ho4
  repeat' ((fail_if_success at_builtin); (fail_if_success at_make); (first | go_values | go_skip | go_guarded | go_step | go_upon | go_back))
  refine ((Clone_str A4 c4 N w4 (by omega) hr4)).mono ?_; rintro e_ w5 ⟨v5, rfl, ho5, hb5⟩; dsimp only
  have hb15 := hb14.trans (hb5.mono hb14.size)
  have hs4 := hb14.size
  clear hb14 hb5 hr4
  repeat' ((fail_if_success at_builtin); (fail_if_success at_make); (first | go_values | go_skip | go_guarded | go_step | go_upon | go_back))
  go_ret
  refine ⟨v5, N, rfl, ⟨HST.out.nd, HST.out.le, fun x => ?_⟩, by have := HLM.out; omega, own_lower ho5 hs4, hb15⟩
  rw [HST.out.mem, HKP.out.2.1.mem_iff, HMM.out]
end Go.Proofs.YtmjcoebfldmgnaaGreat
