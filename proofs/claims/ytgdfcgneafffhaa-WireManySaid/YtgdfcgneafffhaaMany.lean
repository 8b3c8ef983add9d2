/- The walk of WireMany. Conditions: a slice's size and its numbers' bounds. -/
import Derived.Test.YtgdfcgneafffhaaShort
namespace Go.Proofs.Ytgdfcgneafffhaa
open Go.RowKit
set_option linter.unusedVariables false
set_option maxRecDepth 20000
def encs (zs : List Int) : List UInt8 := zs.flatMap fun z => num (pk z 4294967296)
theorem encs_len (zs : List Int) : (encs zs).length ≤ 5 * zs.length := by
  induction zs with
  | nil => simp [encs]
  | cons z zs ih =>
    have h1 := (num_len (pk z 4294967296) 4 (by have := pk_lt z (show 0 < 4294967296 by omega); omega)).2
    simp only [encs, List.flatMap_cons, List.length_append, List.length_cons] at *; omega
theorem encs_snoc (zs : List Int) (k : Nat) (h : k < zs.length) : encs (zs.take (k + 1)) = encs (zs.take k) ++ num (pk zs[k] 4294967296) := by
  unfold encs; rw [List.take_succ_eq_append_getElem h, List.flatMap_append, List.flatMap_cons, List.flatMap_nil, List.append_nil]
theorem encs_cons (zs : List Int) (k : Nat) (h : k < zs.length) : encs (zs.drop k) = num (pk zs[k] 4294967296) ++ encs (zs.drop (k + 1)) := by
  unfold encs; rw [List.drop_eq_getElem_cons h, List.flatMap_cons]

theorem WireMany_walk (A : Option Addr) (n c : Nat) (l : List Int) (w : World) (hl : l.length = n) (hc : n ≤ c) (hm : c ≤ 140737488351232)
    (hz : ∀ z ∈ l, -9223372036854775808 ≤ z ∧ z ≤ 9223372036854775807) (hr : Rd w 1 A n (l.map (Value.int .i64))) :
    Calls Try.prog 11 #[.slice A n c] w fun e w' => e = .returned (.bool true) ∧ Below w.heap.size w w' := by
  obtain ⟨n', hn'⟩ : ∃ n', n' = min n 30 := ⟨_, rfl⟩
  obtain ⟨zs, hzs⟩ : ∃ zs, zs = l.take n' := ⟨_, rfl⟩
  have hzl : zs.length = n' := by rw [hzs, List.length_take]; omega
  have hz' : ∀ z ∈ zs, -9223372036854775808 ≤ z ∧ z ≤ 9223372036854775807 := fun z h => hz z (by rw [hzs] at h; exact List.mem_of_mem_take h)
  have hr' := hr.pre (k := n') (by omega)
  rw [Nat.mul_one, ← List.map_take, ← hzs] at hr'
  have h30 : n' ≤ 30 := by omega
  have hnn : n' ≤ n := by omega
  have hmin : (if (n : Int) > 30 then (30 : Int) else n) = n' := by split <;> omega
  clear hzs hz hr hl hn'
  go_enter Try.func11, Try.ntmps11
  repeat' ((fail_if_success at_builtin); (fail_if_success at_make); (first | go_values | go_skip | go_guarded | go_step | go_upon | go_back))
  go_loopw [3, 23] (fun v i wr => ∃ k : Nat, i = .int .i64 k ∧ k ≤ n' ∧ wr.ownsRow w.heap.size 5 1 v (encs (zs.take k)).length (bys (encs (zs.take k))) ∧ Below w.heap.size w wr) (fun _ i _ => n' - (intOf i).toNat)
  case atStart => exact ⟨0, rfl, by omega, World.ownsRow_nil _ _ _ _, Below.refl _ _⟩
  case round =>
    obtain ⟨k, rfl, hk, hown, hbel⟩ := hrel
    by_cases hlt : k < n'
    · obtain ⟨b, off, u, rfl, _, hu, hcell⟩ := (hr'.below hbel).at_ hlt
      simp only [List.getElem?_map, List.getElem?_eq_getElem (show k < zs.length by omega), Option.map_some, Option.some.injEq] at hu
      subst hu
      have hzk := hz' zs[k] (List.getElem_mem _)
      have hsn := encs_snoc zs k (by omega)
      have hle := encs_len (zs.take k)
      rw [List.length_take] at hle
      have HS := Lib.hid hsn; clear hsn
      generalize zs[k] = z at *
      repeat' ((fail_if_success at_builtin); (fail_if_success at_make); (first | go_values | go_skip | go_guarded | go_step | go_upon | go_back))
      refine ((Picked_ok z 4294967296 4294967296 rfl _ hzk.1 hzk.2 (by omega) (by omega))).mono ?_; rintro e_ w_ ⟨rfl, rfl⟩; dsimp only
      have hp := pk_lt z (show 0 < 4294967296 by omega)
      generalize pk z 4294967296 = P at *
      repeat' ((fail_if_success at_builtin); (fail_if_success at_make); (first | go_values | go_skip | go_guarded | go_step | go_upon | go_back))
      refine ((Number_own P _ rfl _ (by omega))).mono ?_; rintro e_ w1 ⟨A1, c1, rfl, ho1, hb1⟩; dsimp only
      have hl4 := (num_len P 4 (by omega)).1
      have hl5 := (num_len P 4 (by omega)).2
      have hne : (((num P).length : Int) == 0) = false := beq_eq_false_iff_ne.2 (by omega)
      have hb2 := hbel.trans (hb1.mono hbel.size)
      have hown1 := own_below hown hb1
      repeat' ((fail_if_success at_builtin); (fail_if_success at_make); (first | go_values | go_skip | go_guarded | go_step | go_upon | go_back))
      refine wpList_ap rfl (.tmp 40) (.tmp 41) rfl elU8 (by rfl) hown1 (by rfl) ho1.rd (bys_one _) (by omega) hb2.size ?_
      intro v2 w2 hown2 hg2 _
      have hb3 := below_own hb2 hown1 (Nat.le_refl _) hg2
      repeat' ((fail_if_success at_builtin); (fail_if_success at_make); (first | go_values | go_skip | go_guarded | go_step | go_upon | go_back))
      go_roundw
      case rel => exact ⟨k + 1, by go_num, by omega, by rw [HS.out, bys_app, List.length_append]; exact hown2, hb3⟩
      case measure => simp [intOf]; omega
    · obtain rfl : k = n' := by omega
      rw [List.take_of_length_le (by omega)] at hown
      have hle := encs_len zs
      obtain ⟨A1, c1, rfl, hc1, hr1⟩ := Rd.of_own' hown
      repeat' ((fail_if_success at_builtin); (fail_if_success at_make); (first | go_values | go_skip | go_guarded | go_step | go_upon | go_back))
      go_loopw [3, 46] (fun v i w2 => ∃ (j : Nat) (A2 : Option Addr) (c2 : Nat), i = .int .i64 j ∧ j ≤ k ∧ v = .slice A2 (encs (zs.drop j)).length c2 ∧ (encs (zs.drop j)).length ≤ c2 ∧ Rd w2 1 A2 (encs (zs.drop j)).length (bys (encs (zs.drop j))) ∧ Below w.heap.size w w2) (fun _ i _ => k - (intOf i).toNat)
      case atStart => exact ⟨0, A1, c1, rfl, by omega, rfl, hc1, hr1, hbel⟩
      case round =>
        obtain ⟨j, A2, c2, rfl, hj, rfl, hc2, hr2, hb2⟩ := hrel
        have hle2 := encs_len (zs.drop j)
        rw [List.length_drop] at hle2
        by_cases hlt2 : j < k
        · obtain ⟨b, off, u, rfl, _, hu, hcell⟩ := (hr'.below hb2).at_ hlt2
          simp only [List.getElem?_map, List.getElem?_eq_getElem (show j < zs.length by omega), Option.map_some, Option.some.injEq] at hu
          subst hu
          have hzk := hz' zs[j] (List.getElem_mem _)
          have hcn := encs_cons zs j (by omega)
          have hp := pk_lt zs[j] (show 0 < 4294967296 by omega)
          have hrd : rdNum (encs (zs.drop j)) = (pk zs[j] 4294967296, encs (zs.drop (j + 1)), 0) := by rw [hcn]; exact rdNum_num _ _ (by omega)
          have HR := Lib.hid hrd; clear hrd hcn
          generalize zs[j] = z at *
          have hne : (((pk z 4294967296 : Nat) : Int) != ((pk z 4294967296 : Nat) : Int)) = false := by simp
          repeat' ((fail_if_success at_builtin); (fail_if_success at_make); (first | go_values | go_skip | go_guarded | go_step | go_upon | go_back))
          refine ((ReadNumber_at 0 rfl HR.out rfl (by omega) (by omega) hr2)).mono ?_; rintro e_ w3 ⟨A3, c3, rfl, ho3, hb3⟩; dsimp only
          repeat' ((fail_if_success at_builtin); (fail_if_success at_make); (first | go_values | go_skip | go_guarded | go_step | go_upon | go_back))
          refine ((Picked_ok z 4294967296 4294967296 rfl _ hzk.1 hzk.2 (by omega) (by omega))).mono ?_; rintro e_ w_ ⟨rfl, rfl⟩; dsimp only
          repeat' ((fail_if_success at_builtin); (fail_if_success at_make); (first | go_values | go_skip | go_guarded | go_step | go_upon | go_back))
          go_roundw
          case rel => exact ⟨j + 1, A3, c3, by go_num, by omega, rfl, ho3.cap, ho3.rd, hb2.trans (hb3.mono hb2.size)⟩
          case measure => simp [intOf]; omega
        · have hnil : encs (zs.drop j) = [] := by rw [List.drop_of_length_le (by omega)]; rfl
          rw [hnil, List.length_nil] at hc2 hr2 ⊢
          repeat' ((fail_if_success at_builtin); (fail_if_success at_make); (first | go_values | go_skip | go_guarded | go_step | go_upon | go_back))
          refine ((ReadNumber_at 8 rfl (show rdNum [] = (0, [], 8) from rfl) rfl (by simp) (by simp) hr2)).mono ?_; rintro e_ w3 ⟨A3, c3, rfl, ho3, hb3⟩; dsimp only
          repeat' ((fail_if_success at_builtin); (fail_if_success at_make); (first | go_values | go_skip | go_guarded | go_step | go_upon | go_back))
          go_ret
          exact ⟨rfl, hb2.trans (hb3.mono hb2.size)⟩
end Go.Proofs.Ytgdfcgneafffhaa
