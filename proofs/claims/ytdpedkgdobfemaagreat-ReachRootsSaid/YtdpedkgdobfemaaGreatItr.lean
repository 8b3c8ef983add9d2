/- slices.Sorted(maps.Keys(m)) of a set of strings. No condition but the sizes. -/
import Derived.Test.YtdpedkgdobfemaaGreatSek
import Derived.Test.YtdpedkgdobfemaaGreatIter
namespace Go.Proofs.YtdpedkgdobfemaaGreat
open Go.RowKit Go.Maps Go.Sort Go.Shelf
set_option linter.unusedVariables false
set_option linter.unusedSimpArgs false

theorem sortsIn (m : Nat) : AnyZ.SortsIn Tryz.prog Tryz.sorted45_ren Fence.wide m :=
  ⟨fun blk off cap ss W hH hblk hsz => callsIn_wide.2 (AnyM.slices_Sort_string Tryz.sort18 blk off cap ss W hH hblk hsz),
   fun p cap W => callsIn_wide.2 (AnyM.slices_Sort_string_none Tryz.sort18 p cap W)⟩
theorem Keys_ok (b : Nat) (W : World) : Calls Tryz.prog 46 #[.map (some b)] W fun e w' => e = .returned (.func (.func 81) #[] #[.pointer (some ⟨W.heap.size, 0, none⟩)]) ∧ w' = W.alloc (.cells #[.map (some b)] 82) :=
  callsIn_wide.1 (AnyZ.keys_in Tryz.keys46 Fence.wide 5 trivial rfl (some b) W)
/-- strings as cells -/
def strs (L : List (List UInt8)) : List Value := L.map fun s => .string ⟨s.toArray⟩
set_option maxHeartbeats 1000000 in
theorem Sorted_ok (b : Nat) (M : List (List UInt8)) (w : World) (hs : SetM w b M) (hmax : M.length ≤ 1000000) :
    Calls Tryz.prog 45 #[.func (.func 81) #[] #[.pointer (some ⟨w.heap.size, 0, none⟩)]] (w.alloc (.cells #[.map (some b)] 82)) fun e w' => ∃ v L, e = .returned v ∧ StrL L (fun x => x ∈ M) ∧ L.length ≤ M.length ∧
      w'.ownsRow (w.alloc (.cells #[.map (some b)] 82)).heap.size 9 1 v L.length (strs L) ∧ Below (w.alloc (.cells #[.map (some b)] 82)).heap.size (w.alloc (.cells #[.map (some b)] 82)) w' := by
  have hown := hs
  unfold SetM at hown
  have hbl := World.ownsMap.lt hown
  have hsz := World.ownsMap.size_le hown
  have hseq : SeqGives Fence.wide 2 Tryz.prog 81 #[.pointer (some ⟨w.heap.size, 0, none⟩)] encStr (fun ss => ss.Perm (strKeys (setOf tt (M.map Lit.string)))) (Maps.size (setOf tt (M.map Lit.string))) (w.alloc (.cells #[.map (some b)] 82)) :=
    AnyZ.keys_gives (ρ := Tryz.keys46_ren) { Tryz.keys46 with } Fence.wide _ trivial rfl (by omega) w.heap.size b M.length _ _ (by simp) (by simp) (by
      obtain ⟨es, clock, hb, Ft, hs, hD⟩ := hown
      exact ⟨es, clock, (Below.heap_alloc _ _ b hbl).trans hb, Ft, hs, hD⟩)
  have h := AnyZ.sorted_in Tryz.sorted45 Fence.wide 5 trivial trivial trivial trivial rfl (by omega) (sortsIn _) (enters_of Tryz.func18 (by kernel_rfl) rfl) 81 #[.pointer (some ⟨w.heap.size, 0, none⟩)] trivial (enters_of Tryz.func81 (by kernel_rfl) rfl) _ _ (by unfold maxLen; omega) (by omega) _ hseq
  refine (callsIn_wide.1 h).mono ?_
  rintro e w' ⟨v, ss, rfl, hp, hrow, _, hb⟩
  have hL := keys_perm hs hp
  have hlen : (ss.mergeSort leB).length = ss.length := List.length_mergeSort ss
  refine ⟨v, ss.mergeSort leB, rfl, hL, ?_, ?_, hb⟩
  · rw [hlen, hp.length_eq]
    obtain ⟨es, he, _⟩ := tidy_setOf tt (M.map Lit.string) (keys_lit M)
    rw [he] at hsz ⊢
    show (es.map _).length ≤ _
    rw [List.length_map]; exact hsz
  · rw [hlen]; exact hrow
end Go.Proofs.YtdpedkgdobfemaaGreat
