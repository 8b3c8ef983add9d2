/- stored; Has. Conditions: the sizes. -/
import Derived.Test.YtmjcoebfldmgnaaGreatBlP
import Derived.Test.YtmjcoebfldmgnaaGreatZ
namespace Go.Proofs.YtmjcoebfldmgnaaGreat
open Go.RowKit
set_option linter.unusedVariables false
set_option linter.unusedSimpArgs false
set_option maxRecDepth 100000

theorem Has_tells (gk : Nat) (d : List UInt8) (l : List BlobP) (w : World) (hk : w.cell? ⟨gk, 0, none⟩ = some (.string ⟨d.toArray⟩)) (hg : gk < w.heap.size) : TellsB w l 72 (.pointer (some ⟨gk, 0, none⟩)) (fun b => b.dig == d) := by
  refine ⟨fun _ _ => by kernel_rfl, fun b B cb W hb hbel hs => ?_⟩
  have hg1 : gk < W.heap.size := Nat.lt_of_lt_of_le hg hbel.size
  have hk0 : W.cell? ⟨gk, 0, none⟩ = some (.string ⟨d.toArray⟩) := (hbel.cell (p := ⟨gk, 0, none⟩) hg).trans hk
  generalize hs1 : (⟨b.dig.toArray⟩ : ByteArray) = s
  generalize hs2 : (⟨d.toArray⟩ : ByteArray) = t at hk0
  have hst : (b.dig == d) = (s.toList == t.toList) := by
    rw [← hs1, ← hs2, ByteArray.toList_eq, ByteArray.toList_eq]
  dsimp only
  rw [hst]
  have hb1 := (Below.refl W.heap.size W).alloc (Nat.le_refl _) (.cells #[.string s, .slice B b.data.length cb, .int .i64 (b.pins : Int), (.bool b.mark)] 51)
  have hk1 : (W.alloc (.cells #[.string s, .slice B b.data.length cb, .int .i64 (b.pins : Int), (.bool b.mark)] 51)).cell? ⟨gk, 0, none⟩ = some (.string t) := (World.cell?_alloc_lt W _ ⟨gk, 0, none⟩ hg1).trans hk0
  clear hst hs1 hs2
  go_enter Tryz.func72, Tryz.ntmps72
  repeat' ((fail_if_success at_builtin); (fail_if_success at_make); (first | go_values | go_skip | go_guarded | go_step | go_upon | go_back))
  go_ret
  exact ⟨rfl, hb1⟩
theorem Has_ok (A : Option Addr) (c : Nat) (l : List BlobP) (d : List UInt8) (w : World) (hl : l.length ≤ 1000000) (hA : Rw BlobS w A l) :
    Calls Tryz.prog 27 #[.slice A l.length c, .string ⟨d.toArray⟩] w fun e w' => e = .returned (.bool (l.any (fun x => x.dig == d))) ∧ Below w.heap.size w w' := by
  obtain ⟨s, hs⟩ : ∃ s : ByteArray, s = ⟨d.toArray⟩ := ⟨_, rfl⟩
  rw [← hs]
  have hb1 := (Below.refl w.heap.size w).alloc (Nat.le_refl _) (.cells #[.string s] 9)
  have hA1' : Arr (w.alloc (.cells #[.string s] 9)) w.heap.size 9 [.string s] := Arr.new w 9 [.string s]
  have hk := hA1'.cell (k := 0) rfl
  have HI := Lib.hid (CntB_ok A c l _ (.pointer (some ⟨w.heap.size, 0, none⟩)) (fun x => x.dig == d) (w.alloc (.cells #[.string s] 9)) hl (hA.below hb1) (Has_tells w.heap.size d l _ (by rw [hk, hs]) hA1'.lt))
  clear hs hA hA1' hk
  generalize l.any (fun x => x.dig == d) = R at *
  go_enter Tryz.func27, Tryz.ntmps27
  repeat' ((fail_if_success at_builtin); (fail_if_success at_make); (first | go_values | go_skip | go_guarded | go_step | go_upon | go_back))
  refine ((HI.out)).mono ?_; rintro e_ w2 ⟨rfl, hb2⟩; dsimp only
  have hb12 := hb1.trans (hb2.mono hb1.size)
  repeat' ((fail_if_success at_builtin); (fail_if_success at_make); (first | go_values | go_skip | go_guarded | go_step | go_upon | go_back))
  go_ret
  exact ⟨rfl, hb12⟩
theorem putB_one (D : List UInt8) : putB [] D = [⟨shaS D, D, 0, false⟩] := List.perm_singleton.1 (srt_perm _ _)
end Go.Proofs.YtmjcoebfldmgnaaGreat
