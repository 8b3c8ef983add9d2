/- The closures of Store: which key; which is less. No condition. -/
import Derived.Test.YtmjcoebfldmgnaaGreatPart
import Derived.Test.YtmjcoebfldmgnaaGreatShelf
namespace Go.Proofs.YtmjcoebfldmgnaaGreat
open Go.RowKit
set_option linter.unusedVariables false
set_option linter.unusedSimpArgs false
set_option maxRecDepth 20000

theorem CmpB_ok (s t : ByteArray) (v1 v2 v3 u1 u2 u3 : Value) (w : World) :
    Calls Tryz.prog 53 #[.agg #[.string s, v1, v2, v3], .agg #[.string t, u1, u2, u3]] w fun e w' => e = .returned (.int .i64 (Lib.compareBytes s.data.toList t.data.toList)) ∧ Below w.heap.size w w' := by
  obtain ⟨W, hW, hA, hB, hb⟩ := two_new w 51 [.string s, v1, v2, v3] [.string t, u1, u2, u3]
  have a0 := hA.cell (k := 0) rfl
  have b0 := hB.cell (k := 0) rfl
  rw [hW] at a0 b0
  have HC := Lib.hid (fun W => Tryz.strings_Compare s t W)
  go_enter Tryz.func53, Tryz.ntmps53
  repeat' ((fail_if_success at_builtin); (fail_if_success at_make); (first | go_values | go_skip | go_guarded | go_step | go_upon | go_back))
  rw [← hW] at a0 b0 ⊢
  clear hW
  refine ((HC.out W)).mono ?_; rintro e_ w1 ⟨rfl, rfl⟩; dsimp only
  repeat' ((fail_if_success at_builtin); (fail_if_success at_make); (first | go_values | go_skip | go_guarded | go_step | go_upon | go_back))
  go_ret
  exact ⟨rfl, hb⟩
theorem CmpE_ok (s t : ByteArray) (v1 v2 v3 u1 u2 u3 : Value) (w : World) :
    Calls Tryz.prog 56 #[.agg #[.string s, v1, v2, v3], .agg #[.string t, u1, u2, u3]] w fun e w' => e = .returned (.int .i64 (Lib.compareBytes s.data.toList t.data.toList)) ∧ Below w.heap.size w w' := by
  obtain ⟨W, hW, hA, hB, hb⟩ := two_new w 45 [.string s, v1, v2, v3] [.string t, u1, u2, u3]
  have a0 := hA.cell (k := 0) rfl
  have b0 := hB.cell (k := 0) rfl
  rw [hW] at a0 b0
  have HC := Lib.hid (fun W => Tryz.strings_Compare s t W)
  go_enter Tryz.func56, Tryz.ntmps56
  repeat' ((fail_if_success at_builtin); (fail_if_success at_make); (first | go_values | go_skip | go_guarded | go_step | go_upon | go_back))
  rw [← hW] at a0 b0 ⊢
  clear hW
  refine ((HC.out W)).mono ?_; rintro e_ w1 ⟨rfl, rfl⟩; dsimp only
  repeat' ((fail_if_success at_builtin); (fail_if_success at_make); (first | go_values | go_skip | go_guarded | go_step | go_upon | go_back))
  go_ret
  exact ⟨rfl, hb⟩
theorem HasB_tells (gk : Nat) (d : List UInt8) (l : List BlobP) (w : World) (hk : w.cell? ⟨gk, 0, none⟩ = some (.string ⟨d.toArray⟩)) (hg : gk < w.heap.size) : TellsB w l 48 (.pointer (some ⟨gk, 0, none⟩)) (fun b => b.dig == d) := by
  refine ⟨fun _ _ => by kernel_rfl, fun b B cb W hb hbel hs => ?_⟩
  have hg1 : gk < W.heap.size := Nat.lt_of_lt_of_le hg hbel.size
  have hk0 : W.cell? ⟨gk, 0, none⟩ = some (.string ⟨d.toArray⟩) := (hbel.cell (p := ⟨gk, 0, none⟩) hg).trans hk
  generalize hs1 : (⟨b.dig.toArray⟩ : ByteArray) = s
  generalize hs2 : (⟨d.toArray⟩ : ByteArray) = t at hk0
  have hst : (b.dig == d) = (s.toList == t.toList) := by
    rw [← hs1, ← hs2, ByteArray.toList_eq, ByteArray.toList_eq]
  dsimp only
  rw [hst]
  have hb1 := (Below.refl W.heap.size W).alloc (Nat.le_refl _) (.cells #[.string s, .slice B b.data.length cb, .int .i64 (b.pins : Int), (.bool b.mark)] 51)
  have hk1 : (W.alloc (.cells #[.string s, .slice B b.data.length cb, .int .i64 (b.pins : Int), (.bool b.mark)] 51)).cell? ⟨gk, 0, none⟩ = some (.string t) := (World.cell?_alloc_lt W _ ⟨gk, 0, none⟩ hg1).trans hk0
  clear hst hs1 hs2
  go_enter Tryz.func48, Tryz.ntmps48
  repeat' ((fail_if_success at_builtin); (fail_if_success at_make); (first | go_values | go_skip | go_guarded | go_step | go_upon | go_back))
  go_ret
  exact ⟨rfl, hb1⟩
theorem HasE_tells (gk : Nat) (d : List UInt8) (l : List EntP) (w : World) (hk : w.cell? ⟨gk, 0, none⟩ = some (.string ⟨d.toArray⟩)) (hg : gk < w.heap.size) : TellsE w l 51 (.pointer (some ⟨gk, 0, none⟩)) (fun b => b.key == d) := by
  refine ⟨fun _ _ => by kernel_rfl, fun b B cb W hb hbel hs => ?_⟩
  have hg1 : gk < W.heap.size := Nat.lt_of_lt_of_le hg hbel.size
  have hk0 : W.cell? ⟨gk, 0, none⟩ = some (.string ⟨d.toArray⟩) := (hbel.cell (p := ⟨gk, 0, none⟩) hg).trans hk
  generalize hs1 : (⟨b.key.toArray⟩ : ByteArray) = s
  generalize hs2 : (⟨d.toArray⟩ : ByteArray) = t at hk0
  have hst : (b.key == d) = (s.toList == t.toList) := by
    rw [← hs1, ← hs2, ByteArray.toList_eq, ByteArray.toList_eq]
  dsimp only
  rw [hst]
  have hb1 := (Below.refl W.heap.size W).alloc (Nat.le_refl _) (.cells #[.string s, .slice B b.parts.length cb, .int .i64 (b.pins : Int), (.int .i64 (b.stamp : Int))] 45)
  have hk1 : (W.alloc (.cells #[.string s, .slice B b.parts.length cb, .int .i64 (b.pins : Int), (.int .i64 (b.stamp : Int))] 45)).cell? ⟨gk, 0, none⟩ = some (.string t) := (World.cell?_alloc_lt W _ ⟨gk, 0, none⟩ hg1).trans hk0
  clear hst hs1 hs2
  go_enter Tryz.func51, Tryz.ntmps51
  repeat' ((fail_if_success at_builtin); (fail_if_success at_make); (first | go_values | go_skip | go_guarded | go_step | go_upon | go_back))
  go_ret
  exact ⟨rfl, hb1⟩
end Go.Proofs.YtmjcoebfldmgnaaGreat
