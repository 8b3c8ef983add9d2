/- slices.BinarySearchFunc of blobs, of entries. Conditions: the sizes. index.Find, index.Put. Conditions: entries that may be. blob.Find, blob.Put, blob.Drop. Conditions: blobs that may be. -/
import Derived.Test.YtmjcoebfldmgnaaGreatIns
import Derived.Test.YtmjcoebfldmgnaaGreatSort
import Derived.Test.YtmjcoebfldmgnaaGreatBsL
import Derived.Test.YtmjcoebfldmgnaaGreatChk
import Derived.Test.YtmjcoebfldmgnaaGreatCpy
import Derived.Test.YtmjcoebfldmgnaaGreatNxt
import Derived.Test.YtmjcoebfldmgnaaGreatDel4
/-! slices.BinarySearchFunc of blobs, of entries. Conditions: the sizes -/
namespace Go.Proofs.YtmjcoebfldmgnaaGreat
open Go.RowKit
set_option linter.unusedVariables false
set_option linter.unusedSimpArgs false
set_option maxRecDepth 100000

theorem cmp_zero : ∀ x y : List UInt8, Lib.compareBytes x y = 0 ↔ x = y
  | [], [] => by simp [Lib.compareBytes]
  | [], _ :: _ => by simp [Lib.compareBytes]
  | _ :: _, [] => by simp [Lib.compareBytes]
  | a :: x, b :: y => by
    rw [Lib.compareBytes]
    rcases u8_tri a b with h | h | h
    · rw [if_pos h]
      exact ⟨fun e => by omega, fun e => by cases e; exact absurd h (UInt8.lt_irrefl _)⟩
    · subst h
      rw [if_neg (UInt8.lt_irrefl _), if_neg (UInt8.lt_irrefl _), cmp_zero x y]
      simp
    · rw [if_neg (UInt8.lt_asymm h), if_pos h]
      exact ⟨fun e => by omega, fun e => by cases e; exact absurd h (UInt8.lt_irrefl _)⟩
end Go.Proofs.YtmjcoebfldmgnaaGreat
/-! index.Find, index.Put. Conditions: entries that may be -/
namespace Go.Proofs.YtmjcoebfldmgnaaGreat
open Go.RowKit
set_option linter.unusedVariables false
set_option linter.unusedSimpArgs false
set_option maxRecDepth 100000

end Go.Proofs.YtmjcoebfldmgnaaGreat
/-! blob.Find, blob.Put, blob.Drop. Conditions: blobs that may be -/
namespace Go.Proofs.YtmjcoebfldmgnaaGreat
open Go.RowKit
set_option linter.unusedVariables false
set_option linter.unusedSimpArgs false
set_option maxRecDepth 100000

theorem putB_len0 (l : List BlobP) (d : List UInt8) : (putB l d).length ≤ l.length + 1 := by
  unfold putB
  cases hf : l.findIdx? (fun b => b.dig == shaS d) with
  | none => show (srt _ _).length ≤ _; rw [(srt_perm _ _).length_eq]; simp
  | some i => show l.length ≤ _; omega
theorem FndB_tells (gk : Nat) (d : List UInt8) (l : List BlobP) (w : World) (hk : w.cell? ⟨gk, 0, none⟩ = some (.string ⟨d.toArray⟩)) (hg : gk < w.heap.size) : TellsB w l 113 (.pointer (some ⟨gk, 0, none⟩)) (fun b => b.dig == d) := by
  refine ⟨fun _ _ => by kernel_rfl, fun b B cb W hb hbel hs => ?_⟩
  have hg1 : gk < W.heap.size := Nat.lt_of_lt_of_le hg hbel.size
  have hk0 : W.cell? ⟨gk, 0, none⟩ = some (.string ⟨d.toArray⟩) := (hbel.cell (p := ⟨gk, 0, none⟩) hg).trans hk
  generalize hs1 : (⟨b.dig.toArray⟩ : ByteArray) = s
  generalize hs2 : (⟨d.toArray⟩ : ByteArray) = t at hk0
  have hst : (b.dig == d) = (s.toList == t.toList) := by
    rw [← hs1, ← hs2, ByteArray.toList_eq, ByteArray.toList_eq]
  dsimp only
  rw [hst]
  have hb1 := (Below.refl W.heap.size W).alloc (Nat.le_refl _) (.cells #[.string s, .slice B b.data.length cb, .int .i64 (b.pins : Int), (.bool b.mark)] 51)
  have hk1 : (W.alloc (.cells #[.string s, .slice B b.data.length cb, .int .i64 (b.pins : Int), (.bool b.mark)] 51)).cell? ⟨gk, 0, none⟩ = some (.string t) := (World.cell?_alloc_lt W _ ⟨gk, 0, none⟩ hg1).trans hk0
  clear hst hs1 hs2
  go_enter Tryz.func113, Tryz.ntmps113
  repeat' ((fail_if_success at_builtin); (fail_if_success at_make); (first | go_values | go_skip | go_guarded | go_step | go_upon | go_back))
  go_ret
  exact ⟨rfl, hb1⟩
theorem FindB_ok (A : Option Addr) (c : Nat) (l : List BlobP) (d : List UInt8) (w : World) (hl : l.length ≤ 1000000) (hA : Rw BlobS w A l) :
    Calls Tryz.prog 77 #[.slice A l.length c, .string ⟨d.toArray⟩] w fun e w' => e = .returned (fndR (l.findIdx? (fun x => x.dig == d))) ∧ Below w.heap.size w w' := by
  obtain ⟨s, hs⟩ : ∃ s : ByteArray, s = ⟨d.toArray⟩ := ⟨_, rfl⟩
  rw [← hs]
  have hA1 := Arr.new w 9 [.string s]
  have hb1 := (Below.refl w.heap.size w).alloc (Nat.le_refl _) (.cells #[.string s] 9)
  have hA1' : Arr (w.alloc (.cells #[.string s] 9)) w.heap.size 9 [.string s] := hA1
  have hk := hA1'.cell (k := 0) rfl
  have HI := IdxB_ok A c l _ (.pointer (some ⟨w.heap.size, 0, none⟩)) (fun x => x.dig == d) (w.alloc (.cells #[.string s] 9)) hl (hA.below hb1) (FndB_tells w.heap.size d l _ (by rw [hk, hs]) hA1'.lt)
  clear hs hA hA1 hA1' hk
  cases hf : l.findIdx? (fun x => x.dig == d) with
  | none =>
    rw [hf] at HI
    have HI := Lib.hid HI
    go_enter Tryz.func77, Tryz.ntmps77
    repeat' ((fail_if_success at_builtin); (fail_if_success at_make); (first | go_values | go_skip | go_guarded | go_step | go_upon | go_back))
    refine ((HI.out)).mono ?_; rintro e_ w2 ⟨rfl, hb2⟩; dsimp only
    have hb12 := hb1.trans (hb2.mono hb1.size)
    repeat' ((fail_if_success at_builtin); (fail_if_success at_make); (first | go_values | go_skip | go_guarded | go_step | go_upon | go_back))
    go_ret2
    exact ⟨rfl, hb12⟩
  | some i =>
    rw [hf] at HI
    have HI := Lib.hid HI
    have hi : decide ((i : Int) < 0) = false := decide_eq_false (by omega)
    go_enter Tryz.func77, Tryz.ntmps77
    repeat' ((fail_if_success at_builtin); (fail_if_success at_make); (first | go_values | go_skip | go_guarded | go_step | go_upon | go_back))
    refine ((HI.out)).mono ?_; rintro e_ w2 ⟨rfl, hb2⟩; dsimp only
    have hb12 := hb1.trans (hb2.mono hb1.size)
    repeat' ((fail_if_success at_builtin); (fail_if_success at_make); (first | go_values | go_skip | go_guarded | go_step | go_upon | go_back))
    go_ret2
    exact ⟨rfl, hb12⟩

end Go.Proofs.YtmjcoebfldmgnaaGreat
