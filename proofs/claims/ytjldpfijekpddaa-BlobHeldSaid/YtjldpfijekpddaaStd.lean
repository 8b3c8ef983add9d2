/- stored; Has. Conditions: the sizes. -/
import Derived.Test.YtjldpfijekpddaaBlP
import Derived.Test.YtjldpfijekpddaaZ
namespace Go.Proofs.Ytjldpfijekpddaa
open Go.RowKit
set_option linter.unusedVariables false
set_option linter.unusedSimpArgs false
set_option maxRecDepth 100000

theorem Has_tells (gk : Nat) (d : List UInt8) (l : List BlobP) (w : World) (hk : w.cell? ⟨gk, 0, none⟩ = some (.string ⟨d.toArray⟩)) (hg : gk < w.heap.size) : TellsB w l 36 (.pointer (some ⟨gk, 0, none⟩)) (fun b => b.dig == d) := by
  refine ⟨fun _ _ => by kernel_rfl, fun b B cb W hb hbel hs => ?_⟩
  have hg1 : gk < W.heap.size := Nat.lt_of_lt_of_le hg hbel.size
  have hk0 : W.cell? ⟨gk, 0, none⟩ = some (.string ⟨d.toArray⟩) := (hbel.cell (p := ⟨gk, 0, none⟩) hg).trans hk
  generalize hs1 : (⟨b.dig.toArray⟩ : ByteArray) = s
  generalize hs2 : (⟨d.toArray⟩ : ByteArray) = t at hk0
  have hst : (b.dig == d) = (s.toList == t.toList) := by
    rw [← hs1, ← hs2, ByteArray.toList_eq, ByteArray.toList_eq]
  dsimp only
  rw [hst]
  have hb1 := (Below.refl W.heap.size W).alloc (Nat.le_refl _) (.cells #[.string s, .slice B b.data.length cb, .int .i64 (b.pins : Int), (.bool b.mark)] 30)
  have hk1 : (W.alloc (.cells #[.string s, .slice B b.data.length cb, .int .i64 (b.pins : Int), (.bool b.mark)] 30)).cell? ⟨gk, 0, none⟩ = some (.string t) := (World.cell?_alloc_lt W _ ⟨gk, 0, none⟩ hg1).trans hk0
  clear hst hs1 hs2
  go_enter Try.func36, Try.ntmps36
  repeat' ((fail_if_success at_builtin); (fail_if_success at_make); (first | go_values | go_skip | go_guarded | go_step | go_upon | go_back))
  go_ret
  exact ⟨rfl, hb1⟩
theorem Has_ok (A : Option Addr) (c : Nat) (l : List BlobP) (d : List UInt8) (w : World) (hl : l.length ≤ 1000000) (hA : Rw BlobS w A l) :
    Calls Try.prog 9 #[.slice A l.length c, .string ⟨d.toArray⟩] w fun e w' => e = .returned (.bool (l.any (fun x => x.dig == d))) ∧ Below w.heap.size w w' := by
  obtain ⟨s, hs⟩ : ∃ s : ByteArray, s = ⟨d.toArray⟩ := ⟨_, rfl⟩
  rw [← hs]
  have hb1 := (Below.refl w.heap.size w).alloc (Nat.le_refl _) (.cells #[.string s] 9)
  have hA1' : Arr (w.alloc (.cells #[.string s] 9)) w.heap.size 9 [.string s] := Arr.new w 9 [.string s]
  have hk := hA1'.cell (k := 0) rfl
  have HI := Lib.hid (CntB_ok A c l _ (.pointer (some ⟨w.heap.size, 0, none⟩)) (fun x => x.dig == d) (w.alloc (.cells #[.string s] 9)) hl (hA.below hb1) (Has_tells w.heap.size d l _ (by rw [hk, hs]) hA1'.lt))
  clear hs hA hA1' hk
  generalize l.any (fun x => x.dig == d) = R at *
  go_enter Try.func9, Try.ntmps9
  repeat' ((fail_if_success at_builtin); (fail_if_success at_make); (first | go_values | go_skip | go_guarded | go_step | go_upon | go_back))
  refine ((HI.out)).mono ?_; rintro e_ w2 ⟨rfl, hb2⟩; dsimp only
  have hb12 := hb1.trans (hb2.mono hb1.size)
  repeat' ((fail_if_success at_builtin); (fail_if_success at_make); (first | go_values | go_skip | go_guarded | go_step | go_upon | go_back))
  go_ret
  exact ⟨rfl, hb12⟩
theorem putB_one (D : List UInt8) : putB [] D = [⟨shaS D, D, 0, false⟩] := List.perm_singleton.1 (srt_perm _ _)
set_option maxHeartbeats 4000000 in
theorem stored_ok (w : World) : Calls Try.prog 10 #[] w fun e w' => e = .returned (.bool true) ∧ Below w.heap.size w w' := by
  obtain ⟨A, hA⟩ : ∃ A : List UInt8, A = [97, 98, 99] := ⟨_, rfl⟩
  have hAL : A.length = 3 := by rw [hA]; rfl
  have HAL := Lib.hid hAL
  have HA := Lib.hid hA
  have hkc := fun (w : World) (C : Array Value) (n c : Nat) => Lib.run_convert_bytes_const (P := Try.prog) w 28 5 C n c Try.underlying28 Try.underlying5
  have hz : ∀ W : World, OwnZ (W.alloc (.cells #[.int .u8 97, .int .u8 98, .int .u8 99] 5 (3, 4))) W.heap.size (some ⟨W.heap.size, 0, none⟩) 3 A := fun W => by
    rw [hA]; exact ⟨W.heap.size, [], (3, 4), rfl, Nat.le_refl _, World.alloc_heap_new W _, rfl, by simp [maxLen], .inr (Nat.le_refl _)⟩
  have HZ := Lib.hid hz
  have hsl := (hz w).sl.1
  have hpt := PutB_ok none 0 [] A (some ⟨w.heap.size, 0, none⟩) 3 _ ⟨by simp, by simp, List.Pairwise.nil⟩ (by omega) (.inl (by simp)) Rw.nil_ hsl
  rw [hAL, putB_one] at hpt
  obtain ⟨sd, hsd⟩ : ∃ x : ByteArray, x = ⟨(shaS A).toArray⟩ := ⟨_, rfl⟩
  rw [← hsd] at hpt
  have HPT := Lib.hid hpt
  have HSD := Lib.hid hsd
  have hba := (Below.refl w.heap.size w).alloc (Nat.le_refl _) (.cells #[.int .u8 97, .int .u8 98, .int .u8 99] 5 (3, 4))
  clear hA hAL hz hsl hpt hsd
  go_enter Try.func10, Try.ntmps10
  repeat' ((fail_if_success at_builtin); (fail_if_success at_make); (first | go_values | go_skip | go_guarded | go_step | go_upon | go_back))
  refine ((HPT.out)).mono ?_; rintro e_ w2 ⟨v2, rfl, hx2, hb2⟩; dsimp only
  have hb02 := hba.trans (hb2.mono hba.size)
  obtain ⟨A2, c2, rfl, _, _, hR2⟩ := hx2.rwo.rows
  obtain ⟨b, off, B, cb, e1, hbb, d0, d1, d2, d3, hs⟩ := hR2.blob_at 0 (by simp)
  subst e1
  have hcv : (convert 28 9 (.slice B A.length cb)).run Try.prog w2 = .ok (.string ⟨#[97, 98, 99]⟩) w2 := by
    have := run_str (n := A.length) (c := cb) Try.underlying28 Try.underlying5 Try.underlying9 rfl hs.rd
    rw [this, HA.out]
  simp only [List.length_cons, List.length_nil, List.getElem_cons_zero, Nat.zero_add, Nat.zero_mul, Nat.add_zero] at d0 d1
  rw [← HSD.out] at d0
  have hr2 := (HZ.out w2).rd
  rw [HAL.out] at hr2
  have HDG := Digest_ok (some ⟨w2.heap.size, 0, none⟩) 3 3 A _ HAL.out (by omega) (by omega) hr2
  rw [← HSD.out] at HDG
  have HDG := Lib.hid HDG
  have hbc := (Below.refl w2.heap.size w2).alloc (Nat.le_refl _) (.cells #[.int .u8 97, .int .u8 98, .int .u8 99] 5 (3, 4))
  have hb03 := hb02.trans (hbc.mono hb02.size)
  have hss : (sd.toList == sd.toList) = true := by simp
  clear hx2 hb2 hR2 d2 d3 hs hr2 hbc hb02 hba
  repeat' ((fail_if_success at_builtin); (fail_if_success at_make); (first | go_values | go_skip | go_guarded | go_step | go_upon | go_back))
  generalize w2.alloc (.cells #[.int .u8 97, .int .u8 98, .int .u8 99] 5 (3, 4)) = w3 at *
  clear d0 d1 hcv
  refine ((HDG.out)).mono ?_; rintro e_ w4 ⟨rfl, hb4⟩; dsimp only
  have hb04 := hb03.trans (hb4.mono hb03.size)
  repeat' ((fail_if_success at_builtin); (fail_if_success at_make); (first | go_values | go_skip | go_guarded | go_step | go_upon | go_back))
  go_ret
  exact ⟨rfl, hb04⟩
end Go.Proofs.Ytjldpfijekpddaa
