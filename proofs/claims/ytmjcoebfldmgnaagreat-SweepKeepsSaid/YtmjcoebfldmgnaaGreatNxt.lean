/- sweep.Next; SweepRises walked. Conditions: the sizes. -/
import Derived.Test.YtmjcoebfldmgnaaGreatFly
import Derived.Test.YtmjcoebfldmgnaaGreatStore
namespace Go.Proofs.YtmjcoebfldmgnaaGreat
open Go.RowKit
set_option linter.unusedVariables false
set_option linter.unusedSimpArgs false
set_option maxRecDepth 100000

theorem gt_eq (x y : List UInt8) : Op.bytesLess y x = (!Op.bytesLess x y && !(x == y)) := by
  rcases bl_tri x y with h | h | h
  · rw [h, bl_asym h]; rfl
  · subst h; rw [bl_irr]; simp
  · rw [h, bl_asym h, beq_eq_false_iff_ne.2 (bl_ne h).symm]; rfl
theorem Gt_tells (gk : Nat) (d : List UInt8) (l : List BlobP) (w : World) (hk : w.cell? ⟨gk, 0, none⟩ = some (.string ⟨d.toArray⟩)) (hg : gk < w.heap.size) : TellsB w l 114 (.pointer (some ⟨gk, 0, none⟩)) (fun b => Op.bytesLess d b.dig) := by
  refine ⟨fun _ _ => by kernel_rfl, fun b B cb W hb hbel hs => ?_⟩
  have hg1 : gk < W.heap.size := Nat.lt_of_lt_of_le hg hbel.size
  have hk0 : W.cell? ⟨gk, 0, none⟩ = some (.string ⟨d.toArray⟩) := (hbel.cell (p := ⟨gk, 0, none⟩) hg).trans hk
  generalize hs1 : (⟨b.dig.toArray⟩ : ByteArray) = s
  generalize hs2 : (⟨d.toArray⟩ : ByteArray) = t at hk0
  have hst : Op.bytesLess d b.dig = (!Op.bytesLess s.toList t.toList && !(s.toList == t.toList)) := by
    rw [← hs1, ← hs2, ByteArray.toList_eq, ByteArray.toList_eq]; exact gt_eq _ _
  dsimp only
  rw [hst]
  have hb1 := (Below.refl W.heap.size W).alloc (Nat.le_refl _) (.cells #[.string s, .slice B b.data.length cb, .int .i64 (b.pins : Int), .bool b.mark] 51)
  have hk1 : (W.alloc (.cells #[.string s, .slice B b.data.length cb, .int .i64 (b.pins : Int), .bool b.mark] 51)).cell? ⟨gk, 0, none⟩ = some (.string t) := (World.cell?_alloc_lt W _ ⟨gk, 0, none⟩ hg1).trans hk0
  clear hst hs1 hs2
  go_enter Tryz.func114, Tryz.ntmps114
  repeat' ((fail_if_success at_builtin); (fail_if_success at_make); (first | go_values | go_skip | go_guarded | go_step | go_upon | go_back))
  go_ret
  exact ⟨rfl, hb1⟩
/-- what a finder returns -/
def fndR (r : Option Nat) : Value := match r with | some i => .tuple #[.int .i64 (i : Int), .int .i64 0] | none => .tuple #[.int .i64 0, .int .i64 5]
theorem Next_ok (A : Option Addr) (c : Nat) (l : List BlobP) (d : List UInt8) (w : World) (hl : l.length ≤ 1000000) (hA : Rw BlobS w A l) :
    Calls Tryz.prog 80 #[.slice A l.length c, .string ⟨d.toArray⟩] w fun e w' => e = .returned (fndR (l.findIdx? (fun b => Op.bytesLess d b.dig))) ∧ Below w.heap.size w w' := by
  obtain ⟨s, hs⟩ : ∃ s : ByteArray, s = ⟨d.toArray⟩ := ⟨_, rfl⟩
  rw [← hs]
  have hA1 := Arr.new w 9 [.string s]
  have hb1 := (Below.refl w.heap.size w).alloc (Nat.le_refl _) (.cells #[.string s] 9)
  have hA1' : Arr (w.alloc (.cells #[.string s] 9)) w.heap.size 9 [.string s] := hA1
  have hk := hA1'.cell (k := 0) rfl
  have HI := IdxB_ok A c l _ (.pointer (some ⟨w.heap.size, 0, none⟩)) (fun b => Op.bytesLess d b.dig) (w.alloc (.cells #[.string s] 9)) hl (hA.below hb1) (Gt_tells w.heap.size d l _ (by rw [hk, hs]) hA1'.lt)
  clear hs hA hA1 hA1' hk
  cases hf : l.findIdx? (fun b => Op.bytesLess d b.dig) with
  | none =>
    rw [hf] at HI
    have HI := Lib.hid HI
    go_enter Tryz.func80, Tryz.ntmps80
    repeat' ((fail_if_success at_builtin); (fail_if_success at_make); (first | go_values | go_skip | go_guarded | go_step | go_upon | go_back))
    refine ((HI.out)).mono ?_; rintro e_ w2 ⟨rfl, hb2⟩; dsimp only
    have hb12 := hb1.trans (hb2.mono hb1.size)
    repeat' ((fail_if_success at_builtin); (fail_if_success at_make); (first | go_values | go_skip | go_guarded | go_step | go_upon | go_back))
    go_ret2
    exact ⟨rfl, hb12⟩
  | some i =>
    rw [hf] at HI
    have HI := Lib.hid HI
    have hi : decide ((i : Int) < 0) = false := decide_eq_false (by omega)
    go_enter Tryz.func80, Tryz.ntmps80
    repeat' ((fail_if_success at_builtin); (fail_if_success at_make); (first | go_values | go_skip | go_guarded | go_step | go_upon | go_back))
    refine ((HI.out)).mono ?_; rintro e_ w2 ⟨rfl, hb2⟩; dsimp only
    have hb12 := hb1.trans (hb2.mono hb1.size)
    repeat' ((fail_if_success at_builtin); (fail_if_success at_make); (first | go_values | go_skip | go_guarded | go_step | go_upon | go_back))
    go_ret2
    exact ⟨rfl, hb12⟩
/-- behind which digest one stands -/
def atK (l : List BlobP) : Nat → List UInt8
  | 0 => []
  | j + 1 => match l[j]? with | some b => b.dig | none => []
theorem next_at {l : List BlobP} (h : RisesBy (·.dig) l) (h0 : ∀ b ∈ l, b.dig ≠ []) (j : Nat) (hj : j < l.length) : l.findIdx? (fun b => Op.bytesLess (atK l j) b.dig) = some j := by
  have hp := List.pairwise_iff_getElem.1 h
  rw [List.findIdx?_eq_some_iff_getElem]
  cases j with
  | zero =>
    refine ⟨hj, ?_, fun i hi => absurd hi (by omega)⟩
    show Op.bytesLess [] _ = true
    rw [bl_nil]
    have := h0 _ (List.getElem_mem hj)
    cases hd : l[0].dig with
    | nil => exact absurd hd this
    | cons a t => rfl
  | succ j =>
    have hj' : j < l.length := by omega
    have hat : atK l (j + 1) = l[j].dig := by rw [atK, List.getElem?_eq_getElem hj']
    rw [hat]
    refine ⟨hj, hp j (j + 1) hj' hj (by omega), fun i hi => ?_⟩
    rcases Nat.lt_or_ge i j with h1 | h1
    · rw [bl_asym (hp i j (by omega) hj' h1)]; simp
    · obtain rfl : i = j := by omega
      rw [bl_irr]; simp
theorem next_end {l : List BlobP} (h : RisesBy (·.dig) l) : l.findIdx? (fun b => Op.bytesLess (atK l l.length) b.dig) = none := by
  have hp := List.pairwise_iff_getElem.1 h
  rw [List.findIdx?_eq_none_iff]
  intro x hx
  obtain ⟨i, hi, rfl⟩ := List.mem_iff_getElem.1 hx
  obtain ⟨j, hj⟩ : ∃ j, l.length = j + 1 := ⟨l.length - 1, by omega⟩
  have hj' : j < l.length := by omega
  have hat : atK l l.length = l[j].dig := by rw [hj, atK, List.getElem?_eq_getElem hj']
  rw [hat]
  rcases Nat.lt_or_ge i j with h1 | h1
  · exact bl_asym (hp i j hi hj' h1)
  · obtain rfl : i = j := by omega
    exact bl_irr _
end Go.Proofs.YtmjcoebfldmgnaaGreat
