/- sweep.Next; SweepRises walked. Conditions: the sizes. -/
import Derived.Test.YtooohfckhepcmaaFly
import Derived.Test.YtooohfckhepcmaaStore
namespace Go.Proofs.Ytooohfckhepcmaa
open Go.RowKit
set_option linter.unusedVariables false
set_option linter.unusedSimpArgs false
set_option maxRecDepth 100000

theorem gt_eq (x y : List UInt8) : Op.bytesLess y x = (!Op.bytesLess x y && !(x == y)) := by
  rcases bl_tri x y with h | h | h
  · rw [h, bl_asym h]; rfl
  · subst h; rw [bl_irr]; simp
  · rw [h, bl_asym h, beq_eq_false_iff_ne.2 (bl_ne h).symm]; rfl
theorem Gt_tells (gk : Nat) (d : List UInt8) (l : List BlobP) (w : World) (hk : w.cell? ⟨gk, 0, none⟩ = some (.string ⟨d.toArray⟩)) (hg : gk < w.heap.size) : TellsB w l 74 (.pointer (some ⟨gk, 0, none⟩)) (fun b => Op.bytesLess d b.dig) := by
  refine ⟨fun _ _ => by kernel_rfl, fun b B cb W hb hbel hs => ?_⟩
  have hg1 : gk < W.heap.size := Nat.lt_of_lt_of_le hg hbel.size
  have hk0 : W.cell? ⟨gk, 0, none⟩ = some (.string ⟨d.toArray⟩) := (hbel.cell (p := ⟨gk, 0, none⟩) hg).trans hk
  generalize hs1 : (⟨b.dig.toArray⟩ : ByteArray) = s
  generalize hs2 : (⟨d.toArray⟩ : ByteArray) = t at hk0
  have hst : Op.bytesLess d b.dig = (!Op.bytesLess s.toList t.toList && !(s.toList == t.toList)) := by
    rw [← hs1, ← hs2, ByteArray.toList_eq, ByteArray.toList_eq]; exact gt_eq _ _
  dsimp only
  rw [hst]
  have hb1 := (Below.refl W.heap.size W).alloc (Nat.le_refl _) (.cells #[.string s, .slice B b.data.length cb, .int .i64 (b.pins : Int), .bool b.mark] 48)
  have hk1 : (W.alloc (.cells #[.string s, .slice B b.data.length cb, .int .i64 (b.pins : Int), .bool b.mark] 48)).cell? ⟨gk, 0, none⟩ = some (.string t) := (World.cell?_alloc_lt W _ ⟨gk, 0, none⟩ hg1).trans hk0
  clear hst hs1 hs2
  go_enter Try.func74, Try.ntmps74
  repeat' ((fail_if_success at_builtin); (fail_if_success at_make); (first | go_values | go_skip | go_guarded | go_step | go_upon | go_back))
  go_ret
  exact ⟨rfl, hb1⟩
/-- what a finder returns -/
def fndR (r : Option Nat) : Value := match r with | some i => .tuple #[.int .i64 (i : Int), .int .i64 0] | none => .tuple #[.int .i64 0, .int .i64 5]
theorem Next_ok (A : Option Addr) (c : Nat) (l : List BlobP) (d : List UInt8) (w : World) (hl : l.length ≤ 1000000) (hA : Rw BlobS w A l) :
    Calls Try.prog 23 #[.slice A l.length c, .string ⟨d.toArray⟩] w fun e w' => e = .returned (fndR (l.findIdx? (fun b => Op.bytesLess d b.dig))) ∧ Below w.heap.size w w' := by
  obtain ⟨s, hs⟩ : ∃ s : ByteArray, s = ⟨d.toArray⟩ := ⟨_, rfl⟩
  rw [← hs]
  have hA1 := Arr.new w 9 [.string s]
  have hb1 := (Below.refl w.heap.size w).alloc (Nat.le_refl _) (.cells #[.string s] 9)
  have hA1' : Arr (w.alloc (.cells #[.string s] 9)) w.heap.size 9 [.string s] := hA1
  have hk := hA1'.cell (k := 0) rfl
  have HI := IdxB_ok A c l _ (.pointer (some ⟨w.heap.size, 0, none⟩)) (fun b => Op.bytesLess d b.dig) (w.alloc (.cells #[.string s] 9)) hl (hA.below hb1) (Gt_tells w.heap.size d l _ (by rw [hk, hs]) hA1'.lt)
  clear hs hA hA1 hA1' hk
  cases hf : l.findIdx? (fun b => Op.bytesLess d b.dig) with
  | none =>
    rw [hf] at HI
    have HI := Lib.hid HI
    go_enter Try.func23, Try.ntmps23
    repeat' ((fail_if_success at_builtin); (fail_if_success at_make); (first | go_values | go_skip | go_guarded | go_step | go_upon | go_back))
    refine ((HI.out)).mono ?_; rintro e_ w2 ⟨rfl, hb2⟩; dsimp only
    have hb12 := hb1.trans (hb2.mono hb1.size)
    repeat' ((fail_if_success at_builtin); (fail_if_success at_make); (first | go_values | go_skip | go_guarded | go_step | go_upon | go_back))
    go_ret2
    exact ⟨rfl, hb12⟩
  | some i =>
    rw [hf] at HI
    have HI := Lib.hid HI
    have hi : decide ((i : Int) < 0) = false := decide_eq_false (by omega)
    go_enter Try.func23, Try.ntmps23
    repeat' ((fail_if_success at_builtin); (fail_if_success at_make); (first | go_values | go_skip | go_guarded | go_step | go_upon | go_back))
    refine ((HI.out)).mono ?_; rintro e_ w2 ⟨rfl, hb2⟩; dsimp only
    have hb12 := hb1.trans (hb2.mono hb1.size)
    repeat' ((fail_if_success at_builtin); (fail_if_success at_make); (first | go_values | go_skip | go_guarded | go_step | go_upon | go_back))
    go_ret2
    exact ⟨rfl, hb12⟩
/-- behind which digest one stands -/
def atK (l : List BlobP) : Nat → List UInt8
  | 0 => []
  | j + 1 => match l[j]? with | some b => b.dig | none => []
theorem next_at {l : List BlobP} (h : RisesBy (·.dig) l) (h0 : ∀ b ∈ l, b.dig ≠ []) (j : Nat) (hj : j < l.length) : l.findIdx? (fun b => Op.bytesLess (atK l j) b.dig) = some j := by
  have hp := List.pairwise_iff_getElem.1 h
  rw [List.findIdx?_eq_some_iff_getElem]
  cases j with
  | zero =>
    refine ⟨hj, ?_, fun i hi => absurd hi (by omega)⟩
    show Op.bytesLess [] _ = true
    rw [bl_nil]
    have := h0 _ (List.getElem_mem hj)
    cases hd : l[0].dig with
    | nil => exact absurd hd this
    | cons a t => rfl
  | succ j =>
    have hj' : j < l.length := by omega
    have hat : atK l (j + 1) = l[j].dig := by rw [atK, List.getElem?_eq_getElem hj']
    rw [hat]
    refine ⟨hj, hp j (j + 1) hj' hj (by omega), fun i hi => ?_⟩
    rcases Nat.lt_or_ge i j with h1 | h1
    · rw [bl_asym (hp i j (by omega) hj' h1)]; simp
    · obtain rfl : i = j := by omega
      rw [bl_irr]; simp
theorem next_end {l : List BlobP} (h : RisesBy (·.dig) l) : l.findIdx? (fun b => Op.bytesLess (atK l l.length) b.dig) = none := by
  have hp := List.pairwise_iff_getElem.1 h
  rw [List.findIdx?_eq_none_iff]
  intro x hx
  obtain ⟨i, hi, rfl⟩ := List.mem_iff_getElem.1 hx
  obtain ⟨j, hj⟩ : ∃ j, l.length = j + 1 := ⟨l.length - 1, by omega⟩
  have hj' : j < l.length := by omega
  have hat : atK l l.length = l[j].dig := by rw [hj, atK, List.getElem?_eq_getElem hj']
  rw [hat]
  rcases Nat.lt_or_ge i j with h1 | h1
  · exact bl_asym (hp i j hi hj' h1)
  · obtain rfl : i = j := by omega
    exact bl_irr _
set_option maxHeartbeats 8000000 in
theorem SweepRises_walk (A : Option Addr) (n c : Nat) (l : List RawP) (w : World) (hl : l.length = n) (hc : n ≤ c) (hm : c ≤ maxLen) (hok : ∀ r ∈ l, RawOk r) (hr : Rd w 4 A n (rcs l)) :
    Calls Try.prog 6 #[.slice A n c] w fun e w' => e = .returned (.bool true) ∧ Below w.heap.size w w' := by
  have HS := Lib.hid (Store_ok A n c l w hl hc hm hok hr)
  have hg := (sto_good l).b
  have hlen := hg.len
  have HRI := Lib.hid hg.ris
  have HD0 := Lib.hid (show ∀ b ∈ (sto l).blobs, b.dig ≠ [] from fun b hb e => by
    have h1 := (hg.one b hb).1
    rw [e] at h1
    have h2 := congrArg List.length h1
    rw [shaS_len] at h2
    cases h2)
  clear hok hl hr hg
  generalize (sto l).blobs = bl at *
  generalize (sto l).ents = el at *
  generalize (sto l).room = rm at *
  generalize (sto l).clock = ck at *
  go_enter Try.func6, Try.ntmps6
  repeat' ((fail_if_success at_builtin); (fail_if_success at_make); (first | go_values | go_skip | go_guarded | go_step | go_upon | go_back))
  refine ((HS.out)).mono ?_; rintro e_ w1 ⟨v1, v2, rfl, hb, he, hb1⟩; dsimp only
  obtain ⟨Ab, cb, rfl, hcb1, hcb2, hRb⟩ := hb.rows
  obtain ⟨Ae, ce, rfl, _, _, _⟩ := he.rows
  clear hb he
  have hA2 := Arr.new w1 45 [.slice Ab bl.length cb, .slice Ae el.length ce, .int .i64 (rm : Int), .int .i64 (ck : Int)]
  have hA2' : Arr (w1.alloc (.cells #[.slice Ab bl.length cb, .slice Ae el.length ce, .int .i64 (rm : Int), .int .i64 (ck : Int)] 45)) w1.heap.size 45 [.slice Ab bl.length cb, .slice Ae el.length ce, .int .i64 (rm : Int), .int .i64 (ck : Int)] := hA2
  have hb2 := (Below.refl w1.heap.size w1).alloc (Nat.le_refl _) (.cells #[.slice Ab bl.length cb, .slice Ae el.length ce, .int .i64 (rm : Int), .int .i64 (ck : Int)] 45)
  have hb12 := hb1.trans (hb2.mono hb1.size)
  have hR2 := hRb.below hb2
  have q0 := hA2'.cell (k := 0) rfl
  clear hA2 hb2 hb1 hRb
  repeat' ((fail_if_success at_builtin); (fail_if_success at_make); (first | go_values | go_skip | go_guarded | go_step | go_upon | go_back))
  generalize w1.alloc (.cells #[.slice Ab bl.length cb, .slice Ae el.length ce, .int .i64 (rm : Int), .int .i64 (ck : Int)] 45) = w2 at *
  generalize w1.heap.size = gs at *
  have HA2 := Lib.hid hA2'
  have HR2 := Lib.hid hR2
  clear hA2' hR2 q0
  go_loopg [4, 18] bl.length (fun gn u i wr => ∃ j : Nat, gn = bl.length - j ∧ i = .int .i64 j ∧ j ≤ bl.length ∧ u = .string ⟨(atK bl j).toArray⟩ ∧ Below w2.heap.size w2 wr)
  case atStart => exact ⟨0, rfl, rfl, by omega, rfl, Below.refl _ _⟩
  case round =>
    obtain ⟨j, hgk, rfl, hj, rfl, hbl⟩ := hrel
    have HGK := Lib.hid hgk
    clear hgk
    have hA3 := HA2.out.below hbl
    have q0 := hA3.cell (k := 0) rfl
    by_cases hlt : j < bl.length
    · have hcc : decide (j < bl.length) = true := decide_eq_true hlt
      obtain ⟨b, off, B, cc, rfl, hbb, c0, c1, c2, c3, hs⟩ := (HR2.out.below hbl).blob_at j hlt
      have hj0 : (0 : Int) ≤ (j : Int) := by omega
      have hj1 : (j : Int) < (bl.length : Int) := by omega
      have HAT := Lib.hid (show atK bl (j + 1) = bl[j].dig by rw [atK, List.getElem?_eq_getElem hlt])
      obtain ⟨sb, hsb⟩ : ∃ s : ByteArray, s = ⟨bl[j].dig.toArray⟩ := ⟨_, rfl⟩
      rw [← hsb] at c0
      have HSB := Lib.hid hsb
      clear hsb
      have hb3 := (Below.refl wr.heap.size wr).alloc (Nat.le_refl _) (.cells #[.string sb, .slice B bl[j].data.length cc, .int .i64 (bl[j].pins : Int), .bool bl[j].mark] 48)
      have hX := Arr.new wr 48 [.string sb, .slice B bl[j].data.length cc, .int .i64 (bl[j].pins : Int), .bool bl[j].mark]
      have hX' : Arr (wr.alloc (.cells #[.string sb, .slice B bl[j].data.length cc, .int .i64 (bl[j].pins : Int), .bool bl[j].mark] 48)) wr.heap.size 48 [.string sb, .slice B bl[j].data.length cc, .int .i64 (bl[j].pins : Int), .bool bl[j].mark] := hX
      have hA4 := hA3.below hb3
      have q4 := hA4.cell (k := 0) rfl
      have hb24 := hbl.trans (hb3.mono hbl.size)
      have HR4 := Lib.hid (HR2.out.below hb24)
      have HN := Lib.hid (next_at HRI.out HD0.out j hlt)
      clear hX hs
      generalize bl[j] = x at *
      repeat' ((fail_if_success at_builtin); (fail_if_success at_make); (first | go_values | go_skip | go_guarded | go_step | go_upon | go_back))
      clear c0 c1 c2 c3 q0 hA3
      generalize wr.alloc (.cells #[.string sb, .slice B x.data.length cc, .int .i64 (x.pins : Int), .bool x.mark] 48) = w4 at *
      generalize wr.heap.size = gx at *
      have HK := Lib.hid (Next_ok (some ⟨b, off, none⟩) cb bl (atK bl j) w4 (by omega) HR4.out)
      rw [HN.out] at HK
      refine ((HK.out)).mono ?_; rintro e_ w5 ⟨rfl, hb5⟩; dsimp only
      have hb25 := hb24.trans (hb5.mono hb24.size)
      have hX5 := hX'.below hb5
      have q5 := hX5.cell (k := 0) rfl
      have e5 : ((j : Int) == (j : Int)) = true := by simp
      have e6 : ((j : Int) != (j : Int)) = false := by simp
      clear hb3 hb5 hX' hX5 hA4 q4 hb24 hbl
      rw [fndR]
      repeat' ((fail_if_success at_builtin); (fail_if_success at_make); (first | go_values | go_skip | go_guarded | go_step | go_upon | go_back))
      go_roundg (bl.length - (j + 1))
      case measure => have := HGK.out; omega
      case rel => exact ⟨j + 1, rfl, by go_num, by omega, by rw [HAT.out, HSB.out], hb25⟩
    · obtain rfl : j = bl.length := by omega
      have hcc : decide (bl.length < bl.length) = false := by simp
      have HR4 := Lib.hid (HR2.out.below hbl)
      have HK := Lib.hid (Next_ok Ab cb bl (atK bl bl.length) wr (by omega) HR4.out)
      rw [next_end HRI.out] at HK
      repeat' ((fail_if_success at_builtin); (fail_if_success at_make); (first | go_values | go_skip | go_guarded | go_step | go_upon | go_back))
      refine ((HK.out)).mono ?_; rintro e_ w5 ⟨rfl, hb5⟩; dsimp only
      rw [fndR]
      have hb25 := hbl.trans (hb5.mono hbl.size)
      repeat' ((fail_if_success at_builtin); (fail_if_success at_make); (first | go_values | go_skip | go_guarded | go_step | go_upon | go_back))
      have hrw := Rw.newB (w := w5) (e := 48) [⟨[97], [], 0, false⟩, ⟨[98], [], 0, false⟩] [(⟨[97], [], 0, false⟩, blcell ⟨[97], [], 0, false⟩ none 0), (⟨[98], [], 0, false⟩, blcell ⟨[98], [], 0, false⟩ none 0)] rfl
        (fun p hp => by
          simp only [List.mem_cons, List.not_mem_nil, or_false] at hp
          rcases hp with rfl | rfl <;> exact ⟨_, _, rfl, Sl.nil_ _ _⟩)
        [.string ⟨#[97]⟩, .slice none 0 0, .int .i64 0, .bool false, .string ⟨#[98]⟩, .slice none 0 0, .int .i64 0, .bool false] rfl
      have HL := Next_ok _ 2 _ [97] _ (by simp) hrw
      rw [show ([⟨[97], [], 0, false⟩, ⟨[98], [], 0, false⟩] : List BlobP).findIdx? (fun b => Op.bytesLess [97] b.dig) = some 1 from by rfl] at HL
      have HL := Lib.hid HL
      have hb6 := (Below.refl w5.heap.size w5).alloc (Nat.le_refl _) (.cells #[.string ⟨#[97]⟩, .slice none 0 0, .int .i64 0, .bool false, .string ⟨#[98]⟩, .slice none 0 0, .int .i64 0, .bool false] 48)
      have hb26 := hb25.trans (hb6.mono hb25.size)
      clear hrw hb6
      refine ((HL.out)).mono ?_; rintro e_ w7 ⟨rfl, hb7⟩; dsimp only
      rw [fndR]
      have hb27 := hb26.trans (hb7.mono hb26.size)
      have hb07 := hb12.trans (hb27.mono hb12.size)
      clear hb25 hb26 hb7 hb27
      repeat' ((fail_if_success at_builtin); (fail_if_success at_make); (first | go_values | go_skip | go_guarded | go_step | go_upon | go_back))
      go_ret
      exact ⟨rfl, hb07⟩
end Go.Proofs.Ytooohfckhepcmaa
