/- store.HoldBlob, Hold, and what store's functions refuse. Conditions: stores that may be. -/
import Derived.Test.YtjldpfijekpddaaGreatSWg
namespace Go.Proofs.YtjldpfijekpddaaGreat
open Go.RowKit
set_option linter.unusedVariables false
set_option linter.unusedSimpArgs false
set_option maxRecDepth 100000

/-- pin.Move -/
def mvN (n : Nat) (up : Bool) : Nat := if up then n + 1 else n - 1
theorem Move_ok (n : Nat) (up : Bool) (w : World) (h : if up then n < 5 else 0 < n ∧ n ≤ 5) : Calls Tryz.prog 64 #[.int .i64 (n : Int), .bool up] w fun e w' => e = .returned (.tuple #[.int .i64 (mvN n up : Nat), .int .i64 0]) ∧ w' = w := by
  have HC := Lib.hid (show n ≤ 5 → ∀ W, Calls Tryz.prog 99 #[.int .i64 (n : Int)] W fun e w' => e = .returned (.int .i64 0) ∧ W = w' from fun h5 W => PinIn_ok (n : Int) (by omega) (by omega) W)
  cases up with
  | true =>
    have h' : n < 5 := h
    have h5 : ((n : Int) == 5) = false := beq_eq_false_iff_ne.2 (by omega)
    have hw : IntKind.i64.wrap ((n : Int) + 1) = (n : Int) + 1 := IntWalk.i64_in _ (by omega)
    have HC2 := Lib.hid (HC.out (by omega))
    clear h HC
    go_enter Tryz.func64, Tryz.ntmps64
    repeat' ((fail_if_success at_builtin); (fail_if_success at_make); (first | go_values | go_skip | go_guarded | go_step | go_upon | go_back))
    refine ((HC2.out w)).mono ?_; rintro e_ _ ⟨rfl, rfl⟩; dsimp only
    repeat' ((fail_if_success at_builtin); (fail_if_success at_make); (first | go_values | go_skip | go_guarded | go_step | go_upon | go_back))
    go_ret2
    exact ⟨rfl, rfl⟩
  | false =>
    have h' : 0 < n ∧ n ≤ 5 := h
    have h5 : ((n : Int) == 0) = false := beq_eq_false_iff_ne.2 (by omega)
    have hw : IntKind.i64.wrap ((n : Int) - 1) = (n : Int) - 1 := IntWalk.i64_in _ (by omega)
    have HC2 := Lib.hid (HC.out (by omega))
    have e1 : ((mvN n false : Nat) : Int) = (n : Int) - 1 := by show ((n - 1 : Nat) : Int) = _; omega
    rw [e1]
    clear h HC e1
    go_enter Tryz.func64, Tryz.ntmps64
    repeat' ((fail_if_success at_builtin); (fail_if_success at_make); (first | go_values | go_skip | go_guarded | go_step | go_upon | go_back))
    refine ((HC2.out w)).mono ?_; rintro e_ _ ⟨rfl, rfl⟩; dsimp only
    repeat' ((fail_if_success at_builtin); (fail_if_success at_make); (first | go_values | go_skip | go_guarded | go_step | go_upon | go_back))
    go_ret2
    exact ⟨rfl, rfl⟩
theorem mv_le {n : Nat} {up : Bool} (h : if up then n < 5 else 0 < n ∧ n ≤ 5) : mvN n up ≤ 5 := by
  cases up with
  | true => have h' : n < 5 := h; show n + 1 ≤ 5; omega
  | false => have h' : 0 < n ∧ n ≤ 5 := h; show n - 1 ≤ 5; omega
set_option maxHeartbeats 3200000 in
theorem HoldB_ok (A : Option Addr) (c : Nat) (B : Option Addr) (d : Nat) (s : StoP) (key : List UInt8) (up : Bool) (i : Nat) (w : World) (hg : GoodS s) (hr : RdSt w A c B d s) (hi : i < s.blobs.length) (hk : s.blobs[i].dig = key) (hmv : if up then s.blobs[i].pins < 5 else 0 < s.blobs[i].pins ∧ s.blobs[i].pins ≤ 5) :
    Calls Tryz.prog 20 #[.agg #[.slice A s.blobs.length c, .slice B s.ents.length d, .int .i64 (s.room : Int), .int .i64 (s.clock : Int)], .string ⟨key.toArray⟩, .bool up] w fun e w' =>
      ∃ v1 v2, e = .returned (.tuple #[.agg #[v1, v2, .int .i64 (s.room : Int), .int .i64 (s.clock : Int)], .int .i64 0]) ∧ OwSt w' w.heap.size v1 v2 (holdBS s i s.blobs[i] (mvN s.blobs[i].pins up)) (fun b => b < w.heap.size) ∧ Below w.heap.size w w' := by
  have hlb : s.blobs.length ≤ 24 := hg.b.len
  have hle : s.ents.length ≤ 10 := hg.e.len
  have HFX := Lib.hid (fB_at hg.b.ris hi hk)
  obtain ⟨p, hp⟩ : ∃ p, p = s.blobs[i].pins := ⟨_, rfl⟩
  rw [← hp] at hmv ⊢
  have HPI := Lib.hid hp.symm
  obtain ⟨n, hn⟩ : ∃ n, n = mvN p up := ⟨_, rfl⟩
  have HMV := Lib.hid (fun W => Move_ok p up W hmv)
  rw [← hn] at HMV ⊢
  obtain ⟨sk, hsk⟩ : ∃ x : ByteArray, x = ⟨key.toArray⟩ := ⟨_, rfl⟩
  rw [← hsk]
  have HSK := Lib.hid hsk
  clear hk hsk hn hp hmv
  obtain ⟨w0, hw0, hS, hR, hb0⟩ := two_new w 28 [.slice A s.blobs.length c, .slice B s.ents.length d, .int .i64 (s.room : Int), .int .i64 (s.clock : Int)] [.slice none 0 0, .slice none 0 0, .int .i64 0, .int .i64 0]
  have hr0 := hr.below hb0
  obtain ⟨H, hH⟩ : ∃ H, H = w.heap.size := ⟨_, rfl⟩
  have HCK := Lib.hid (CheckS_ok A c B d s w0 hg hr0)
  rw [← hH] at hS hR hb0 ⊢
  have hHl : H < w0.heap.size := hS.lt
  have hHr : H + 1 < w0.heap.size := hR.lt
  have x0 := hS.cell (k := 0) rfl
  have x1 := hS.cell (k := 1) rfl
  have x2 := hS.cell (k := 2) rfl
  have x3 := hS.cell (k := 3) rfl
  rw [hw0, hH] at x0 x1 x2 x3
  have HPL := Lib.hid (show ∀ b ∈ s.blobs, b.data.length ≤ 1000000 from fun b hb => by have := (hg.b.one b hb).2.1; omega)
  have HQL := Lib.hid (show ∀ x ∈ s.ents, x.parts.length ≤ 1000000 from fun x hx => by have := (chk_zero (hg.e.one x hx).2.1).1; omega)
  have HG := Lib.hid hg
  clear hg hr
  go_enter Tryz.func20, Tryz.ntmps20
  repeat' ((fail_if_success at_builtin); (fail_if_success at_make); (first | go_values | go_skip | go_guarded | go_step | go_upon | go_back))
  rw [← hw0, ← hH]
  have HH := Lib.hid hH
  clear hw0 hH x0 x1 x2 x3
  refine ((HCK.out)).mono ?_; rintro e_ w1 ⟨rfl, hb1⟩; dsimp only
  have hr1 := hr0.below hb1
  have hS1 := hS.below hb1
  have y0 := hS1.cell (k := 0) rfl
  have HFN := FindB_ok A c s.blobs key w1 (by omega) hr1.b
  rw [HFX.out, fndR, ← HSK.out] at HFN
  have HFN := Lib.hid HFN
  clear hr0 hS
  repeat' ((fail_if_success at_builtin); (fail_if_success at_make); (first | go_values | go_skip | go_guarded | go_step | go_upon | go_back))
  clear y0
  refine ((HFN.out)).mono ?_; rintro e_ w2 ⟨rfl, hb2⟩; dsimp only
  have hc2 := hb1.trans (hb2.mono hb1.size)
  have hr2 := hr1.below hb2
  have hS2 := hS1.below hb2
  obtain ⟨b, off, XB, xc, e1, hbb, d0, d1, d2, d3, _⟩ := hr2.b.blob_at i hi
  have hi0 : (0 : Int) ≤ (i : Int) := by omega
  have hi1 : (i : Int) < (s.blobs.length : Int) := by omega
  have y0 := hS2.cell (k := 0) rfl
  rw [HPI.out] at d2
  rw [e1] at y0
  clear hr1 hS1 hb1 hb2 d0 d1 d3
  repeat' ((fail_if_success at_builtin); (fail_if_success at_make); (first | go_values | go_skip | go_guarded | go_step | go_upon | go_back))
  clear y0 d2
  refine ((HMV.out w2)).mono ?_; rintro e_ wq ⟨rfl, hwq⟩; dsimp only
  replace hwq := hwq.symm
  subst hwq
  have z0 := hS2.cell (k := 0) rfl
  have z1 := hS2.cell (k := 1) rfl
  have z2 := hS2.cell (k := 2) rfl
  have z3 := hS2.cell (k := 3) rfl
  have HCP := Lib.hid (CopyS_ok A c B d s w2 (by omega) (by omega) HPL.out HQL.out hr2)
  clear hr2 e1
  repeat' ((fail_if_success at_builtin); (fail_if_success at_make); (first | go_values | go_skip | go_guarded | go_step | go_upon | go_back))
  clear z0 z1 z2 z3
  refine ((HCP.out)).mono ?_; rintro e_ w4 ⟨q1, q2, rfl, ho4', hb4⟩; dsimp only
  have hc4 := hc2.trans (hb4.mono hc2.size)
  have ho4 := (ho4'.lower hc2.size).wider (N' := fun b => b < w0.heap.size) (fun b hb => .inl (Nat.lt_of_lt_of_le hb hc2.size))
  clear ho4' hc2 hb4 hS2
  have h41 : ∀ b, (Value.slice (some ⟨q1, 0, none⟩) s.blobs.length s.blobs.length).ownBlock = some b → b < w4.heap.size := fun b e => (ho4.b.rwo.blk e).2
  have h42 : ∀ b, (Value.slice (some ⟨q2, 0, none⟩) s.ents.length s.ents.length).ownBlock = some b → b < w4.heap.size := fun b e => (ho4.e.rwo.blk e).2
  have hG : w0.heap.size ≤ w4.heap.size := hc4.size
  obtain ⟨G, hGe⟩ : ∃ G, G = w4.heap.size := ⟨_, rfl⟩
  rw [← hGe] at h41 h42 hG
  have hba := (Below.refl w4.heap.size w4).alloc (Nat.le_refl _) (.cells #[(Value.slice (some ⟨q1, 0, none⟩) s.blobs.length s.blobs.length), (Value.slice (some ⟨q2, 0, none⟩) s.ents.length s.ents.length), .int .i64 (s.room : Int), .int .i64 (s.clock : Int)] 28)
  have hX : Arr (w4.alloc (.cells #[(Value.slice (some ⟨q1, 0, none⟩) s.blobs.length s.blobs.length), (Value.slice (some ⟨q2, 0, none⟩) s.ents.length s.ents.length), .int .i64 (s.room : Int), .int .i64 (s.clock : Int)] 28)) G 28 [(Value.slice (some ⟨q1, 0, none⟩) s.blobs.length s.blobs.length), (Value.slice (some ⟨q2, 0, none⟩) s.ents.length s.ents.length), .int .i64 (s.room : Int), .int .i64 (s.clock : Int)] := by rw [hGe]; exact Arr.new w4 28 _
  have ho := (ho4.wider (N' := fun b => b < w0.heap.size ∨ b = G) (fun b hb => hb.imp id (fun e => by omega))).below hba
  have hR5 := (hR.below hc4).below hba
  have hb5 := (hb0.trans (hc4.mono (Nat.le_of_lt hHl))).alloc (by omega) (.cells #[(Value.slice (some ⟨q1, 0, none⟩) s.blobs.length s.blobs.length), (Value.slice (some ⟨q2, 0, none⟩) s.ents.length s.ents.length), .int .i64 (s.room : Int), .int .i64 (s.clock : Int)] 28)
  clear hR ho4 hc4 hba hb0
  have hR := hR5
  clear hR5
  have hb := hb5
  clear hb5
  have hq : w0.heap.size ≤ q1 := (ho.b.rwo.blk rfl).1
  have hqG : q1 < G := h41 _ rfl
  repeat' ((fail_if_success at_builtin); (fail_if_success at_make); (fail_if_success (with_reducible refine at_store_ 3 ?_)); (fail_if_success (with_reducible refine at_load_ 3 ?_)); (fail_if_success (with_reducible refine at_copy_ ?_)); (first | go_values | go_skip | go_guarded | go_step | go_upon | go_back))
  rw [← hGe]
  clear hGe
  generalize w4.alloc (.cells #[(Value.slice (some ⟨q1, 0, none⟩) s.blobs.length s.blobs.length), (Value.slice (some ⟨q2, 0, none⟩) s.ents.length s.ents.length), .int .i64 (s.room : Int), .int .i64 (s.clock : Int)] 28) = w5 at *
  obtain ⟨⟨v0, k3⟩, f3, ho6, hg6⟩ := ho.setB (j := 2) (u := .int .i64 (n : Int)) (y := { s.blobs[i] with pins := n }) hi (by omega) (fun W cs h => blob_pins _ _ W cs h) (not_leads_int _)
  have hX6 := hX.other (g' := q1) (k := i * 4 + 2) (by omega) (.int .i64 (n : Int))
  have hR6 := hR.other (g' := q1) (k := i * 4 + 2) (by omega) (.int .i64 (n : Int))
  have hb6 := hb.setCell (p := ⟨q1, i * 4 + 2, none⟩) (by simp only; omega) (.int .i64 (n : Int))
  have x0 := hX.cell (k := 0) rfl
  clear hX hR hb ho
  have hX := hX6
  have hR := hR6
  have hb := hb6
  have ho := ho6
  clear hX6 hR6 hb6 ho6 hg6
  have z0 := hX.cell (k := 0) rfl
  have z1 := hX.cell (k := 1) rfl
  have z2 := hX.cell (k := 2) rfl
  have z3 := hX.cell (k := 3) rfl
  have f0 := hR.frozen 0
  have f1 := hR.frozen 1
  have f2 := hR.frozen 2
  have f3 := hR.frozen 3
  have y0 := hR.cell (k := 0) rfl
  have y1 := hR.cell (k := 1) rfl
  have y2 := hR.cell (k := 2) rfl
  have y3 := hR.cell (k := 3) rfl
  have hfin := hR.all4 (Value.slice (some ⟨q1, 0, none⟩) s.blobs.length s.blobs.length) (Value.slice (some ⟨q2, 0, none⟩) s.ents.length s.ents.length) (.int .i64 (s.room : Int)) (.int .i64 (s.clock : Int))
  have hoF := (((ho.set (g := H + 1) (k := 0) hHr (.inl hHr) (Value.slice (some ⟨q1, 0, none⟩) s.blobs.length s.blobs.length)).set (g := H + 1) (k := 1) hHr (.inl hHr) (Value.slice (some ⟨q2, 0, none⟩) s.ents.length s.ents.length)).set (g := H + 1) (k := 2) hHr (.inl hHr) (.int .i64 (s.room : Int))).set (g := H + 1) (k := 3) hHr (.inl hHr) (.int .i64 (s.clock : Int))
  have hbF := (((hb.setCell (p := ⟨H + 1, 0, none⟩) (by simp only; omega) (Value.slice (some ⟨q1, 0, none⟩) s.blobs.length s.blobs.length)).setCell (p := ⟨H + 1, 1, none⟩) (by simp only; omega) (Value.slice (some ⟨q2, 0, none⟩) s.ents.length s.ents.length)).setCell (p := ⟨H + 1, 2, none⟩) (by simp only; omega) (.int .i64 (s.room : Int))).setCell (p := ⟨H + 1, 3, none⟩) (by simp only; omega) (.int .i64 (s.clock : Int))
  clear hR ho hb hX
  repeat' ((fail_if_success at_builtin); (fail_if_success at_make); (first | go_values | go_skip | go_guarded | go_step | go_upon | go_back))
  refine bodyPost_ret (res_cell_tmp1 rfl _ _ (H + 1) _ _ _ _ (by rfl) hfin Tryz.underlying28 rfl (by kernel_rfl)) rfl ?_
  exact ⟨_, _, rfl, (hoF.lower (base' := H) (by omega)).wider (N' := fun b => b < H) (fun b hb => .inl (.inl (by omega))), hbF⟩
set_option maxHeartbeats 3200000 in
theorem HoldE_ok (A : Option Addr) (c : Nat) (B : Option Addr) (d : Nat) (s : StoP) (key : List UInt8) (up : Bool) (i : Nat) (w : World) (hg : GoodS s) (hr : RdSt w A c B d s) (hi : i < s.ents.length) (hk : s.ents[i].key = key) (hmv : if up then s.ents[i].pins < 5 else 0 < s.ents[i].pins ∧ s.ents[i].pins ≤ 5) :
    Calls Tryz.prog 22 #[.agg #[.slice A s.blobs.length c, .slice B s.ents.length d, .int .i64 (s.room : Int), .int .i64 (s.clock : Int)], .string ⟨key.toArray⟩, .bool up] w fun e w' =>
      ∃ v1 v2, e = .returned (.tuple #[.agg #[v1, v2, .int .i64 (s.room : Int), .int .i64 (s.clock : Int)], .int .i64 0]) ∧ OwSt w' w.heap.size v1 v2 (holdES s i s.ents[i] (mvN s.ents[i].pins up)) (fun b => b < w.heap.size) ∧ Below w.heap.size w w' := by
  have hlb : s.blobs.length ≤ 24 := hg.b.len
  have hle : s.ents.length ≤ 10 := hg.e.len
  have HFX := Lib.hid (fE_at hg.e.ris hi hk)
  obtain ⟨p, hp⟩ : ∃ p, p = s.ents[i].pins := ⟨_, rfl⟩
  rw [← hp] at hmv ⊢
  have HPI := Lib.hid hp.symm
  obtain ⟨n, hn⟩ : ∃ n, n = mvN p up := ⟨_, rfl⟩
  have HMV := Lib.hid (fun W => Move_ok p up W hmv)
  rw [← hn] at HMV ⊢
  obtain ⟨sk, hsk⟩ : ∃ x : ByteArray, x = ⟨key.toArray⟩ := ⟨_, rfl⟩
  rw [← hsk]
  have HSK := Lib.hid hsk
  clear hk hsk hn hp hmv
  obtain ⟨w0, hw0, hS, hR, hb0⟩ := two_new w 28 [.slice A s.blobs.length c, .slice B s.ents.length d, .int .i64 (s.room : Int), .int .i64 (s.clock : Int)] [.slice none 0 0, .slice none 0 0, .int .i64 0, .int .i64 0]
  have hr0 := hr.below hb0
  obtain ⟨H, hH⟩ : ∃ H, H = w.heap.size := ⟨_, rfl⟩
  have HCK := Lib.hid (CheckS_ok A c B d s w0 hg hr0)
  rw [← hH] at hS hR hb0 ⊢
  have hHl : H < w0.heap.size := hS.lt
  have hHr : H + 1 < w0.heap.size := hR.lt
  have x0 := hS.cell (k := 0) rfl
  have x1 := hS.cell (k := 1) rfl
  have x2 := hS.cell (k := 2) rfl
  have x3 := hS.cell (k := 3) rfl
  rw [hw0, hH] at x0 x1 x2 x3
  have HPL := Lib.hid (show ∀ b ∈ s.blobs, b.data.length ≤ 1000000 from fun b hb => by have := (hg.b.one b hb).2.1; omega)
  have HQL := Lib.hid (show ∀ x ∈ s.ents, x.parts.length ≤ 1000000 from fun x hx => by have := (chk_zero (hg.e.one x hx).2.1).1; omega)
  have HG := Lib.hid hg
  clear hg hr
  go_enter Tryz.func22, Tryz.ntmps22
  repeat' ((fail_if_success at_builtin); (fail_if_success at_make); (first | go_values | go_skip | go_guarded | go_step | go_upon | go_back))
  rw [← hw0, ← hH]
  have HH := Lib.hid hH
  clear hw0 hH x0 x1 x2 x3
  refine ((HCK.out)).mono ?_; rintro e_ w1 ⟨rfl, hb1⟩; dsimp only
  have hr1 := hr0.below hb1
  have hS1 := hS.below hb1
  have y0 := hS1.cell (k := 1) rfl
  have HFN := FindE_ok B d s.ents key w1 (by omega) hr1.e
  rw [HFX.out, fndR, ← HSK.out] at HFN
  have HFN := Lib.hid HFN
  clear hr0 hS
  repeat' ((fail_if_success at_builtin); (fail_if_success at_make); (first | go_values | go_skip | go_guarded | go_step | go_upon | go_back))
  clear y0
  refine ((HFN.out)).mono ?_; rintro e_ w2 ⟨rfl, hb2⟩; dsimp only
  have hc2 := hb1.trans (hb2.mono hb1.size)
  have hr2 := hr1.below hb2
  have hS2 := hS1.below hb2
  obtain ⟨b, off, XB, xc, e1, hbb, d0, d1, d2, d3, _⟩ := hr2.e.ent_at i hi
  have hi0 : (0 : Int) ≤ (i : Int) := by omega
  have hi1 : (i : Int) < (s.ents.length : Int) := by omega
  have y0 := hS2.cell (k := 1) rfl
  rw [HPI.out] at d2
  rw [e1] at y0
  clear hr1 hS1 hb1 hb2 d0 d1 d3
  repeat' ((fail_if_success at_builtin); (fail_if_success at_make); (first | go_values | go_skip | go_guarded | go_step | go_upon | go_back))
  clear y0 d2
  refine ((HMV.out w2)).mono ?_; rintro e_ wq ⟨rfl, hwq⟩; dsimp only
  replace hwq := hwq.symm
  subst hwq
  have z0 := hS2.cell (k := 0) rfl
  have z1 := hS2.cell (k := 1) rfl
  have z2 := hS2.cell (k := 2) rfl
  have z3 := hS2.cell (k := 3) rfl
  have HCP := Lib.hid (CopyS_ok A c B d s w2 (by omega) (by omega) HPL.out HQL.out hr2)
  clear hr2 e1
  repeat' ((fail_if_success at_builtin); (fail_if_success at_make); (first | go_values | go_skip | go_guarded | go_step | go_upon | go_back))
  clear z0 z1 z2 z3
  refine ((HCP.out)).mono ?_; rintro e_ w4 ⟨q1, q2, rfl, ho4', hb4⟩; dsimp only
  have hc4 := hc2.trans (hb4.mono hc2.size)
  have ho4 := (ho4'.lower hc2.size).wider (N' := fun b => b < w0.heap.size) (fun b hb => .inl (Nat.lt_of_lt_of_le hb hc2.size))
  clear ho4' hc2 hb4 hS2
  have h41 : ∀ b, (Value.slice (some ⟨q1, 0, none⟩) s.blobs.length s.blobs.length).ownBlock = some b → b < w4.heap.size := fun b e => (ho4.b.rwo.blk e).2
  have h42 : ∀ b, (Value.slice (some ⟨q2, 0, none⟩) s.ents.length s.ents.length).ownBlock = some b → b < w4.heap.size := fun b e => (ho4.e.rwo.blk e).2
  have hG : w0.heap.size ≤ w4.heap.size := hc4.size
  obtain ⟨G, hGe⟩ : ∃ G, G = w4.heap.size := ⟨_, rfl⟩
  rw [← hGe] at h41 h42 hG
  have hba := (Below.refl w4.heap.size w4).alloc (Nat.le_refl _) (.cells #[(Value.slice (some ⟨q1, 0, none⟩) s.blobs.length s.blobs.length), (Value.slice (some ⟨q2, 0, none⟩) s.ents.length s.ents.length), .int .i64 (s.room : Int), .int .i64 (s.clock : Int)] 28)
  have hX : Arr (w4.alloc (.cells #[(Value.slice (some ⟨q1, 0, none⟩) s.blobs.length s.blobs.length), (Value.slice (some ⟨q2, 0, none⟩) s.ents.length s.ents.length), .int .i64 (s.room : Int), .int .i64 (s.clock : Int)] 28)) G 28 [(Value.slice (some ⟨q1, 0, none⟩) s.blobs.length s.blobs.length), (Value.slice (some ⟨q2, 0, none⟩) s.ents.length s.ents.length), .int .i64 (s.room : Int), .int .i64 (s.clock : Int)] := by rw [hGe]; exact Arr.new w4 28 _
  have ho := (ho4.wider (N' := fun b => b < w0.heap.size ∨ b = G) (fun b hb => hb.imp id (fun e => by omega))).below hba
  have hR5 := (hR.below hc4).below hba
  have hb5 := (hb0.trans (hc4.mono (Nat.le_of_lt hHl))).alloc (by omega) (.cells #[(Value.slice (some ⟨q1, 0, none⟩) s.blobs.length s.blobs.length), (Value.slice (some ⟨q2, 0, none⟩) s.ents.length s.ents.length), .int .i64 (s.room : Int), .int .i64 (s.clock : Int)] 28)
  clear hR ho4 hc4 hba hb0
  have hR := hR5
  clear hR5
  have hb := hb5
  clear hb5
  have hq : w0.heap.size ≤ q2 := (ho.e.rwo.blk rfl).1
  have hqG : q2 < G := h42 _ rfl
  repeat' ((fail_if_success at_builtin); (fail_if_success at_make); (fail_if_success (with_reducible refine at_store_ 3 ?_)); (fail_if_success (with_reducible refine at_load_ 3 ?_)); (fail_if_success (with_reducible refine at_copy_ ?_)); (first | go_values | go_skip | go_guarded | go_step | go_upon | go_back))
  rw [← hGe]
  clear hGe
  generalize w4.alloc (.cells #[(Value.slice (some ⟨q1, 0, none⟩) s.blobs.length s.blobs.length), (Value.slice (some ⟨q2, 0, none⟩) s.ents.length s.ents.length), .int .i64 (s.room : Int), .int .i64 (s.clock : Int)] 28) = w5 at *
  obtain ⟨⟨v0, k3⟩, f3, ho6, hg6⟩ := ho.setE (j := 2) (u := .int .i64 (n : Int)) (y := { s.ents[i] with pins := n }) hi (by omega) (fun W cs h => ent_pins _ _ W cs h) (not_leads_int _)
  have hX6 := hX.other (g' := q2) (k := i * 4 + 2) (by omega) (.int .i64 (n : Int))
  have hR6 := hR.other (g' := q2) (k := i * 4 + 2) (by omega) (.int .i64 (n : Int))
  have hb6 := hb.setCell (p := ⟨q2, i * 4 + 2, none⟩) (by simp only; omega) (.int .i64 (n : Int))
  have x0 := hX.cell (k := 1) rfl
  clear hX hR hb ho
  have hX := hX6
  have hR := hR6
  have hb := hb6
  have ho := ho6
  clear hX6 hR6 hb6 ho6 hg6
  have z0 := hX.cell (k := 0) rfl
  have z1 := hX.cell (k := 1) rfl
  have z2 := hX.cell (k := 2) rfl
  have z3 := hX.cell (k := 3) rfl
  have f0 := hR.frozen 0
  have f1 := hR.frozen 1
  have f2 := hR.frozen 2
  have f3 := hR.frozen 3
  have y0 := hR.cell (k := 0) rfl
  have y1 := hR.cell (k := 1) rfl
  have y2 := hR.cell (k := 2) rfl
  have y3 := hR.cell (k := 3) rfl
  have hfin := hR.all4 (Value.slice (some ⟨q1, 0, none⟩) s.blobs.length s.blobs.length) (Value.slice (some ⟨q2, 0, none⟩) s.ents.length s.ents.length) (.int .i64 (s.room : Int)) (.int .i64 (s.clock : Int))
  have hoF := (((ho.set (g := H + 1) (k := 0) hHr (.inl hHr) (Value.slice (some ⟨q1, 0, none⟩) s.blobs.length s.blobs.length)).set (g := H + 1) (k := 1) hHr (.inl hHr) (Value.slice (some ⟨q2, 0, none⟩) s.ents.length s.ents.length)).set (g := H + 1) (k := 2) hHr (.inl hHr) (.int .i64 (s.room : Int))).set (g := H + 1) (k := 3) hHr (.inl hHr) (.int .i64 (s.clock : Int))
  have hbF := (((hb.setCell (p := ⟨H + 1, 0, none⟩) (by simp only; omega) (Value.slice (some ⟨q1, 0, none⟩) s.blobs.length s.blobs.length)).setCell (p := ⟨H + 1, 1, none⟩) (by simp only; omega) (Value.slice (some ⟨q2, 0, none⟩) s.ents.length s.ents.length)).setCell (p := ⟨H + 1, 2, none⟩) (by simp only; omega) (.int .i64 (s.room : Int))).setCell (p := ⟨H + 1, 3, none⟩) (by simp only; omega) (.int .i64 (s.clock : Int))
  clear hR ho hb hX
  repeat' ((fail_if_success at_builtin); (fail_if_success at_make); (first | go_values | go_skip | go_guarded | go_step | go_upon | go_back))
  refine bodyPost_ret (res_cell_tmp1 rfl _ _ (H + 1) _ _ _ _ (by rfl) hfin Tryz.underlying28 rfl (by kernel_rfl)) rfl ?_
  exact ⟨_, _, rfl, (hoF.lower (base' := H) (by omega)).wider (N' := fun b => b < H) (fun b hb => .inl (.inl (by omega))), hbF⟩
end Go.Proofs.YtjldpfijekpddaaGreat
