/- store.tick, GetBlob, PutBlob, Put, Get, HoldBlob, Hold, of stores that may be. Conditions: that it may be done. -/
import Derived.Test.YtdpedkgdobfemaaGreatSCk
namespace Go.Proofs.YtdpedkgdobfemaaGreat
open Go.RowKit
set_option linter.unusedVariables false
set_option linter.unusedSimpArgs false
set_option maxRecDepth 100000

section
variable {w w6 w7 w8 : World} {base : Nat} {v1 v1' v2 v2' : Value} {s : StoP} {N : Nat → Prop}
theorem OwSt.mixB {l : List BlobP} (hv : RwX BlobS 38 w6 base v1 l N) (hN : ∀ b, N b → b < w6.heap.size) (hb : base ≤ w6.heap.size) (h : OwSt w7 w6.heap.size v1' v2 s (fun b => b < w6.heap.size)) (hbl : Below w6.heap.size w6 w7) : OwSt w7 base v1 v2 { s with blobs := l } N :=
  ⟨(hv.wider (fun b hb => hb.imp id (fun e => (h.e.rwo.blk e).1))).below hbl, (h.e.lower hb).wider (fun b hb => .inl (.inl (hb.elim (hN b) (fun e => (hv.rwo.blk e).2)))), fun g e1 e2 => by
    have := (hv.rwo.blk e1).2; have := (h.e.rwo.blk e2).1; omega⟩
theorem OwSt.mixE {l : List EntP} (h : OwSt w7 base v1 v2 s N) (hN : ∀ b, N b → b < w7.heap.size) (hv : RwX EntS 32 w8 w7.heap.size v2' l (fun b => b < w7.heap.size)) (hbs : base ≤ w7.heap.size) (hbl : Below w7.heap.size w7 w8) : OwSt w8 base v1 v2' { s with ents := l } N := by
  have h1 : ∀ g, v2'.ownBlock = some g → w7.heap.size ≤ g := fun g e => (hv.rwo.blk e).1
  have h2 : ∀ g, v1.ownBlock = some g → g < w7.heap.size := fun g e => (h.b.rwo.blk e).2
  refine ⟨RwX.below (RwX.wider h.b (N' := fun g => N g ∨ v2'.ownBlock = some g) fun b hb => ?_) hbl, RwX.wider (hv.lower hbs) (N' := fun g => N g ∨ v1.ownBlock = some g) fun b hb => .inl ?_, fun g e1 e2 => ?_⟩
  · rcases hb with hb | hb
    · exact .inl (.inl hb)
    · exact .inr (h1 b hb)
  · rcases hb with hb | hb
    · exact hN b hb
    · exact h2 b hb
  · have := h1 g e2; have := h2 g e1; omega
theorem OwSt.setX {g k : Nat} (h : OwSt w base v1 v2 s N) (hN : N g) (h1 : v1.ownBlock ≠ some g) (h2 : v2.ownBlock ≠ some g) (u : Value) : OwSt (w.setCell ⟨g, k, none⟩ u) base v1 v2 s N := by
  have hg := grown_set w g k u
  have e1 : ∀ b, some g = some b → v1.ownBlock ≠ some b := fun b e => by rw [← e]; exact h1
  have e2 : ∀ b, some g = some b → v2.ownBlock ≠ some b := fun b e => by rw [← e]; exact h2
  have e3 : ∀ b, some g = some b → N b := fun b e => by cases e; exact hN
  exact ⟨RwX.other h.b hg e1 fun b e => .inl (e3 b e), RwX.other h.e hg e2 fun b e => .inl (e3 b e), h.ne⟩
theorem OwSt.clk (h : OwSt w base v1 v2 s N) (r k : Nat) : OwSt w base v1 v2 { s with room := r, clock := k } N := ⟨h.b, h.e, h.ne⟩
/-- one cell of one element of a row is written anew -/
theorem RwX.set1 {α : Type} {S : Shp α} {e : TypeId} {g cap i j : Nat} {u : Value} {y : α} {l : List α} (h : RwX S e w base (.slice (some ⟨g, 0, none⟩) l.length cap) l N) (hi : i < l.length) (hj : j < S.size)
    (hR : ∀ W cs, S.R W l[i] cs → S.R W y (cs.set j u)) (hlead : ∀ b, ¬ leads b [u]) :
    (∃ v0, w.cell? ⟨g, i * S.size + j, none⟩ = some v0) ∧ w.frozen? ⟨g, i * S.size + j, none⟩ = false ∧
      RwX S e (w.setCell ⟨g, i * S.size + j, none⟩ u) base (.slice (some ⟨g, 0, none⟩) l.length cap) (l.set i y) N ∧ w.grownBy (w.setCell ⟨g, i * S.size + j, none⟩ u) (some g) := by
  obtain ⟨h1, h2, h3, h4⟩ := RwO.set1 (S := S.off N) (u := u) (y := y) h.off hi hj (fun W cs h => ⟨hR W cs h.1, fun b hb ⟨a, n, c, hm, e2⟩ => by
    rcases List.mem_or_eq_of_mem_set hm with h5 | h5
    · exact h.2 b hb ⟨a, n, c, h5, e2⟩
    · exact hlead b ⟨a, n, c, by simp [h5], e2⟩⟩) (fun b hb => absurd hb (hlead b))
  exact ⟨h1, h2, h3.on, h4⟩
theorem not_leads_int (z : Int) (b : Nat) : ¬ leads b [.int .i64 z] := fun ⟨a, n, c, hm, _⟩ => by simp at hm
theorem not_leads_bool (z : Bool) (b : Nat) : ¬ leads b [.bool z] := fun ⟨a, n, c, hm, _⟩ => by simp at hm
theorem OwSt.setB {g cap i j : Nat} {u : Value} {y : BlobP} (h : OwSt w base (.slice (some ⟨g, 0, none⟩) s.blobs.length cap) v2 s N) (hi : i < s.blobs.length) (hj : j < 4)
    (hR : ∀ W cs, BlobS.R W s.blobs[i] cs → BlobS.R W y (cs.set j u)) (hlead : ∀ b, ¬ leads b [u]) :
    (∃ v0, w.cell? ⟨g, i * 4 + j, none⟩ = some v0) ∧ w.frozen? ⟨g, i * 4 + j, none⟩ = false ∧
      OwSt (w.setCell ⟨g, i * 4 + j, none⟩ u) base (.slice (some ⟨g, 0, none⟩) s.blobs.length cap) v2 { s with blobs := s.blobs.set i y } N ∧ w.grownBy (w.setCell ⟨g, i * 4 + j, none⟩ u) (some g) := by
  obtain ⟨h1, h2, h3, h4⟩ := RwX.set1 (S := BlobS) (u := u) (y := y) h.b hi hj hR hlead
  refine ⟨h1, h2, ⟨h3, h.e.other h4 (fun b e1 e2 => ?_) (fun b e => ?_), h.ne⟩, h4⟩
  · cases e1; exact h.ne g rfl e2
  · cases e; exact .inr rfl
theorem OwSt.setE {g cap i j : Nat} {u : Value} {y : EntP} (h : OwSt w base v1 (.slice (some ⟨g, 0, none⟩) s.ents.length cap) s N) (hi : i < s.ents.length) (hj : j < 4)
    (hR : ∀ W cs, EntS.R W s.ents[i] cs → EntS.R W y (cs.set j u)) (hlead : ∀ b, ¬ leads b [u]) :
    (∃ v0, w.cell? ⟨g, i * 4 + j, none⟩ = some v0) ∧ w.frozen? ⟨g, i * 4 + j, none⟩ = false ∧
      OwSt (w.setCell ⟨g, i * 4 + j, none⟩ u) base v1 (.slice (some ⟨g, 0, none⟩) s.ents.length cap) { s with ents := s.ents.set i y } N ∧ w.grownBy (w.setCell ⟨g, i * 4 + j, none⟩ u) (some g) := by
  obtain ⟨h1, h2, h3, h4⟩ := RwX.set1 (S := EntS) (u := u) (y := y) h.e hi hj hR hlead
  refine ⟨h1, h2, ⟨h.b.other h4 (fun b e1 e2 => ?_) (fun b e => ?_), h3, h.ne⟩, h4⟩
  · cases e1; exact h.ne g e2 rfl
  · cases e; exact .inr rfl
theorem blob_pins (b : BlobP) (n : Nat) (W : World) (cs : List Value) (h : BlobS.R W b cs) : BlobS.R W { b with pins := n } (cs.set 2 (.int .i64 (n : Int))) := by
  obtain ⟨A, c, rfl, hs⟩ := h; exact ⟨A, c, rfl, hs⟩
theorem blob_mark (b : BlobP) (m : Bool) (W : World) (cs : List Value) (h : BlobS.R W b cs) : BlobS.R W { b with mark := m } (cs.set 3 (.bool m)) := by
  obtain ⟨A, c, rfl, hs⟩ := h; exact ⟨A, c, rfl, hs⟩
theorem ent_pins (b : EntP) (n : Nat) (W : World) (cs : List Value) (h : EntS.R W b cs) : EntS.R W { b with pins := n } (cs.set 2 (.int .i64 (n : Int))) := by
  obtain ⟨A, c, rfl, hs⟩ := h; exact ⟨A, c, rfl, hs⟩
theorem ent_stamp (b : EntP) (n : Nat) (W : World) (cs : List Value) (h : EntS.R W b cs) : EntS.R W { b with stamp := n } (cs.set 3 (.int .i64 (n : Int))) := by
  obtain ⟨A, c, rfl, hs⟩ := h; exact ⟨A, c, rfl, hs⟩
end
theorem TickZ_ok (g : Nat) (x0 x1 x2 : Value) (z : Int) (w : World) (h0 : 0 ≤ z) (hk : z < 1099511627776) (hS : Arr w g 26 [x0, x1, x2, .int .i64 z]) :
    Calls Tryz.prog 58 #[.pointer (some ⟨g, 0, none⟩)] w fun e w' => e = .returned (.int .i64 0) ∧ w' = w.setCell ⟨g, 3, none⟩ (.int .i64 (z + 1)) := by
  have c3 := hS.cell (k := 3) rfl
  have f3 := hS.frozen 3
  have hne : (z == 1099511627776) = false := by rw [beq_eq_false_iff_ne]; omega
  have hw : IntKind.i64.wrap (z + 1) = z + 1 := IntWalk.i64_in _ (by omega)
  clear hS
  go_enter Tryz.func58, Tryz.ntmps58
  repeat' ((fail_if_success at_builtin); (fail_if_success at_make); (first | go_values | go_skip | go_guarded | go_step | go_upon | go_back))
  go_ret
  exact ⟨rfl, rfl⟩
theorem Tick_ok (g : Nat) (x0 x1 x2 : Value) (k : Nat) (w : World) (hk : k < 1099511627776) (hS : Arr w g 26 [x0, x1, x2, .int .i64 (k : Int)]) :
    Calls Tryz.prog 58 #[.pointer (some ⟨g, 0, none⟩)] w fun e w' => e = .returned (.int .i64 0) ∧ w' = w.setCell ⟨g, 3, none⟩ (.int .i64 ((k + 1 : Nat) : Int)) := by
  have hz : ((k + 1 : Nat) : Int) = (k : Int) + 1 := by omega
  rw [hz]
  exact TickZ_ok g x0 x1 x2 (k : Int) w (by omega) (by omega) hS
set_option maxHeartbeats 16000000 in
theorem PutBlob_ok (A : Option Addr) (c : Nat) (B : Option Addr) (d : Nat) (s : StoP) (D : List UInt8) (DA : Option Addr) (dc : Nat) (w : World) (hg : GoodS s) (hr : RdSt w A c B d s) (hd : D.length ≤ 300) (hlen : s.blobs.length < 24 ∨ (s.blobs.findIdx? (fun b => b.dig == shaS D)).isSome = true) (hus : usd (putB s.blobs D) ≤ s.room) (hD : Sl w 1 DA D.length dc (bys D)) :
    Calls Tryz.prog 21 #[.agg #[.slice A s.blobs.length c, .slice B s.ents.length d, .int .i64 (s.room : Int), .int .i64 (s.clock : Int)], .slice DA D.length dc] w fun e w' =>
      ∃ v1 v2, e = .returned (.tuple #[.agg #[v1, v2, .int .i64 (s.room : Int), .int .i64 (s.clock : Int)], .string ⟨(shaS D).toArray⟩, .int .i64 0]) ∧ OwSt w' w.heap.size v1 v2 (putBS s D) (fun b => b < w.heap.size) ∧ Below w.heap.size w w' := by
  have hlb : s.blobs.length ≤ 24 := hg.b.len
  have hle : s.ents.length ≤ 10 := hg.e.len
  have hrm := hg.room
  have hpl := putB_len0 s.blobs D
  have HGB := Lib.hid hg.b
  obtain ⟨sd, hsd⟩ : ∃ x : ByteArray, x = ⟨(shaS D).toArray⟩ := ⟨_, rfl⟩
  rw [← hsd]
  have HSD := Lib.hid hsd
  have HLN := Lib.hid hlen
  have HDD := Lib.hid (fun W (h : Below w.heap.size w W) => hD.below h)
  clear hD hsd hlen
  obtain ⟨w0, hw0, hS, hR, hb0⟩ := two_new w 26 [.slice A s.blobs.length c, .slice B s.ents.length d, .int .i64 (s.room : Int), .int .i64 (s.clock : Int)] [.slice none 0 0, .slice none 0 0, .int .i64 0, .int .i64 0]
  have hr0 := hr.below hb0
  obtain ⟨H, hH⟩ : ∃ H, H = w.heap.size := ⟨_, rfl⟩
  have HCK := Lib.hid (CheckS_ok A c B d s w0 hg hr0)
  rw [← hH] at hS hR hb0 ⊢
  have hHl : H < w0.heap.size := hS.lt
  have hHr : H + 1 < w0.heap.size := hR.lt
  have x0 := hS.cell (k := 0) rfl
  have x1 := hS.cell (k := 1) rfl
  have x2 := hS.cell (k := 2) rfl
  have x3 := hS.cell (k := 3) rfl
  rw [hw0, hH] at x0 x1 x2 x3
  have HPL := Lib.hid (show ∀ b ∈ s.blobs, b.data.length ≤ 1000000 from fun b hb => by have := (hg.b.one b hb).2.1; omega)
  have HQL := Lib.hid (show ∀ x ∈ s.ents, x.parts.length ≤ 1000000 from fun x hx => by have := (chk_zero (hg.e.one x hx).2.1).1; omega)
  have HG := Lib.hid hg
  clear hg hr
  go_enter Tryz.func21, Tryz.ntmps21
  repeat' ((fail_if_success at_builtin); (fail_if_success at_make); (first | go_values | go_skip | go_guarded | go_step | go_upon | go_back))
  rw [← hw0, ← hH]
  have HH := Lib.hid hH
  clear hw0 hH x0 x1 x2 x3
  have hD0 := HDD.out w0 (by rw [← HH.out]; exact hb0)
  refine ((HCK.out)).mono ?_; rintro e_ w1 ⟨rfl, hb1⟩; dsimp only
  have hr1 := hr0.below hb1
  have hS1 := hS.below hb1
  have y0 := hS1.cell (k := 0) rfl
  have HPT := PutB_ok A c s.blobs D DA dc w1 HGB.out hd HLN.out hr1.b (hD0.below hb1)
  rw [← HSD.out] at HPT
  have HPT := Lib.hid HPT
  clear hr0 hS hD0
  repeat' ((fail_if_success at_builtin); (fail_if_success at_make); (first | go_values | go_skip | go_guarded | go_step | go_upon | go_back))
  clear y0
  refine ((HPT.out)).mono ?_; rintro e_ w2 ⟨v2, rfl, hx2, hb2⟩; dsimp only
  have hc2 := hb1.trans (hb2.mono hb1.size)
  have hr2 := hr1.below hb2
  have hS2 := hS1.below hb2
  obtain ⟨A2, c2, e2, h21, h22, hR2⟩ := hx2.rwo.rows
  subst e2
  have y2 := hS2.cell (k := 2) rfl
  have HFT := Fits_ok A2 c2 (putB s.blobs D) s.room 0 w2 (by omega) (by omega) hrm (by omega) hR2
  rw [if_pos (by omega)] at HFT
  have HFT := Lib.hid HFT
  clear hr1 hS1 hR2
  repeat' ((fail_if_success at_builtin); (fail_if_success at_make); (first | go_values | go_skip | go_guarded | go_step | go_upon | go_back))
  clear y2
  refine ((HFT.out)).mono ?_; rintro e_ w3 ⟨rfl, hb3⟩; dsimp only
  have hc3 := hc2.trans (hb3.mono hc2.size)
  have hr3 := hr2.below hb3
  have hS3 := hS2.below hb3
  have hx3 := hx2.below hb3
  have z0 := hS3.cell (k := 0) rfl
  have z1 := hS3.cell (k := 1) rfl
  have z2 := hS3.cell (k := 2) rfl
  have z3 := hS3.cell (k := 3) rfl
  have HCP := Lib.hid (CopyS_ok A c B d s w3 (by omega) (by omega) HPL.out HQL.out hr3)
  have q12 := hb2.size
  have q23 := hb3.size
  clear hr2 hS2 hx2 hb2 hb3 hr3
  repeat' ((fail_if_success at_builtin); (fail_if_success at_make); (first | go_values | go_skip | go_guarded | go_step | go_upon | go_back))
  clear z0 z1 z2 z3
  refine ((HCP.out)).mono ?_; rintro e_ w4 ⟨q1, q2, rfl, ho4', hb4⟩; dsimp only
  have hc4 := hc3.trans (hb4.mono hc3.size)
  have ho4 := ((OwSt.mixB hx3 (fun b hb => Nat.lt_of_lt_of_le hb (Nat.le_trans q12 q23)) (Nat.le_trans q12 q23) ho4' hb4).lower hb1.size).wider (N' := fun b => b < w0.heap.size) (fun b hb => .inl (Nat.lt_of_lt_of_le hb hb1.size))
  clear ho4' hx3 hc3 hb4 hS3 hc2
  have h41 : ∀ b, (Value.slice A2 (putB s.blobs D).length c2).ownBlock = some b → b < w4.heap.size := fun b e => (ho4.b.rwo.blk e).2
  have h42 : ∀ b, (Value.slice (some ⟨q2, 0, none⟩) s.ents.length s.ents.length).ownBlock = some b → b < w4.heap.size := fun b e => (ho4.e.rwo.blk e).2
  have hG : w0.heap.size ≤ w4.heap.size := hc4.size
  obtain ⟨G, hGe⟩ : ∃ G, G = w4.heap.size := ⟨_, rfl⟩
  rw [← hGe] at h41 h42 hG
  have hba := (Below.refl w4.heap.size w4).alloc (Nat.le_refl _) (.cells #[(Value.slice A2 (putB s.blobs D).length c2), (Value.slice (some ⟨q2, 0, none⟩) s.ents.length s.ents.length), .int .i64 (s.room : Int), .int .i64 (s.clock : Int)] 26)
  have hX : Arr (w4.alloc (.cells #[(Value.slice A2 (putB s.blobs D).length c2), (Value.slice (some ⟨q2, 0, none⟩) s.ents.length s.ents.length), .int .i64 (s.room : Int), .int .i64 (s.clock : Int)] 26)) G 26 [(Value.slice A2 (putB s.blobs D).length c2), (Value.slice (some ⟨q2, 0, none⟩) s.ents.length s.ents.length), .int .i64 (s.room : Int), .int .i64 (s.clock : Int)] := by rw [hGe]; exact Arr.new w4 26 _
  have ho := (ho4.wider (N' := fun b => b < w0.heap.size ∨ b = G) (fun b hb => hb.imp id (fun e => by omega))).below hba
  have hR5 := (hR.below hc4).below hba
  have hb5 := (hb0.trans (hc4.mono (Nat.le_of_lt hHl))).alloc (by omega) (.cells #[(Value.slice A2 (putB s.blobs D).length c2), (Value.slice (some ⟨q2, 0, none⟩) s.ents.length s.ents.length), .int .i64 (s.room : Int), .int .i64 (s.clock : Int)] 26)
  clear hR ho4 hc4 hba hb0
  have hR := hR5
  clear hR5
  have hb := hb5
  clear hb5
  have z0 := hX.cell (k := 0) rfl
  have z1 := hX.cell (k := 1) rfl
  have z2 := hX.cell (k := 2) rfl
  have z3 := hX.cell (k := 3) rfl
  have f0 := hR.frozen 0
  have f1 := hR.frozen 1
  have f2 := hR.frozen 2
  have f3 := hR.frozen 3
  have y0 := hR.cell (k := 0) rfl
  have y1 := hR.cell (k := 1) rfl
  have y2 := hR.cell (k := 2) rfl
  have y3 := hR.cell (k := 3) rfl
  have hfin := hR.all4 (.slice A2 (putB s.blobs D).length c2) (Value.slice (some ⟨q2, 0, none⟩) s.ents.length s.ents.length) (.int .i64 (s.room : Int)) (.int .i64 (s.clock : Int))
  have hoF := (((ho.set (g := H + 1) (k := 0) hHr (.inl hHr) (.slice A2 (putB s.blobs D).length c2)).set (g := H + 1) (k := 1) hHr (.inl hHr) (Value.slice (some ⟨q2, 0, none⟩) s.ents.length s.ents.length)).set (g := H + 1) (k := 2) hHr (.inl hHr) (.int .i64 (s.room : Int))).set (g := H + 1) (k := 3) hHr (.inl hHr) (.int .i64 (s.clock : Int))
  have hbF := (((hb.setCell (p := ⟨H + 1, 0, none⟩) (by simp only; omega) (.slice A2 (putB s.blobs D).length c2)).setCell (p := ⟨H + 1, 1, none⟩) (by simp only; omega) (Value.slice (some ⟨q2, 0, none⟩) s.ents.length s.ents.length)).setCell (p := ⟨H + 1, 2, none⟩) (by simp only; omega) (.int .i64 (s.room : Int))).setCell (p := ⟨H + 1, 3, none⟩) (by simp only; omega) (.int .i64 (s.clock : Int))
  clear hR ho hb hX
  subst hGe
  repeat' ((fail_if_success at_builtin); (fail_if_success at_make); (first | go_values | go_skip | go_guarded | go_step | go_upon | go_back))
  refine bodyPost_ret (res_cell_tmp2 rfl _ _ (H + 1) _ _ _ _ (by rfl) hfin Tryz.underlying26 rfl (by kernel_rfl)) rfl ?_
  exact ⟨_, _, rfl, (hoF.lower (base' := H) (by omega)).wider (N' := fun b => b < H) (fun b hb => .inl (.inl (by omega))), hbF⟩
end Go.Proofs.YtdpedkgdobfemaaGreat
