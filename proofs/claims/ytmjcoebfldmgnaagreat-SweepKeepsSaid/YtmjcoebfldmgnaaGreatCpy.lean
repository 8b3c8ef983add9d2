/- blob.Copy, index.Copy: nothing is shared. Conditions: the sizes. -/
import Derived.Test.YtmjcoebfldmgnaaGreatApR
import Derived.Test.YtmjcoebfldmgnaaGreatRead
import Derived.Test.YtmjcoebfldmgnaaGreatRis
namespace Go.Proofs.YtmjcoebfldmgnaaGreat
open Go.RowKit
set_option linter.unusedVariables false
set_option linter.unusedSimpArgs false
set_option maxRecDepth 100000

set_option maxHeartbeats 8000000 in
theorem CopyB_ok (A : Option Addr) (c : Nat) (l : List BlobP) (w : World) (hl : l.length ≤ 100000) (hd : ∀ b ∈ l, b.data.length ≤ 1000000) (hA : Rw BlobS w A l) :
    Calls Tryz.prog 73 #[.slice A l.length c] w fun e w' => ∃ g, e = .returned (.slice (some ⟨g, 0, none⟩) l.length l.length) ∧ RwX BlobS 51 w' w.heap.size (.slice (some ⟨g, 0, none⟩) l.length l.length) l (fun b => b < w.heap.size) ∧ Below w.heap.size w w' := by
  have HD := Lib.hid hd
  clear hd
  let S := BlobS
  go_enter Tryz.func73, Tryz.ntmps73
  repeat' ((fail_if_success at_builtin); (fail_if_success at_make); (first | go_values | go_skip | go_guarded | go_step | go_upon | go_back))
  refine wpList_mk rfl (.const (.int .i64 0)) (.tmp 7) rfl elBlob l.length (by rfl) (by rfl) rfl (by omega) ?_
  intro w1 g ho1 hb1
  have hx1 : RwX BlobS 51 w1 w.heap.size (.slice (some ⟨g, 0, none⟩) 0 l.length) [] (fun b => b < w.heap.size) := RwX.nil_ ho1
  clear ho1
  repeat' ((fail_if_success at_builtin); (fail_if_success at_make); (first | go_values | go_skip | go_guarded | go_step | go_upon | go_back))
  go_loopg [3, 11] l.length (fun gn v i wr => ∃ j : Nat, gn = l.length - j ∧ i = .int .i64 j ∧ j ≤ l.length ∧ v = .slice (some ⟨g, 0, none⟩) j l.length ∧ RwX BlobS 51 wr w.heap.size (.slice (some ⟨g, 0, none⟩) j l.length) (l.take j) (fun b => b < w.heap.size) ∧ Below w.heap.size w wr)
  case atStart => exact ⟨0, rfl, rfl, by omega, rfl, hx1, hb1⟩
  case round =>
    clear hx1 hb1
    obtain ⟨j, hgk, rfl, hj, rfl, hx, hbl⟩ := hrel
    have HGK := Lib.hid hgk
    clear hgk
    by_cases hlt : j < l.length
    · have hcc : decide (j < l.length) = true := decide_eq_true hlt
      obtain ⟨b, off, B, cb, rfl, hbb, c0, c1, c2, c3, hs⟩ := (hA.below hbl).blob_at j hlt
      have hj0 : (0 : Int) ≤ (j : Int) := by omega
      have hj1 : (j : Int) < (l.length : Int) := by omega
      have HTK := Lib.hid (show l.take (j + 1) = l.take j ++ [l[j]] by rw [List.take_succ_eq_append_getElem hlt])
      have hjl : (l.take j).length = j := by rw [List.length_take]; omega
      have HBD := Lib.hid (HD.out l[j] (List.getElem_mem hlt))
      generalize l[j] = x at *
      obtain ⟨sx, hsx⟩ : ∃ s : ByteArray, s = ⟨x.dig.toArray⟩ := ⟨_, rfl⟩
      rw [← hsx] at c0
      have HSX := Lib.hid hsx
      clear hsx
      have hX : Arr (wr.alloc (.cells #[.string sx, .slice B x.data.length cb, .int .i64 (x.pins : Int), (.bool x.mark)] 51)) wr.heap.size 51 [.string sx, .slice B x.data.length cb, .int .i64 (x.pins : Int), (.bool x.mark)] := Arr.new wr 51 _
      have hba := (Below.refl wr.heap.size wr).alloc (Nat.le_refl _) (.cells #[.string sx, .slice B x.data.length cb, .int .i64 (x.pins : Int), (.bool x.mark)] 51)
      have hs2 := hs.below hba
      have hbl2 := hbl.trans (hba.mono hbl.size)
      have hgw : wr.heap.size < (wr.alloc (.cells #[.string sx, .slice B x.data.length cb, .int .i64 (x.pins : Int), (.bool x.mark)] 51)).heap.size := by simp
      have x1 := hX.cell (k := 1) rfl
      have hxw := hx.wider (N' := fun b => b < w.heap.size ∨ b = wr.heap.size) (fun b hb => hb.elim .inl (fun e => .inr (by omega)))
      have hx2 := hxw.below hba
      have hsz : w.heap.size ≤ wr.heap.size := hbl.size
      have hgx : g < wr.heap.size := (hx.rwo.blk rfl).2
      clear hs hba hbl hx hxw
      repeat' ((fail_if_success at_builtin); (fail_if_success at_make); (first | go_values | go_skip | go_guarded | go_step | go_upon | go_back))
      generalize wr.alloc (.cells #[.string sx, .slice B x.data.length cb, .int .i64 (x.pins : Int), (.bool x.mark)] 51) = w2 at *
      generalize wr.heap.size = gx at *
      clear c0 c1 c2 c3 x1
      have HCL := Lib.hid (Clone_ok B x.data.length cb x.data w2 rfl hs2.cap (by have := HBD.out; omega) hs2.rd)
      refine ((HCL.out)).mono ?_; rintro e_ w3 ⟨v3, rfl, ho3, hb3⟩; dsimp only
      obtain ⟨A3, c3, rfl, hs3, hl3⟩ := OwnSl ho3
      have hX3 := hX.below hb3
      have hx3 := hx2.below hb3
      have hbl3 := hbl2.trans (hb3.mono hbl2.size)
      have hx4 := (hx3.other (grown_set w3 gx 1 (.slice A3 x.data.length c3)) (fun b e1 e2 => by cases e1; have e3 : g = gx := Option.some.inj e2; omega) (fun b e => .inr (by cases e; rfl))).wider (N' := fun b => b < w.heap.size) (fun b hb => .inl (.inl hb))
      have hX4 := hX3.set (k := 1) (by simp) (.slice A3 x.data.length c3)
      have hs4 := hs3.other (g := gx) (k := 1) (fun a ha => by have := hl3 a ha; omega) (.slice A3 x.data.length c3)
      have hbl4 := hbl3.setCell (p := ⟨gx, 1, none⟩) hsz (.slice A3 x.data.length c3)
      have f1 := hX3.frozen 1
      have x1 := hX3.cell (k := 1) rfl
      have z0 := hX4.cell (k := 0) rfl
      have z1 := hX4.cell (k := 1) rfl
      have z2 := hX4.cell (k := 2) rfl
      have z3 := hX4.cell (k := 3) rfl
      have hge3 : ∀ a, A3 = some a → w.heap.size ≤ a.block ∧ a.block ≠ g := fun a ha => by have := hl3 a ha; have := hb3.size; omega
      clear hX hX3 ho3 hs3 hx2 hx3 hs2 hb3 hbl2 hbl3 hl3
      obtain ⟨xs, hxo, hop⟩ := hx4.open_
      rw [hjl] at hxo hop
      have HOP := Lib.hid hop
      clear hop hX4
      repeat' ((fail_if_success at_builtin); (fail_if_success at_make); (first | go_values | go_skip | go_guarded | go_step | go_upon | go_back))
      clear x1 f1 z0 z1 z2 z3
      have hz34 : (w3.setCell ⟨gx, 1, none⟩ (.slice A3 x.data.length c3)).heap.size = w3.heap.size := by simp [World.setCell]
      rw [← hz34]
      clear hz34
      generalize w3.setCell ⟨gx, 1, none⟩ (.slice A3 x.data.length c3) = w4 at *
      have hw4 : w.heap.size ≤ w4.heap.size := hbl4.size
      refine wpList_apR rfl (.tmp 19) (.tmp 21) rfl elBlob (by rfl) hxo (us := [.string sx, .slice A3 x.data.length c3, .int .i64 (x.pins : Int), (.bool x.mark)]) (by rfl) rfl (by
        intro u hu
        simp only [List.mem_cons, List.not_mem_nil, or_false] at hu
        rcases hu with rfl | rfl | rfl | rfl <;> rfl) (by omega) ?_
      intro w5 ho5 hg5
      have hcs : S.R w4 x [.string sx, .slice A3 x.data.length c3, .int .i64 (x.pins : Int), (.bool x.mark)] := ⟨A3, c3, by rw [HSX.out]; rfl, hs4⟩
      have hx5 := HOP.out x _ w4 w5 _ (Below.refl _ _) hcs (fun b hb ⟨a, n', c', hm, e⟩ => by
        simp only [List.mem_cons, List.not_mem_nil, or_false, Value.slice.injEq, reduceCtorEq, false_or] at hm
        obtain ⟨q1, q2⟩ := hge3 a hm.1.symm
        rcases hb with hb | hb
        · cases hb; exact q2 e
        · omega) ho5 hg5 (.inl rfl)
      have hbl5 := hbl4.grown hg5 hw4 (fun k hk => by cases hk; exact (hx5.rwo.blk rfl).1)
      clear hxo hx4 hs4 hbl4 ho5 hg5 hcs hge3
      rw [← HTK.out] at hx5
      repeat' ((fail_if_success at_builtin); (fail_if_success at_make); (first | go_values | go_skip | go_guarded | go_step | go_upon | go_back))
      go_roundg (l.length - (j + 1))
      case measure => have := HGK.out; omega
      case rel => exact ⟨j + 1, rfl, by go_num, by omega, rfl, hx5, hbl5⟩
    · obtain rfl : j = l.length := by omega
      have hcc : decide (l.length < l.length) = false := by simp
      rw [List.take_length] at hx
      repeat' ((fail_if_success at_builtin); (fail_if_success at_make); (first | go_values | go_skip | go_guarded | go_step | go_upon | go_back))
      go_ret
      exact ⟨g, rfl, hx, hbl⟩
set_option maxHeartbeats 8000000 in
theorem CopyE_ok (A : Option Addr) (c : Nat) (l : List EntP) (w : World) (hl : l.length ≤ 100000) (hd : ∀ x ∈ l, x.parts.length ≤ 1000000) (hA : Rw EntS w A l) :
    Calls Tryz.prog 74 #[.slice A l.length c] w fun e w' => ∃ g, e = .returned (.slice (some ⟨g, 0, none⟩) l.length l.length) ∧ RwX EntS 45 w' w.heap.size (.slice (some ⟨g, 0, none⟩) l.length l.length) l (fun b => b < w.heap.size) ∧ Below w.heap.size w w' := by
  have HD := Lib.hid hd
  clear hd
  let S := EntS
  go_enter Tryz.func74, Tryz.ntmps74
  repeat' ((fail_if_success at_builtin); (fail_if_success at_make); (first | go_values | go_skip | go_guarded | go_step | go_upon | go_back))
  refine wpList_mk rfl (.const (.int .i64 0)) (.tmp 7) rfl elEnt l.length (by rfl) (by rfl) rfl (by omega) ?_
  intro w1 g ho1 hb1
  have hx1 : RwX EntS 45 w1 w.heap.size (.slice (some ⟨g, 0, none⟩) 0 l.length) [] (fun b => b < w.heap.size) := RwX.nil_ ho1
  clear ho1
  repeat' ((fail_if_success at_builtin); (fail_if_success at_make); (first | go_values | go_skip | go_guarded | go_step | go_upon | go_back))
  go_loopg [3, 11] l.length (fun gn v i wr => ∃ j : Nat, gn = l.length - j ∧ i = .int .i64 j ∧ j ≤ l.length ∧ v = .slice (some ⟨g, 0, none⟩) j l.length ∧ RwX EntS 45 wr w.heap.size (.slice (some ⟨g, 0, none⟩) j l.length) (l.take j) (fun b => b < w.heap.size) ∧ Below w.heap.size w wr)
  case atStart => exact ⟨0, rfl, rfl, by omega, rfl, hx1, hb1⟩
  case round =>
    clear hx1 hb1
    obtain ⟨j, hgk, rfl, hj, rfl, hx, hbl⟩ := hrel
    have HGK := Lib.hid hgk
    clear hgk
    by_cases hlt : j < l.length
    · have hcc : decide (j < l.length) = true := decide_eq_true hlt
      obtain ⟨b, off, B, cb, rfl, hbb, c0, c1, c2, c3, hs⟩ := (hA.below hbl).ent_at j hlt
      have hj0 : (0 : Int) ≤ (j : Int) := by omega
      have hj1 : (j : Int) < (l.length : Int) := by omega
      have HTK := Lib.hid (show l.take (j + 1) = l.take j ++ [l[j]] by rw [List.take_succ_eq_append_getElem hlt])
      have hjl : (l.take j).length = j := by rw [List.length_take]; omega
      have HBD := Lib.hid (HD.out l[j] (List.getElem_mem hlt))
      generalize l[j] = x at *
      obtain ⟨sx, hsx⟩ : ∃ s : ByteArray, s = ⟨x.key.toArray⟩ := ⟨_, rfl⟩
      rw [← hsx] at c0
      have HSX := Lib.hid hsx
      clear hsx
      have hX : Arr (wr.alloc (.cells #[.string sx, .slice B x.parts.length cb, .int .i64 (x.pins : Int), (.int .i64 (x.stamp : Int))] 45)) wr.heap.size 45 [.string sx, .slice B x.parts.length cb, .int .i64 (x.pins : Int), (.int .i64 (x.stamp : Int))] := Arr.new wr 45 _
      have hba := (Below.refl wr.heap.size wr).alloc (Nat.le_refl _) (.cells #[.string sx, .slice B x.parts.length cb, .int .i64 (x.pins : Int), (.int .i64 (x.stamp : Int))] 45)
      have hs2 := hs.below hba
      have hbl2 := hbl.trans (hba.mono hbl.size)
      have hgw : wr.heap.size < (wr.alloc (.cells #[.string sx, .slice B x.parts.length cb, .int .i64 (x.pins : Int), (.int .i64 (x.stamp : Int))] 45)).heap.size := by simp
      have x1 := hX.cell (k := 1) rfl
      have hxw := hx.wider (N' := fun b => b < w.heap.size ∨ b = wr.heap.size) (fun b hb => hb.elim .inl (fun e => .inr (by omega)))
      have hx2 := hxw.below hba
      have hsz : w.heap.size ≤ wr.heap.size := hbl.size
      have hgx : g < wr.heap.size := (hx.rwo.blk rfl).2
      clear hs hba hbl hx hxw
      repeat' ((fail_if_success at_builtin); (fail_if_success at_make); (first | go_values | go_skip | go_guarded | go_step | go_upon | go_back))
      generalize wr.alloc (.cells #[.string sx, .slice B x.parts.length cb, .int .i64 (x.pins : Int), (.int .i64 (x.stamp : Int))] 45) = w2 at *
      generalize wr.heap.size = gx at *
      clear c0 c1 c2 c3 x1
      have HCL := Lib.hid (ClonePart_ok B x.parts.length cb (pcs x.parts) w2 (by have := HBD.out; omega) hs2.rd (pcs_one _))
      refine ((HCL.out)).mono ?_; rintro e_ w3 ⟨v3, rfl, ho3, hb3⟩; dsimp only
      obtain ⟨A3, c3, rfl, hs3, hl3⟩ := OwnSl ho3
      have hX3 := hX.below hb3
      have hx3 := hx2.below hb3
      have hbl3 := hbl2.trans (hb3.mono hbl2.size)
      have hx4 := (hx3.other (grown_set w3 gx 1 (.slice A3 x.parts.length c3)) (fun b e1 e2 => by cases e1; have e3 : g = gx := Option.some.inj e2; omega) (fun b e => .inr (by cases e; rfl))).wider (N' := fun b => b < w.heap.size) (fun b hb => .inl (.inl hb))
      have hX4 := hX3.set (k := 1) (by simp) (.slice A3 x.parts.length c3)
      have hs4 := hs3.other (g := gx) (k := 1) (fun a ha => by have := hl3 a ha; omega) (.slice A3 x.parts.length c3)
      have hbl4 := hbl3.setCell (p := ⟨gx, 1, none⟩) hsz (.slice A3 x.parts.length c3)
      have f1 := hX3.frozen 1
      have x1 := hX3.cell (k := 1) rfl
      have z0 := hX4.cell (k := 0) rfl
      have z1 := hX4.cell (k := 1) rfl
      have z2 := hX4.cell (k := 2) rfl
      have z3 := hX4.cell (k := 3) rfl
      have hge3 : ∀ a, A3 = some a → w.heap.size ≤ a.block ∧ a.block ≠ g := fun a ha => by have := hl3 a ha; have := hb3.size; omega
      clear hX hX3 ho3 hs3 hx2 hx3 hs2 hb3 hbl2 hbl3 hl3
      obtain ⟨xs, hxo, hop⟩ := hx4.open_
      rw [hjl] at hxo hop
      have HOP := Lib.hid hop
      clear hop hX4
      repeat' ((fail_if_success at_builtin); (fail_if_success at_make); (first | go_values | go_skip | go_guarded | go_step | go_upon | go_back))
      clear x1 f1 z0 z1 z2 z3
      have hz34 : (w3.setCell ⟨gx, 1, none⟩ (.slice A3 x.parts.length c3)).heap.size = w3.heap.size := by simp [World.setCell]
      rw [← hz34]
      clear hz34
      generalize w3.setCell ⟨gx, 1, none⟩ (.slice A3 x.parts.length c3) = w4 at *
      have hw4 : w.heap.size ≤ w4.heap.size := hbl4.size
      refine wpList_apR rfl (.tmp 19) (.tmp 21) rfl elEnt (by rfl) hxo (us := [.string sx, .slice A3 x.parts.length c3, .int .i64 (x.pins : Int), (.int .i64 (x.stamp : Int))]) (by rfl) rfl (by
        intro u hu
        simp only [List.mem_cons, List.not_mem_nil, or_false] at hu
        rcases hu with rfl | rfl | rfl | rfl <;> rfl) (by omega) ?_
      intro w5 ho5 hg5
      have hcs : S.R w4 x [.string sx, .slice A3 x.parts.length c3, .int .i64 (x.pins : Int), (.int .i64 (x.stamp : Int))] := ⟨A3, c3, by rw [HSX.out]; rfl, hs4⟩
      have hx5 := HOP.out x _ w4 w5 _ (Below.refl _ _) hcs (fun b hb ⟨a, n', c', hm, e⟩ => by
        simp only [List.mem_cons, List.not_mem_nil, or_false, Value.slice.injEq, reduceCtorEq, false_or] at hm
        obtain ⟨q1, q2⟩ := hge3 a hm.1.symm
        rcases hb with hb | hb
        · cases hb; exact q2 e
        · omega) ho5 hg5 (.inl rfl)
      have hbl5 := hbl4.grown hg5 hw4 (fun k hk => by cases hk; exact (hx5.rwo.blk rfl).1)
      clear hxo hx4 hs4 hbl4 ho5 hg5 hcs hge3
      rw [← HTK.out] at hx5
      repeat' ((fail_if_success at_builtin); (fail_if_success at_make); (first | go_values | go_skip | go_guarded | go_step | go_upon | go_back))
      go_roundg (l.length - (j + 1))
      case measure => have := HGK.out; omega
      case rel => exact ⟨j + 1, rfl, by go_num, by omega, rfl, hx5, hbl5⟩
    · obtain rfl : j = l.length := by omega
      have hcc : decide (l.length < l.length) = false := by simp
      rw [List.take_length] at hx
      repeat' ((fail_if_success at_builtin); (fail_if_success at_make); (first | go_values | go_skip | go_guarded | go_step | go_upon | go_back))
      go_ret
      exact ⟨g, rfl, hx, hbl⟩
end Go.Proofs.YtmjcoebfldmgnaaGreat
