/- Lemmas of a proof, made shorter by a program. Conditions: none, or as each states. -/
import Derived.Test.YtngfnjekjfeacaaGreatQC26
namespace Go.Proofs.YtngfnjekjfeacaaGreat
open Go.RowKit
set_option linter.unusedVariables false
set_option linter.unusedSimpArgs false
set_option maxRecDepth 100000
section
variable {w : World} {base g cap : Nat} {e : TypeId} {N : Nat → Prop}
theorem RwX.own4 {α : Type} {S : Shp α} {v : Value} {l : List α} (h : RwX S e w base v l N) : w.ownsRow base e S.size v l.length (cls h.choose) := h.choose_spec.2.2.1
theorem RwX.arr4 {α : Type} {S : Shp α} {l : List α} (h : RwX S e w base (.slice (some ⟨g, 0, none⟩) l.length cap) l N) (h0 : 0 < l.length) : ∃ cs, Arr w g e cs ∧ cs.length = cap * S.size := by
 obtain ⟨g', cap', cs, e1, _, h4, _, _, h5, _⟩ := uA h.own4 h0
 injection e1 with e11 _ e13
 injection e11 with e11
 injection e11 with e11
 subst e11 e13
 exact ⟨cs, h4, h5⟩
theorem RwX.rwN {α : Type} {S : Shp α} {l : List α} (h : RwX S e w base (.slice (some ⟨g, 0, none⟩) l.length cap) l N) : Rw (S.off (fun b => b = g ∨ N b)) w (some ⟨g, 0, none⟩) l := by
 obtain ⟨ps, h1, h2, h3, h4⟩ := h
 exact ⟨ps, h1, fun p hp => ⟨h2 p hp, fun b hb => h4 p hp b (hb.imp (fun e => by rw [e]; rfl) id)⟩, Rd.of_own h3⟩
theorem RwX.at4B {l : List BlobP} (h : RwX BlobS e w base (.slice (some ⟨g, 0, none⟩) l.length cap) l N) (j : Nat) (hj : j < l.length) :
  ∃ B c, w.cell? ⟨g, j * 4, none⟩ = some (.string ⟨l[j].dig.toArray⟩) ∧ w.cell? ⟨g, j * 4 + 1, none⟩ = some (.slice B l[j].data.length c) ∧ w.cell? ⟨g, j * 4 + 2, none⟩ = some (.int .i64 (l[j].pins : Int)) ∧ w.cell? ⟨g, j * 4 + 3, none⟩ = some (.bool l[j].mark) ∧
   Sl w 1 B l[j].data.length c (bys l[j].data) ∧ ∀ b, (b = g ∨ N b) → ¬ leads b [.string ⟨l[j].dig.toArray⟩, .slice B l[j].data.length c, .int .i64 (l[j].pins : Int), .bool l[j].mark] := by
 obtain ⟨b, off, cs, e1, hb, ⟨⟨B, c, rfl, hs⟩, hl⟩, hc⟩ := h.rwN.at_ j hj
 cases e1
 simp only [Nat.zero_add] at hc
 exact ⟨B, c, hc 0 _ rfl, hc 1 _ rfl, hc 2 _ rfl, hc 3 _ rfl, hs, hl⟩
theorem xy {P : Program} (w : World) (t e ty : TypeId) (z : Value) (zs : List Value) (n : Nat) (hn : 0 < n) (ht : P.underlying t = some (.slice e)) (hv : ∀ w, (zeroValue e).run P w = .ok z w) (hz : (Builtin.zeroCells z.cells n).toList = zs) (h1 : ∀ u ∈ zs, u.oneCell' = true) (b o c : Nat)
  (hc : ∀ j, j < zs.length → (w.cell? ⟨b, o + j, none⟩).isSome = true) (hf : ∀ j, j < zs.length → w.frozen? ⟨b, o + j, none⟩ = false) :
  (Builtin.clear_ #[t] ty #[.slice (some ⟨b, o, none⟩) n c]).run P w = .ok (.tuple #[]) (w.setCells b o zs) := by
 have hst := run_storeCells_cells (P := P) b o zs 0 w (by simpa using hc) (by simpa using hf) h1
 simp only [Nat.add_zero] at hst
 cases n with
 | zero => omega
 | succ m => simp [Builtin.clear_, run_underlying ht, hv, hz, hst]
theorem kQ (z : Array Value) (n : Nat) : (Builtin.zeroCells z n).toList.length = n * z.size := by simp [Builtin.zeroCells]
theorem kL (z : Array Value) (n : Nat) (h0 : 0 < z.size) (h : ∀ u ∈ z.toList, u.oneCell' = true) : ∀ u ∈ (Builtin.zeroCells z n).toList, u.oneCell' = true := fun u hu => by
 simp only [Builtin.zeroCells, Array.toList_map, List.mem_map] at hu
 obtain ⟨i, _, rfl⟩ := hu
 have hlt : i % z.size < z.size := Nat.mod_lt _ h0
 rw [getElem!_pos z _ hlt]
 exact h _ (Array.mem_toList_iff.2 (Array.getElem_mem hlt))
theorem uw {size n i : Nat} {xs zs : List Value} (h : w.ownsRow base e size (.slice (some ⟨g, 0, none⟩) n cap) n xs) (hn : 0 < n) (hi : i < n) (hz : zs.length = (n - i) * size) :
  (w.setCells g (i * size) zs).ownsRow base e size (.slice (some ⟨g, 0, none⟩) i cap) i (xs.take (i * size)) ∧ w.grownBy (w.setCells g (i * size) zs) (some g) ∧ (∀ j, j < zs.length → (w.cell? ⟨g, i * size + j, none⟩).isSome = true) ∧ (∀ j, j < zs.length → w.frozen? ⟨g, i * size + j, none⟩ = false) := by
 obtain ⟨g', cap', cs, e1, hbg, hA, hnc, hcm, hcl, hct⟩ := uA h hn
 injection e1 with e11 _ e13
 injection e11 with e11
 injection e11 with e11
 subst e11 e13
 have him : (n - i) * size + i * size = n * size := by rw [← Nat.add_mul, Nat.sub_add_cancel (by omega)]
 have hns : n * size ≤ cap * size := Nat.mul_le_mul_right _ hnc
 have e2 : cs = cs.take (i * size) ++ ((cs.drop (i * size)).take ((n - i) * size) ++ cs.drop (n * size)) := by
  conv => lhs; rw [← List.take_append_drop (i * size) cs]
  congr 1
  conv => lhs; rw [← List.take_append_drop ((n - i) * size) (cs.drop (i * size))]
  rw [List.drop_drop, Nat.add_comm, him]
 have hl1 : (cs.take (i * size)).length = i * size := by rw [List.length_take]; omega
 have hA2 := hA
 rw [e2] at hA2
 have h3 := yP _ zs _ _ w hA2 (by rw [hz, List.length_take, List.length_drop]; omega)
 rw [hl1] at h3
 refine ⟨⟨?_, .inr ⟨g, cap, _, rfl, hbg, by simpa [Arr] using h3, by omega, hcm, ?_, ?_⟩⟩, qK _ _ _, fun j hj => ?_, fun j hj => hA.frozen _⟩
 ·rw [List.length_take, h.1]; exact Nat.min_eq_left (by omega)
 ·simp only [List.size_toArray, List.length_append, List.length_take, List.length_drop, hcl, hz]; omega
 ·simp only
  rw [List.take_left' hl1, ← hct, List.take_take, Nat.min_eq_left (by omega)]
 ·have hk : i * size + j < cs.length := by rw [hcl]; omega
  rw [hA.cell (List.getElem?_eq_getElem hk)]; rfl
theorem RwX.trunc_ {α : Type} {S : Shp α} {l : List α} {i : Nat} {zs : List Value} (h : RwX S e w base (.slice (some ⟨g, 0, none⟩) l.length cap) l N) (hi : i < l.length) (hz : zs.length = (l.length - i) * S.size) :
  RwX S e (w.setCells g (i * S.size) zs) base (.slice (some ⟨g, 0, none⟩) i cap) (l.take i) N ∧ w.grownBy (w.setCells g (i * S.size) zs) (some g) ∧ (∀ j, j < zs.length → (w.cell? ⟨g, i * S.size + j, none⟩).isSome = true) ∧ (∀ j, j < zs.length → w.frozen? ⟨g, i * S.size + j, none⟩ = false) := by
 obtain ⟨ps, h1, h2, h3, h4⟩ := h
 obtain ⟨k1, k2, k3, k4⟩ := uw h3 (by omega) hi hz
 have hpl : ps.length = l.length := by rw [← h1, List.length_map]
 have hm : ∀ p ∈ ps.take i, p ∈ ps := fun p hp => List.mem_of_mem_take hp
 refine ⟨⟨ps.take i, by rw [← h1, List.map_take], q4.grown (w := w) (g := some g) (fun p hp => h2 p (hm p hp)) k2 (fun p hp b hb => h4 p (hm p hp) b (.inl hb)), ?_, fun p hp b hb => h4 p (hm p hp) b hb⟩, k2, k3, k4⟩
 rw [← kh (s := S.size) ps i h2.lens, List.length_take, Nat.min_eq_left (by omega)]
 exact k1
theorem RwX.truncB {l : List BlobP} (h : RwX BlobS e w base (.slice (some ⟨g, 0, none⟩) l.length cap) l N) (i : Nat) (hi : i < l.length) :
  ∃ zs : List Value, zs.length = (l.length - i) * 4 ∧ (∀ ty c, (Builtin.clear_ #[23] ty #[.slice (some ⟨g, i * 4, none⟩) (l.length - i) c]).run Tryz.prog w = .ok (.tuple #[]) (w.setCells g (i * 4) zs)) ∧
   RwX BlobS e (w.setCells g (i * 4) zs) base (.slice (some ⟨g, 0, none⟩) i cap) (l.take i) N ∧ w.grownBy (w.setCells g (i * 4) zs) (some g) := by
 have hl := kQ (Value.agg #[.string ByteArray.empty, .slice none 0 0, .int .i64 0, .bool false]).cells (l.length - i)
 obtain ⟨k1, k2, k3, k4⟩ := h.trunc_ hi (zs := (Builtin.zeroCells (Value.agg #[.string ByteArray.empty, .slice none 0 0, .int .i64 0, .bool false]).cells (l.length - i)).toList) hl
 exact ⟨_, hl, fun ty c => xy w _ _ ty _ _ _ (by omega) Tryz.underlying23 Vd rfl (kL _ _ (by simp [Value.cells]) (by intro u hu; simp [Value.cells] at hu; rcases hu with rfl | rfl | rfl | rfl <;> rfl)) g _ c k3 k4, k1, k2⟩
end
def Kn (w : World) (g : Option Nat) (l : List BlobP) (f : FuncId) (x : Value) (p : BlobP → Bool) : Prop :=
 (∀ args W, (callFunc f args).run Tryz.prog W = .ok (.enter f args) W) ∧ ∀ (b : BlobP) (B : Option Addr) (cb : Nat) (W : World), b ∈ l → w.grownBy W g → Sl W 1 B b.data.length cb (bys b.data) →
  Calls Tryz.prog f #[.agg #[.string ⟨b.dig.toArray⟩, .slice B b.data.length cb, .int .i64 (b.pins : Int), .bool b.mark], x] W fun e w' => e = .returned (.bool (p b)) ∧ Below W.heap.size W w'
set_option maxHeartbeats 8000000 in
theorem KJ (base : Nat) (v : Value) (l : List BlobP) (N : Nat → Prop) (f : FuncId) (x : Value) (p : BlobP → Bool) (w : World) (hl : l.length ≤ 100000) (hx : RwX BlobS 50 w base v l N) (HC : Kn w v.ownBlock l f x p) :
  Calls Tryz.prog 124 #[v, .func (.func f) #[] #[x]] w fun e w' => ∃ v', e = .returned v' ∧ RwX BlobS 50 w' base v' (l.filter (fun b => !p b)) N ∧ w.grownBy w' v.ownBlock ∧ v'.ownBlock = v.ownBlock := by
 obtain ⟨hce, hcc0⟩ := HC
 have HCC := Lib.hid hcc0
 clear hcc0
 have hlen0 := hx.rwo.rows
 obtain ⟨A, cap, rfl, hlc, hcm, hrw⟩ := hlen0
 have HI := Lib.hid (vG A cap l f x p w (by omega) hrw ⟨hce, fun b B cb W hb hbl hs => HCC.out b B cb W hb ⟨hbl.os, hbl.tape, hbl.output, hbl.size, fun k hk _ => hbl.block k hk⟩ hs⟩)
 cases hf : l.findIdx? p with
 | none =>
  rw [hf] at HI
  have hall : l.filter (fun b => !p b) = l := List.filter_eq_self.2 fun b hb => by
   have := List.findIdx?_eq_none_iff.1 hf b hb
   rw [this]; rfl
  have HALL := Lib.hid hall
  have HX := Lib.hid hx
  clear hall hf hx hrw
  go_enter Tryz.func124, Tryz.ntmps124
  go_wp2_with fail
  refine ((HI.out)).mono ?_; rintro e_ w1 ⟨rfl, hb1⟩; dsimp only
  simp only [plc]
  go_wp2_with fail
  go_ret
  refine ⟨_, rfl, by rw [HALL.out]; exact HX.out.below hb1, ⟨hb1.os, hb1.tape, hb1.output, hb1.size, fun k hk _ => hb1.block k hk⟩, rfl⟩
 | some i0 =>
  rw [hf] at HI
  simp only [plc] at HI
  obtain ⟨hi0, hpi, hno⟩ := List.findIdx?_eq_some_iff_getElem.1 hf
  have hkeep0 : (l.take (i0 + 1)).filter (fun b => !p b) = l.take i0 := by
   rw [List.take_succ_eq_append_getElem hi0, List.filter_append, List.filter_cons_of_neg (by rw [hpi]; simp)]
   rw [List.filter_nil, List.append_nil]
   refine List.filter_eq_self.2 fun b hb => ?_
   obtain ⟨k, hk, rfl⟩ := List.mem_iff_getElem.1 hb
   rw [List.length_take] at hk
   have := hno k (by omega)
   rw [List.getElem_take]
   simpa using this
  obtain ⟨g, cap', cs, e1, hbg, hA, hnc, -, -, -⟩ := uA (hx.own4) (by omega)
  injection e1 with e11 e12 e13
  clear e12
  subst e11 e13
  have hgw : g < w.heap.size := hA.lt
  have HGW := Lib.hid hgw
  have HK0 := Lib.hid hkeep0
  clear hkeep0 hno hf hA hrw hgw
  have hw1 : IntKind.i64.wrap ((i0 : Int) + 1) = (i0 : Int) + 1 := IntWalk.i64_in _ (by omega)
  have hm1 : ((i0 : Int) == -1) = false := by rw [beq_eq_false_iff_ne]; omega
  go_enter Tryz.func124, Tryz.ntmps124
  go_wp2_with fail
  refine ((HI.out)).mono ?_; rintro e_ w1 ⟨rfl, hb1⟩; dsimp only
  have hx1 := hx.below hb1
  have HG1 := Lib.hid (show w.grownBy w1 (some g) from ⟨hb1.os, hb1.tape, hb1.output, hb1.size, fun k hk _ => hb1.block k hk⟩)
  clear hx hb1 HI
  go_wp2_with fail
  go_loopg [5, 6] (l.length - (i0 + 1)) (fun gn u v wr => ∃ (i j : Nat) (M : List BlobP), gn = l.length - j ∧ u = .int .i64 i ∧ v = .int .i64 (j : Int) ∧ i < j ∧ j ≤ l.length ∧ M.length = l.length ∧ M.take i = (l.take j).filter (fun b => !p b) ∧ M.drop j = l.drop j ∧ RwX BlobS 50 wr base (.slice (some ⟨g, 0, none⟩) l.length cap) M N ∧ w.grownBy wr (some g))
  case atStart => exact ⟨i0, i0 + 1, l, rfl, rfl, by go_num, by omega, by omega, rfl, HK0.out.symm, rfl, hx1, HG1.out⟩
  case round =>
   clear hx1
   obtain ⟨i, j, M, hgk, rfl, rfl, hij, hj, hM, hMt, hMd, hxr, hgr⟩ := hrel
   have HGK := Lib.hid hgk
   have HML := Lib.hid hM
   have HMT := Lib.hid hMt
   have HMD := Lib.hid hMd
   have HGR := Lib.hid hgr
   clear hgk hM hMt hMd hgr
   by_cases hlt : j < l.length
   ·have hjj : decide (j < l.length) = true := decide_eq_true hlt
    have hMj : j < M.length := by have := HML.out; omega
    have eMj : M[j] = l[j] := by
     have h1 := HMD.out
     rw [List.drop_eq_getElem_cons hMj, List.drop_eq_getElem_cons hlt] at h1
     injection h1
    rw [← HML.out] at hxr
    obtain ⟨B, cb, d0, d1, d2, d3, hs, hld⟩ := hxr.at4B j hMj
    rw [HML.out] at hxr
    have hmem : l[j] ∈ l := List.getElem_mem hlt
    have hpt : (l.take (j + 1)).filter (fun b => !p b) = (l.take j).filter (fun b => !p b) ++ (if p l[j] then [] else [l[j]]) := by
     rw [List.take_succ_eq_append_getElem hlt, List.filter_append]
     congr 1
     cases hp : p l[j] with
     | true => rw [List.filter_cons_of_neg (by rw [hp]; simp)]; rfl
     | false => rw [List.filter_cons_of_pos (by rw [hp]; rfl)]; rfl
    rw [eMj] at d0 d1 d2 d3 hs hld
    have hMset : ∀ y, (M.set i y).drop (j + 1) = l.drop (j + 1) := fun y => by
     rw [List.drop_set, if_pos (by omega)]
     have h1 := HMD.out
     rw [List.drop_eq_getElem_cons hMj, List.drop_eq_getElem_cons hlt] at h1
     injection h1
    have hMs0 : M.drop (j + 1) = l.drop (j + 1) := by
     have h1 := HMD.out
     rw [List.drop_eq_getElem_cons hMj, List.drop_eq_getElem_cons hlt] at h1
     injection h1
    have hMtk : ∀ y, (M.set i y).take (i + 1) = M.take i ++ [y] := fun y => by
     have hi : i < (M.set i y).length := by rw [List.length_set]; omega
     rw [List.take_succ_eq_append_getElem hi, List.getElem_set_self, List.take_set]
     congr 1
     rw [List.set_eq_of_length_le (by rw [List.length_take]; omega)]
    have HPT := Lib.hid hpt
    have HMS := Lib.hid hMset
    have HMS0 := Lib.hid hMs0
    have HMK := Lib.hid hMtk
    have HMEM := Lib.hid hmem
    have hwj : IntKind.i64.wrap ((j : Int) + 1) = (j : Int) + 1 := IntWalk.i64_in _ (by omega)
    have hwi : IntKind.i64.wrap ((i : Int) + 1) = (i : Int) + 1 := IntWalk.i64_in _ (by omega)
    have HLD := Lib.hid hld
    clear hpt hMset hMs0 hMtk hmem hld eMj
    have hj0 : (0 : Int) ≤ (j : Int) := by omega
    have hj1 : (j : Int) < (l.length : Int) := by omega
    have hi0' : (0 : Int) ≤ (i : Int) := by omega
    have hi1' : (i : Int) < (l.length : Int) := by omega
    have hiM : i < M.length := by omega
    have hgr2 : (w.grownBy wr (some g)) := HGR.out
    have hgwr : g < wr.heap.size := Nat.lt_of_lt_of_le HGW.out hgr2.size
    generalize l[j] = bl at *
    have hbox : Arr (wr.alloc (.cells #[.string ⟨bl.dig.toArray⟩, .slice B bl.data.length cb, .int .i64 (bl.pins : Int), .bool bl.mark] 50)) wr.heap.size 50 [.string ⟨bl.dig.toArray⟩, .slice B bl.data.length cb, .int .i64 (bl.pins : Int), .bool bl.mark] := Arr.new wr 50 _
    have hbA := (Below.refl wr.heap.size wr).alloc (Nat.le_refl _) (.cells #[.string ⟨bl.dig.toArray⟩, .slice B bl.data.length cb, .int .i64 (bl.pins : Int), .bool bl.mark] 50)
    have hsA := hs.below hbA
    have hxA := hxr.below hbA
    have hgA : w.grownBy (wr.alloc (.cells #[.string ⟨bl.dig.toArray⟩, .slice B bl.data.length cb, .int .i64 (bl.pins : Int), .bool bl.mark] 50)) (some g) := hgr2.trans ⟨hbA.os, hbA.tape, hbA.output, hbA.size, fun k hk _ => hbA.block k hk⟩
    have hcl := HCC.out bl B cb _ HMEM.out hgA hsA
    have k0 := hbox.cell (k := 0) rfl
    have k1 := hbox.cell (k := 1) rfl
    have k2 := hbox.cell (k := 2) rfl
    have k3 := hbox.cell (k := 3) rfl
    generalize hsd : (⟨bl.dig.toArray⟩ : ByteArray) = sd at *
    have HSD := Lib.hid hsd
    clear hsd hs hgr2 hxr
    cases hp : p bl with
    | true =>
     rw [hp] at hcl
     have HCL := Lib.hid hcl
     have HPV := Lib.hid hp
     clear hcl hp hsA hbox
     go_wp2_with fail
     clear d0 d1 d2 d3
     generalize (wr.alloc (.cells #[.string sd, .slice B bl.data.length cb, .int .i64 (bl.pins : Int), .bool bl.mark] 50)) = wA at *
     refine ((HCL.out)).mono ?_; rintro e_ wB ⟨rfl, hbB⟩; dsimp only
     have hxB := hxA.below hbB
     have hgB := hgA.trans (show wA.grownBy wB (some g) from ⟨hbB.os, hbB.tape, hbB.output, hbB.size, fun k hk _ => hbB.block k hk⟩)
     clear hxA hgA hbB k0 k1 k2 k3 hbA
     go_wp2_with fail
     go_roundg (l.length - (j + 1))
     case measure => have := HGK.out; omega
     case rel => exact ⟨i, j + 1, M, rfl, rfl, by go_num, by omega, by omega, HML.out, by rw [HPT.out, HPV.out, if_pos rfl, List.append_nil]; exact HMT.out, HMS0.out, hxB, hgB⟩
    | false =>
     rw [hp] at hcl
     have HCL := Lib.hid hcl
     have HPV := Lib.hid hp
     have HSA := Lib.hid hsA
     clear hcl hp hsA
     go_wp2_with fail
     clear d0 d1 d2 d3
     generalize hgq : wr.heap.size = gq at *
     generalize (wr.alloc (.cells #[.string sd, .slice B bl.data.length cb, .int .i64 (bl.pins : Int), .bool bl.mark] 50)) = wA at *
     refine ((HCL.out)).mono ?_; rintro e_ wB ⟨rfl, hbB⟩; dsimp only
     have hxB := hxA.below hbB
     have hgB := hgA.trans (show wA.grownBy wB (some g) from ⟨hbB.os, hbB.tape, hbB.output, hbB.size, fun k hk _ => hbB.block k hk⟩)
     have hboxB := hbox.below hbB
     have hsB := HSA.out.below hbB
     clear k0 k1 k2 k3
     have k0 := hboxB.cell (k := 0) rfl
     have k1 := hboxB.cell (k := 1) rfl
     have k2 := hboxB.cell (k := 2) rfl
     have k3 := hboxB.cell (k := 3) rfl
     rw [← HML.out] at hxB
     obtain ⟨cs, hAg, hcl4⟩ := hxB.arr4 (by omega)
     have hcl4 : cs.length = cap * 4 := hcl4
     have q0 := hAg.cell (k := i * 4) (List.getElem?_eq_getElem (by omega))
     have q1 := hAg.cell (k := i * 4 + 1) (List.getElem?_eq_getElem (by omega))
     have q2 := hAg.cell (k := i * 4 + 2) (List.getElem?_eq_getElem (by omega))
     have q3 := hAg.cell (k := i * 4 + 3) (List.getElem?_eq_getElem (by omega))
     have p0 := hAg.frozen (i * 4)
     have p1 := hAg.frozen (i * 4 + 1)
     have p2 := hAg.frozen (i * 4 + 2)
     have p3 := hAg.frozen (i * 4 + 3)
     obtain ⟨hx8, hg8⟩ := hxB.put4 (x := bl) (u0 := .string sd) (u1 := .slice B bl.data.length cb) (u2 := .int .i64 (bl.pins : Int)) (u3 := .bool bl.mark) rfl hiM ⟨B, cb, by rw [← HSD.out]; rfl, hsB⟩ HLD.out
     have hg9 := hgB.trans hg8
     rw [HML.out] at hx8
     rw [put4] at hx8 hg9
     clear hbox hboxB hxA hxB hgA hgB hbA hbB hAg hg8 HSA hsB
     go_wp2_with fail
     clear q0 q1 q2 q3 p0 p1 p2 p3 k0 k1 k2 k3
     generalize ((((wB.setCell ⟨g, i * 4, none⟩ (.string sd)).setCell ⟨g, i * 4 + 1, none⟩ (.slice B bl.data.length cb)).setCell ⟨g, i * 4 + 2, none⟩ (.int .i64 (bl.pins : Int))).setCell ⟨g, i * 4 + 3, none⟩ (.bool bl.mark)) = w8 at *
     go_roundg (l.length - (j + 1))
     case measure => have := HGK.out; omega
     case rel => exact ⟨i + 1, j + 1, M.set i bl, rfl, by go_num, by go_num, by omega, by omega, by rw [List.length_set]; exact HML.out, by rw [HPT.out, HPV.out, HMK.out, HMT.out]; rfl, HMS.out _, hx8, hg9⟩
   ·obtain rfl : j = l.length := by omega
    have hjj : decide (l.length < l.length) = false := by simp
    have hMl : M.take i = l.filter (fun b => !p b) := by rw [HMT.out, List.take_length]
    have hle : (l.filter (fun b => !p b)).length = i := by rw [← hMl, List.length_take]; have := HML.out; omega
    rw [← HML.out] at hxr
    obtain ⟨zs, hzz, hclr, hx9, hg9⟩ := hxr.truncB i (by have := HML.out; omega)
    rw [HML.out] at hclr
    have hi0' : (0 : Int) ≤ (i : Int) := by omega
    have hi1' : (i : Int) ≤ (l.length : Int) := by omega
    have hi2' : (i : Int) ≤ (cap : Int) := by omega
    have hce : ¬ cap = i := by omega
    have HX9 := Lib.hid hx9
    have HG9 := Lib.hid (HGR.out.trans hg9)
    have HLE := Lib.hid hle
    have HML2 := Lib.hid hMl
    clear hx9 hg9 hxr hle hMl
    go_wp2_with fail
    go_ret
    refine ⟨_, rfl, ?_, HG9.out, rfl⟩
    have h1 := HX9.out
    rw [HML2.out] at h1
    exact h1
end Go.Proofs.YtngfnjekjfeacaaGreat
namespace Go.Proofs.YtngfnjekjfeacaaGreat
open Go.RowKit
set_option linter.unusedVariables false
set_option linter.unusedSimpArgs false
set_option maxRecDepth 100000
theorem zt {w W : World} {g : Option Nat} {H k : Nat} {u : Value} (h : w.grownBy W g) (hH : w.heap.size ≤ H) : w.grownBy (W.setCell ⟨H, k, none⟩ u) g :=
 ⟨h.os, h.tape, h.output, by simpa [World.setCell] using h.size, fun j hj hne => (Below.heap_setCell W _ u j (fun e => by have : j = H := e; omega)).trans (h.block j hj hne)⟩
theorem qG {w W : World} {g : Option Nat} (h : Below w.heap.size w W) : w.grownBy W g := ⟨h.os, h.tape, h.output, h.size, fun k hk _ => h.block k hk⟩
theorem ko {w W V : World} {g : Option Nat} (h : w.grownBy W g) (k : Below W.heap.size W V) : w.grownBy V g := h.trans (qG k)
theorem OwSt.mono {w : World} {base : Nat} {v1 v2 : Value} {s : StoP} {N N' : Nat → Prop} (h : OwSt w base v1 v2 s N) (hN : ∀ b, N' b → N b) : OwSt w base v1 v2 s N' := h.wider fun b hb => .inl (hN b hb)
theorem OwSt.turnB {w w' : World} {base : Nat} {v1 v1' v2 : Value} {s : StoP} {N : Nat → Prop} {l : List BlobP} (h : OwSt w base v1 v2 s N) (hb : RwX BlobS 50 w' base v1' l (fun g => N g ∨ v2.ownBlock = some g)) (hg : w.grownBy w' v1.ownBlock) (ho : v1'.ownBlock = v1.ownBlock) :
  OwSt w' base v1' v2 { s with blobs := l } N :=
 ⟨hb, by rw [ho]; exact h.e.other hg (fun b e1 e2 => h.ne b e1 e2) (fun b e => .inr e), by rw [ho]; exact h.ne⟩
theorem Zf (w : World) (g : Option Nat) (gc : Nat) (AL : Option Addr) (cL : Nat) (L : List (List UInt8)) (l : List BlobP) (hgc : gc < w.heap.size) (hne : g ≠ some gc) (hcell : w.cell? ⟨gc, 0, none⟩ = some (.slice AL L.length cL)) (hL : L.length ≤ 1000000) (hrd : Rd w 1 AL L.length (strs L)) (hna : ∀ a, AL = some a → g ≠ some a.block) :
  Kn w g l 125 (.pointer (some ⟨gc, 0, none⟩)) (fun b => !decide (b.dig ∈ L)) := by
 refine ⟨fun _ _ => by kernel_rfl, fun b B cb W hb hgr hs => ?_⟩
 have hc : W.cell? ⟨gc, 0, none⟩ = some (.slice AL L.length cL) := hgr.cell hcell (fun e => hne e.symm)
 have hgW : gc < W.heap.size := Nat.lt_of_lt_of_le hgc hgr.size
 have hr : Rd W 1 AL L.length (strs L) := hrd.keepb hgr.size (fun k hk ⟨a, e1, e2⟩ => hgr.block k hk (fun e => hna a e1 (by rw [e2]; exact e.symm)))
 have hb1 := (Below.refl W.heap.size W).alloc (Nat.le_refl _) (.cells #[.string ⟨b.dig.toArray⟩, .slice B b.data.length cb, .int .i64 (b.pins : Int), .bool b.mark] 50)
 have hbox : Arr (W.alloc (.cells #[.string ⟨b.dig.toArray⟩, .slice B b.data.length cb, .int .i64 (b.pins : Int), .bool b.mark] 50)) W.heap.size 50 [.string ⟨b.dig.toArray⟩, .slice B b.data.length cb, .int .i64 (b.pins : Int), .bool b.mark] := Arr.new W 50 _
 have hk1 : (W.alloc (.cells #[.string ⟨b.dig.toArray⟩, .slice B b.data.length cb, .int .i64 (b.pins : Int), .bool b.mark] 50)).cell? ⟨gc, 0, none⟩ = some (.slice AL L.length cL) := (World.cell?_alloc_lt W _ ⟨gc, 0, none⟩ hgW).trans hc
 have p0 := hbox.cell (k := 0) rfl
 have HCT := Lib.hid (je AL cL L b.dig _ (by omega) (hr.below hb1))
 dsimp only
 generalize hdv : decide (b.dig ∈ L) = dv at *
 clear hr hc hrd hcell hbox
 go_enter Tryz.func125, Tryz.ntmps125
 go_wp2_with fail
 refine ((HCT.out)).mono ?_; rintro e_ wx ⟨rfl, rfl⟩; dsimp only
 go_wp2_with fail
 go_ret
 exact ⟨rfl, hb1⟩
set_option maxHeartbeats 8000000 in
theorem KS (base : Nat) (v1 v2 : Value) (s : StoP) (w : World) (N : Nat → Prop) (hg : GoodS s) (ho : OwSt w base v1 v2 s N) :
  Calls Tryz.prog 72 #[stV v1 v2 s] w fun e w' => ∃ v1', e = .returned (stV v1' v2 (cln s)) ∧ OwSt w' base v1' v2 (cln s) N ∧ w.grownBy w' v1.ownBlock ∧ v1'.ownBlock = v1.ownBlock := by
 have hbl := hg.b.len
 have h41 : ∀ b, v1.ownBlock = some b → b < w.heap.size := fun b e => (ho.b.rwo.blk e).2
 have h42 : ∀ b, v2.ownBlock = some b → b < w.heap.size := fun b e => (ho.e.rwo.blk e).2
 obtain ⟨A, c, B, d, e1, e2, hrd⟩ := ho.rows
 have hr0 := hrd
 subst e1 e2
 obtain ⟨w0, hw0, hS, hR, hb0⟩ := qc w 26 [.slice A s.blobs.length c, .slice B s.ents.length d, .int .i64 (s.room : Int), .int .i64 (s.clock : Int)] [.slice none 0 0, .slice none 0 0, .int .i64 0, .int .i64 0]
 have HALL := Lib.hid (xt A B c d s (s.room : Int) (s.clock : Int) w0 hg.rts (hrd.below hb0))
 have ho0 := (ho.wider (N' := fun b => N b ∨ b = w.heap.size ∨ b = w.heap.size + 1) (fun b hb => hb.imp id (fun e => by omega))).below hb0
 have x0 := hS.cell (k := 0) rfl
 have x1 := hS.cell (k := 1) rfl
 have x2 := hS.cell (k := 2) rfl
 have x3 := hS.cell (k := 3) rfl
 obtain ⟨H, hH⟩ : ∃ H, H = w.heap.size := ⟨_, rfl⟩
 rw [← hH] at hS hR ho0 h41 h42
 rw [hw0] at x0 x1 x2 x3
 have HGR0 := Lib.hid (show w.grownBy w0 (Value.slice A s.blobs.length c).ownBlock from qG hb0)
 have HHW := Lib.hid hH
 clear hr0 hrd hb0 ho
 go_enter Tryz.func72, Tryz.ntmps72
 go_wp2_with fail
 rw [← hw0]
 clear hw0 x0 x1 x2 x3
 rw [← hH]
 clear hH
 refine ((HALL.out)).mono ?_; rintro e_ w2 ⟨v3, L, rfl, hL, hLl, ho3, hb2⟩; dsimp only
 obtain ⟨AL, cL, rfl, hcL, hrL⟩ := Rd.of_own' ho3
 have hna : ∀ a, AL = some a → w0.heap.size ≤ a.block := fun a e => by
  subst e
  rcases ho3.2 with ⟨e, _⟩ | ⟨g, cap, cur, e, hb, _⟩
  ·cases e
  ·cases e; exact hb
 have HL := Lib.hid hL
 have HRL := Lib.hid hrL
 have hLn : L.length ≤ 24 := by omega
 have hS2 := hS.below hb2
 have hR2 := hR.below hb2
 have ho2 := ho0.below hb2
 have HGR2 := Lib.hid (ko HGR0.out hb2)
 have hH2 : H < w2.heap.size := hS2.lt
 have h02 : w0.heap.size ≤ w2.heap.size := hb2.size
 have hsz0 : H + 1 < w0.heap.size := hR.lt
 have hb3 := (Below.refl w2.heap.size w2).alloc (Nat.le_refl _) (.cells #[.slice AL L.length cL] 29)
 have hA3 : Arr (w2.alloc (.cells #[.slice AL L.length cL] 29)) w2.heap.size 29 [.slice AL L.length cL] := Arr.new w2 29 _
 have hS3 := hS2.below hb3
 have hR3 := hR2.below hb3
 have ho3' := ho2.below hb3
 have HT := Lib.hid (Zf (w2.alloc (.cells #[.slice AL L.length cL] 29)) (Value.slice A s.blobs.length c).ownBlock w2.heap.size AL cL L s.blobs hA3.lt (fun e => by have := h41 _ e; omega) (hA3.cell (k := 0) rfl) (by omega) (HRL.out.below hb3) (fun a e1 e2 => by have := hna a e1; have := h41 _ e2; omega))
 have HDF := Lib.hid (KJ base (.slice A s.blobs.length c) s.blobs _ _ _ _ _ (by omega) ho3'.b HT.out)
 have HGR3 := Lib.hid (ko HGR2.out hb3)
 have q0 := hS2.cell (k := 0) rfl
 have q1 := hS2.cell (k := 1) rfl
 have q2 := hS2.cell (k := 2) rfl
 have q3 := hS2.cell (k := 3) rfl
 have p0 := hS3.cell (k := 0) rfl
 have p1 := hS3.cell (k := 1) rfl
 have p2 := hS3.cell (k := 2) rfl
 have p3 := hS3.cell (k := 3) rfl
 clear hS hR ho0 hb2 ho2 ho3 hL hrL hA3 hb3 hR2 hna
 go_wp2_with fail
 clear q0 q1 q2 q3 p0 p1 p2 p3 hS2
 generalize (w2.alloc (.cells #[.slice AL L.length cL] 29)) = w3 at *
 refine ((HDF.out)).mono ?_; rintro e_ w4 ⟨v1', rfl, hx4, hg4, hob⟩; dsimp only
 have hbk : s.blobs.filter (fun b => !(!decide (b.dig ∈ L))) = (cln s).blobs := by
  rw [← Yw HL.out]
  unfold Xq
  refine List.filter_congr fun b hb => ?_
  rw [Bool.not_not]
 rw [hbk] at hx4
 obtain ⟨A', c', e1, -, -, -⟩ := hx4.rwo.rows
 subst e1
 have ho4 := ho3'.turnB hx4 hg4 hob
 have hS3l := hS3.lt
 have hR3l := hR3.lt
 have hneH : ∀ k, (Value.slice A s.blobs.length c).ownBlock = some k → k < H := h41
 have hS4 := hS3.grown hg4 (fun e => by have := h41 H e; omega)
 have hR4 := hR3.grown hg4 (fun e => by have := h41 (H + 1) e; omega)
 have HGR4 := Lib.hid (HGR3.out.trans hg4)
 have f0 := hS4.frozen 0
 have y0 := hS4.cell (k := 0) rfl
 have hS5 := hS4.set (k := 0) (by simp) (.slice A' (cln s).blobs.length c')
 have hR5 := hR4.other (g' := H) (k := 0) (by omega) (.slice A' (cln s).blobs.length c')
 have hv1b : (Value.slice A' (cln s).blobs.length c').ownBlock ≠ some H := fun e => by rw [hob] at e; have := h41 H e; omega
 have hv1c : (Value.slice A' (cln s).blobs.length c').ownBlock ≠ some (H + 1) := fun e => by rw [hob] at e; have := h41 (H + 1) e; omega
 have hv2b : (Value.slice B s.ents.length d).ownBlock ≠ some H := fun e => by have := h42 H e; omega
 have hv2c : (Value.slice B s.ents.length d).ownBlock ≠ some (H + 1) := fun e => by have := h42 (H + 1) e; omega
 have ho5 := ho4.setX (g := H) (k := 0) (.inr (.inl rfl)) hv1b hv2b (.slice A' (cln s).blobs.length c')
 have HGR5 := Lib.hid (zt (H := H) (k := 0) (u := (.slice A' (cln s).blobs.length c')) HGR4.out (by rw [HHW.out]; exact Nat.le_refl _))
 have z0 := hS5.cell (k := 0) rfl
 have z1 := hS5.cell (k := 1) rfl
 have z2 := hS5.cell (k := 2) rfl
 have z3 := hS5.cell (k := 3) rfl
 have r0 := hR5.frozen 0
 have r1 := hR5.frozen 1
 have r2 := hR5.frozen 2
 have r3 := hR5.frozen 3
 have x0 := hR5.cell (k := 0) rfl
 have x1 := hR5.cell (k := 1) rfl
 have x2 := hR5.cell (k := 2) rfl
 have x3 := hR5.cell (k := 3) rfl
 have hfin := hR5.all4 (.slice A' (cln s).blobs.length c') (.slice B s.ents.length d) (.int .i64 (s.room : Int)) (.int .i64 (s.clock : Int))
 have ho6 := (((ho5.setX (g := H + 1) (k := 0) (.inr (.inr (by rw [HHW.out]))) hv1c hv2c (.slice A' (cln s).blobs.length c')).setX (g := H + 1) (k := 1) (.inr (.inr (by rw [HHW.out]))) hv1c hv2c (.slice B s.ents.length d)).setX (g := H + 1) (k := 2) (.inr (.inr (by rw [HHW.out]))) hv1c hv2c (.int .i64 (s.room : Int))).setX (g := H + 1) (k := 3) (.inr (.inr (by rw [HHW.out]))) hv1c hv2c (.int .i64 (s.clock : Int))
 have HGR6 := Lib.hid (zt (H := H + 1) (k := 3) (u := (.int .i64 (s.clock : Int))) (zt (H := H + 1) (k := 2) (u := (.int .i64 (s.room : Int))) (zt (H := H + 1) (k := 1) (u := (.slice B s.ents.length d)) (zt (H := H + 1) (k := 0) (u := (.slice A' (cln s).blobs.length c')) HGR5.out (by rw [HHW.out]; omega)) (by rw [HHW.out]; omega)) (by rw [HHW.out]; omega)) (by rw [HHW.out]; omega))
 have HOB := Lib.hid hob
 have HO6 := Lib.hid ho6
 clear ho3' hx4 ho4 hg4 hS3 hR3 hS4 hR4 hS5 hR5 ho5 ho6 hob hbk hv1b hv1c hv2b hv2c hneH h41 h42
 go_wp2_with fail
 refine bodyPost_ret (results_cell_row rfl _ _ (H + 1) _ _ _ _ (by rfl) hfin Tryz.underlying26 rfl (by kernel_rfl)) rfl ?_
 exact ⟨(.slice A' (cln s).blobs.length c'), rfl, HO6.out.mono (fun b hb => .inl hb), HGR6.out, HOB.out⟩
end Go.Proofs.YtngfnjekjfeacaaGreat
namespace Go.Proofs.YtngfnjekjfeacaaGreat
open Go.RowKit
set_option linter.unusedVariables false
set_option linter.unusedSimpArgs false
set_option maxRecDepth 100000
set_option maxHeartbeats 16000000 in
theorem Kw (A : Option Addr) (c : Nat) (B : Option Addr) (d : Nat) (s : StoP) (w : World) (hg : GoodS s) (hr : RdSt w A c B d s) :
  Calls Tryz.prog 23 #[.agg #[.slice A s.blobs.length c, .slice B s.ents.length d, .int .i64 (s.room : Int), .int .i64 (s.clock : Int)]] w fun e w' =>
   ∃ v1 v2, e = .returned (.tuple #[.agg #[v1, v2, .int .i64 (s.room : Int), .int .i64 (s.clock : Int)], .int .i64 ((s.blobs.length : Int) - ((cln s).blobs.length : Int)), .int .i64 0]) ∧ OwSt w' w.heap.size v1 v2 (cln s) (fun b => b < w.heap.size) ∧ Below w.heap.size w w' := by
 have hlb : s.blobs.length ≤ 24 := hg.b.len
 have hle : s.ents.length ≤ 10 := hg.e.len
 have hcl := ji s
 have HGD := Lib.hid hg
 obtain ⟨w0, hw0, hS, hR, hb0⟩ := qc w 26 [.slice A s.blobs.length c, .slice B s.ents.length d, .int .i64 (s.room : Int), .int .i64 (s.clock : Int)] [.slice none 0 0, .slice none 0 0, .int .i64 0, .int .i64 0]
 have hr0 := hr.below hb0
 obtain ⟨H, hH⟩ : ∃ H, H = w.heap.size := ⟨_, rfl⟩
 have HCK := Lib.hid (zQ A c B d s w0 hg hr0)
 rw [← hH] at hS hR hb0 ⊢
 have hHl : H < w0.heap.size := hS.lt
 have hHr : H + 1 < w0.heap.size := hR.lt
 have x0 := hS.cell (k := 0) rfl
 have x1 := hS.cell (k := 1) rfl
 have x2 := hS.cell (k := 2) rfl
 have x3 := hS.cell (k := 3) rfl
 rw [hw0, hH] at x0 x1 x2 x3
 have HPL := Lib.hid (show ∀ b ∈ s.blobs, b.data.length ≤ 1000000 from fun b hb => by have := (hg.b.one b hb).2.1; omega)
 have HQL := Lib.hid (show ∀ x ∈ s.ents, x.parts.length ≤ 1000000 from fun x hx => by have := (zi (hg.e.one x hx).2.1).1; omega)
 have HG := Lib.hid hg
 clear hg hr
 go_enter Tryz.func23, Tryz.ntmps23
 go_wp2_with fail
 rw [← hw0, ← hH]
 have HH := Lib.hid hH
 clear hw0 hH x0 x1 x2 x3
 refine ((HCK.out)).mono ?_; rintro e_ w1 ⟨rfl, hb1⟩; dsimp only
 have hr1 := hr0.below hb1
 have hS1 := hS.below hb1
 have z0 := hS1.cell (k := 0) rfl
 have z1 := hS1.cell (k := 1) rfl
 have z2 := hS1.cell (k := 2) rfl
 have z3 := hS1.cell (k := 3) rfl
 have HCP := Lib.hid (kk A c B d s w1 (by omega) (by omega) HPL.out HQL.out hr1)
 clear hr0 hS
 go_wp2_with fail
 clear z0 z1 z2 z3
 refine ((HCP.out)).mono ?_; rintro e_ w3 ⟨q1, q2, rfl, ho3, hb3⟩; dsimp only
 have hc3 := hb1.trans (hb3.mono hb1.size)
 have hS3 := hS1.below hb3
 have hcln := KS w1.heap.size _ _ s w3 (fun b => b < w1.heap.size) HGD.out ho3
 simp only [stV, Yp, ZR] at hcln
 have HCL := Lib.hid hcln
 clear hcln hr1 hS1 hb3 HCP
 have HO3 := Lib.hid ho3
 clear ho3
 go_wp2_with fail
 refine ((HCL.out)).mono ?_; rintro e_ w4 ⟨v1', rfl, ho4, hg4, hob⟩; dsimp only
 obtain ⟨A', c', B', d', e1, e2, hrd4⟩ := ho4.rows
 subst e1
 injection e2 with e21 e22 e23
 subst e21 e23
 clear e22
 have hq1 : ∀ b, (Value.slice (some ⟨q1, 0, none⟩) s.blobs.length s.blobs.length).ownBlock = some b → w1.heap.size ≤ b := fun b e => (HO3.out.b.rwo.blk e).1
 have hc4 : Below w0.heap.size w0 w4 := hc3.grown hg4 hc3.size (fun k hk => by have := hq1 k hk; have := hb1.size; omega)
 have hS4 := hS3.grown hg4 (fun e => by have := hq1 H e; have := hb1.size; omega)
 have hR4 := (hR.below hc3).grown hg4 (fun e => by have := hq1 (H + 1) e; have := hb1.size; omega)
 obtain ⟨G, hGe⟩ : ∃ G, G = w4.heap.size := ⟨_, rfl⟩
 have hba := (Below.refl w4.heap.size w4).alloc (Nat.le_refl _) (.cells #[(.slice A' (cln s).blobs.length c'), (.slice (some ⟨q2, 0, none⟩) s.ents.length s.ents.length), .int .i64 (s.room : Int), .int .i64 (s.clock : Int)] 26)
 have hX : Arr (w4.alloc (.cells #[(.slice A' (cln s).blobs.length c'), (.slice (some ⟨q2, 0, none⟩) s.ents.length s.ents.length), .int .i64 (s.room : Int), .int .i64 (s.clock : Int)] 26)) G 26 [(.slice A' (cln s).blobs.length c'), (.slice (some ⟨q2, 0, none⟩) s.ents.length s.ents.length), .int .i64 (s.room : Int), .int .i64 (s.clock : Int)] := by rw [hGe]; exact Arr.new w4 26 _
 have hS := hS4.below hba
 have hR7 := hR4.below hba
 have hrd7 := hrd4.below hba
 have hb := (hb0.trans (hc4.mono (Nat.le_of_lt hHl))).alloc (by have := hc4.size; omega) (.cells #[(.slice A' (cln s).blobs.length c'), (.slice (some ⟨q2, 0, none⟩) s.ents.length s.ents.length), .int .i64 (s.room : Int), .int .i64 (s.clock : Int)] 26)
 have h04 := hc4.size
 have hba4 := hba.size
 have HGE := Lib.hid hGe
 have hG4 : w0.heap.size ≤ G := by rw [hGe]; exact h04
 clear hS4 hR4 hrd4 hc4 hba ho4 hg4 hob hR hb0 hS3 hc3 hb1 hGe hq1
 repeat' ((fail_if_success (with_reducible refine at_reg_ 5 ?_)); (fail_if_success (with_reducible refine at_sreg_ 5 ?_)); (fail_if_success (with_reducible refine at_ssreg_ 5 ?_)); (fail_if_success at_builtin); (fail_if_success at_make); (first | go_values | go_skip | go_guarded | go_step | go_upon | go_back))
 rw [← HGE.out]
 generalize (w4.alloc (.cells #[(.slice A' (cln s).blobs.length c'), (.slice (some ⟨q2, 0, none⟩) s.ents.length s.ents.length), .int .i64 (s.room : Int), .int .i64 (s.clock : Int)] 26)) = w7 at *
 have hR := hR7
 clear hR7
 have hw7 : H ≤ w7.heap.size := by omega
 have hH7 : H + 1 < w7.heap.size := by omega
 have hHH : H ≠ H + 1 := by omega
 have hGH : G ≠ H + 1 := by omega
 have hwd : IntKind.i64.wrap ((s.blobs.length : Int) - ((cln s).blobs.length : Int)) = (s.blobs.length : Int) - ((cln s).blobs.length : Int) := IntWalk.i64_in _ (by omega)
 have HSB := Lib.hid (show ∀ W, Below w7.heap.size w7 W → (W.cell? ⟨H, 0, none⟩ = some (.slice A s.blobs.length c) ∧ (W.cell? ⟨G, 0, none⟩ = some (.slice A' (cln s).blobs.length c') ∧ W.cell? ⟨G, 1, none⟩ = some (.slice (some ⟨q2, 0, none⟩) s.ents.length s.ents.length) ∧ W.cell? ⟨G, 2, none⟩ = some (.int .i64 (s.room : Int)) ∧ W.cell? ⟨G, 3, none⟩ = some (.int .i64 (s.clock : Int)))) from fun W h => ⟨(hS.below h).cell (k := 0) rfl, (hX.below h).cell (k := 0) rfl, (hX.below h).cell (k := 1) rfl, (hX.below h).cell (k := 2) rfl, (hX.below h).cell (k := 3) rfl⟩)
 have hgc := vL HGD.out
 have HCP := Lib.hid (show ∀ W, Below w7.heap.size w7 W → Calls Tryz.prog 19 #[.agg #[.slice A' (cln s).blobs.length c', .slice (some ⟨q2, 0, none⟩) s.ents.length s.ents.length, .int .i64 (s.room : Int), .int .i64 (s.clock : Int)]] W fun e w' => ∃ g1 g2, e = .returned (.agg #[.slice (some ⟨g1, 0, none⟩) (cln s).blobs.length (cln s).blobs.length, .slice (some ⟨g2, 0, none⟩) s.ents.length s.ents.length, .int .i64 (s.room : Int), .int .i64 (s.clock : Int)]) ∧ OwSt w' W.heap.size (.slice (some ⟨g1, 0, none⟩) (cln s).blobs.length (cln s).blobs.length) (.slice (some ⟨g2, 0, none⟩) s.ents.length s.ents.length) (cln s) (fun b => b < W.heap.size) ∧ Below W.heap.size W w' by
  intro W h
  exact kk A' c' (some ⟨q2, 0, none⟩) s.ents.length (cln s) W (by omega) (by rw [Z9]; omega) (fun b hb => by have := (hgc.b.one b hb).2.1; omega) (fun x hx => by have := (zi (hgc.e.one x hx).2.1).1; omega) (hrd7.below h))
 clear hS hX hrd7 hgc
 refine wp_region_held_drew (S := (fun w' => w'.cell? ⟨H, 0, none⟩ = some (.slice A s.blobs.length c) ∧ (w'.cell? ⟨G, 0, none⟩ = some (.slice A' (cln s).blobs.length c') ∧ w'.cell? ⟨G, 1, none⟩ = some (.slice (some ⟨q2, 0, none⟩) s.ents.length s.ents.length) ∧ w'.cell? ⟨G, 2, none⟩ = some (.int .i64 (s.room : Int)) ∧ w'.cell? ⟨G, 3, none⟩ = some (.int .i64 (s.clock : Int))))) (by kernel_rfl) ?_ (fun hHeld => ?_)
 ·exact HSB.out _ (Below.refl _ w7).drew
 have hB := (Below.refl w7.heap.size w7).drew
 generalize w7.drew = wn0 at *
 refine sqTH 0 ?_;try simp only [sqP]
 refine sqTH 2 ?_;try simp only [sqP]
 refine sqTH 3 ?_;try simp only [sqP]
 refine sqTH 4 ?_;try simp only [sqP]
 refine sqTH 5 ?_;try simp only [sqP]
 refine sqTH 6 ?_;try simp only [sqP]
 refine sqTH 7 ?_;try simp only [sqP]
 refine sqTH 8 ?_;try simp only [sqP]
 refine wpAnyH_ready (rs := [1]) (by kernel_rfl) (by simp) ?_
 refine AllReadyH.cons (o := _) rfl (fun K hK => ?_) ?_
 ·
  go_simp
  refine (HCP.out wn0 hB).mono ?_
  rintro e9 w9 ⟨g1, g2, rfl, ho9, hb9⟩
  dsimp only
  refine zF hK ?_ (Below wn0.heap.size wn0) (fun W => OwSt W w7.heap.size (.slice (some ⟨g1, 0, none⟩) (cln s).blobs.length (cln s).blobs.length) (.slice (some ⟨g2, 0, none⟩) s.ents.length s.ents.length) (cln s) (fun b => b < w7.heap.size)) ?_ ?_ (fun wn1 hHeld hst hnew => ?_)
  ·(exact HSB.out _ (hB.trans (hb9.mono hB.size)))
  ·(exact hb9)
  ·(exact (ho9.lower hB.size).wider (fun b hb => .inl (Nat.lt_of_lt_of_le hb hB.size)))
  have hB := hB.trans (hst.mono hB.size)
  have ho := hnew
  clear hnew
  clear hst
  clear hK K
  try simp only [sqP]
  refine wpAnyH_ready (rs := [9]) (by kernel_rfl) (by simp) ?_
  refine AllReadyH.cons (o := _) rfl (fun K hK => ?_) ?_
  ·
   have f0 := (hR.below hB).frozen 0
   have f1 := (hR.below hB).frozen 1
   have f2 := (hR.below hB).frozen 2
   have f3 := (hR.below hB).frozen 3
   have y0 := (hR.below hB).cell (k := 0) rfl
   have y1 := (hR.below hB).cell (k := 1) rfl
   have y2 := (hR.below hB).cell (k := 2) rfl
   have y3 := (hR.below hB).cell (k := 3) rfl
   go_simp
   clear f0 f1 f2 f3 y0 y1 y2 y3
   have hfin := (hR.below hB).all4 (Value.slice (some ⟨g1, 0, none⟩) (cln s).blobs.length (cln s).blobs.length) (Value.slice (some ⟨g2, 0, none⟩) s.ents.length s.ents.length) (.int .i64 (s.room : Int)) (.int .i64 (s.clock : Int))
   have hoF := (((ho.set (g := H + 1) (k := 0) hH7 hH7 (Value.slice (some ⟨g1, 0, none⟩) (cln s).blobs.length (cln s).blobs.length)).set (g := H + 1) (k := 1) hH7 hH7 (Value.slice (some ⟨g2, 0, none⟩) s.ents.length s.ents.length)).set (g := H + 1) (k := 2) hH7 hH7 (.int .i64 (s.room : Int))).set (g := H + 1) (k := 3) hH7 hH7 (.int .i64 (s.clock : Int))
   have hb1 := hb.trans (hB.mono hw7)
   have hbF := (((hb1.setCell (p := ⟨H + 1, 0, none⟩) (by simp only; omega) (Value.slice (some ⟨g1, 0, none⟩) (cln s).blobs.length (cln s).blobs.length)).setCell (p := ⟨H + 1, 1, none⟩) (by simp only; omega) (Value.slice (some ⟨g2, 0, none⟩) s.ents.length s.ents.length)).setCell (p := ⟨H + 1, 2, none⟩) (by simp only; omega) (.int .i64 (s.room : Int))).setCell (p := ⟨H + 1, 3, none⟩) (by simp only; omega) (.int .i64 (s.clock : Int))
   refine zF hK ?_ (fun W => Arr W (H + 1) 26 [(Value.slice (some ⟨g1, 0, none⟩) (cln s).blobs.length (cln s).blobs.length), (Value.slice (some ⟨g2, 0, none⟩) s.ents.length s.ents.length), .int .i64 (s.room : Int), .int .i64 (s.clock : Int)]) (fun W => OwSt W w7.heap.size (Value.slice (some ⟨g1, 0, none⟩) (cln s).blobs.length (cln s).blobs.length) (Value.slice (some ⟨g2, 0, none⟩) s.ents.length s.ents.length) (cln s) (fun b => b < w7.heap.size) ∧ Below H w W) ?_ ?_ (fun wn2 hHeld hF hG => ?_)
   ·have h1 := HSB.out _ hB
    rw [qu hHH, qu hGH, qu hGH, qu hGH, qu hGH]
    exact h1
   ·exact hfin
   ·exact ⟨hoF, hbF⟩
   clear hB hfin ho hoF hb1 hbF
   clear hK K
   try simp only [sqP]
   refine sqTH 10 ?_;try simp only [sqP]
   refine sqTH 11 ?_;try simp only [sqP]
   refine wpAnyH_done (by kernel_rfl) ?_ _
   dsimp only [Exit.then]
   clear hHeld
   obtain ⟨hoF, hbF⟩ := hG
   go_wp2_with fail
   refine bodyPost_ret (kV rfl _ _ (H + 1) _ _ _ _ (by rfl) hF Tryz.underlying26 rfl (by kernel_rfl)) rfl ?_
   exact ⟨_, _, rfl, (hoF.lower (base' := H) (by omega)).wider (N' := fun b => b < H) (fun b hb => .inl (by omega)), hbF⟩
  exact AllReadyH.nil
 exact AllReadyH.nil
end Go.Proofs.YtngfnjekjfeacaaGreat
namespace Go.Proofs.YtngfnjekjfeacaaGreat
open Go.RowKit Go.Maps
set_option linter.unusedVariables false
set_option linter.unusedSimpArgs false
set_option maxRecDepth 100000
def wst (bl : List BlobP) (L : List (List UInt8)) : List (List UInt8) := (bl.filter (fun b => !decide (b.dig ∈ L))).map (·.dig)
theorem YI (bl : List BlobP) (L : List (List UInt8)) (k : Nat) (h : k < bl.length) : wst (bl.take (k + 1)) L = wst (bl.take k) L ++ (if bl[k].dig ∈ L then [] else [bl[k].dig]) := by
 unfold wst
 rw [List.take_succ_eq_append_getElem h, List.filter_append, List.map_append]
 congr 1
 by_cases hp : bl[k].dig ∈ L
 ·rw [if_pos hp, List.filter_cons_of_neg (by simpa using hp)]; rfl
 ·rw [if_neg hp, List.filter_cons_of_pos (by simpa using hp)]; rfl
theorem ZW (bl : List BlobP) (L : List (List UInt8)) : (wst bl L).length ≤ bl.length := by
 unfold wst; rw [List.length_map]; exact List.length_filter_le _ _
set_option maxHeartbeats 4000000 in
theorem Yd (A B : Option Addr) (c d : Nat) (s : StoP) (w : World) (hg : GoodS s) (hrd : RdSt w A c B d s) :
  Calls Tryz.prog 46 #[.agg #[.slice A s.blobs.length c, .slice B s.ents.length d, .int .i64 (s.room : Int), .int .i64 (s.clock : Int)]] w fun e w' => ∃ v L, e = .returned (.tuple #[v, .int .i64 0]) ∧ StrL L (Rch s.blobs (rts s)) ∧ w'.ownsRow w.heap.size 9 1 v (wst s.blobs L).length (strs (wst s.blobs L)) ∧ Below w.heap.size w w' := by
 have HGS := Lib.hid hg
 have hbl := hg.b.len
 have hx0 : Arr (w.alloc (.cells #[.slice A s.blobs.length c, .slice B s.ents.length d, .int .i64 (s.room : Int), .int .i64 (s.clock : Int)] 26)) w.heap.size 26 [.slice A s.blobs.length c, .slice B s.ents.length d, .int .i64 (s.room : Int), .int .i64 (s.clock : Int)] := Arr.new w 26 _
 have hb0 := (Below.refl w.heap.size w).alloc (Nat.le_refl _) (.cells #[.slice A s.blobs.length c, .slice B s.ents.length d, .int .i64 (s.room : Int), .int .i64 (s.clock : Int)] 26)
 have hrd1 := hrd.below hb0
 have hb63 : (s.blobs.length : Int) ≤ 9223372036854775807 := by omega
 have q0 := hx0.cell (k := 0) rfl
 have q1 := hx0.cell (k := 1) rfl
 have q2 := hx0.cell (k := 2) rfl
 have q3 := hx0.cell (k := 3) rfl
 clear hg hrd
 go_enter Tryz.func46, Tryz.ntmps46
 go_wp2_with fail
 generalize (w.alloc (.cells #[.slice A s.blobs.length c, .slice B s.ents.length d, .int .i64 (s.room : Int), .int .i64 (s.clock : Int)] 26)) = w1 at *
 obtain ⟨gS, hgS⟩ : ∃ g, g = w.heap.size := ⟨_, rfl⟩
 rw [← hgS] at hx0 q0 q1 q2 q3 ⊢
 have HgS := Lib.hid hgS
 clear hgS
 refine ((zQ A c B d s w1 HGS.out hrd1)).mono ?_; rintro e_ w2 ⟨rfl, hb2⟩; dsimp only
 have hx2 := hx0.below hb2
 have hb02 := hb0.trans (hb2.mono hb0.size)
 have hrd2 := hrd1.below hb2
 clear q0 q1 q2 q3 hx0 hb0 hrd1 hb2
 have q0 := hx2.cell (k := 0) rfl
 have q1 := hx2.cell (k := 1) rfl
 have q2 := hx2.cell (k := 2) rfl
 have q3 := hx2.cell (k := 3) rfl
 go_wp2_with fail
 refine ((xt A B c d s (s.room : Int) (s.clock : Int) w2 HGS.out.rts hrd2)).mono ?_; rintro e_ w3 ⟨v3, L, rfl, hL, hLl, ho3, hb3⟩; dsimp only
 have hx3 := hx2.below hb3
 have hb03 := hb02.trans (hb3.mono hb02.size)
 have HRD3 := Lib.hid (hrd2.below hb3)
 obtain ⟨AL, cL, rfl, hcL, hrL⟩ := Rd.of_own' ho3
 have HL := Lib.hid hL
 have HRL := Lib.hid hrL
 have hLn : L.length ≤ 24 := by omega
 clear q0 q1 q2 q3 hx2 hrd2 hb02 hb3 ho3 hL hrL
 have q0 := hx3.cell (k := 0) rfl
 have hB0 : ∀ bb off, AL = some ⟨bb, off, none⟩ → 0 < L.length → bb < w3.heap.size := fun bb off e h0 => by
  obtain ⟨b', o', e', hb', _⟩ := HRL.out.2 h0
  rw [e] at e'; cases e'; exact hb'
 go_wp2_with fail
 clear q0
 go_loopg [6, 19] s.blobs.length (fun gn u i wr => ∃ k : Nat, gn = s.blobs.length - k ∧ i = .int .i64 k ∧ k ≤ s.blobs.length ∧ wr.ownsRow w3.heap.size 9 1 u (wst (s.blobs.take k) L).length (strs (wst (s.blobs.take k) L)) ∧ Below w3.heap.size w3 wr)
 case atStart => exact ⟨0, rfl, rfl, by omega, by rw [List.take_zero]; exact World.ownsRow_nil _ _ _ _, Below.refl _ _⟩
 case round =>
  obtain ⟨k, hgk, rfl, hk, hown, hbel⟩ := hrel
  have HGK := Lib.hid hgk
  clear hgk
  by_cases hlt : k < s.blobs.length
  rotate_left
  ·obtain rfl : k = s.blobs.length := by omega
   have hlb : decide (s.blobs.length < s.blobs.length) = false := by simp
   rw [List.take_length] at hown
   have HOW := Lib.hid hown
   have HB9 := Lib.hid (hb03.trans (hbel.mono hb03.size))
   have HS3 := Lib.hid hb03.size
   clear hown
   go_wp2_with fail
   have e9 := HgS.out
   subst e9
   go_ret2
   exact ⟨_, L, rfl, HL.out, zb HOW.out HS3.out, HB9.out⟩
  have hlb : decide (k < s.blobs.length) = true := decide_eq_true hlt
  have hk0 : (0 : Int) ≤ (k : Int) := by omega
  have hk1 : (k : Int) < (s.blobs.length : Int) := by omega
  obtain ⟨bq, oq, Bq, cq, hA, hbq, d0, d1, d2, d3, hsl⟩ := (HRD3.out.b.below hbel).blob_at k hlt
  subst hA
  have HKL := Lib.hid hlt
  have HSU := Lib.hid (YI s.blobs L k hlt)
  have hwl := ZW (s.blobs.take k) L
  rw [List.length_take] at hwl
  generalize s.blobs[k] = q at *
  have hbox : Arr (wr.alloc (.cells #[.string ⟨q.dig.toArray⟩, .slice Bq q.data.length cq, .int .i64 (q.pins : Int), .bool q.mark] 50)) wr.heap.size 50 [.string ⟨q.dig.toArray⟩, .slice Bq q.data.length cq, .int .i64 (q.pins : Int), .bool q.mark] := Arr.new wr 50 _
  have hbA := hbel.alloc hbel.size (.cells #[.string ⟨q.dig.toArray⟩, .slice Bq q.data.length cq, .int .i64 (q.pins : Int), .bool q.mark] 50)
  have hownA := hown.alloc (.cells #[.string ⟨q.dig.toArray⟩, .slice Bq q.data.length cq, .int .i64 (q.pins : Int), .bool q.mark] 50)
  have p0 := hbox.cell (k := 0) rfl
  have hct := je AL cL L q.dig _ (by omega) (HRL.out.below hbA)
  clear hsl hown
  by_cases hin : q.dig ∈ L
  ·rw [decide_eq_true hin] at hct
   have HCT := Lib.hid hct
   have hsu := HSU.out
   rw [if_pos hin, List.append_nil] at hsu
   have HSV := Lib.hid hsu
   have HOA := Lib.hid hownA
   clear hct hin hsu hownA hbox
   go_wp2_with fail
   refine ((HCT.out)).mono ?_; rintro e_ wx ⟨rfl, rfl⟩; dsimp only
   go_wp2_with fail
   go_roundg (s.blobs.length - (k + 1))
   case measure => have := HGK.out; have := HKL.out; omega
   case rel => exact ⟨k + 1, rfl, by go_num, by have := HKL.out; omega, by rw [HSV.out]; exact HOA.out, hbA⟩
  ·rw [decide_eq_false hin] at hct
   have HCT := Lib.hid hct
   have hsu := HSU.out
   rw [if_neg hin] at hsu
   have HSV := Lib.hid hsu
   clear hct hin hsu
   go_wp2_with fail
   clear d0 d1 d2 d3
   refine ((HCT.out)).mono ?_; rintro e_ wx ⟨rfl, rfl⟩; dsimp only
   generalize (wr.alloc (.cells #[.string ⟨q.dig.toArray⟩, .slice Bq q.data.length cq, .int .i64 (q.pins : Int), .bool q.mark] 50)) = wA at *
   repeat' (fail_if_success (first|at_builtin|at_make));first|go_values|go_skip|go_guarded|go_step|go_upon|go_back
   refine zh rfl (.tmp 28) (.tmp 31) rfl xu (by rfl) hownA (us := [.string ⟨q.dig.toArray⟩]) (by rfl) rfl (by intro u hu; rw [List.mem_singleton.1 hu]; rfl) (by omega) hbA.size ?_
   intro v9 w9 ho9 hg9 hv9
   have hb9 := zc hbA hownA (Nat.le_refl _) hg9
   have HO9 := Lib.hid ho9
   clear ho9 hg9 hv9 hownA p0 hbox
   go_wp2_with fail
   go_roundg (s.blobs.length - (k + 1))
   case measure => have := HGK.out; have := HKL.out; omega
   case rel => exact ⟨k + 1, rfl, by go_num, by have := HKL.out; omega, by rw [HSV.out, y8, List.length_append]; exact HO9.out, hb9⟩
end Go.Proofs.YtngfnjekjfeacaaGreat
