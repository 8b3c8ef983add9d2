/- mark.All. Conditions: the sizes. -/
import Derived.Test.YtmjcoebfldmgnaaGreatMrk
namespace Go.Proofs.YtmjcoebfldmgnaaGreat
open Go.RowKit Go.Maps
set_option linter.unusedVariables false
set_option linter.unusedSimpArgs false
set_option maxRecDepth 100000

/-- blobs, those on the list marked -/
def mkAll (bl : List BlobP) (L : List (List UInt8)) : List BlobP := bl.map fun b => if b.dig ∈ L then { b with mark := true } else b
theorem mkAll_nil (bl : List BlobP) : mkAll bl [] = bl := by simp [mkAll]
theorem mkAll_len (bl : List BlobP) (L : List (List UInt8)) : (mkAll bl L).length = bl.length := by simp [mkAll]
theorem mkAll_eqM (bl : List BlobP) (L : List (List UInt8)) : EqM bl (mkAll bl L) := by
  unfold EqM mkAll
  rw [List.map_map]
  refine List.map_congr_left fun b _ => ?_
  show NoM b = NoM (if b.dig ∈ L then { b with mark := true } else b)
  split <;> rfl
theorem mkAll_at (bl : List BlobP) (L : List (List UInt8)) (i : Nat) (h : i < bl.length) (h' : i < (mkAll bl L).length) : (mkAll bl L)[i] = if bl[i].dig ∈ L then { bl[i] with mark := true } else bl[i] := by
  simp [mkAll]
theorem mkAll_mark (bl : List BlobP) (L : List (List UInt8)) (i : Nat) (h : i < bl.length) (h' : i < (mkAll bl L).length) : (mkAll bl L)[i].mark = (bl[i].mark || decide (bl[i].dig ∈ L)) := by
  rw [mkAll_at bl L i h h']
  by_cases hm : bl[i].dig ∈ L
  · rw [if_pos hm, decide_eq_true hm]; simp
  · rw [if_neg hm, decide_eq_false hm]; simp
theorem mkAll_snoc {bl : List BlobP} (hr : RisesBy (·.dig) bl) (L : List (List UInt8)) (d : List UInt8) {i : Nat} (hi : i < (mkAll bl L).length) (hd : (mkAll bl L)[i].dig = d) : (mkAll bl L).set i { (mkAll bl L)[i] with mark := true } = mkAll bl (L ++ [d]) := by
  have hi' : i < bl.length := by rw [← mkAll_len bl L]; exact hi
  refine List.ext_getElem (by rw [List.length_set, mkAll_len, mkAll_len]) fun j h1 h2 => ?_
  have hj : j < bl.length := by rw [← mkAll_len bl (L ++ [d])]; exact h2
  have hdi : ∀ k (h : k < bl.length) (h' : k < (mkAll bl L).length), (mkAll bl L)[k].dig = bl[k].dig := fun k h h' => by
    rw [mkAll_at bl L k h h']; split <;> rfl
  rw [List.getElem_set, mkAll_at bl (L ++ [d]) j hj h2]
  by_cases hij : i = j
  · subst hij
    rw [if_pos rfl, if_pos (by rw [← hdi i hi' hi, hd]; simp), mkAll_at bl L i hi' hi]
    split <;> rfl
  · rw [if_neg hij, mkAll_at bl L j hj (by rw [mkAll_len]; exact hj)]
    have hne : bl[j].dig ≠ d := fun e => by
      rw [← hd, hdi i hi' hi] at e
      have hnd := hr.map.nodup
      have := (List.getElem_inj (xs := bl.map (·.dig)) (i := j) (j := i) (h₀ := by simpa using hj) (h₁ := by simpa using hi') hnd).1 (by simpa using e)
      exact hij this.symm
    by_cases hm : bl[j].dig ∈ L
    · rw [if_pos hm, if_pos (by simp [hm])]
    · rw [if_neg hm, if_neg (by simp [hm, hne])]
theorem RwX.set1' {α : Type} {S : Shp α} {e : TypeId} {w : World} {base g n cap i j : Nat} {u : Value} {y : α} {l : List α} {N : Nat → Prop} (h : RwX S e w base (.slice (some ⟨g, 0, none⟩) n cap) l N) (hn : n = l.length) (hi : i < l.length) (hj : j < S.size)
    (hR : ∀ W cs, S.R W l[i] cs → S.R W y (cs.set j u)) (hlead : ∀ b, ¬ leads b [u]) :
    (∃ v0, w.cell? ⟨g, i * S.size + j, none⟩ = some v0) ∧ w.frozen? ⟨g, i * S.size + j, none⟩ = false ∧
      RwX S e (w.setCell ⟨g, i * S.size + j, none⟩ u) base (.slice (some ⟨g, 0, none⟩) n cap) (l.set i y) N ∧ w.grownBy (w.setCell ⟨g, i * S.size + j, none⟩ u) (some g) := by
  subst hn; exact h.set1 hi hj hR hlead
set_option maxHeartbeats 8000000 in
theorem MAll_ok (A D : Option Addr) (c dc : Nat) (bl : List BlobP) (ds : List (List UInt8)) (w : World) (hl : bl.length ≤ 1000) (hcap : bl.length ≤ c) (hcm : c ≤ maxLen) (hri : RisesBy (·.dig) bl) (hdat : ∀ b ∈ bl, b.data.length ≤ 1000000) (hdig : ∀ x ∈ bl, x.dig.length ≤ 1000) (hrd : Rw BlobS w A bl) (hdn : ds.length ≤ 1000000) (hrd2 : Rd w 1 D ds.length (strs ds)) :
    Calls Tryz.prog 35 #[.slice A bl.length c, .slice D ds.length dc] w fun e w' => ∃ g L, e = .returned (.slice (some ⟨g, 0, none⟩) bl.length bl.length) ∧ StrL L (Rch bl ds) ∧ RwX BlobS 51 w' w.heap.size (.slice (some ⟨g, 0, none⟩) bl.length bl.length) (mkAll bl L) (fun b => b < w.heap.size) ∧ Below w.heap.size w w' := by
  have HCP := Lib.hid (CopyB_ok A c bl w (by omega) hdat hrd)
  have HFR := Lib.hid (fun W (h : Below w.heap.size w W) => From_ok A D c dc bl ds W hl hcap hcm hdig (hrd.below h) hdn (hrd2.below h))
  have HRI := Lib.hid hri
  clear hdat hdig hrd hdn hrd2 hri
  go_enter Tryz.func35, Tryz.ntmps35
  repeat' ((fail_if_success at_builtin); (fail_if_success at_make); (first | go_values | go_skip | go_guarded | go_step | go_upon | go_back))
  refine ((HCP.out)).mono ?_; rintro e_ w1 ⟨q1, rfl, hx1, hb1⟩; dsimp only
  have HF1 := Lib.hid (HFR.out w1 hb1)
  clear HCP HFR
  repeat' ((fail_if_success at_builtin); (fail_if_success at_make); (first | go_values | go_skip | go_guarded | go_step | go_upon | go_back))
  refine ((HF1.out)).mono ?_; rintro e_ w2 ⟨v2, L, rfl, hL, hLl, ho2, hb2⟩; dsimp only
  obtain ⟨AL, cL, rfl, _, hrL⟩ := Rd.of_own' ho2
  have hLb : ∀ a, AL = some a → w1.heap.size ≤ a.block := fun a e => by
    obtain ⟨A', c', e1, _, h⟩ := Sl.of_own ho2
    injection e1 with e1 _ _
    exact h a (by rw [← e1]; exact e)
  have hx2 := hx1.below hb2
  have hb12 := hb1.trans (hb2.mono hb1.size)
  have HRL := Lib.hid hrL
  have HL := Lib.hid hL
  have HLB := Lib.hid hLb
  have hq1 : q1 < w1.heap.size := (hx1.rwo.blk rfl).2
  have hL63 : (L.length : Int) ≤ 9223372036854775807 := by omega
  have hb63 : (bl.length : Int) ≤ 9223372036854775807 := by omega
  have hx2' : RwX BlobS 51 w2 w.heap.size (.slice (some ⟨q1, 0, none⟩) bl.length bl.length) (mkAll bl []) (fun b => b < w.heap.size) := by rw [mkAll_nil]; exact hx2
  clear hx1 hb1 hb2 ho2 hL hrL hx2 HF1 hLb
  repeat' ((fail_if_success at_builtin); (fail_if_success at_make); (first | go_values | go_skip | go_guarded | go_step | go_upon | go_back))
  go_loopg [16] L.length (fun gn i wr => ∃ k : Nat, gn = L.length - k ∧ i = .int .i64 k ∧ k ≤ L.length ∧ RwX BlobS 51 wr w.heap.size (.slice (some ⟨q1, 0, none⟩) bl.length bl.length) (mkAll bl (L.take k)) (fun b => b < w.heap.size) ∧ Below w.heap.size w wr ∧ w2.grownBy wr (some q1))
  case atStart => exact ⟨0, rfl, rfl, by omega, hx2', hb12, World.grownBy.refl _ _⟩
  case round =>
    obtain ⟨k, hgk, rfl, hk, hx, hbk, hgr⟩ := hrel
    have HGK := Lib.hid hgk
    clear hgk hx2' hb12
    by_cases hlt : k < L.length
    rotate_left
    · obtain rfl : k = L.length := by omega
      have hlb : decide (L.length < L.length) = false := by simp
      rw [List.take_length] at hx
      have HX := Lib.hid hx
      clear hx
      repeat' ((fail_if_success at_builtin); (fail_if_success at_make); (first | go_values | go_skip | go_guarded | go_step | go_upon | go_back))
      go_ret
      exact ⟨_, L, rfl, HL.out, HX.out, hbk⟩
    have hlb : decide (k < L.length) = true := decide_eq_true hlt
    have hk0 : (0 : Int) ≤ (k : Int) := by omega
    have hk1 : (k : Int) < (L.length : Int) := by omega
    have hrLr : Rd wr 1 AL L.length (strs L) := HRL.out.keepb hgr.size (fun b hb ⟨a, e1, e2⟩ => hgr.block b hb (fun e => by
      injection e with e
      have := HLB.out a e1
      omega))
    obtain ⟨bb, off, hAb, _, hcell⟩ := hrLr.2 (by omega)
    subst hAb
    have c0 := hcell k _ (strs_at L k hlt)
    have hin : InB bl L[k] := ((HL.out.mem _).1 (List.getElem_mem hlt)).inB
    have hin2 : InB (mkAll bl (L.take k)) L[k] := (eqM_inB (mkAll_eqM bl (L.take k))).2 hin
    obtain ⟨i, hfi⟩ : ∃ i, (mkAll bl (L.take k)).findIdx? (fun b => b.dig == L[k]) = some i := by
      rw [inB_idx] at hin2
      exact Option.isSome_iff_exists.1 hin2
    have hi : i < (mkAll bl (L.take k)).length := (List.findIdx?_eq_some_iff_getElem.1 hfi).1
    have hid : (mkAll bl (L.take k))[i].dig = L[k] := by simpa using (List.findIdx?_eq_some_iff_getElem.1 hfi).2.1
    have hib : i < bl.length := by rw [← mkAll_len bl (L.take k)]; exact hi
    have hi0 : (0 : Int) ≤ (i : Int) := by omega
    have hi1 : (i : Int) < (bl.length : Int) := by omega
    have hsn := mkAll_snoc HRI.out (L.take k) L[k] hi hid
    have htk : L.take k ++ [L[k]] = L.take (k + 1) := (List.take_succ_eq_append_getElem hlt).symm
    rw [htk] at hsn
    have hfb := FindB_ok (some ⟨q1, 0, none⟩) bl.length (mkAll bl (L.take k)) L[k] wr (by rw [mkAll_len]; omega) (by
      obtain ⟨A9, c9, e1, _, _, hrw⟩ := hx.rwo.rows
      injection e1 with e1 _ _
      subst e1; exact hrw)
    rw [hfi, mkAll_len] at hfb
    have HFB := Lib.hid hfb
    have HSN := Lib.hid hsn
    have HKL := Lib.hid hlt
    generalize hLk : L[k] = dk at *
    clear hLk hfb hsn htk hfi hin hin2 hcell hid
    repeat' ((fail_if_success at_builtin); (fail_if_success at_make); (first | go_values | go_skip | go_guarded | go_step | go_upon | go_back))
    clear c0
    refine ((HFB.out)).mono ?_; rintro e_ w5 ⟨rfl, hb5⟩; dsimp only
    rw [fndR]
    have hx5 := hx.below hb5
    have hbk5 := hbk.trans (hb5.mono hbk.size)
    have hgr5 := grown_to hgr hb5
    obtain ⟨⟨v0, c3⟩, f3, hx6, hg6⟩ := hx5.set1' (i := i) (j := 3) (y := { (mkAll bl (L.take k))[i] with mark := true }) (u := .bool true) (mkAll_len bl (L.take k)).symm hi (by show 3 < 4; omega) (fun W cs h => blob_mark _ true W cs h) (not_leads_bool true)
    rw [HSN.out] at hx6
    have hbk6 := hbk5.grown hg6 hbk5.size (fun b e => by cases e; exact (hx5.rwo.blk rfl).1)
    have HX6 := Lib.hid hx6
    have HB6 := Lib.hid hbk6
    have HG6 := Lib.hid (hgr5.trans hg6)
    clear hx hx5 hx6 hbk hbk5 hbk6 hgr hgr5 hg6 hb5 hrLr
    simp only [show BlobS.size = 4 from rfl] at c3 f3 HX6 HB6 HG6
    repeat' ((fail_if_success at_builtin); (fail_if_success at_make); (first | go_values | go_skip | go_guarded | go_step | go_upon | go_back))
    go_roundg (L.length - (k + 1))
    case measure => have := HGK.out; have := HKL.out; omega
    case rel => exact ⟨k + 1, rfl, by go_num, by have := HKL.out; omega, HX6.out, HB6.out, HG6.out⟩
end Go.Proofs.YtmjcoebfldmgnaaGreat
