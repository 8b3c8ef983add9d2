/- mark.All. Conditions: the sizes. marks: a closed fact. No condition. -/
import Derived.Test.YtmjcoebfldmgnaaGreatMst
/-! mark.All. Conditions: the sizes -/
namespace Go.Proofs.YtmjcoebfldmgnaaGreat
open Go.RowKit Go.Maps
set_option linter.unusedVariables false
set_option linter.unusedSimpArgs false
set_option maxRecDepth 100000

/-- blobs, those on the list marked -/
def mkAll (bl : List BlobP) (L : List (List UInt8)) : List BlobP := bl.map fun b => if b.dig ∈ L then { b with mark := true } else b
theorem mkAll_nil (bl : List BlobP) : mkAll bl [] = bl := by simp [mkAll]
theorem mkAll_len (bl : List BlobP) (L : List (List UInt8)) : (mkAll bl L).length = bl.length := by simp [mkAll]
theorem mkAll_eqM (bl : List BlobP) (L : List (List UInt8)) : EqM bl (mkAll bl L) := by
  unfold EqM mkAll
  rw [List.map_map]
  refine List.map_congr_left fun b _ => ?_
  show NoM b = NoM (if b.dig ∈ L then { b with mark := true } else b)
  split <;> rfl
theorem mkAll_at (bl : List BlobP) (L : List (List UInt8)) (i : Nat) (h : i < bl.length) (h' : i < (mkAll bl L).length) : (mkAll bl L)[i] = if bl[i].dig ∈ L then { bl[i] with mark := true } else bl[i] := by
  simp [mkAll]
theorem mkAll_mark (bl : List BlobP) (L : List (List UInt8)) (i : Nat) (h : i < bl.length) (h' : i < (mkAll bl L).length) : (mkAll bl L)[i].mark = (bl[i].mark || decide (bl[i].dig ∈ L)) := by
  rw [mkAll_at bl L i h h']
  by_cases hm : bl[i].dig ∈ L
  · rw [if_pos hm, decide_eq_true hm]; simp
  · rw [if_neg hm, decide_eq_false hm]; simp
theorem mkAll_snoc {bl : List BlobP} (hr : RisesBy (·.dig) bl) (L : List (List UInt8)) (d : List UInt8) {i : Nat} (hi : i < (mkAll bl L).length) (hd : (mkAll bl L)[i].dig = d) : (mkAll bl L).set i { (mkAll bl L)[i] with mark := true } = mkAll bl (L ++ [d]) := by
  have hi' : i < bl.length := by rw [← mkAll_len bl L]; exact hi
  refine List.ext_getElem (by rw [List.length_set, mkAll_len, mkAll_len]) fun j h1 h2 => ?_
  have hj : j < bl.length := by rw [← mkAll_len bl (L ++ [d])]; exact h2
  have hdi : ∀ k (h : k < bl.length) (h' : k < (mkAll bl L).length), (mkAll bl L)[k].dig = bl[k].dig := fun k h h' => by
    rw [mkAll_at bl L k h h']; split <;> rfl
  rw [List.getElem_set, mkAll_at bl (L ++ [d]) j hj h2]
  by_cases hij : i = j
  · subst hij
    rw [if_pos rfl, if_pos (by rw [← hdi i hi' hi, hd]; simp), mkAll_at bl L i hi' hi]
    split <;> rfl
  · rw [if_neg hij, mkAll_at bl L j hj (by rw [mkAll_len]; exact hj)]
    have hne : bl[j].dig ≠ d := fun e => by
      rw [← hd, hdi i hi' hi] at e
      have hnd := hr.map.nodup
      have := (List.getElem_inj (xs := bl.map (·.dig)) (i := j) (j := i) (h₀ := by simpa using hj) (h₁ := by simpa using hi') hnd).1 (by simpa using e)
      exact hij this.symm
    by_cases hm : bl[j].dig ∈ L
    · rw [if_pos hm, if_pos (by simp [hm])]
    · rw [if_neg hm, if_neg (by simp [hm, hne])]
theorem RwX.set1' {α : Type} {S : Shp α} {e : TypeId} {w : World} {base g n cap i j : Nat} {u : Value} {y : α} {l : List α} {N : Nat → Prop} (h : RwX S e w base (.slice (some ⟨g, 0, none⟩) n cap) l N) (hn : n = l.length) (hi : i < l.length) (hj : j < S.size)
    (hR : ∀ W cs, S.R W l[i] cs → S.R W y (cs.set j u)) (hlead : ∀ b, ¬ leads b [u]) :
    (∃ v0, w.cell? ⟨g, i * S.size + j, none⟩ = some v0) ∧ w.frozen? ⟨g, i * S.size + j, none⟩ = false ∧
      RwX S e (w.setCell ⟨g, i * S.size + j, none⟩ u) base (.slice (some ⟨g, 0, none⟩) n cap) (l.set i y) N ∧ w.grownBy (w.setCell ⟨g, i * S.size + j, none⟩ u) (some g) := by
  subst hn; exact h.set1 hi hj hR hlead
set_option maxHeartbeats 8000000 in
theorem MAll_ok (A D : Option Addr) (c dc : Nat) (bl : List BlobP) (ds : List (List UInt8)) (w : World) (hl : bl.length ≤ 1000) (hcap : bl.length ≤ c) (hcm : c ≤ maxLen) (hri : RisesBy (·.dig) bl) (hdat : ∀ b ∈ bl, b.data.length ≤ 1000000) (hdig : ∀ x ∈ bl, x.dig.length ≤ 1000) (hrd : Rw BlobS w A bl) (hdn : ds.length ≤ 1000000) (hrd2 : Rd w 1 D ds.length (strs ds)) :
    Calls Tryz.prog 35 #[.slice A bl.length c, .slice D ds.length dc] w fun e w' => ∃ g L, e = .returned (.slice (some ⟨g, 0, none⟩) bl.length bl.length) ∧ StrL L (Rch bl ds) ∧ RwX BlobS 51 w' w.heap.size (.slice (some ⟨g, 0, none⟩) bl.length bl.length) (mkAll bl L) (fun b => b < w.heap.size) ∧ Below w.heap.size w w' := by
  have HCP := Lib.hid (CopyB_ok A c bl w (by omega) hdat hrd)
  have HFR := Lib.hid (fun W (h : Below w.heap.size w W) => From_ok A D c dc bl ds W hl hcap hcm hdig (hrd.below h) hdn (hrd2.below h))
  have HRI := Lib.hid hri
  clear hdat hdig hrd hdn hrd2 hri
  go_enter Tryz.func35, Tryz.ntmps35
  repeat' ((fail_if_success at_builtin); (fail_if_success at_make); (first | go_values | go_skip | go_guarded | go_step | go_upon | go_back))
  refine ((HCP.out)).mono ?_; rintro e_ w1 ⟨q1, rfl, hx1, hb1⟩; dsimp only
  have HF1 := Lib.hid (HFR.out w1 hb1)
  clear HCP HFR
  repeat' ((fail_if_success at_builtin); (fail_if_success at_make); (first | go_values | go_skip | go_guarded | go_step | go_upon | go_back))
  refine ((HF1.out)).mono ?_; rintro e_ w2 ⟨v2, L, rfl, hL, hLl, ho2, hb2⟩; dsimp only
  obtain ⟨AL, cL, rfl, _, hrL⟩ := Rd.of_own' ho2
  have hLb : ∀ a, AL = some a → w1.heap.size ≤ a.block := fun a e => by
    obtain ⟨A', c', e1, _, h⟩ := Sl.of_own ho2
    injection e1 with e1 _ _
    exact h a (by rw [← e1]; exact e)
  have hx2 := hx1.below hb2
  have hb12 := hb1.trans (hb2.mono hb1.size)
  have HRL := Lib.hid hrL
  have HL := Lib.hid hL
  have HLB := Lib.hid hLb
  have hq1 : q1 < w1.heap.size := (hx1.rwo.blk rfl).2
  have hL63 : (L.length : Int) ≤ 9223372036854775807 := by omega
  have hb63 : (bl.length : Int) ≤ 9223372036854775807 := by omega
  have hx2' : RwX BlobS 51 w2 w.heap.size (.slice (some ⟨q1, 0, none⟩) bl.length bl.length) (mkAll bl []) (fun b => b < w.heap.size) := by rw [mkAll_nil]; exact hx2
  clear hx1 hb1 hb2 ho2 hL hrL hx2 HF1 hLb
  repeat' ((fail_if_success at_builtin); (fail_if_success at_make); (first | go_values | go_skip | go_guarded | go_step | go_upon | go_back))
  go_loopg [16] L.length (fun gn i wr => ∃ k : Nat, gn = L.length - k ∧ i = .int .i64 k ∧ k ≤ L.length ∧ RwX BlobS 51 wr w.heap.size (.slice (some ⟨q1, 0, none⟩) bl.length bl.length) (mkAll bl (L.take k)) (fun b => b < w.heap.size) ∧ Below w.heap.size w wr ∧ w2.grownBy wr (some q1))
  case atStart => exact ⟨0, rfl, rfl, by omega, hx2', hb12, World.grownBy.refl _ _⟩
  case round =>
    obtain ⟨k, hgk, rfl, hk, hx, hbk, hgr⟩ := hrel
    have HGK := Lib.hid hgk
    clear hgk hx2' hb12
    by_cases hlt : k < L.length
    rotate_left
    · obtain rfl : k = L.length := by omega
      have hlb : decide (L.length < L.length) = false := by simp
      rw [List.take_length] at hx
      have HX := Lib.hid hx
      clear hx
      repeat' ((fail_if_success at_builtin); (fail_if_success at_make); (first | go_values | go_skip | go_guarded | go_step | go_upon | go_back))
      go_ret
      exact ⟨_, L, rfl, HL.out, HX.out, hbk⟩
    have hlb : decide (k < L.length) = true := decide_eq_true hlt
    have hk0 : (0 : Int) ≤ (k : Int) := by omega
    have hk1 : (k : Int) < (L.length : Int) := by omega
    have hrLr : Rd wr 1 AL L.length (strs L) := HRL.out.keepb hgr.size (fun b hb ⟨a, e1, e2⟩ => hgr.block b hb (fun e => by
      injection e with e
      have := HLB.out a e1
      omega))
    obtain ⟨bb, off, hAb, _, hcell⟩ := hrLr.2 (by omega)
    subst hAb
    have c0 := hcell k _ (strs_at L k hlt)
    have hin : InB bl L[k] := ((HL.out.mem _).1 (List.getElem_mem hlt)).inB
    have hin2 : InB (mkAll bl (L.take k)) L[k] := (eqM_inB (mkAll_eqM bl (L.take k))).2 hin
    obtain ⟨i, hfi⟩ : ∃ i, (mkAll bl (L.take k)).findIdx? (fun b => b.dig == L[k]) = some i := by
      rw [inB_idx] at hin2
      exact Option.isSome_iff_exists.1 hin2
    have hi : i < (mkAll bl (L.take k)).length := (List.findIdx?_eq_some_iff_getElem.1 hfi).1
    have hid : (mkAll bl (L.take k))[i].dig = L[k] := by simpa using (List.findIdx?_eq_some_iff_getElem.1 hfi).2.1
    have hib : i < bl.length := by rw [← mkAll_len bl (L.take k)]; exact hi
    have hi0 : (0 : Int) ≤ (i : Int) := by omega
    have hi1 : (i : Int) < (bl.length : Int) := by omega
    have hsn := mkAll_snoc HRI.out (L.take k) L[k] hi hid
    have htk : L.take k ++ [L[k]] = L.take (k + 1) := (List.take_succ_eq_append_getElem hlt).symm
    rw [htk] at hsn
    have hfb := FindB_ok (some ⟨q1, 0, none⟩) bl.length (mkAll bl (L.take k)) L[k] wr (by rw [mkAll_len]; omega) (by
      obtain ⟨A9, c9, e1, _, _, hrw⟩ := hx.rwo.rows
      injection e1 with e1 _ _
      subst e1; exact hrw)
    rw [hfi, mkAll_len] at hfb
    have HFB := Lib.hid hfb
    have HSN := Lib.hid hsn
    have HKL := Lib.hid hlt
    generalize hLk : L[k] = dk at *
    clear hLk hfb hsn htk hfi hin hin2 hcell hid
    repeat' ((fail_if_success at_builtin); (fail_if_success at_make); (first | go_values | go_skip | go_guarded | go_step | go_upon | go_back))
    clear c0
    refine ((HFB.out)).mono ?_; rintro e_ w5 ⟨rfl, hb5⟩; dsimp only
    rw [fndR]
    have hx5 := hx.below hb5
    have hbk5 := hbk.trans (hb5.mono hbk.size)
    have hgr5 := grown_to hgr hb5
    obtain ⟨⟨v0, c3⟩, f3, hx6, hg6⟩ := hx5.set1' (i := i) (j := 3) (y := { (mkAll bl (L.take k))[i] with mark := true }) (u := .bool true) (mkAll_len bl (L.take k)).symm hi (by show 3 < 4; omega) (fun W cs h => blob_mark _ true W cs h) (not_leads_bool true)
    rw [HSN.out] at hx6
    have hbk6 := hbk5.grown hg6 hbk5.size (fun b e => by cases e; exact (hx5.rwo.blk rfl).1)
    have HX6 := Lib.hid hx6
    have HB6 := Lib.hid hbk6
    have HG6 := Lib.hid (hgr5.trans hg6)
    clear hx hx5 hx6 hbk hbk5 hbk6 hgr hgr5 hg6 hb5 hrLr
    simp only [show BlobS.size = 4 from rfl] at c3 f3 HX6 HB6 HG6
    repeat' ((fail_if_success at_builtin); (fail_if_success at_make); (first | go_values | go_skip | go_guarded | go_step | go_upon | go_back))
    go_roundg (L.length - (k + 1))
    case measure => have := HGK.out; have := HKL.out; omega
    case rel => exact ⟨k + 1, rfl, by go_num, by have := HKL.out; omega, HX6.out, HB6.out, HG6.out⟩
end Go.Proofs.YtmjcoebfldmgnaaGreat
/-! marks: a closed fact. No condition -/
namespace Go.Proofs.YtmjcoebfldmgnaaGreat
open Go.RowKit Go.Maps
set_option linter.unusedVariables false
set_option linter.unusedSimpArgs false
set_option maxRecDepth 100000

theorem one_str (x : List UInt8) : StrL [x] (fun y => y ∈ [x]) := ⟨(by simp), List.pairwise_singleton _ _, fun _ => Iff.rfl⟩
theorem sml_marks {A M K : List UInt8} (hA : A = [97, 98, 99]) (hM : M = enc [⟨[120], shaS A, 3⟩]) (hg : GoodS (smlOf A M K)) : (begC (smlOf A M K)).grey.length = 1 ∧ (mStep (begS (smlOf A M K)) (begC (smlOf A M K))).2.grey.length = 1 ∧ (mStep (begS (smlOf A M K)) (begC (smlOf A M K))).2.phase = 1 := by
  have hp := sml_perm A M K
  have hbM : (⟨shaS M, M, 0, false⟩ : BlobP) ∈ (smlOf A M K).blobs := hp.mem_iff.2 (by simp)
  have kM : kids (smlOf A M K).blobs (shaS M) = [shaS A] := by
    have := kids_mem hg.b.ris hbM
    dsimp only at this
    have hc : chk [(⟨[120], shaS A, 3⟩ : PartP)] = 0 := by
      rw [chk, if_neg (by show ¬ 1 > 8; omega), chkGo_step (show nameC [120] = 0 by decide) (fun m hm => by cases hm) (hexC_sha A) (by show 3 ≤ 300; omega)]
      rfl
    rw [this, hM, decL_enc _ hc]; rfl
  have hg1 : (begC (smlOf A M K)).grey = [shaS M] := StrL.uniq (uni_str (rts (smlOf A M K))) ⟨(by simp), List.pairwise_singleton _ _, fun x => by rw [sml_rts, List.mem_singleton]⟩
  have hin : InB (begS (smlOf A M K)).blobs (shaS M) := (eqM_inB (eqM_unmk _)).2 ⟨_, hbM, rfl⟩
  refine ⟨by rw [hg1]; rfl, ?_⟩
  rcases mStep_ways (begS (smlOf A M K)) (begC (smlOf A M K)) with ⟨h, _⟩ | ⟨d, rest, h, hn, _⟩ | ⟨d, rest, i, hi, h, _, _, hm, _⟩ | ⟨d, rest, i, hi, h, _, _, _, e⟩
  · rw [hg1] at h; cases h
  · rw [hg1] at h; cases h; exact absurd hin hn
  · exfalso
    obtain ⟨a, _, e⟩ := List.mem_map.1 (List.getElem_mem hi)
    have hm' : (begS (smlOf A M K)).blobs[i].mark = true := hm
    have e' : (begS (smlOf A M K)).blobs[i] = { a with mark := false } := e.symm
    rw [e'] at hm'; cases hm'
  · rw [hg1] at h; cases h
    rw [e]
    refine ⟨?_, rfl⟩
    show (uni ([] ++ kids (begS (smlOf A M K)).blobs (shaS M))).length = 1
    rw [show kids (begS (smlOf A M K)).blobs (shaS M) = kids (smlOf A M K).blobs (shaS M) from eqM_kids (eqM_unmk _) _, kM, List.nil_append]
    rw [StrL.uniq (uni_str [shaS A]) (one_str (shaS A))]; rfl
theorem two_new2 (w : World) (e1 e2 : TypeId) (c1 c2 : List Value) : ∃ W, W = (w.alloc (.cells c1.toArray e1)).alloc (.cells c2.toArray e2) ∧ Arr W w.heap.size e1 c1 ∧ Arr W (w.heap.size + 1) e2 c2 ∧ Below w.heap.size w W := by
  have b1 := (Below.refl w.heap.size w).alloc (Nat.le_refl _) (.cells c1.toArray e1)
  have b2 := b1.alloc b1.size (.cells c2.toArray e2)
  have a1 := (Arr.new w e1 c1).alloc (.cells c2.toArray e2)
  have a2 := Arr.new (w.alloc (.cells c1.toArray e1)) e2 c2
  rw [World.size_alloc] at a2
  exact ⟨_, rfl, a1, a2, b2⟩
theorem begS_blen (s : StoP) : (begS s).blobs.length = s.blobs.length := by show (unmk s.blobs).length = _; simp [unmk]
set_option maxHeartbeats 8000000 in
theorem marks_ok (w : World) : Calls Tryz.prog 33 #[] w fun e w' => e = .returned (.bool true) ∧ Below w.heap.size w w' := by
  obtain ⟨A, hA⟩ : ∃ A : List UInt8, A = [97, 98, 99] := ⟨_, rfl⟩
  obtain ⟨M, hM⟩ : ∃ M, M = enc [⟨[120], shaS A, 3⟩] := ⟨_, rfl⟩
  obtain ⟨K, hK⟩ : ∃ K, K = keyS 0 := ⟨_, rfl⟩
  have hAL : A.length = 3 := by rw [hA]; rfl
  have hg : GoodS (smlOf A M K) := sml_good hAL (sml_len hA hM) (sml_ne hA hM) (by rw [hK]; exact hexC_sha _)
  obtain ⟨m1, m2, m3⟩ := sml_marks hA hM hg
  have HSM := Lib.hid (show ∀ w, Calls Tryz.prog 58 #[] w fun e w' => ∃ X c Y d, e = .returned (.agg #[.slice X (smlOf A M K).blobs.length c, .slice Y (smlOf A M K).ents.length d, .int .i64 ((smlOf A M K).room : Int), .int .i64 ((smlOf A M K).clock : Int)]) ∧ RdSt w' X c Y d (smlOf A M K) ∧ Below w.heap.size w w' from fun w => small_ok A M K hA hM hK w)
  have HBG := Lib.hid (show ∀ X c Y d W, RdSt W X c Y d (smlOf A M K) → Calls Tryz.prog 32 #[.agg #[.slice X (smlOf A M K).blobs.length c, .slice Y (smlOf A M K).ents.length d, .int .i64 ((smlOf A M K).room : Int), .int .i64 ((smlOf A M K).clock : Int)]] W fun e w' => ∃ v1 v2 v3, e = .returned (.tuple #[stV v1 v2 (begS (smlOf A M K)), coV v3 (begC (smlOf A M K)), .int .i64 0]) ∧ OwSt w' W.heap.size v1 v2 (begS (smlOf A M K)) (fun b => b < W.heap.size) ∧ w'.ownsRow W.heap.size 9 1 v3 (begC (smlOf A M K)).grey.length (strs (begC (smlOf A M K)).grey) ∧ Below W.heap.size W w' from fun X c Y d W h => Begin_ok X c Y d _ W hg h)
  have HMS := Lib.hid (fun X c Y d Ag ng W (h : RdSt W X c Y d (begS (smlOf A M K))) (hc : RdC W Ag ng (begC (smlOf A M K))) => MStep_ok X c Y d _ Ag ng (begC (smlOf A M K)) W (beg_good hg) h rfl rfl (by rw [m1]; omega) hc)
  have g1 : (((begC (smlOf A M K)).phase : Int) == 1) = true := rfl
  have g2 : (((begC (smlOf A M K)).grey.length : Int) == 1) = true := by rw [m1]; rfl
  have g3 : (((mStep (begS (smlOf A M K)) (begC (smlOf A M K))).2.grey.length : Int) == 1) = true := by rw [m2]; rfl
  clear hA hM hK hAL hg m1 m2 m3
  generalize begS (smlOf A M K) = t at *
  generalize begC (smlOf A M K) = cc at *
  generalize smlOf A M K = s at *
  go_enter Tryz.func33, Tryz.ntmps33
  repeat' ((fail_if_success at_builtin); (fail_if_success at_make); (first | go_values | go_skip | go_guarded | go_step | go_upon | go_back))
  refine ((HSM.out w)).mono ?_; rintro e_ w1 ⟨X, c, Y, d, rfl, hr1, hb1⟩; dsimp only
  have HB1 := Lib.hid (HBG.out X c Y d w1 hr1)
  clear hr1
  repeat' ((fail_if_success at_builtin); (fail_if_success at_make); (first | go_values | go_skip | go_guarded | go_step | go_upon | go_back))
  refine ((HB1.out)).mono ?_; rintro e_ w2 ⟨v1, v2, v3, rfl, ho2, hl2, hb2⟩; dsimp only
  obtain ⟨X2, c2, Y2, d2, e1, e2, hr2⟩ := ho2.rows
  obtain ⟨A3, n3, e3, hc3⟩ := RdC.of_own (c := cc) hl2
  subst e1 e2 e3
  have hb12 := hb1.trans (hb2.mono hb1.size)
  obtain ⟨W3, hW3, hA3, hC3, hb3⟩ := two_new2 w2 26 60 [.slice X2 t.blobs.length c2, .slice Y2 t.ents.length d2, .int .i64 (t.room : Int), .int .i64 (t.clock : Int)] [.int .i64 (cc.phase : Int), .slice A3 cc.grey.length n3, .string ⟨cc.at_.toArray⟩]
  have x0 := hA3.cell (k := 0) rfl
  have x1 := hA3.cell (k := 1) rfl
  have x2 := hA3.cell (k := 2) rfl
  have x3 := hA3.cell (k := 3) rfl
  have y0 := hC3.cell (k := 0) rfl
  have y1 := hC3.cell (k := 1) rfl
  have y2 := hC3.cell (k := 2) rfl
  have HM3 := Lib.hid (HMS.out X2 c2 Y2 d2 A3 n3 W3 (hr2.below hb3) (hc3.below hb3))
  have hb13 := hb12.trans (hb3.mono hb12.size)
  have HC3 := Lib.hid hC3
  rw [hW3] at x0 x1 x2 x3 y0 y1 y2
  clear ho2 hl2 hr2 hc3 hb2 hb1 hb12 hb3 hA3 hC3 HBG HSM HB1
  repeat' ((fail_if_success at_builtin); (fail_if_success at_make); (first | go_values | go_skip | go_guarded | go_step | go_upon | go_back))
  rw [← hW3]
  clear x0 x1 x2 x3 y0 y1 y2 hW3
  refine ((HM3.out)).mono ?_; rintro e_ w4 ⟨v4, v5, v6, rfl, ho4, hl4, hb4⟩; dsimp only
  obtain ⟨X4, c4, Y4, d4, e1, e2, _⟩ := ho4.rows
  obtain ⟨A6, n6, e3, _, _⟩ := Rd.of_own' hl4
  subst e1 e2 e3
  have hb14 := hb13.trans (hb4.mono hb13.size)
  have hC4 := HC3.out.below hb4
  obtain ⟨W5, hW5, _, hC5, hb5⟩ := two_new2 w4 26 60 [.slice X4 (mStep t cc).1.blobs.length c4, .slice Y4 (mStep t cc).1.ents.length d4, .int .i64 (t.room : Int), .int .i64 (t.clock : Int)] [.int .i64 ((mStep t cc).2.phase : Int), .slice A6 (mStep t cc).2.grey.length n6, .string ⟨(mStep t cc).2.at_.toArray⟩]
  have y0 := (hC4.below hb5).cell (k := 0) rfl
  have y1 := (hC4.below hb5).cell (k := 1) rfl
  have z1 := hC5.cell (k := 1) rfl
  have hb15 := hb14.trans (hb5.mono hb14.size)
  rw [hW5] at y0 y1 z1
  clear ho4 hl4 hb4 hb13 hb14 hC4 hC5 hb5 HM3 HMS
  repeat' ((fail_if_success at_builtin); (fail_if_success at_make); (first | go_values | go_skip | go_guarded | go_step | go_upon | go_back))
  go_ret
  rw [← hW5]
  exact ⟨by simp, hb15⟩
end Go.Proofs.YtmjcoebfldmgnaaGreat
