/- Lemmas of the proof. Conditions: as stated. -/
import Derived.Test.YtpbacomdoddhdaaGreatQK31
set_option linter.unusedVariables false
set_option linter.unusedSimpArgs false
set_option maxRecDepth 100000
namespace Go.Proofs.YtpbacomdoddhdaaGreat
open Go.RowKit Go.Maps
def zJ (bl : List BlobP) (L : List (List UInt8)) : List BlobP := bl.map fun b => if b.dig ∈ L then { b with mark := true } else b
theorem KG (bl : List BlobP) : zJ bl [] = bl := by simp [zJ]
theorem qg (bl : List BlobP) (L : List (List UInt8)) : (zJ bl L).length = bl.length := by simp [zJ]
theorem xJ (bl : List BlobP) (L : List (List UInt8)) : EqM bl (zJ bl L) := by
 unfold EqM zJ
 rw [List.map_map]
 refine List.map_congr_left fun b _ => ?_
 show NoM b = NoM (if b.dig ∈ L then { b with mark := true } else b)
 split <;> rfl
theorem xk (bl : List BlobP) (L : List (List UInt8)) (i : Nat) (h : i < bl.length) (h' : i < (zJ bl L).length) : (zJ bl L)[i] = if bl[i].dig ∈ L then { bl[i] with mark := true } else bl[i] := by
 simp [zJ]
theorem Qt {bl : List BlobP} (hr : RisesBy (·.dig) bl) (L : List (List UInt8)) (d : List UInt8) {i : Nat} (hi : i < (zJ bl L).length) (hd : (zJ bl L)[i].dig = d) : (zJ bl L).set i { (zJ bl L)[i] with mark := true } = zJ bl (L ++ [d]) := by
 have hi' : i < bl.length := by rw [← qg bl L]; exact hi
 refine List.ext_getElem (by rw [List.length_set, qg, qg]) fun j h1 h2 => ?_
 have hj : j < bl.length := by rw [← qg bl (L ++ [d])]; exact h2
 have hdi : ∀ k (h : k < bl.length) (h' : k < (zJ bl L).length), (zJ bl L)[k].dig = bl[k].dig := fun k h h' => by
  rw [xk bl L k h h']; split <;> rfl
 rw [List.getElem_set, xk bl (L ++ [d]) j hj h2]
 by_cases hij : i = j
 ·subst hij
  rw [if_pos rfl, if_pos (by rw [← hdi i hi' hi, hd]; simp), xk bl L i hi' hi]
  split <;> rfl
 ·rw [if_neg hij, xk bl L j hj (by rw [qg]; exact hj)]
  have hne : bl[j].dig ≠ d := fun e => by
   rw [← hd, hdi i hi' hi] at e
   have hnd := hr.map.nodup
   have := (List.getElem_inj (xs := bl.map (·.dig)) (i := j) (j := i) (h₀ := by simpa using hj) (h₁ := by simpa using hi') hnd).1 (by simpa using e)
   exact hij this.symm
  by_cases hm : bl[j].dig ∈ L
  ·rw [if_pos hm, if_pos (by simp [hm])]
  ·rw [if_neg hm, if_neg (by simp [hm, hne])]
theorem RwX.set1' {α : Type} {S : Shp α} {e : TypeId} {w : World} {base g n cap i j : Nat} {u : Value} {y : α} {l : List α} {N : Nat → Prop} (h : RwX S e w base (.slice (some ⟨g, 0, none⟩) n cap) l N) (hn : n = l.length) (hi : i < l.length) (hj : j < S.size)
  (hR : ∀ W cs, S.R W l[i] cs → S.R W y (cs.set j u)) (hlead : ∀ b, ¬ leads b [u]) :
  (∃ v0, w.cell? ⟨g, i * S.size + j, none⟩ = some v0) ∧ w.frozen? ⟨g, i * S.size + j, none⟩ = false ∧
   RwX S e (w.setCell ⟨g, i * S.size + j, none⟩ u) base (.slice (some ⟨g, 0, none⟩) n cap) (l.set i y) N ∧ w.grownBy (w.setCell ⟨g, i * S.size + j, none⟩ u) (some g) := by
 subst hn; exact h.set1 hi hj hR hlead
set_option maxHeartbeats 8000000 in
theorem VU (A D : Option Addr) (c dc : Nat) (bl : List BlobP) (ds : List (List UInt8)) (w : World) (hl : bl.length ≤ 1000) (hcap : bl.length ≤ c) (hcm : c ≤ maxLen) (hri : RisesBy (·.dig) bl) (hdat : ∀ b ∈ bl, b.data.length ≤ 1000000) (hdig : ∀ x ∈ bl, x.dig.length ≤ 1000) (hrd : Rw BlobS w A bl) (hdn : ds.length ≤ 1000000) (hrd2 : Rd w 1 D ds.length (strs ds)) :
  Calls Tryz.prog 138 #[.slice A bl.length c, .slice D ds.length dc] w fun e w' => ∃ g L, e = .returned (.slice (some ⟨g, 0, none⟩) bl.length bl.length) ∧ StrL L (Rch bl ds) ∧ RwX BlobS 96 w' w.heap.size (.slice (some ⟨g, 0, none⟩) bl.length bl.length) (zJ bl L) (fun b => b < w.heap.size) ∧ Below w.heap.size w w' := by
 have HCP := Lib.hid (xr A c bl w (by omega) hdat hrd)
 have HFR := Lib.hid (fun W (h : Below w.heap.size w W) => um A D c dc bl ds W hl hcap hcm hdig (hrd.below h) hdn (hrd2.below h))
 have HRI := Lib.hid hri
 clear hdat hdig hrd hdn hrd2 hri
 go_enter Tryz.func138, Tryz.ntmps138
 go_wp2_with fail
 refine ((HCP.out)).mono ?_; rintro e_ w1 ⟨q1, rfl, hx1, hb1⟩; dsimp only
 have HF1 := Lib.hid (HFR.out w1 hb1)
 clear HCP HFR
 go_wp2_with fail
 refine ((HF1.out)).mono ?_; rintro e_ w2 ⟨v2, L, rfl, hL, hLl, ho2, hb2⟩; dsimp only
 obtain ⟨AL, cL, rfl, _, hrL⟩ := Rd.of_own' ho2
 have hLb : ∀ a, AL = some a → w1.heap.size ≤ a.block := fun a e => by
  obtain ⟨A', c', e1, _, h⟩ := Sl.of_own ho2
  injection e1 with e1 _ _
  exact h a (by rw [← e1]; exact e)
 have hx2 := hx1.below hb2
 have hb12 := hb1.trans (hb2.mono hb1.size)
 have HRL := Lib.hid hrL
 have HL := Lib.hid hL
 have HLB := Lib.hid hLb
 have hq1 : q1 < w1.heap.size := (hx1.rwo.blk rfl).2
 have hL63 : (L.length : Int) ≤ 9223372036854775807 := by omega
 have hb63 : (bl.length : Int) ≤ 9223372036854775807 := by omega
 have hx2' : RwX BlobS 96 w2 w.heap.size (.slice (some ⟨q1, 0, none⟩) bl.length bl.length) (zJ bl []) (fun b => b < w.heap.size) := by rw [KG]; exact hx2
 clear hx1 hb1 hb2 ho2 hL hrL hx2 HF1 hLb
 go_wp2_with fail
 go_loopg [16] L.length (fun gn i wr => ∃ k : Nat, gn = L.length - k ∧ i = .int .i64 k ∧ k ≤ L.length ∧ RwX BlobS 96 wr w.heap.size (.slice (some ⟨q1, 0, none⟩) bl.length bl.length) (zJ bl (L.take k)) (fun b => b < w.heap.size) ∧ Below w.heap.size w wr ∧ w2.grownBy wr (some q1))
 case atStart => exact ⟨0, rfl, rfl, by omega, hx2', hb12, World.grownBy.refl _ _⟩
 case round =>
  obtain ⟨k, hgk, rfl, hk, hx, hbk, hgr⟩ := hrel
  have HGK := Lib.hid hgk
  clear hgk hx2' hb12
  by_cases hlt : k < L.length
  rotate_left
  ·obtain rfl : k = L.length := by omega
   have hlb : decide (L.length < L.length) = false := by simp
   rw [List.take_length] at hx
   have HX := Lib.hid hx
   clear hx
   go_wp2_with fail
   go_ret
   exact ⟨_, L, rfl, HL.out, HX.out, hbk⟩
  have hlb : decide (k < L.length) = true := decide_eq_true hlt
  have hk0 : (0 : Int) ≤ (k : Int) := by omega
  have hk1 : (k : Int) < (L.length : Int) := by omega
  have hrLr : Rd wr 1 AL L.length (strs L) := HRL.out.keepb hgr.size (fun b hb ⟨a, e1, e2⟩ => hgr.block b hb (fun e => by
   injection e with e
   have := HLB.out a e1
   omega))
  obtain ⟨bb, off, hAb, _, hcell⟩ := hrLr.2 (by omega)
  subst hAb
  have c0 := hcell k _ (qL L k hlt)
  have hin : InB bl L[k] := ((HL.out.mem _).1 (List.getElem_mem hlt)).inB
  have hin2 : InB (zJ bl (L.take k)) L[k] := (kY (xJ bl (L.take k))).2 hin
  obtain ⟨i, hfi⟩ : ∃ i, (zJ bl (L.take k)).findIdx? (fun b => b.dig == L[k]) = some i := by
   rw [uv] at hin2
   exact Option.isSome_iff_exists.1 hin2
  have hi : i < (zJ bl (L.take k)).length := (List.findIdx?_eq_some_iff_getElem.1 hfi).1
  have hid : (zJ bl (L.take k))[i].dig = L[k] := by simpa using (List.findIdx?_eq_some_iff_getElem.1 hfi).2.1
  have hib : i < bl.length := by rw [← qg bl (L.take k)]; exact hi
  have hi0 : (0 : Int) ≤ (i : Int) := by omega
  have hi1 : (i : Int) < (bl.length : Int) := by omega
  have hsn := Qt HRI.out (L.take k) L[k] hi hid
  have htk : L.take k ++ [L[k]] = L.take (k + 1) := (List.take_succ_eq_append_getElem hlt).symm
  rw [htk] at hsn
  have hfb := kF (some ⟨q1, 0, none⟩) bl.length (zJ bl (L.take k)) L[k] wr (by rw [qg]; omega) (by
   obtain ⟨A9, c9, e1, _, _, hrw⟩ := hx.rwo.rows
   injection e1 with e1 _ _
   subst e1; exact hrw)
  rw [hfi, qg] at hfb
  have HFB := Lib.hid hfb
  have HSN := Lib.hid hsn
  have HKL := Lib.hid hlt
  generalize hLk : L[k] = dk at *
  clear hLk hfb hsn htk hfi hin hin2 hcell hid
  go_wp2_with fail
  clear c0
  refine ((HFB.out)).mono ?_; rintro e_ w5 ⟨rfl, hb5⟩; dsimp only
  rw [Zo]
  have hx5 := hx.below hb5
  have hbk5 := hbk.trans (hb5.mono hbk.size)
  have hgr5 := yi hgr hb5
  obtain ⟨⟨v0, c3⟩, f3, hx6, hg6⟩ := hx5.set1' (i := i) (j := 3) (y := { (zJ bl (L.take k))[i] with mark := true }) (u := .bool true) (qg bl (L.take k)).symm hi (by show 3 < 4; omega) (fun W cs h => vm _ true W cs h) (qK true)
  rw [HSN.out] at hx6
  have hbk6 := hbk5.grown hg6 hbk5.size (fun b e => by cases e; exact (hx5.rwo.blk rfl).1)
  have HX6 := Lib.hid hx6
  have HB6 := Lib.hid hbk6
  have HG6 := Lib.hid (hgr5.trans hg6)
  clear hx hx5 hx6 hbk hbk5 hbk6 hgr hgr5 hg6 hb5 hrLr
  simp only [show BlobS.size = 4 from rfl] at c3 f3 HX6 HB6 HG6
  go_wp2_with fail
  go_roundg (L.length - (k + 1))
  case measure => have := HGK.out; have := HKL.out; omega
  case rel => exact ⟨k + 1, rfl, by go_num, by have := HKL.out; omega, HX6.out, HB6.out, HG6.out⟩
theorem Vl (x : List UInt8) : StrL [x] (fun y => y ∈ [x]) := ⟨(by simp), List.pairwise_singleton _ _, fun _ => Iff.rfl⟩
theorem Y9 {A M K : List UInt8} (hA : A = [97, 98, 99]) (hM : M = enc [⟨[120], shaS A, 3⟩]) (hg : GoodS (zx A M K)) : (ye (zx A M K)).grey.length = 1 ∧ (zk (kX (zx A M K)) (ye (zx A M K))).2.grey.length = 1 ∧ (zk (kX (zx A M K)) (ye (zx A M K))).2.phase = 1 := by
 have hp := kK A M K
 have hbM : (⟨shaS M, M, 0, false⟩ : BlobP) ∈ (zx A M K).blobs := hp.mem_iff.2 (by simp)
 have kM : kids (zx A M K).blobs (shaS M) = [shaS A] := by
  have := kL hg.b.ris hbM
  dsimp only at this
  have hc : chk [(⟨[120], shaS A, 3⟩ : PartP)] = 0 := by
   rw [chk, if_neg (by show ¬ 1 > 8; omega), yJ (show qc [120] = 0 by decide) (fun m hm => by cases hm) (zv A) (by show 3 ≤ 300; omega)]
   rfl
  rw [this, hM, Xd _ hc]; rfl
 have hg1 : (ye (zx A M K)).grey = [shaS M] := StrL.uniq (vd (rts (zx A M K))) ⟨(by simp), List.pairwise_singleton _ _, fun x => by rw [VG, List.mem_singleton]⟩
 have hin : InB (kX (zx A M K)).blobs (shaS M) := (kY (xw _)).2 ⟨_, hbM, rfl⟩
 refine ⟨by rw [hg1]; rfl, ?_⟩
 rcases zS (kX (zx A M K)) (ye (zx A M K)) with ⟨h, _⟩ | ⟨d, rest, h, hn, _⟩ | ⟨d, rest, i, hi, h, _, _, hm, _⟩ | ⟨d, rest, i, hi, h, _, _, _, e⟩
 ·rw [hg1] at h; cases h
 ·rw [hg1] at h; cases h; exact absurd hin hn
 ·exfalso
  obtain ⟨a, _, e⟩ := List.mem_map.1 (List.getElem_mem hi)
  have hm' : (kX (zx A M K)).blobs[i].mark = true := hm
  have e' : (kX (zx A M K)).blobs[i] = { a with mark := false } := e.symm
  rw [e'] at hm'; cases hm'
 ·rw [hg1] at h; cases h
  rw [e]
  refine ⟨?_, rfl⟩
  show (uni ([] ++ kids (kX (zx A M K)).blobs (shaS M))).length = 1
  rw [show kids (kX (zx A M K)).blobs (shaS M) = kids (zx A M K).blobs (shaS M) from un (xw _) _, kM, List.nil_append]
  rw [StrL.uniq (vd [shaS A]) (Vl (shaS A))]; rfl
theorem Zd (w : World) (e1 e2 : TypeId) (c1 c2 : List Value) : ∃ W, W = (w.alloc (.cells c1.toArray e1)).alloc (.cells c2.toArray e2) ∧ Arr W w.heap.size e1 c1 ∧ Arr W (w.heap.size + 1) e2 c2 ∧ Below w.heap.size w W := by
 have b1 := (Below.refl w.heap.size w).alloc (Nat.le_refl _) (.cells c1.toArray e1)
 have b2 := b1.alloc b1.size (.cells c2.toArray e2)
 have a1 := (Arr.new w e1 c1).alloc (.cells c2.toArray e2)
 have a2 := Arr.new (w.alloc (.cells c1.toArray e1)) e2 c2
 rw [World.size_alloc] at a2
 exact ⟨_, rfl, a1, a2, b2⟩
set_option maxHeartbeats 8000000 in
theorem Yz (w : World) : Calls Tryz.prog 14 #[] w fun e w' => e = .returned (.bool true) ∧ Below w.heap.size w w' := by
 obtain ⟨A, hA⟩ : ∃ A : List UInt8, A = [97, 98, 99] := ⟨_, rfl⟩
 obtain ⟨M, hM⟩ : ∃ M, M = enc [⟨[120], shaS A, 3⟩] := ⟨_, rfl⟩
 obtain ⟨K, hK⟩ : ∃ K, K = keyS 0 := ⟨_, rfl⟩
 have hAL : A.length = 3 := by rw [hA]; rfl
 have hg : GoodS (zx A M K) := Xu hAL (KK hA hM) (XW hA hM) (by rw [hK]; exact zv _)
 obtain ⟨m1, m2, m3⟩ := Y9 hA hM hg
 have HSM := Lib.hid (show ∀ w, Calls Tryz.prog 68 #[] w fun e w' => ∃ X c Y d, e = .returned (.agg #[.slice X (zx A M K).blobs.length c, .slice Y (zx A M K).ents.length d, .int .i64 ((zx A M K).room : Int), .int .i64 ((zx A M K).clock : Int)]) ∧ RdSt w' X c Y d (zx A M K) ∧ Below w.heap.size w w' from fun w => YI A M K hA hM hK w)
 have HBG := Lib.hid (show ∀ X c Y d W, RdSt W X c Y d (zx A M K) → Calls Tryz.prog 12 #[.agg #[.slice X (zx A M K).blobs.length c, .slice Y (zx A M K).ents.length d, .int .i64 ((zx A M K).room : Int), .int .i64 ((zx A M K).clock : Int)]] W fun e w' => ∃ v1 v2 v3, e = .returned (.tuple #[stV v1 v2 (kX (zx A M K)), coV v3 (ye (zx A M K)), .int .i64 0]) ∧ OwSt w' W.heap.size v1 v2 (kX (zx A M K)) (fun b => b < W.heap.size) ∧ w'.ownsRow W.heap.size 9 1 v3 (ye (zx A M K)).grey.length (strs (ye (zx A M K)).grey) ∧ Below W.heap.size W w' from fun X c Y d W h => Zj X c Y d _ W hg h)
 have HMS := Lib.hid (fun X c Y d Ag ng W (h : RdSt W X c Y d (kX (zx A M K))) (hc : RdC W Ag ng (ye (zx A M K))) => ZI X c Y d _ Ag ng (ye (zx A M K)) W (yq hg) h rfl rfl (by rw [m1]; omega) hc)
 have g1 : (((ye (zx A M K)).phase : Int) == 1) = true := rfl
 have g2 : (((ye (zx A M K)).grey.length : Int) == 1) = true := by rw [m1]; rfl
 have g3 : (((zk (kX (zx A M K)) (ye (zx A M K))).2.grey.length : Int) == 1) = true := by rw [m2]; rfl
 clear hA hM hK hAL hg m1 m2 m3
 generalize kX (zx A M K) = t at *
 generalize ye (zx A M K) = cc at *
 generalize zx A M K = s at *
 go_enter Tryz.func14, Tryz.ntmps14
 go_wp2_with fail
 refine ((HSM.out w)).mono ?_; rintro e_ w1 ⟨X, c, Y, d, rfl, hr1, hb1⟩; dsimp only
 have HB1 := Lib.hid (HBG.out X c Y d w1 hr1)
 clear hr1
 go_wp2_with fail
 refine ((HB1.out)).mono ?_; rintro e_ w2 ⟨v1, v2, v3, rfl, ho2, hl2, hb2⟩; dsimp only
 obtain ⟨X2, c2, Y2, d2, e1, e2, hr2⟩ := ho2.rows
 obtain ⟨A3, n3, e3, hc3⟩ := RdC.of_own (c := cc) hl2
 subst e1 e2 e3
 have hb12 := hb1.trans (hb2.mono hb1.size)
 obtain ⟨W3, hW3, hA3, hC3, hb3⟩ := Zd w2 26 29 [.slice X2 t.blobs.length c2, .slice Y2 t.ents.length d2, .int .i64 (t.room : Int), .int .i64 (t.clock : Int)] [.int .i64 (cc.phase : Int), .slice A3 cc.grey.length n3, .string ⟨cc.at_.toArray⟩]
 have x0 := hA3.cell (k := 0) rfl
 have x1 := hA3.cell (k := 1) rfl
 have x2 := hA3.cell (k := 2) rfl
 have x3 := hA3.cell (k := 3) rfl
 have y0 := hC3.cell (k := 0) rfl
 have y1 := hC3.cell (k := 1) rfl
 have y2 := hC3.cell (k := 2) rfl
 have HM3 := Lib.hid (HMS.out X2 c2 Y2 d2 A3 n3 W3 (hr2.below hb3) (hc3.below hb3))
 have hb13 := hb12.trans (hb3.mono hb12.size)
 have HC3 := Lib.hid hC3
 rw [hW3] at x0 x1 x2 x3 y0 y1 y2
 clear ho2 hl2 hr2 hc3 hb2 hb1 hb12 hb3 hA3 hC3 HBG HSM HB1
 go_wp2_with fail
 rw [← hW3]
 clear x0 x1 x2 x3 y0 y1 y2 hW3
 refine ((HM3.out)).mono ?_; rintro e_ w4 ⟨v4, v5, v6, rfl, ho4, hl4, hb4⟩; dsimp only
 obtain ⟨X4, c4, Y4, d4, e1, e2, _⟩ := ho4.rows
 obtain ⟨A6, n6, e3, _, _⟩ := Rd.of_own' hl4
 subst e1 e2 e3
 have hb14 := hb13.trans (hb4.mono hb13.size)
 have hC4 := HC3.out.below hb4
 obtain ⟨W5, hW5, _, hC5, hb5⟩ := Zd w4 26 29 [.slice X4 (zk t cc).1.blobs.length c4, .slice Y4 (zk t cc).1.ents.length d4, .int .i64 (t.room : Int), .int .i64 (t.clock : Int)] [.int .i64 ((zk t cc).2.phase : Int), .slice A6 (zk t cc).2.grey.length n6, .string ⟨(zk t cc).2.at_.toArray⟩]
 have y0 := (hC4.below hb5).cell (k := 0) rfl
 have y1 := (hC4.below hb5).cell (k := 1) rfl
 have z1 := hC5.cell (k := 1) rfl
 have hb15 := hb14.trans (hb5.mono hb14.size)
 rw [hW5] at y0 y1 z1
 clear ho4 hl4 hb4 hb13 hb14 hC4 hC5 hb5 HM3 HMS
 go_wp2_with fail
 go_ret
 rw [← hW5]
 exact ⟨by simp, hb15⟩
end Go.Proofs.YtpbacomdoddhdaaGreat
namespace Go.Proofs.YtpbacomdoddhdaaGreat
open Go.RowKit
noncomputable def ZR (bl : List BlobP) (ds : List (List UInt8)) : List (List UInt8) := (bl.filter (fun b => @decide (Rch bl ds b.dig) (Classical.propDecidable _))).map (·.dig)
theorem uw {bl : List BlobP} {ds : List (List UInt8)} {x : List UInt8} : x ∈ ZR bl ds ↔ Rch bl ds x := by
 unfold ZR
 rw [List.mem_map]
 constructor
 ·rintro ⟨b, hb, rfl⟩
  exact @of_decide_eq_true _ (Classical.propDecidable _) (List.mem_filter.1 hb).2
 ·intro h
  obtain ⟨b, hb, rfl⟩ := h.inB
  exact ⟨b, List.mem_filter.2 ⟨hb, @decide_eq_true _ (Classical.propDecidable _) h⟩, rfl⟩
theorem Yv {bl : List BlobP} (hr : RisesBy (·.dig) bl) (ds : List (List UInt8)) : StrL (ZR bl ds) (Rch bl ds) := by
 have h : Rises (ZR bl ds) := by
  have : RisesBy (·.dig) (bl.filter (fun b => @decide (Rch bl ds b.dig) (Classical.propDecidable _))) := List.Pairwise.filter _ hr
  exact this.map
 exact ⟨h.nodup, QV h, fun x => uw⟩
noncomputable def zm (s : StoP) (c : ColP) (ds : List (List UInt8)) : StoP × ColP :=
 if c.phase = 1 then (s, ⟨1, uni (c.grey ++ ds), c.at_⟩) else if c.phase = 2 then ({ s with blobs := zJ s.blobs (ZR s.blobs ds) }, c) else (s, c)
theorem Uk {s : StoP} {c : ColP} {ds : List (List UInt8)} (h : c.phase = 0) : zm s c ds = (s, c) := by unfold zm; rw [if_neg (by omega), if_neg (by omega)]
theorem Vk {s : StoP} {c : ColP} {ds : List (List UInt8)} (h : c.phase = 1) : zm s c ds = (s, ⟨1, uni (c.grey ++ ds), c.at_⟩) := by unfold zm; rw [if_pos h]
theorem Vo {s : StoP} {c : ColP} {ds : List (List UInt8)} (h : c.phase = 2) : zm s c ds = ({ s with blobs := zJ s.blobs (ZR s.blobs ds) }, c) := by unfold zm; rw [if_neg (by omega), if_pos h]
theorem uu (s : StoP) (c : ColP) (ds : List (List UInt8)) : EqM s.blobs (zm s c ds).1.blobs := by
 unfold zm
 split
 ·exact EqM.rfl_ _
 ·split
  ·exact xJ _ _
  ·exact EqM.rfl_ _
theorem yd (s : StoP) (c : ColP) (ds : List (List UInt8)) : (zm s c ds).1 = { s with blobs := (zm s c ds).1.blobs } := by
 unfold zm
 split
 ·rfl
 ·split <;> rfl
theorem xI {s : StoP} (c : ColP) (ds : List (List UInt8)) (hg : GoodS s) : GoodS (zm s c ds).1 := by
 rw [yd]; exact uC (uu s c ds) hg
theorem Qo (s : StoP) (c : ColP) (ds : List (List UInt8)) : (zm s c ds).2.phase = c.phase := by
 unfold zm
 split
 ·rename_i h; exact h.symm
 ·split <;> rfl
theorem jA {bl : List BlobP} {L : List (List UInt8)} {x : List UInt8} : x ∈ mkd (zJ bl L) ↔ x ∈ mkd bl ∨ (x ∈ L ∧ InB bl x) := by
 rw [zX, zX]
 unfold zJ
 constructor
 ·rintro ⟨b, hb, hm, rfl⟩
  obtain ⟨a, ha, rfl⟩ := List.mem_map.1 hb
  by_cases h : a.dig ∈ L
  ·rw [if_pos h]; exact .inr ⟨h, a, ha, rfl⟩
  ·rw [if_neg h] at hm ⊢; exact .inl ⟨a, ha, hm, rfl⟩
 ·rintro (⟨b, hb, hm, rfl⟩ | ⟨hx, b, hb, rfl⟩)
  ·refine ⟨_, List.mem_map.2 ⟨b, hb, rfl⟩, ?_, ?_⟩ <;> split <;> first | rfl | exact hm
  ·exact ⟨_, List.mem_map.2 ⟨b, hb, rfl⟩, by rw [if_pos hx], by rw [if_pos hx]⟩
theorem yO {s t : StoP} {c : ColP} {ds : List (List UInt8)} (hc : GoodC s c) (hr : RisesBy (·.dig) s.blobs) (hr' : RisesBy (·.dig) t.blobs)
  (hh : ∀ d ∈ ds, hexC d = 0) (hrt : ∀ x ∈ rts t, x ∈ rts s ∨ x ∈ ds)
  (hin : ∀ x, InB t.blobs x → InB s.blobs x ∨ x ∈ ds)
  (hmk : ∀ x, x ∈ mkd t.blobs ↔ x ∈ mkd s.blobs)
  (hkd : ∀ x, InB s.blobs x → kids t.blobs x = kids s.blobs x) : GoodC (zm t c ds).1 (zm t c ds).2 := by
 by_cases h1 : c.phase = 1
 ·rw [Vk h1]
  refine ⟨by show 1 ≤ 2; omega, fun d hd => ?_, kr _, hc.ah, fun h => absurd rfl h, fun _ => hc.a0 (by omega), fun _ x hx hb => ?_, fun _ b hb hm x hx hi => ?_, fun h => by cases h⟩
  ·rcases List.mem_append.1 (qF.1 hd) with h | h
   ·exact hc.gh d h
   ·exact hh d h
  ·show x ∈ mkd t.blobs ∨ x ∈ uni (c.grey ++ ds)
   rw [qF, List.mem_append]
   rcases hrt x hx with h | h
   ·rcases hin x hb with h2 | h2
    ·rcases hc.mr h1 x h h2 with h3 | h3
     ·exact .inl ((hmk x).2 h3)
     ·exact .inr (.inl h3)
    ·exact .inr (.inr h2)
   ·exact .inr (.inr h)
  ·show x ∈ mkd t.blobs ∨ x ∈ uni (c.grey ++ ds)
   rw [qF, List.mem_append]
   have hbm : b.dig ∈ mkd s.blobs := (hmk _).1 (zX.2 ⟨b, hb, hm, rfl⟩)
   obtain ⟨b', hb', hm', e⟩ := zX.1 hbm
   have hx' : x ∈ kids s.blobs b'.dig := by
    have h2 := hkd b'.dig ⟨b', hb', rfl⟩
    rw [← h2, e]; exact hx
   rcases hin x hi with h2 | h2
   ·rcases hc.mb h1 b' hb' hm' x hx' h2 with h3 | h3
    ·exact .inl ((hmk x).2 h3)
    ·exact .inr (.inl h3)
   ·exact .inr (.inr h2)
 ·by_cases h2 : c.phase = 2
  ·rw [Vo h2]
   have hg0 := hc.g0 h1
   refine ⟨hc.ph, hc.gh, hc.ris, hc.ah, hc.g0, hc.a0, fun h => absurd h h1, fun h => absurd h h1, fun _ x hx => ?_⟩
   show x ∈ mkd (zJ t.blobs (ZR t.blobs ds))
   have hE : EqM t.blobs (zJ t.blobs (ZR t.blobs ds)) := xJ _ _
   have hx' : Rch t.blobs (rts t) x := by
    have : Rch (zJ t.blobs (ZR t.blobs ds)) (rts { t with blobs := zJ t.blobs (ZR t.blobs ds) }) x := hx
    rw [ui hE, uG hE] at this; exact this
   clear hx
   rw [jA]
   have key : Rch s.blobs (rts s) x ∨ Rch t.blobs ds x := by
    induction hx' with
    | @root x h3 h4 =>
     rcases hrt x h3 with h | h
     ·rcases hin x h4 with h5 | h5
      ·exact .inl (.root h h5)
      ·exact .inr (.root h5 h4)
     ·exact .inr (.root h h4)
    | @step x y h3 h4 h5 ih =>
     rcases ih with ih | ih
     ·rw [hkd x ih.inB] at h4
      rcases hin y h5 with h6 | h6
      ·exact .inl (.step ih h4 h6)
      ·exact .inr (.root h6 h5)
     ·exact .inr (.step ih h4 h5)
   rcases key with h | h
   ·exact .inl ((hmk x).2 (hc.sw h2 x h))
   ·exact .inr ⟨uw.2 h, h.inB⟩
  ·have h0 : c.phase = 0 := by have := hc.ph; omega
   rw [Uk h0]
   exact ⟨hc.ph, hc.gh, hc.ris, hc.ah, hc.g0, hc.a0, fun h => absurd h h1, fun h => absurd h h1, fun h => absurd h h2⟩
theorem xX (s : StoP) (c : ColP) (ds : List (List UInt8)) : 8 * unm (zm s c ds).1.blobs + (zm s c ds).2.grey.length ≤ 8 * unm s.blobs + c.grey.length + ds.length := by
 unfold zm
 split
 ·have := uM (c.grey ++ ds)
  rw [List.length_append] at this
  show 8 * unm s.blobs + (uni (c.grey ++ ds)).length ≤ _
  omega
 ·split
  ·have h : unm (zJ s.blobs (ZR s.blobs ds)) ≤ unm s.blobs := by
    unfold unm zJ
    generalize ZR s.blobs ds = L
    generalize s.blobs = bl
    induction bl with
    | nil => exact Nat.le_refl _
    | cons b bl ih =>
     rw [List.map_cons, List.filter_cons, List.filter_cons]
     by_cases hb : b.dig ∈ L
     ·rw [if_pos hb]
      cases hm : b.mark with
      | true => simpa [hm] using ih
      | false => simp only [hm]; simp; omega
     ·rw [if_neg hb]
      cases hm : b.mark with
      | true => simpa [hm] using ih
      | false => simpa [hm] using ih
   show 8 * unm (zJ s.blobs _) + c.grey.length ≤ _
   omega
  ·show 8 * unm s.blobs + c.grey.length ≤ _
   omega
theorem uV : ∀ (k : Nat) (s : StoP) (c : ColP) (x : List UInt8), GoodS s → GoodC s c → qW 8 s c ≤ k → (c.phase = 0 → InB s.blobs x) → (c.phase = 1 → Rch s.blobs (c.grey ++ mkd s.blobs) x) → (c.phase = 2 → x ∈ mkd s.blobs) → InB (xS s c).1.blobs x
 | k, s, c, x, hg, hc, hk, hx0, hx1, hx2 => by
  by_cases h0 : c.phase = 0
  ·rw [xL h0]; exact hx0 h0
  ·have hp : c.phase = 1 ∨ c.phase = 2 := by have := hc.ph; omega
   have hl := kA (k := 8) (kI s.blobs) hp
   have hk1 : 1 ≤ k := by omega
   obtain ⟨h1, h2, h3, h4, h5, h6⟩ := ko hg hc hp
   rw [vh hp]
   refine uV (k - 1) (zt s c).1 (zt s c).2.1 x h1 h2 (by omega) (fun hz => ?_) (fun hz => ?_) (fun hz => ?_)
   ·rcases hp with hp | hp
    ·have : (zk s c).2.phase = 0 := by unfold zt at hz; rw [if_pos hp] at hz; exact hz
     rcases xu s c with h | h
     ·omega
     ·rw [h] at this; cases this
    ·have hT : zt s c = zQ s c := by unfold zt; rw [if_neg (by omega)]
     rw [hT] at hz ⊢
     rcases zL s c with ⟨_, e⟩ | ⟨_, _, _, _, e⟩ | ⟨_, _, _, _, e⟩
     ·rw [e]
      obtain ⟨b, hb, _, e2⟩ := zX.1 (hx2 hp)
      exact ⟨b, hb, e2⟩
     ·rw [e] at hz; cases hz
     ·rw [e] at hz; cases hz
   ·rcases hp with hp | hp
    ·have hT : zt s c = ((zk s c).1, (zk s c).2, []) := by unfold zt; rw [if_pos hp]
     rw [hT] at hz ⊢
     show Rch (zk s c).1.blobs ((zk s c).2.grey ++ mkd (zk s c).1.blobs) x
     have hx := hx1 hp
     have hE := (qf s c).1
     rw [uG hE]
     rcases zS s c with ⟨_, e⟩ | ⟨d, rest, hcg, hn, e⟩ | ⟨d, rest, i, hi, hcg, _, hd, hm, e⟩ | ⟨d, rest, i, hi, hcg, hf, hd, hm, e⟩
     ·rw [e] at hz; cases hz
     ·rw [e]
      show Rch s.blobs (rest ++ mkd s.blobs) x
      rw [hcg] at hx
      refine hx.mono fun y hy hb => .root ?_ hb
      rcases List.mem_append.1 hy with h | h
      ·rcases List.mem_cons.1 h with h | h
       ·subst h; exact absurd hb hn
       ·exact List.mem_append_left _ h
      ·exact List.mem_append_right _ h
     ·rw [e]
      show Rch s.blobs (rest ++ mkd s.blobs) x
      rw [hcg] at hx
      refine hx.mono fun y hy hb => .root ?_ hb
      rcases List.mem_append.1 hy with h | h
      ·rcases List.mem_cons.1 h with h | h
       ·exact List.mem_append_right _ (zX.2 ⟨_, List.getElem_mem hi, hm, by rw [h, hd]⟩)
       ·exact List.mem_append_left _ h
      ·exact List.mem_append_right _ h
     ·rw [e]
      show Rch s.blobs (uni (rest ++ kids s.blobs d) ++ mkd (s.blobs.set i { s.blobs[i] with mark := true })) x
      rw [hcg] at hx
      refine hx.mono fun y hy hb => .root ?_ hb
      rcases List.mem_append.1 hy with h | h
      ·rcases List.mem_cons.1 h with h | h
       ·exact List.mem_append_right _ ((jZ hi y).2 (.inr (by rw [h, hd])))
       ·exact List.mem_append_left _ (qF.2 (List.mem_append_left _ h))
      ·exact List.mem_append_right _ ((jZ hi y).2 (.inl h))
    ·have hT : zt s c = zQ s c := by unfold zt; rw [if_neg (by omega)]
     rw [hT] at hz
     rcases uz s c with h | h
     ·omega
     ·rw [h] at hz; cases hz
   ·rcases hp with hp | hp
    ·have hT : zt s c = ((zk s c).1, (zk s c).2, []) := by unfold zt; rw [if_pos hp]
     rw [hT] at hz ⊢
     show x ∈ mkd (zk s c).1.blobs
     rcases zS s c with ⟨hcg, e⟩ | ⟨d, rest, hcg, hn, e⟩ | ⟨d, rest, i, hi, hcg, _, hd, hm, e⟩ | ⟨d, rest, i, hi, hcg, hf, hd, hm, e⟩
     ·rw [e]
      show x ∈ mkd s.blobs
      have hx := hx1 hp
      rw [hcg, List.nil_append] at hx
      clear hx0 hx1 hx2
      induction hx with
      | root h7 h8 => exact h7
      | step h7 h8 h9 ih =>
       obtain ⟨b, hb, hm, rfl⟩ := zX.1 ih
       rcases hc.mb hp b hb hm _ h8 h9 with h | h
       ·exact h
       ·rw [hcg] at h; cases h
     all_goals rw [e] at hz; cases hz
    ·have hT : zt s c = zQ s c := by unfold zt; rw [if_neg (by omega)]
     rw [hT] at hz ⊢
     rcases zL s c with ⟨_, e⟩ | ⟨i, hi, _, hm, e⟩ | ⟨i, hi, _, hm, e⟩
     ·rw [e] at hz; cases hz
     ·rw [e]; exact hx2 hp
     ·rw [e]
      show x ∈ mkd (s.blobs.eraseIdx i)
      rw [Zz hi hm]; exact hx2 hp
termination_by k => k
decreasing_by all_goals omega
end Go.Proofs.YtpbacomdoddhdaaGreat
namespace Go.Proofs.YtpbacomdoddhdaaGreat
open Go.RowKit Go.Maps
set_option maxHeartbeats 16000000 in
theorem X6 (A : Option Addr) (c : Nat) (B : Option Addr) (d : Nat) (s : StoP) (Ag : Option Addr) (ng : Nat) (cp : ColP) (w : World) (hg : GoodS s) (hr : RdSt w A c B d s) (hp : cp.phase = 2) (hgc : GoodC s cp) :
  Calls Tryz.prog 127 #[.agg #[.slice A s.blobs.length c, .slice B s.ents.length d, .int .i64 (s.room : Int), .int .i64 (s.clock : Int)], coV (.slice Ag cp.grey.length ng) cp] w fun e w' =>
   ∃ v1 v2, e = .returned (.tuple #[stV v1 v2 s, coV (.slice none 0 0) (zQ s cp).2.1, .string ⟨(zQ s cp).2.2.toArray⟩, .int .i64 0]) ∧ OwSt w' w.heap.size v1 v2 (zQ s cp).1 (fun b => b < w.heap.size) ∧ Below w.heap.size w w' := by
 have hlb : s.blobs.length ≤ 24 := hg.b.len
 have hle : s.ents.length ≤ 10 := hg.e.len
 have HGD := Lib.hid hg
 have HSW := Lib.hid (hgc.sw hp)
 obtain ⟨phase, grey, at_⟩ := cp
 simp only at hp
 subst hp
 clear hgc
 obtain ⟨w0, hw0, hS, hC, hR, hD, hb0⟩ := zT w 26 29 [.slice A s.blobs.length c, .slice B s.ents.length d, .int .i64 (s.room : Int), .int .i64 (s.clock : Int)] [.int .i64 2, .slice Ag grey.length ng, .string ⟨at_.toArray⟩] [.slice none 0 0, .slice none 0 0, .int .i64 0, .int .i64 0] [.int .i64 0, .slice none 0 0, .string ⟨#[]⟩]
 have hr0 := hr.below hb0
 obtain ⟨H, hH⟩ : ∃ H, H = w.heap.size := ⟨_, rfl⟩
 have HCK := Lib.hid (zK A c B d s w0 hg hr0)
 rw [← hH] at hS hC hR hD hb0 ⊢
 have hHl : H + 1 + 1 + 1 < w0.heap.size := hD.lt
 have x0 := hS.cell (k := 0) rfl
 have x1 := hS.cell (k := 1) rfl
 have x2 := hS.cell (k := 2) rfl
 have x3 := hS.cell (k := 3) rfl
 rw [hw0, hH] at x0 x1 x2 x3
 have HPL := Lib.hid (show ∀ b ∈ s.blobs, b.data.length ≤ 1000000 from fun b hb => by have := (hg.b.one b hb).2.1; omega)
 have HQL := Lib.hid (show ∀ x ∈ s.ents, x.parts.length ≤ 1000000 from fun x hx => by have := (zi (hg.e.one x hx).2.1).1; omega)
 clear hg hr
 go_enter Tryz.func127, Tryz.ntmps127
 go_wp2_with fail
 rw [← hw0, ← hH]
 have HH := Lib.hid hH
 clear hw0 hH x0 x1 x2 x3
 refine ((HCK.out)).mono ?_; rintro e_ w1 ⟨rfl, hb1⟩; dsimp only
 have hr1 := hr0.below hb1
 have hS1 := hS.below hb1
 have z0 := hS1.cell (k := 0) rfl
 have z1 := hS1.cell (k := 1) rfl
 have z2 := hS1.cell (k := 2) rfl
 have z3 := hS1.cell (k := 3) rfl
 have x0 := (hC.below hb1).cell (k := 0) rfl
 have HCP := Lib.hid (qY A c B d s w1 (by omega) (by omega) HPL.out HQL.out hr1)
 clear HCK
 go_wp2_with fail
 clear z0 z1 z2 z3 x0
 refine ((HCP.out)).mono ?_; rintro e_ w3 ⟨q1, q2, rfl, ho3, hb3⟩; dsimp only
 have hc3 := hb1.trans (hb3.mono hb1.size)
 have ho3 := ho3.lower (base' := w0.heap.size) hb1.size
 obtain ⟨G, hG⟩ : ∃ G, G = w3.heap.size := ⟨_, rfl⟩
 have hba := (Below.refl w3.heap.size w3).alloc (Nat.le_refl _) (.cells #[.slice (some ⟨q1, 0, none⟩) s.blobs.length s.blobs.length, .slice (some ⟨q2, 0, none⟩) s.ents.length s.ents.length, .int .i64 (s.room : Int), .int .i64 (s.clock : Int)] 26)
 have hX : Arr (w3.alloc (.cells #[.slice (some ⟨q1, 0, none⟩) s.blobs.length s.blobs.length, .slice (some ⟨q2, 0, none⟩) s.ents.length s.ents.length, .int .i64 (s.room : Int), .int .i64 (s.clock : Int)] 26)) G 26 [.slice (some ⟨q1, 0, none⟩) s.blobs.length s.blobs.length, .slice (some ⟨q2, 0, none⟩) s.ents.length s.ents.length, .int .i64 (s.room : Int), .int .i64 (s.clock : Int)] := by rw [hG]; exact Arr.new w3 26 _
 have ho : OwSt (w3.alloc (.cells #[.slice (some ⟨q1, 0, none⟩) s.blobs.length s.blobs.length, .slice (some ⟨q2, 0, none⟩) s.ents.length s.ents.length, .int .i64 (s.room : Int), .int .i64 (s.clock : Int)] 26)) w0.heap.size (.slice (some ⟨q1, 0, none⟩) s.blobs.length s.blobs.length) (.slice (some ⟨q2, 0, none⟩) s.ents.length s.ents.length) s (fun b => b < w0.heap.size ∨ b = G) :=
  (ho3.wider fun b hb => by
   rcases hb with hb | hb
   ·exact .inl (Nat.lt_of_lt_of_le hb hb1.size)
   ·exact .inr (by rw [hb, hG]; exact Nat.le_refl _)).below hba
 have hbk := hc3.trans (hba.mono hc3.size)
 have hGL : w0.heap.size ≤ G := by rw [hG]; exact hc3.size
 have HG := Lib.hid hG
 have x0 := (hS.below hbk).cell (k := 0) rfl
 have x2 := (hC.below hbk).cell (k := 2) rfl
 have hr4 := hr0.below hbk
 have HNX := Lib.hid (Vj A c s.blobs at_ _ (by omega) hr4.b)
 clear hG ho3 hb3 hr1 HCP hba hb1 hS1 hc3
 go_wp2_with fail
 rw [← HG.out]
 clear x0 x2
 generalize (w3.alloc (.cells #[.slice (some ⟨q1, 0, none⟩) s.blobs.length s.blobs.length, .slice (some ⟨q2, 0, none⟩) s.ents.length s.ents.length, .int .i64 (s.room : Int), .int .i64 (s.clock : Int)] 26)) = w4 at *
 refine ((HNX.out)).mono ?_; rintro e_ w5 ⟨rfl, hb5⟩; dsimp only
 have hX := hX.below hb5
 have ho := ho.below hb5
 have hbk := hbk.trans (hb5.mono hbk.size)
 clear hb5 HNX
 rcases zL s ⟨2, grey, at_⟩ with ⟨hf, hs⟩ | ⟨i, hi, hf, hm, hs⟩ | ⟨i, hi, hf, hm, hs⟩
 ·have hf' : s.blobs.findIdx? (fun b => Op.bytesLess at_ b.dig) = none := hf
  rw [hf', Zo]
  have HSS := Lib.hid hs
  have hR := hR.below hbk
  have hD := hD.below hbk
  have hB := hb0.trans (hbk.mono (show H ≤ w0.heap.size by omega))
  clear hf hf' hs hr4
  have hF1 := Lib.hid (zW (g := H + 1 + 1) (h := H + 1 + 1 + 1) (u0 := (.slice (some ⟨q1, 0, none⟩) s.blobs.length s.blobs.length)) (u1 := (.slice (some ⟨q2, 0, none⟩) s.ents.length s.ents.length)) (u2 := .int .i64 (s.room : Int)) (u3 := .int .i64 (s.clock : Int)) (x0 := .int .i64 0) (x1 := .slice none 0 0) (x2 := .string ⟨#[]⟩) hR (by omega))
  have hF2 := Lib.hid (zV (g := H + 1 + 1) (h := H + 1 + 1 + 1) (u0 := (.slice (some ⟨q1, 0, none⟩) s.blobs.length s.blobs.length)) (u1 := (.slice (some ⟨q2, 0, none⟩) s.ents.length s.ents.length)) (u2 := .int .i64 (s.room : Int)) (u3 := .int .i64 (s.clock : Int)) (x0 := .int .i64 0) (x1 := .slice none 0 0) (x2 := .string ⟨#[]⟩) hD (by omega))
  have hF3 := Lib.hid (zN (g := H + 1 + 1) (h := H + 1 + 1 + 1) (u0 := (.slice (some ⟨q1, 0, none⟩) s.blobs.length s.blobs.length)) (u1 := (.slice (some ⟨q2, 0, none⟩) s.ents.length s.ents.length)) (u2 := .int .i64 (s.room : Int)) (u3 := .int .i64 (s.clock : Int)) (x0 := .int .i64 0) (x1 := .slice none 0 0) (x2 := .string ⟨#[]⟩) ho (.inl (by omega)) (.inl (by omega)) (ho.nb hR (by decide) (by decide)).1 (ho.nb hR (by decide) (by decide)).2 (ho.nb hD (by decide) (by decide)).1 (ho.nb hD (by decide) (by decide)).2)
  have hF5 := Lib.hid (zo (g := H + 1 + 1) (h := H + 1 + 1 + 1) (u0 := (.slice (some ⟨q1, 0, none⟩) s.blobs.length s.blobs.length)) (u1 := (.slice (some ⟨q2, 0, none⟩) s.ents.length s.ents.length)) (u2 := .int .i64 (s.room : Int)) (u3 := .int .i64 (s.clock : Int)) (x0 := .int .i64 0) (x1 := .slice none 0 0) (x2 := .string ⟨#[]⟩) hB (by omega) (by omega))
  have f0 := hR.frozen 0
  have f1 := hR.frozen 1
  have f2 := hR.frozen 2
  have f3 := hR.frozen 3
  have y0 := hR.cell (k := 0) rfl
  have y1 := hR.cell (k := 1) rfl
  have y2 := hR.cell (k := 2) rfl
  have y3 := hR.cell (k := 3) rfl
  have e0 := hD.frozen 0
  have e1 := hD.frozen 1
  have e2 := hD.frozen 2
  have x0 := hD.cell (k := 0) rfl
  have x1 := hD.cell (k := 1) rfl
  have x2 := hD.cell (k := 2) rfl
  have b0 := hX.cell (k := 0) rfl
  have b1 := hX.cell (k := 1) rfl
  have b2 := hX.cell (k := 2) rfl
  have b3 := hX.cell (k := 3) rfl
  clear hR hD ho hB hX hbk hb0 hS hC
  go_wp2_with fail
  refine bodyPost_ret (zF rfl _ _ (H + 1 + 1) (H + 1 + 1 + 1) _ _ _ _ _ _ _ _ (by rfl) hF1.out Tryz.underlying26 rfl (by kernel_rfl) (by rfl) hF2.out Tryz.underlying29 rfl (by kernel_rfl)) rfl ?_
  rw [HSS.out]
  exact ⟨_, _, rfl, (hF3.out.lower (by omega)).mono (fun b hb => .inl (by omega)), hF5.out⟩
 ·have hf' : s.blobs.findIdx? (fun b => Op.bytesLess at_ b.dig) = some i := hf
  rw [hf', Zo]
  have HSS := Lib.hid hs
  obtain ⟨bq, oq, Bq, cq, eq, hbq, d0, d1, d2, d3, hsl⟩ := (hr0.below hbk).b.blob_at i hi
  subst eq
  have hi0 : (0 : Int) ≤ (i : Int) := by omega
  have hi1 : (i : Int) < (s.blobs.length : Int) := by omega
  have hdg : s.blobs[i].dig = s.blobs[i].dig := rfl
  rw [hm] at d3
  have z0 := (hS.below hbk).cell (k := 0) rfl
  generalize hqq : s.blobs[i] = q at *
  obtain ⟨gb, hgb⟩ : ∃ g, g = w5.heap.size := ⟨_, rfl⟩
  have hba := (Below.refl w5.heap.size w5).alloc (Nat.le_refl _) (.cells #[.string ⟨q.dig.toArray⟩, .slice Bq q.data.length cq, .int .i64 (q.pins : Int), .bool true] 96)
  have hbb : Arr (w5.alloc (.cells #[.string ⟨q.dig.toArray⟩, .slice Bq q.data.length cq, .int .i64 (q.pins : Int), .bool true] 96)) gb 96 [.string ⟨q.dig.toArray⟩, .slice Bq q.data.length cq, .int .i64 (q.pins : Int), .bool true] := by rw [hgb]; exact Arr.new w5 96 _
  have hgb5 : w0.heap.size ≤ gb := by rw [hgb]; exact hbk.size
  have hX := hX.below hba
  have ho := ho.below hba
  have hbk := hbk.trans (hba.mono hbk.size)
  have hR := hR.below hbk
  have hD := hD.below hbk
  have hB := hb0.trans (hbk.mono (show H ≤ w0.heap.size by omega))
  have HGB := Lib.hid hgb
  have p0 := hbb.cell (k := 0) rfl
  have p3 := hbb.cell (k := 3) rfl
  rw [hgb] at p0 p3
  clear hf hf' hs hr4 hsl hbq hdg hgb hba hm hqq hbb
  repeat' ((fail_if_success (with_reducible refine at_reg_ 12 ?_)); (fail_if_success (with_reducible refine at_sreg_ 12 ?_)); (fail_if_success (with_reducible refine at_ssreg_ 12 ?_)); (fail_if_success at_builtin); (fail_if_success at_make); (first | go_values | go_skip | go_guarded | go_step | go_upon | go_back))
  rw [← HGB.out]
  rw [← HGB.out] at p0 p3
  clear d0 d1 d2 d3 z0
  generalize (w5.alloc (.cells #[.string ⟨q.dig.toArray⟩, .slice Bq q.data.length cq, .int .i64 (q.pins : Int), .bool true] 96)) = w6 at *
  have n1 : ¬ (gb = H + 1 + 1) := by omega
  have n2 : ¬ (G = H + 1 + 1) := by omega
  have hF1 := Lib.hid (zW (g := H + 1 + 1) (h := H + 1 + 1 + 1) (u0 := (.slice (some ⟨q1, 0, none⟩) s.blobs.length s.blobs.length)) (u1 := (.slice (some ⟨q2, 0, none⟩) s.ents.length s.ents.length)) (u2 := .int .i64 (s.room : Int)) (u3 := .int .i64 (s.clock : Int)) (x0 := .int .i64 2) (x1 := .slice none 0 0) (x2 := .string ⟨q.dig.toArray⟩) hR (by omega))
  have hF2 := Lib.hid (zV (g := H + 1 + 1) (h := H + 1 + 1 + 1) (u0 := (.slice (some ⟨q1, 0, none⟩) s.blobs.length s.blobs.length)) (u1 := (.slice (some ⟨q2, 0, none⟩) s.ents.length s.ents.length)) (u2 := .int .i64 (s.room : Int)) (u3 := .int .i64 (s.clock : Int)) (x0 := .int .i64 2) (x1 := .slice none 0 0) (x2 := .string ⟨q.dig.toArray⟩) hD (by omega))
  have hF3 := Lib.hid (zN (g := H + 1 + 1) (h := H + 1 + 1 + 1) (u0 := (.slice (some ⟨q1, 0, none⟩) s.blobs.length s.blobs.length)) (u1 := (.slice (some ⟨q2, 0, none⟩) s.ents.length s.ents.length)) (u2 := .int .i64 (s.room : Int)) (u3 := .int .i64 (s.clock : Int)) (x0 := .int .i64 2) (x1 := .slice none 0 0) (x2 := .string ⟨q.dig.toArray⟩) ho (.inl (by omega)) (.inl (by omega)) (ho.nb hR (by decide) (by decide)).1 (ho.nb hR (by decide) (by decide)).2 (ho.nb hD (by decide) (by decide)).1 (ho.nb hD (by decide) (by decide)).2)
  have hF5 := Lib.hid (zo (g := H + 1 + 1) (h := H + 1 + 1 + 1) (u0 := (.slice (some ⟨q1, 0, none⟩) s.blobs.length s.blobs.length)) (u1 := (.slice (some ⟨q2, 0, none⟩) s.ents.length s.ents.length)) (u2 := .int .i64 (s.room : Int)) (u3 := .int .i64 (s.clock : Int)) (x0 := .int .i64 2) (x1 := .slice none 0 0) (x2 := .string ⟨q.dig.toArray⟩) hB (by omega) (by omega))
  have f0 := hR.frozen 0
  have f1 := hR.frozen 1
  have f2 := hR.frozen 2
  have f3 := hR.frozen 3
  have y0 := hR.cell (k := 0) rfl
  have y1 := hR.cell (k := 1) rfl
  have y2 := hR.cell (k := 2) rfl
  have y3 := hR.cell (k := 3) rfl
  have e0 := hD.frozen 0
  have e1 := hD.frozen 1
  have e2 := hD.frozen 2
  have x0 := hD.cell (k := 0) rfl
  have x1 := hD.cell (k := 1) rfl
  have x2 := hD.cell (k := 2) rfl
  have b0 := hX.cell (k := 0) rfl
  have b1 := hX.cell (k := 1) rfl
  have b2 := hX.cell (k := 2) rfl
  have b3 := hX.cell (k := 3) rfl
  clear hR hD ho hB hX hbk hb0 hS hC
  go_region
  all_goals (try dsimp only [Exit.then])
  go_wp2_with fail
  refine bodyPost_ret (zF rfl _ _ (H + 1 + 1) (H + 1 + 1 + 1) _ _ _ _ _ _ _ _ (by rfl) (Arr.drew hF1.out) Tryz.underlying26 rfl (by kernel_rfl) (by rfl) (Arr.drew hF2.out) Tryz.underlying29 rfl (by kernel_rfl)) rfl ?_
  rw [HSS.out]
  exact ⟨_, _, rfl, (hF3.out.drewX.lower (by omega)).mono (fun b hb => .inl (by omega)), hF5.out.drew⟩
 ·have hf' : s.blobs.findIdx? (fun b => Op.bytesLess at_ b.dig) = some i := hf
  rw [hf', Zo]
  have HSS := Lib.hid hs
  have hn := Ze HGD.out hi hm HSW.out
  have HPZ := Lib.hid (jf HGD.out hi hn)
  have HGE := Lib.hid (j9 HGD.out hi hn)
  obtain ⟨bq, oq, Bq, cq, eq, hbq, d0, d1, d2, d3, hsl⟩ := (hr0.below hbk).b.blob_at i hi
  subst eq
  have hi0 : (0 : Int) ≤ (i : Int) := by omega
  have hi1 : (i : Int) < (s.blobs.length : Int) := by omega
  rw [hm] at d3
  have z0 := (hS.below hbk).cell (k := 0) rfl
  generalize hqq : s.blobs[i] = q at *
  obtain ⟨gb, hgb⟩ : ∃ g, g = w5.heap.size := ⟨_, rfl⟩
  have hba := (Below.refl w5.heap.size w5).alloc (Nat.le_refl _) (.cells #[.string ⟨q.dig.toArray⟩, .slice Bq q.data.length cq, .int .i64 (q.pins : Int), .bool false] 96)
  have hbb : Arr (w5.alloc (.cells #[.string ⟨q.dig.toArray⟩, .slice Bq q.data.length cq, .int .i64 (q.pins : Int), .bool false] 96)) gb 96 [.string ⟨q.dig.toArray⟩, .slice Bq q.data.length cq, .int .i64 (q.pins : Int), .bool false] := by rw [hgb]; exact Arr.new w5 96 _
  have hgb5 : w0.heap.size ≤ gb := by rw [hgb]; exact hbk.size
  have hnq : q1 ≠ gb := fun e => by have h := (ho.b.rwo.blk rfl).2; rw [hgb] at e; exact absurd (e ▸ h) (Nat.lt_irrefl _)
  have xx0 := hX.cell (k := 0) rfl
  have hGlt := hX.lt
  have hX := hX.below hba
  have ho := ho.below hba
  have hbk := hbk.trans (hba.mono hbk.size)
  have p3 := hbb.cell (k := 3) rfl
  rw [hgb] at p3
  have x0 := hX.cell (k := 0) rfl
  have hw1 : IntKind.i64.wrap ((i : Int) + 1) = (i : Int) + 1 := IntWalk.i64_in _ (by omega)
  have HDL := Lib.hid (Vm q1 i s.blobs w0.heap.size s.blobs.length _ _ hi ho.b)
  have HGB := Lib.hid hgb
  clear hf hf' hs hr4 hsl hbq hba hm hqq hgb
  go_wp2_with fail
  rw [← HGB.out]
  clear d0 d1 d2 d3 z0 p3 x0 xx0
  generalize (w5.alloc (.cells #[.string ⟨q.dig.toArray⟩, .slice Bq q.data.length cq, .int .i64 (q.pins : Int), .bool false] 96)) = w6 at *
  refine ((HDL.out)).mono ?_; rintro e_ w7 ⟨rfl, hx7, hg7⟩; dsimp only
  have hne := (ho.nb hX (by decide) (by decide)).1
  have hne2 := (ho.nb hX (by decide) (by decide)).2
  have ho7 := ho.turnB hx7 hg7 rfl
  have hX7 := hX.grown hg7 hne
  have hbb7 := hbb.grown hg7 (fun e => by injection e with e; exact hnq e)
  have hbk7 := hbk.grown hg7 hbk.size (fun b e => by cases e; exact (ho.b.rwo.blk rfl).1)
  have f0 := hX7.frozen 0
  have x0 := hX7.cell (k := 0) rfl
  have hX := hX7.set (k := 0) (by simp) (.slice (some ⟨q1, 0, none⟩) (s.blobs.eraseIdx i).length s.blobs.length)
  have ho := ho7.setX (g := G) (k := 0) (.inr rfl) hne hne2 (.slice (some ⟨q1, 0, none⟩) (s.blobs.eraseIdx i).length s.blobs.length)
  have hbb := hbb7.other (k := 0) (show gb ≠ G from Zs hbb7 hX7 (by decide)) (.slice (some ⟨q1, 0, none⟩) (s.blobs.eraseIdx i).length s.blobs.length)
  have hbk := hbk7.setCell (p := ⟨G, 0, none⟩) hGL (.slice (some ⟨q1, 0, none⟩) (s.blobs.eraseIdx i).length s.blobs.length)
  simp only [List.set_cons_zero] at hX
  have g1 : decide ((q.pins : Int) > 0) = false := decide_eq_false (by have := HPZ.out; omega)
  have g2 : decide ((0 : Int) < (q.pins : Int)) = false := decide_eq_false (by have := HPZ.out; omega)
  have g3 : decide (0 < q.pins) = false := decide_eq_false (by have := HPZ.out; omega)
  have p2 := hbb.cell (k := 2) rfl
  have x1 := hX7.cell (k := 1) rfl
  have x2 := hX7.cell (k := 2) rfl
  have x3 := hX7.cell (k := 3) rfl
  obtain ⟨A9, c9, B9, d9, e1, e2, hrd9⟩ := ho.rows
  injection e1 with e11 e12 e13
  injection e2 with e21 e22 e23
  subst e11 e13 e21 e23
  clear e12 e22
  have hck := zK (some ⟨q1, 0, none⟩) s.blobs.length (some ⟨q2, 0, none⟩) s.ents.length { s with blobs := s.blobs.eraseIdx i } _ HGE.out hrd9
  have HCK := Lib.hid hck
  have p0 := hbb.cell (k := 0) rfl
  clear hx7 hg7 hne hne2 ho7 hX7 hbb7 hbk7 hck hrd9 HDL
  go_wp2_with fail
  clear f0 x0 x1 x2 x3 p2 p0
  generalize (w7.setCell ⟨G, 0, none⟩ (.slice (some ⟨q1, 0, none⟩) (s.blobs.eraseIdx i).length s.blobs.length)) = w8 at *
  refine ((HCK.out)).mono ?_; rintro e_ w9 ⟨rfl, hb9⟩; dsimp only
  have hX := hX.below hb9
  have ho := ho.below hb9
  have hbb := hbb.below hb9
  have hbk := hbk.trans (hb9.mono hbk.size)
  have hR := hR.below hbk
  have hD := hD.below hbk
  have hB := hb0.trans (hbk.mono (show H ≤ w0.heap.size by omega))
  have p0 := hbb.cell (k := 0) rfl
  have n1 : ¬ (gb = H + 1 + 1) := by omega
  have n2 : ¬ (G = H + 1 + 1) := by omega
  clear hb9 hbb HCK
  repeat' ((fail_if_success (with_reducible refine at_reg_ 16 ?_)); (fail_if_success (with_reducible refine at_sreg_ 16 ?_)); (fail_if_success (with_reducible refine at_ssreg_ 16 ?_)); (fail_if_success at_builtin); (fail_if_success at_make); (first | go_values | go_skip | go_guarded | go_step | go_upon | go_back))
  have hF1 := Lib.hid (zW (g := H + 1 + 1) (h := H + 1 + 1 + 1) (u0 := (.slice (some ⟨q1, 0, none⟩) (s.blobs.eraseIdx i).length s.blobs.length)) (u1 := (.slice (some ⟨q2, 0, none⟩) s.ents.length s.ents.length)) (u2 := .int .i64 (s.room : Int)) (u3 := .int .i64 (s.clock : Int)) (x0 := .int .i64 2) (x1 := .slice none 0 0) (x2 := .string ⟨q.dig.toArray⟩) hR (by omega))
  have hF2 := Lib.hid (zV (g := H + 1 + 1) (h := H + 1 + 1 + 1) (u0 := (.slice (some ⟨q1, 0, none⟩) (s.blobs.eraseIdx i).length s.blobs.length)) (u1 := (.slice (some ⟨q2, 0, none⟩) s.ents.length s.ents.length)) (u2 := .int .i64 (s.room : Int)) (u3 := .int .i64 (s.clock : Int)) (x0 := .int .i64 2) (x1 := .slice none 0 0) (x2 := .string ⟨q.dig.toArray⟩) hD (by omega))
  have hF3 := Lib.hid (zN (g := H + 1 + 1) (h := H + 1 + 1 + 1) (u0 := (.slice (some ⟨q1, 0, none⟩) (s.blobs.eraseIdx i).length s.blobs.length)) (u1 := (.slice (some ⟨q2, 0, none⟩) s.ents.length s.ents.length)) (u2 := .int .i64 (s.room : Int)) (u3 := .int .i64 (s.clock : Int)) (x0 := .int .i64 2) (x1 := .slice none 0 0) (x2 := .string ⟨q.dig.toArray⟩) ho (.inl (by omega)) (.inl (by omega)) (ho.nb hR (by decide) (by decide)).1 (ho.nb hR (by decide) (by decide)).2 (ho.nb hD (by decide) (by decide)).1 (ho.nb hD (by decide) (by decide)).2)
  have hF5 := Lib.hid (zo (g := H + 1 + 1) (h := H + 1 + 1 + 1) (u0 := (.slice (some ⟨q1, 0, none⟩) (s.blobs.eraseIdx i).length s.blobs.length)) (u1 := (.slice (some ⟨q2, 0, none⟩) s.ents.length s.ents.length)) (u2 := .int .i64 (s.room : Int)) (u3 := .int .i64 (s.clock : Int)) (x0 := .int .i64 2) (x1 := .slice none 0 0) (x2 := .string ⟨q.dig.toArray⟩) hB (by omega) (by omega))
  have f0 := hR.frozen 0
  have f1 := hR.frozen 1
  have f2 := hR.frozen 2
  have f3 := hR.frozen 3
  have y0 := hR.cell (k := 0) rfl
  have y1 := hR.cell (k := 1) rfl
  have y2 := hR.cell (k := 2) rfl
  have y3 := hR.cell (k := 3) rfl
  have e0 := hD.frozen 0
  have e1 := hD.frozen 1
  have e2 := hD.frozen 2
  have x0 := hD.cell (k := 0) rfl
  have x1 := hD.cell (k := 1) rfl
  have x2 := hD.cell (k := 2) rfl
  have b0 := hX.cell (k := 0) rfl
  have b1 := hX.cell (k := 1) rfl
  have b2 := hX.cell (k := 2) rfl
  have b3 := hX.cell (k := 3) rfl
  clear hR hD ho hB hX hbk hb0 hS hC
  go_region
  all_goals (try dsimp only [Exit.then])
  go_wp2_with fail
  refine bodyPost_ret (zF rfl _ _ (H + 1 + 1) (H + 1 + 1 + 1) _ _ _ _ _ _ _ _ (by rfl) (Arr.drew hF1.out) Tryz.underlying26 rfl (by kernel_rfl) (by rfl) (Arr.drew hF2.out) Tryz.underlying29 rfl (by kernel_rfl)) rfl ?_
  rw [HSS.out]
  exact ⟨_, _, rfl, (hF3.out.drewX.lower (by omega)).mono (fun b hb => .inl (by omega)), hF5.out.drew⟩
end Go.Proofs.YtpbacomdoddhdaaGreat
namespace Go.Proofs.YtpbacomdoddhdaaGreat
open Go.RowKit
structure Bsy (m : Nat) (s : StoP) (c : ColP) : Prop where
 g : GoodS s
 gc : GoodC s c
 gr : 8 * unm s.blobs + c.grey.length ≤ 296 + 9 * m
 k7 : ∀ x ∈ s.ents, ∃ j, j < 7 ∧ x.key = keyS j
 ck : s.clock ≤ 24 + m
theorem Bsy.e7 {m : Nat} {s : StoP} {c : ColP} (h : Bsy m s c) : s.ents.length ≤ 7 := by
 have h1 := vX (ks := s.ents.map (·.key)) (by
  have : Rises (s.ents.map (·.key)) := h.g.e.ris.map
  exact this.nodup) (fun k hk => by
  obtain ⟨x, hx, rfl⟩ := List.mem_map.1 hk
  exact h.k7 x hx)
 rwa [List.length_map] at h1
theorem Bsy.up {m n : Nat} {s : StoP} {c : ColP} (h : Bsy m s c) (hn : m ≤ n) : Bsy n s c := ⟨h.g, h.gc, by have := h.gr; omega, h.k7, by have := h.ck; omega⟩
theorem VZ {s : StoP} (hg : GoodS s) : unm s.blobs ≤ 24 := Nat.le_trans (Ut _) hg.b.len
theorem XK {s : StoP} (hg : GoodS s) : (rts s).length ≤ 104 := by
 have h4 := xq s.ents (fun x hx => (zi (hg.e.one x hx).2.1).1)
 have h5 := ud s.blobs
 have h6 : (rts s).length = (jD s.ents).length + (vy s.blobs).length := List.length_append
 have := hg.b.len
 have := hg.e.len
 omega
theorem Bsy.begin {m : Nat} {s : StoP} {c : ColP} (h : Bsy m s c) : Bsy m (kX s) (ye s) := by
 refine ⟨yq h.g, uX h.g, ?_, h.k7, h.ck⟩
 have h1 : unm (kX s).blobs ≤ 24 := VZ (yq h.g)
 have h3 : (ye s).grey.length ≤ (rts s).length := uM _
 have := XK h.g
 omega
theorem Kb {s : StoP} (hg : GoodS s) (hk : ∀ x ∈ s.ents, ∃ j, j < 7 ∧ x.key = keyS j) (hc : s.clock ≤ 24) : Bsy 0 (kX s) (ye s) := by
 refine ⟨yq hg, uX hg, ?_, hk, by show s.clock ≤ 24 + 0; omega⟩
 have h1 : unm (kX s).blobs ≤ 24 := VZ (yq hg)
 have h3 : (ye s).grey.length ≤ (rts s).length := uM _
 have := XK hg
 omega
theorem jT {l : List BlobP} {D : List UInt8} {b : BlobP} (h : b ∈ putB l D) : b ∈ l ∨ b = ⟨shaS D, D, 0, false⟩ := by
 unfold putB at h
 cases hf : l.findIdx? (fun b => b.dig == shaS D) with
 | none =>
  rw [hf] at h
  rcases List.mem_cons.1 ((zw _ _).mem_iff.1 h) with h | h
  ·exact .inr h
  ·exact .inl h
 | some i => rw [hf] at h; exact .inl h
theorem vv {p : BlobP → Bool} (l : List BlobP) (D : List UInt8) : ((putB l D).filter p).length ≤ (l.filter p).length + 1 := by
 unfold putB
 cases hf : l.findIdx? (fun b => b.dig == shaS D) with
 | none =>
  show ((srt _ _).filter p).length ≤ _
  rw [((zw _ _).filter p).length_eq, List.filter_cons]
  split
  ·simp
  ·omega
 | some i => show (l.filter p).length ≤ _; omega
theorem Bsy.put {m : Nat} {s : StoP} {c : ColP} {D : List UInt8} (h : Bsy m s c) (hf : Fits s D) : Bsy (m + 1) (zm (zp s D) c [shaS D]).1 (zm (zp s D) c [shaS D]).2 := by
 have ht : GoodS (zp s D) := hf.good
 have hsub : ∀ b ∈ s.blobs, b ∈ (zp s D).blobs := fun b hb => Zg hb
 refine ⟨xI c _ ht, yO h.gc h.g.b.ris ht.b.ris (fun d hd => ?_) (fun x hx => ?_) (fun x hx => ?_) (fun x => ?_) (fun x hx => ?_), ?_, ?_, ?_⟩
 ·rw [List.mem_singleton.1 hd]; exact zv _
 ·left
  rcases List.mem_append.1 hx with h1 | h1
  ·exact List.mem_append_left _ h1
  ·obtain ⟨b, hb, rfl⟩ := List.mem_map.1 h1
   obtain ⟨h2, h3⟩ := List.mem_filter.1 hb
   rcases jT h2 with h4 | h4
   ·exact List.mem_append_right _ (List.mem_map.2 ⟨b, List.mem_filter.2 ⟨h4, h3⟩, rfl⟩)
   ·subst h4; simp at h3
 ·obtain ⟨b, hb, rfl⟩ := hx
  rcases jT hb with h4 | h4
  ·exact .inl ⟨b, h4, rfl⟩
  ·subst h4; exact .inr (List.mem_singleton.2 rfl)
 ·rw [zX, zX]
  constructor
  ·rintro ⟨b, hb, hm, e⟩
   rcases jT hb with h4 | h4
   ·exact ⟨b, h4, hm, e⟩
   ·subst h4; cases hm
  ·rintro ⟨b, hb, hm, e⟩
   exact ⟨b, hsub b hb, hm, e⟩
 ·exact (uD ht.b.ris h.g.b.ris hsub hx).symm
 ·have h1 := xX (zp s D) c [shaS D]
  have h2 : unm (zp s D).blobs ≤ unm s.blobs + 1 := vv s.blobs D
  have h3 := h.gr
  simp only [List.length_singleton] at h1
  omega
 ·rw [yd]; exact h.k7
 ·rw [yd]; have := h.ck; show s.clock ≤ _; omega
theorem KZ {l : List EntP} {x y : EntP} (h : y ∈ yF l x) : y ∈ l ∨ (y.key = x.key ∧ y.parts = x.parts) := by
 unfold yF at h
 cases hf : l.findIdx? (fun y => y.key == x.key) with
 | none =>
  rw [hf] at h
  rcases List.mem_cons.1 ((zw _ _).mem_iff.1 h) with h | h
  ·subst h; exact .inr ⟨rfl, rfl⟩
  ·exact .inl h
 | some i =>
  rw [hf] at h
  rcases List.mem_or_eq_of_mem_set h with h | h
  ·exact .inl h
  ·subst h; exact .inr ⟨rfl, rfl⟩
theorem Bsy.pute {m : Nat} {s : StoP} {c : ColP} {K : List UInt8} {ps : List PartP} (h : Bsy m s c) (hK : ∃ j, j < 7 ∧ K = keyS j) (hp : chk ps = 0) (hh : qI s.blobs ps = 0) (hc : s.clock < 1099511627776) : Bsy (m + 1) (zm (yB s K ps) c (ps.map (·.dig))).1 (zm (yB s K ps) c (ps.map (·.dig))).2 := by
 have hKx : hexC K = 0 := by obtain ⟨j, _, rfl⟩ := hK; exact zv _
 have ht : GoodS (yB s K ps) := vL h.g hKx hp (kn hh) hc (by have := h.e7; omega)
 refine ⟨xI c _ ht, yO h.gc h.g.b.ris ht.b.ris (fun d hd => ?_) (fun x hx => ?_) (fun x hx => .inl hx) (fun x => Iff.rfl) (fun x hx => rfl), ?_, ?_, ?_⟩
 ·obtain ⟨p, hpm, rfl⟩ := List.mem_map.1 hd
  exact ((zi hp).2 p hpm).2.1
 ·rcases List.mem_append.1 hx with h1 | h1
  ·obtain ⟨y, hy, h2⟩ := List.mem_flatMap.1 h1
   rcases KZ hy with h3 | ⟨_, h3⟩
   ·exact .inl (List.mem_append_left _ (List.mem_flatMap.2 ⟨y, h3, h2⟩))
   ·rw [h3] at h2; exact .inr h2
  ·exact .inl (List.mem_append_right _ h1)
 ·have h1 := xX (yB s K ps) c (ps.map (·.dig))
  have h2 : unm (yB s K ps).blobs = unm s.blobs := rfl
  have h3 := h.gr
  have h4 := (zi hp).1
  rw [List.length_map] at h1
  omega
 ·rw [yd]
  intro x hx
  rcases KZ (show x ∈ yF s.ents _ from hx) with h3 | ⟨h3, _⟩
  ·exact h.k7 x h3
  ·rw [h3]; exact hK
 ·rw [yd]; have := h.ck; show s.clock + 1 ≤ _; omega
theorem Bsy.hold {m : Nat} {s : StoP} {c : ColP} {i n : Nat} (h : Bsy m s c) (hi : i < s.blobs.length) (hn : n ≤ 5) : Bsy (m + 1) (zm (ql s i s.blobs[i] n) c [s.blobs[i].dig]).1 (zm (ql s i s.blobs[i] n) c [s.blobs[i].dig]).2 := by
 have ht : GoodS (ql s i s.blobs[i] n) := vo h.g hi hn
 have hmem : ∀ b ∈ (ql s i s.blobs[i] n).blobs, ∃ a ∈ s.blobs, a.dig = b.dig ∧ a.data = b.data ∧ a.mark = b.mark ∧ (a.pins = b.pins ∨ b.dig = s.blobs[i].dig) := fun b hb => by
  rcases List.mem_or_eq_of_mem_set hb with h1 | h1
  ·exact ⟨b, h1, rfl, rfl, rfl, .inl rfl⟩
  ·subst h1; exact ⟨_, List.getElem_mem hi, rfl, rfl, rfl, .inr rfl⟩
 have hmem2 : ∀ a ∈ s.blobs, ∃ b ∈ (ql s i s.blobs[i] n).blobs, b.dig = a.dig ∧ b.data = a.data ∧ b.mark = a.mark := fun a ha => by
  obtain ⟨j, hj, rfl⟩ := List.mem_iff_getElem.1 ha
  by_cases hij : i = j
  ·subst hij; exact ⟨_, List.mem_iff_getElem.2 ⟨i, by show i < (s.blobs.set i _).length; rw [List.length_set]; exact hi, rfl⟩, by simp [ql], by simp [ql], by simp [ql]⟩
  ·have hjl : j < (s.blobs.set i { s.blobs[i] with pins := n }).length := by rw [List.length_set]; exact hj
   exact ⟨s.blobs[j], List.mem_iff_getElem.2 ⟨j, hjl, by show (s.blobs.set i { s.blobs[i] with pins := n })[j]'hjl = _; rw [List.getElem_set_ne hij]⟩, rfl, rfl, rfl⟩
 refine ⟨xI c _ ht, yO h.gc h.g.b.ris ht.b.ris (fun d hd => ?_) (fun x hx => ?_) (fun x hx => ?_) (fun x => ?_) (fun x hx => ?_), ?_, ?_, ?_⟩
 ·rw [List.mem_singleton.1 hd, (h.g.b.one _ (List.getElem_mem hi)).1]; exact zv _
 ·rcases List.mem_append.1 hx with h1 | h1
  ·exact .inl (List.mem_append_left _ h1)
  ·obtain ⟨b, hb, rfl⟩ := List.mem_map.1 h1
   obtain ⟨h2, h3⟩ := List.mem_filter.1 hb
   obtain ⟨a, ha, e1, _, _, e4⟩ := hmem b h2
   rcases e4 with e4 | e4
   ·exact .inl (List.mem_append_right _ (List.mem_map.2 ⟨a, List.mem_filter.2 ⟨ha, by rw [e4]; exact h3⟩, e1⟩))
   ·exact .inr (List.mem_singleton.2 e4)
 ·obtain ⟨b, hb, rfl⟩ := hx
  obtain ⟨a, ha, e1, _⟩ := hmem b hb
  exact .inl ⟨a, ha, e1⟩
 ·rw [zX, zX]
  constructor
  ·rintro ⟨b, hb, hm, rfl⟩
   obtain ⟨a, ha, e1, _, e3, _⟩ := hmem b hb
   exact ⟨a, ha, by rw [e3]; exact hm, e1⟩
  ·rintro ⟨a, ha, hm, rfl⟩
   obtain ⟨b, hb, e1, _, e3⟩ := hmem2 a ha
   exact ⟨b, hb, by rw [e3]; exact hm, e1⟩
 ·obtain ⟨a, ha, rfl⟩ := hx
  obtain ⟨b, hb, e1, e2, _⟩ := hmem2 a ha
  rw [← e1, kL ht.b.ris hb, e1, kL h.g.b.ris ha, e2]
 ·have h1 := xX (ql s i s.blobs[i] n) c [s.blobs[i].dig]
  have h2 : unm (ql s i s.blobs[i] n).blobs ≤ 24 := VZ ht
  have h5 : unm (ql s i s.blobs[i] n).blobs ≤ unm s.blobs + 1 := by
   unfold unm ql
   have : ∀ (l : List BlobP) (k : Nat) (y : BlobP) (p : BlobP → Bool), ((l.set k y).filter p).length ≤ (l.filter p).length + 1 := fun l => by
    induction l with
    | nil => intro k y p; simp
    | cons a l ih =>
     intro k y p
     cases k with
     | zero => rw [List.set_cons_zero, List.filter_cons, List.filter_cons]; split <;> split <;> first | omega | (simp only [List.length_cons]; omega)
     | succ k => rw [List.set_cons_succ, List.filter_cons, List.filter_cons]; have := ih k y p; split <;> first | omega | (simp only [List.length_cons]; omega)
   exact this _ _ _ _
  have h3 := h.gr
  simp only [List.length_singleton] at h1
  omega
 ·rw [yd]; exact h.k7
 ·rw [yd]; have := h.ck; show s.clock ≤ _; omega
end Go.Proofs.YtpbacomdoddhdaaGreat
namespace Go.Proofs.YtpbacomdoddhdaaGreat
open Go.RowKit Go.Maps
theorem Xe {m : Nat} {s t : StoP} {c c1 : ColP} {D x : List UInt8} (hb : Bsy m s c) (hf : Fits s D) (h0 : c.phase ≠ 0) (ht : zm (zp s D) c [shaS D] = (t, c1)) (hx : Rch t.blobs [shaS D] x) : InB (xS t c1).1.blobs x := by
 have hbs := hb.put hf
 have hph := Qo (zp s D) c [shaS D]
 have heq := uu (zp s D) c [shaS D]
 rw [ht] at hbs hph heq
 refine uV (qW 8 t c1) t c1 x hbs.g hbs.gc (Nat.le_refl _) (fun h => absurd (hph.symm.trans h) h0) (fun h => ?_) (fun h => ?_)
 ·have h1 : c.phase = 1 := hph.symm.trans h
  rw [Vk h1] at ht
  injection ht with h2 h3
  subst h2 h3
  refine Rch.dmono (fun y hy => ?_) hx
  refine List.mem_append.2 (.inl (qF.2 (List.mem_append.2 (.inr hy))))
 ·have h1 : c.phase = 2 := hph.symm.trans h
  rw [Vo h1] at ht
  injection ht with h2 h3
  subst h2 h3
  dsimp only at hx heq ⊢
  have hx' : Rch (zp s D).blobs [shaS D] x := by rw [uG heq] at hx; exact hx
  exact jA.2 (.inr ⟨uw.2 hx', hx'.inB⟩)
theorem KF {s t : StoP} {c c1 : ColP} {D : List UInt8} (ht : zm (zp s D) c [shaS D] = (t, c1)) : Rch t.blobs [shaS D] (shaS D) := by
 have heq := uu (zp s D) c [shaS D]
 rw [ht] at heq
 exact .root (by simp) ((kY heq).2 (X0 s.blobs D))
end Go.Proofs.YtpbacomdoddhdaaGreat
