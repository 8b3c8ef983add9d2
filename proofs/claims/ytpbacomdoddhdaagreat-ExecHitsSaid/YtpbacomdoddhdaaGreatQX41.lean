/- Lemmas of the proof. Conditions: as stated. -/
import Derived.Test.YtpbacomdoddhdaaGreatQX37
set_option linter.unusedVariables false
set_option linter.unusedSimpArgs false
set_option maxRecDepth 100000
namespace Go.Proofs.YtpbacomdoddhdaaGreat
open Go.RowKit Go.Maps
set_option maxHeartbeats 4000000 in
theorem Qr (w : World) : Calls Tryz.prog 17 #[.agg #[.slice none 0 0, .slice none 0 0, .int .i64 (-1), .int .i64 0], .agg #[.int .i64 0, .slice none 0 0, .string ⟨#[]⟩]] w fun e w' => e = .returned (.int .i64 4) ∧ Below w.heap.size w w' := by
 obtain ⟨w1, hw1, hP, hR, hbx⟩ := zO w 26 29 [.slice none 0 0, .slice none 0 0, .int .i64 (-1), .int .i64 0] [.int .i64 0, .slice none 0 0, .string ⟨#[]⟩]
 have HCK := Lib.hid (KO w1)
 have HW1 := Lib.hid hw1
 have HBX := Lib.hid hbx
 have x0 := hP.cell (k := 0) rfl
 have x1 := hP.cell (k := 1) rfl
 have x2 := hP.cell (k := 2) rfl
 have x3 := hP.cell (k := 3) rfl
 rw [hw1] at x0 x1 x2 x3
 clear hw1 hP hR hbx
 go_enter Tryz.func17, Tryz.ntmps17
 go_wp2_with fail
 rw [← HW1.out]
 refine ((HCK.out)).mono ?_; rintro e_ w2 ⟨rfl, hb2⟩; dsimp only
 go_wp2_with fail
 go_ret
 exact ⟨rfl, HBX.out.trans (hb2.mono HBX.out.size)⟩
set_option maxHeartbeats 4000000 in
theorem Ur (w : World) : Calls Tryz.prog 30 #[.agg #[.slice none 0 0, .slice none 0 0, .int .i64 (-1), .int .i64 0, .int .i64 0, .slice none 0 0, .string ⟨#[]⟩, .slice none 0 0]] w fun e w' => e = .returned (.int .i64 4) ∧ Below w.heap.size w w' := by
 have hb := (Below.refl w.heap.size w).alloc (Nat.le_refl _) (.cells #[.slice none 0 0, .slice none 0 0, .int .i64 (-1), .int .i64 0, .int .i64 0, .slice none 0 0, .string ⟨#[]⟩, .slice none 0 0] 58)
 have HB := Lib.hid hb
 clear hb
 go_enter Tryz.func30, Tryz.ntmps30
 go_wp2_with fail
 refine (((Qr _))).mono ?_; rintro e_ w2 ⟨rfl, hb2⟩; dsimp only
 go_wp2_with fail
 go_ret
 exact ⟨rfl, HB.out.trans (hb2.mono HB.out.size)⟩
theorem QR {s : StoP} {K : List UInt8} {k : Nat} {n : Int} (hg : GoodS s) (hk : k < s.ents.length) (hK : s.ents[k].key = K) (hc : s.clock < 1099511627776) : ∃ (co : ColP) (f0 : List FlP) (t : StoP), co = coZ ∧ f0 = [] ∧ yW ⟨s, co, f0⟩ K n = (⟨t, co, f0⟩, s.ents[k].parts, false, 0) ∧ GoodL ⟨t, co, f0⟩ ∧ t.clock = s.clock + 1 ∧ t.ents.length = s.ents.length ∧ t = qD s k s.ents[k] := by
 refine ⟨coZ, [], qD s k s.ents[k], rfl, rfl, ?_, .of (xL hg hk hc) (ZI _) (by show (0 : Nat) ≤ 1000; omega) GoodF.nil_ (fun p hp => by cases hp), rfl, List.length_set, rfl⟩
 unfold yW
 simp only [Vq hg.e.ris hk hK, List.getElem?_eq_getElem hk]
theorem FlsO.setE {w : World} {base b' g n c : Nat} {v : Value} {fs : List FlP} {xs : List Value} (h : FlsO w base v fs) (hE : w.ownsRow b' 65 4 (.slice (some ⟨g, 0, none⟩) n c) n xs) (k : Nat) (u : Value) : FlsO (w.setCell ⟨g, k, none⟩ u) base v fs := by
 obtain ⟨As, hl, ho, hr, hd⟩ := h
 exact ⟨As, hl, zc ho (xH hE ho (by decide) g rfl), fun k p a hp ha => ⟨zc (hr k p a hp ha).1 (xH hE (hr k p a hp ha).1 (by decide) g rfl), (hr k p a hp ha).2⟩, hd⟩
theorem Jf {s : StoP} {k : Nat} (hk : k < s.ents.length) : { qD s k s.ents[k] with ents := (qD s k s.ents[k]).ents.set k s.ents[k], clock := s.clock } = s := by
 unfold qD
 simp
set_option maxHeartbeats 16000000 in
theorem uN (A : Option Addr) (n c : Nat) (l : List RawP) (x y : Int) (w : World) (hl : l.length = n) (hc : n ≤ c) (hm : c ≤ maxLen) (hok : ∀ r ∈ l, RawOk r) (hr : Rd w 4 A n (rcs l)) (hx0 : -9223372036854775808 ≤ x) (hx1 : x ≤ 9223372036854775807) (hy0 : -9223372036854775808 ≤ y) (hy1 : y ≤ 9223372036854775807) :
  Calls Tryz.prog 6 #[.slice A n c, .int .i64 x, .int .i64 y] w fun e w' => e = .returned (.bool true) ∧ Below w.heap.size w w' := by
 have HLF := Lib.hid (uQ A n c l w hl hc hm hok hr)
 have hgd := xk l
 have hck := ug l
 unfold lof at HLF hgd
 generalize sto l = s at *
 have hle : s.ents.length ≤ 10 := hgd.s.e.len
 have hlb : s.blobs.length ≤ 24 := hgd.s.b.len
 have HPY := Lib.hid (fun w' => zI y 1000 1000 rfl w' hy0 hy1 (by omega) (by omega))
 have hqy := k9 y (m := 1000) (by omega)
 generalize pk y 1000 = qy at *
 have hwy : IntKind.i64.wrap (1 + (qy : Int)) = 1 + (qy : Int) := IntWalk.i64_in _ (by omega)
 have hwc : IntKind.i64.wrap ((s.clock : Int) + 1) = (s.clock : Int) + 1 := IntWalk.i64_in _ (by omega)
 by_cases hne : s.ents.length = 0
 ·have hz : ((s.ents.length : Int) == 0) = true := by rw [hne]; rfl
  have hz2 : (s.ents.length == 0) = true := by rw [hne]; rfl
  have HNE := Lib.hid hne
  clear hok hl hr hx0 hx1 hy0 hy1 hgd hne hwy hwc
  go_enter Tryz.func6, Tryz.ntmps6
  go_wp2_with fail
  refine ((HLF.out)).mono ?_; rintro e_ w1 ⟨⟨X1, cX1, Y1, dY1, G1, ng1, F1, cF1⟩, rfl, hrd1, hb1⟩; dsimp only
  go_wp2_with fail
  refine (((Ur _))).mono ?_; rintro e_ w2 ⟨rfl, hb2⟩; dsimp only
  go_wp2_with fail
  go_ret
  have hb1' := hb1.alloc hb1.size (.cells #[.slice X1 s.blobs.length cX1, .slice Y1 s.ents.length dY1, .int .i64 (s.room : Int), .int .i64 (s.clock : Int), .int .i64 0, .slice G1 0 ng1, .string ⟨#[]⟩, .slice F1 0 cF1] 58)
  exact ⟨by simp, hb1'.trans (hb2.mono hb1'.size)⟩
 obtain ⟨k, hkd⟩ : ∃ k, k = pk x s.ents.length := ⟨_, rfl⟩
 have hk : k < s.ents.length := by rw [hkd]; exact k9 x (by omega)
 have HPX := Lib.hid (fun w' => zI x s.ents.length (s.ents.length : Int) rfl w' hx0 hx1 (by omega) (by omega))
 rw [← hkd] at HPX
 obtain ⟨K, hK⟩ : ∃ K, s.ents[k].key = K := ⟨_, rfl⟩
 obtain ⟨m, hm1⟩ : ∃ m : Int, m = 1 + (qy : Int) := ⟨_, rfl⟩
 have hck' : s.clock < 1099511627776 := by omega
 obtain ⟨co, f0, t, hco, hf0, p1, hgt, ht1, ht2, ht3⟩ := QR (n := m) hgd.s hk hK hck'
 rw [← hco, ← hf0] at HLF hgd
 have hkx : hexC K = 0 ∧ K.length ≤ 1000 := by
  have h := (hgd.s.e.one _ (List.getElem_mem hk)).1
  rw [hK] at h
  exact ⟨h, by have := zQ h; omega⟩
 have hA1 := fun p W (h : RdLo W p ⟨s, co, f0⟩) => uq p ⟨s, co, f0⟩ K m W hgd h hkx.1 hkx.2 (by omega) (by omega) hck'
 rw [p1] at hA1
 obtain ⟨pts, hpt⟩ : ∃ p, p = s.ents[k].parts := ⟨_, rfl⟩
 rw [← hpt] at hA1
 have HA1 := Lib.hid hA1
 have HGS := Lib.hid hgd.s
 have HGT := Lib.hid hgt
 have hz : ((s.ents.length : Int) == 0) = false := by rw [beq_eq_false_iff_ne]; omega
 have hz2 : (s.ents.length == 0) = false := by rw [beq_eq_false_iff_ne]; omega
 have HM := Lib.hid hm1
 have HT := Lib.hid (And.intro ht1 (And.intro ht2 ht3))
 have HPT := Lib.hid hpt
 have HKE := Lib.hid hK
 have htc : ((t.clock : Int) != (s.clock : Int) + 1) = false := by rw [bne_eq_false_iff_eq, ht1]; rfl
 have hte : ((t.ents.length : Int) != (s.ents.length : Int)) = false := by rw [bne_eq_false_iff_eq, ht2]
 have htf : (t.ents.length != s.ents.length) = false := by rw [bne_eq_false_iff_eq, ht2]
 clear hok hl hr hx0 hx1 hy0 hy1 hgd hco hf0 p1 hgt hm1 ht1 ht2 ht3 hpt hck' hck hkx hA1 hK hkd
 go_enter Tryz.func6, Tryz.ntmps6
 go_wp2_with fail
 refine ((HLF.out)).mono ?_; rintro e_ w1 ⟨⟨X1, cX1, Y1, dY1, G1, ng1, F1, cF1⟩, rfl, hrd1, hb1⟩; dsimp only
 obtain ⟨bq, oq, Bq, cq, rfl, hbq, d0, d1, d2, d3, hsl⟩ := hrd1.s.e.ent_at k hk
 obtain ⟨w2, g2, hw2, hg2, hb12, hk2⟩ := kj w1 X1 _ G1 F1 cX1 dY1 ng1 cF1 s co f0 hrd1
 rw [HKE.out] at d0
 rw [← HPT.out] at d1 hsl
 have HD := Lib.hid (show ∀ W, Below w2.heap.size w2 W → W.cell? ⟨bq, oq + k * 4, none⟩ = some (.string ⟨K.toArray⟩) ∧ W.cell? ⟨bq, oq + k * 4 + 1, none⟩ = some (.slice Bq pts.length cq) ∧ W.cell? ⟨bq, oq + k * 4 + 3, none⟩ = some (.int .i64 (s.ents[k].stamp : Int)) ∧ Sl W 3 Bq pts.length cq (pcs pts) from fun W h => by
  have hb := hb12.trans (h.mono hb12.size)
  exact ⟨(hb.cell (p := ⟨bq, oq + k * 4, none⟩) hbq).trans d0, (hb.cell (p := ⟨bq, oq + k * 4 + 1, none⟩) hbq).trans d1, (hb.cell (p := ⟨bq, oq + k * 4 + 3, none⟩) hbq).trans d3, hsl.below hb⟩)
 have HK2 := Lib.hid hk2
 have HW2 := Lib.hid hw2
 have HG2 := Lib.hid hg2
 have HB2 := Lib.hid (hb1.trans (hb12.mono hb1.size))
 clear hrd1 hb1 hb12 hk2 hw2 hg2 HLF d0 d1 d2 d3 hsl hbq
 repeat' ((fail_if_success (with_reducible refine zl 2 ?_)); (fail_if_success (with_reducible refine zi 2 ?_)); (fail_if_success (with_reducible refine zg 2 ?_)); (fail_if_success (with_reducible refine zk 2 ?_)); (fail_if_success (with_reducible refine zh 2 ?_)); (fail_if_success (with_reducible refine zj 2 ?_)); (fail_if_success at_builtin); (fail_if_success at_make); (first | go_values | go_skip | go_guarded | go_step | go_upon | go_back))
 rw [← HW2.out, ← HG2.out]
 clear HW2
 have hx := (HK2.out w2 (Below.refl _ _)).1
 have x1 := hx.cell (k := 1) rfl
 clear hx
 go_wp2_with fail
 refine ((HPX.out _)).mono ?_; rintro e_ w_ ⟨rfl, rfl⟩; dsimp only
 clear x1
 go_wp2_with fail
 have hk0 : (0 : Int) ≤ (k : Int) := by omega
 have hk1 : (k : Int) < (s.ents.length : Int) := by omega
 have HSB := Lib.hid (show ∀ W, Below w2.heap.size w2 W → (W.cell? ⟨g2, 0, none⟩ = some (.slice X1 s.blobs.length cX1) ∧ W.cell? ⟨g2, 1, none⟩ = some (.slice (some ⟨bq, oq, none⟩) s.ents.length dY1) ∧ W.cell? ⟨g2, 2, none⟩ = some (.int .i64 (s.room : Int)) ∧ W.cell? ⟨g2, 3, none⟩ = some (.int .i64 (s.clock : Int)) ∧ W.cell? ⟨g2, 4, none⟩ = some (.int .i64 (co.phase : Int)) ∧ W.cell? ⟨g2, 5, none⟩ = some (.slice G1 co.grey.length ng1) ∧ W.cell? ⟨g2, 6, none⟩ = some (.string ⟨co.at_.toArray⟩) ∧ W.cell? ⟨g2, 7, none⟩ = some (.slice F1 f0.length cF1)) ∧ W.cell? ⟨bq, oq + k * 4, none⟩ = some (.string ⟨K.toArray⟩) from fun W h => by
  have h1 := (HK2.out W h).1
  exact ⟨⟨h1.cell (k := 0) rfl, h1.cell (k := 1) rfl, h1.cell (k := 2) rfl, h1.cell (k := 3) rfl, h1.cell (k := 4) rfl, h1.cell (k := 5) rfl, h1.cell (k := 6) rfl, h1.cell (k := 7) rfl⟩, (HD.out W h).1⟩)
 have HAS := Lib.hid (fun W (h : Below w2.heap.size w2 W) => HA1.out _ W (HK2.out W h).2)
 have HPN := HPY
 clear HA1
 apply qp
 intro REST5
 apply qp
 intro R51
 apply qp
 intro R52
 refine zv [18] (S := (fun w' => (w'.cell? ⟨g2, 0, none⟩ = some (.slice X1 s.blobs.length cX1) ∧ w'.cell? ⟨g2, 1, none⟩ = some (.slice (some ⟨bq, oq, none⟩) s.ents.length dY1) ∧ w'.cell? ⟨g2, 2, none⟩ = some (.int .i64 (s.room : Int)) ∧ w'.cell? ⟨g2, 3, none⟩ = some (.int .i64 (s.clock : Int)) ∧ w'.cell? ⟨g2, 4, none⟩ = some (.int .i64 (co.phase : Int)) ∧ w'.cell? ⟨g2, 5, none⟩ = some (.slice G1 co.grey.length ng1) ∧ w'.cell? ⟨g2, 6, none⟩ = some (.string ⟨co.at_.toArray⟩) ∧ w'.cell? ⟨g2, 7, none⟩ = some (.slice F1 f0.length cF1)) ∧ w'.cell? ⟨bq, oq + k * 4, none⟩ = some (.string ⟨K.toArray⟩))) (by kernel_rfl) ?_ (fun hHeld => ?_)
 ·exact HSB.out _ (((Below.refl w2.heap.size w2)).drew)
 have hB := ((Below.refl w2.heap.size w2)).drew
 generalize w2.drew = wn0 at *
 refine tkU 0 ?_
 try simp only [sqP]
 refine tkP 1 ?_
 try simp only [sqP]
 refine tkP 2 ?_
 try simp only [sqP]
 refine tkU 3 ?_
 try simp only [sqP]
 refine tkP 4 ?_
 try simp only [sqP]
 refine tkP 5 ?_
 try simp only [sqP]
 refine tkP 6 ?_
 try simp only [sqP]
 refine tkU 7 ?_
 try simp only [sqP]
 refine tkP 8 ?_
 try simp only [sqP]
 refine za (rs := [9, 17]) (by kernel_rfl) (by simp) ?_
 refine z8.cons (o := _) rfl (fun K hK => ?_) ?_
 ·
  go_simp
  refine (HPN.out wn0).mono ?_
  rintro e5 wv ⟨rfl, hb5⟩
  subst hb5
  have hb5 := Below.refl wn0.heap.size wn0
  dsimp only
  refine ku hK ?_ (fun W => Below w2.heap.size w2 W) (fun W => True) ?_ ?_ (fun wn1 hHeld2 hF _ => ?_)
  ·exact HSB.out _ ((hB.trans (hb5.mono hB.size)))
  ·exact hB.trans (hb5.mono hB.size)
  ·trivial
  clear hB hHeld
  have hHeld := hHeld2
  clear hHeld2
  have hB := hF
  clear hb5
  clear hK K
  try simp only [sqP]
  refine tkP 10 ?_
  try simp only [sqP]
  refine za (rs := [11, 17]) (by kernel_rfl) (by simp) ?_
  refine z8.cons (o := _) rfl (fun K hK => ?_) ?_
  ·
   go_simp
   rw [← HM.out]
   refine (HAS.out wn1 hB).mono ?_
   rintro e5 wv ⟨v1, v2, v3, v4, vp, rfl, ho5, hp5, hb5⟩
   obtain ⟨⟨X6, cX6, Y6, dY6, G6, ng6, F6, cF6⟩, rfl, rfl, rfl, rfl, -⟩ := ho5.rd
   obtain ⟨P6, q6, rfl, -, -⟩ := Sl.of_own hp5
   dsimp only
   refine ku hK ?_ (fun W => Below w2.heap.size w2 W ∧ OwSt W 0 (.slice X6 t.blobs.length cX6) (.slice Y6 t.ents.length dY6) t (fun b => False) ∧ W.ownsRow 0 9 1 (.slice G6 co.grey.length ng6) co.grey.length (strs co.grey) ∧ W.ownsRow 0 68 3 (.slice P6 pts.length q6) pts.length (pcs pts) ∧ FlsO W 0 (.slice F6 f0.length cF6) f0) (fun W => True) ?_ ?_ (fun wn2 hHeld2 hF _ => ?_)
   ·exact HSB.out _ ((hB.trans (hb5.mono hB.size)))
   ·exact ⟨hB.trans (hb5.mono hB.size), (ho5.s.lower (base' := 0) (Nat.zero_le _)).mono (fun b hb => hb.elim), zd ho5.c (Nat.zero_le _), zd hp5 (Nat.zero_le _), ho5.f.lower (Nat.zero_le _)⟩
   ·trivial
   clear hB hHeld
   have hHeld := hHeld2
   clear hHeld2
   obtain ⟨hB, ho, hl, hp, hf⟩ := hF
   clear hb5 ho5 hp5
   clear hK K
   try simp only [sqP]
   refine tkP 12 ?_
   try simp only [sqP]
   refine tkP 13 ?_
   try simp only [sqP]
   refine tkP 14 ?_
   try simp only [sqP]
   refine tkP 15 ?_
   try simp only [sqP]
   refine tkP 16 ?_
   try simp only [sqP]
   refine za (rs := [17]) (by kernel_rfl) (by simp) ?_
   refine z8.cons (o := _) rfl (fun K hK => ?_) ?_
   ·
    have hba := (Below.refl wn2.heap.size wn2).alloc (Nat.le_refl _) (.cells #[.slice none 0 0, .slice none 0 0, .int .i64 0, .int .i64 0, .int .i64 0, .slice none 0 0, .string ⟨#[]⟩, .slice none 0 0] 58)
    have hn := Arr.new wn2 58 [.slice none 0 0, .slice none 0 0, .int .i64 0, .int .i64 0, .int .i64 0, .slice none 0 0, .string ⟨#[]⟩, .slice none 0 0]
    have hnl : w2.heap.size ≤ wn2.heap.size := hB.size
    obtain ⟨g6, hge⟩ : ∃ g, g = wn2.heap.size := ⟨_, rfl⟩
    have hN : ∀ b, b = g6 → wn2.heap.size ≤ b := fun b h => by rw [h, hge]; exact Nat.le_refl _
    rw [← hge] at hn hnl
    go_simp
    rw [← hge]
    clear hge
    refine ku hK ?_ (fun W => Below w2.heap.size w2 W ∧ Arr W g6 58 [.slice none 0 0, .slice none 0 0, .int .i64 0, .int .i64 0, .int .i64 0, .slice none 0 0, .string ⟨#[]⟩, .slice none 0 0] ∧ w2.heap.size ≤ g6 ∧ OwSt W 0 (.slice X6 t.blobs.length cX6) (.slice Y6 t.ents.length dY6) t (fun b => b = g6) ∧ W.ownsRow 0 9 1 (.slice G6 co.grey.length ng6) co.grey.length (strs co.grey) ∧ W.ownsRow 0 68 3 (.slice P6 pts.length q6) pts.length (pcs pts) ∧ FlsO W 0 (.slice F6 f0.length cF6) f0) (fun W => True) ?_ ?_ (fun wn3 hHeld2 hF _ => ?_)
    ·exact HSB.out _ ((hB.trans (hba.mono hB.size)))
    ·exact ⟨hB.trans (hba.mono hB.size), hn, hnl, (ho.wider (N' := (fun b => b = g6)) (fun b hb => .inr (hN _ hb))).below hba, zb hl hba, zb hp hba, hf.below hba⟩
    ·trivial
    clear hf hp hl ho hB hHeld
    have hHeld := hHeld2
    clear hHeld2
    obtain ⟨hB, h6, h6l, ho, hl, hp, hf⟩ := hF
    clear hba hn hnl hN
    clear hK K
    try simp only [sqP]
    have hall := And.intro hB (And.intro h6 (And.intro h6l (And.intro ho (And.intro hl (And.intro hp (And.intro hf hHeld))))))
    clear hHeld hf hp hl ho h6l h6 hB
    generalize wn3 = wz at hall ⊢
    revert hall
    revert wz
    revert g6
    revert q6
    revert P6
    revert cF6
    revert F6
    revert ng6
    revert G6
    revert dY6
    revert Y6
    revert cX6
    revert X6
    exact R51.out
   exact z8.nil
  refine z8.cons (o := _) rfl (fun K hK => ?_) ?_
  ·
   have hba := (Below.refl wn1.heap.size wn1).alloc (Nat.le_refl _) (.cells #[.slice none 0 0, .slice none 0 0, .int .i64 0, .int .i64 0, .int .i64 0, .slice none 0 0, .string ⟨#[]⟩, .slice none 0 0] 58)
   have hn := Arr.new wn1 58 [.slice none 0 0, .slice none 0 0, .int .i64 0, .int .i64 0, .int .i64 0, .slice none 0 0, .string ⟨#[]⟩, .slice none 0 0]
   have hnl : w2.heap.size ≤ wn1.heap.size := hB.size
   obtain ⟨g6, hge⟩ : ∃ g, g = wn1.heap.size := ⟨_, rfl⟩
   have hN : ∀ b, b = g6 → wn1.heap.size ≤ b := fun b h => by rw [h, hge]; exact Nat.le_refl _
   rw [← hge] at hn hnl
   go_simp
   rw [← hge]
   clear hge
   refine ku hK ?_ (fun W => Below w2.heap.size w2 W ∧ Arr W g6 58 [.slice none 0 0, .slice none 0 0, .int .i64 0, .int .i64 0, .int .i64 0, .slice none 0 0, .string ⟨#[]⟩, .slice none 0 0] ∧ w2.heap.size ≤ g6) (fun W => True) ?_ ?_ (fun wn4 hHeld2 hF _ => ?_)
   ·exact HSB.out _ ((hB.trans (hba.mono hB.size)))
   ·exact ⟨hB.trans (hba.mono hB.size), hn, hnl⟩
   ·trivial
   clear hB hHeld
   have hHeld := hHeld2
   clear hHeld2
   obtain ⟨hB, h6, h6l⟩ := hF
   clear hba hn hnl hN
   clear hK K
   try simp only [sqP]
   have hall := And.intro hB (And.intro h6 (And.intro h6l hHeld))
   clear hHeld h6l h6 hB
   generalize wn4 = wz at hall ⊢
   revert hall
   revert wz
   revert g6
   exact R52.out
  exact z8.nil
 refine z8.cons (o := _) rfl (fun K hK => ?_) ?_
 ·
  have hba := (Below.refl wn0.heap.size wn0).alloc (Nat.le_refl _) (.cells #[.slice none 0 0, .slice none 0 0, .int .i64 0, .int .i64 0, .int .i64 0, .slice none 0 0, .string ⟨#[]⟩, .slice none 0 0] 58)
  have hn := Arr.new wn0 58 [.slice none 0 0, .slice none 0 0, .int .i64 0, .int .i64 0, .int .i64 0, .slice none 0 0, .string ⟨#[]⟩, .slice none 0 0]
  have hnl : w2.heap.size ≤ wn0.heap.size := hB.size
  obtain ⟨g6, hge⟩ : ∃ g, g = wn0.heap.size := ⟨_, rfl⟩
  have hN : ∀ b, b = g6 → wn0.heap.size ≤ b := fun b h => by rw [h, hge]; exact Nat.le_refl _
  rw [← hge] at hn hnl
  go_simp
  rw [← hge]
  clear hge
  refine ku hK ?_ (fun W => Below w2.heap.size w2 W ∧ Arr W g6 58 [.slice none 0 0, .slice none 0 0, .int .i64 0, .int .i64 0, .int .i64 0, .slice none 0 0, .string ⟨#[]⟩, .slice none 0 0] ∧ w2.heap.size ≤ g6) (fun W => True) ?_ ?_ (fun wn5 hHeld2 hF _ => ?_)
  ·exact HSB.out _ ((hB.trans (hba.mono hB.size)))
  ·exact ⟨hB.trans (hba.mono hB.size), hn, hnl⟩
  ·trivial
  clear hB hHeld
  have hHeld := hHeld2
  clear hHeld2
  obtain ⟨hB, h6, h6l⟩ := hF
  clear hba hn hnl hN
  clear hK K
  try simp only [sqP]
  refine za (rs := [9]) (by kernel_rfl) (by simp) ?_
  refine z8.cons (o := _) rfl (fun K hK => ?_) ?_
  ·
   go_simp
   refine (HPN.out wn5).mono ?_
   rintro e5 wv ⟨rfl, hb5⟩
   subst hb5
   have hb5 := Below.refl wn5.heap.size wn5
   dsimp only
   refine ku hK ?_ (fun W => Below w2.heap.size w2 W ∧ Arr W g6 58 [.slice none 0 0, .slice none 0 0, .int .i64 0, .int .i64 0, .int .i64 0, .slice none 0 0, .string ⟨#[]⟩, .slice none 0 0] ∧ w2.heap.size ≤ g6) (fun W => True) ?_ ?_ (fun wn6 hHeld2 hF _ => ?_)
   ·exact HSB.out _ ((hB.trans (hb5.mono hB.size)))
   ·exact ⟨hB.trans (hb5.mono hB.size), h6.below hb5, h6l⟩
   ·trivial
   clear h6l h6 hB hHeld
   have hHeld := hHeld2
   clear hHeld2
   obtain ⟨hB, h6, h6l⟩ := hF
   clear hb5
   clear hK K
   try simp only [sqP]
   refine tkP 10 ?_
   try simp only [sqP]
   have hall := And.intro hB (And.intro h6 (And.intro h6l hHeld))
   clear hHeld h6l h6 hB
   generalize wn6 = wz at hall ⊢
   revert hall
   revert wz
   revert g6
   exact R52.out
  exact z8.nil
 exact z8.nil
 intro g6 wR52 hall
 obtain ⟨hB, h6, h6l, hHeld⟩ := hall
 refine za (rs := [11]) (by kernel_rfl) (by simp) ?_
 refine z8.cons (o := _) rfl (fun K hK => ?_) ?_
 ·
  go_simp
  rw [← HM.out]
  refine (HAS.out wR52 hB).mono ?_
  rintro e5 wv ⟨v1, v2, v3, v4, vp, rfl, ho5, hp5, hb5⟩
  obtain ⟨⟨X6, cX6, Y6, dY6, G6, ng6, F6, cF6⟩, rfl, rfl, rfl, rfl, -⟩ := ho5.rd
  obtain ⟨P6, q6, rfl, -, -⟩ := Sl.of_own hp5
  dsimp only
  refine ku hK ?_ (fun W => Below w2.heap.size w2 W ∧ Arr W g6 58 [.slice none 0 0, .slice none 0 0, .int .i64 0, .int .i64 0, .int .i64 0, .slice none 0 0, .string ⟨#[]⟩, .slice none 0 0] ∧ w2.heap.size ≤ g6 ∧ OwSt W 0 (.slice X6 t.blobs.length cX6) (.slice Y6 t.ents.length dY6) t (fun b => b = g6) ∧ W.ownsRow 0 9 1 (.slice G6 co.grey.length ng6) co.grey.length (strs co.grey) ∧ W.ownsRow 0 68 3 (.slice P6 pts.length q6) pts.length (pcs pts) ∧ FlsO W 0 (.slice F6 f0.length cF6) f0) (fun W => True) ?_ ?_ (fun wn7 hHeld2 hF _ => ?_)
  ·exact HSB.out _ ((hB.trans (hb5.mono hB.size)))
  ·exact ⟨hB.trans (hb5.mono hB.size), h6.below hb5, h6l, (ho5.s.lower (base' := 0) (Nat.zero_le _)).mono (N' := (fun b => b = g6)) (fun b hb => (by rw [hb]; exact h6.lt)), zd ho5.c (Nat.zero_le _), zd hp5 (Nat.zero_le _), ho5.f.lower (Nat.zero_le _)⟩
  ·trivial
  clear h6l h6 hB hHeld
  have hHeld := hHeld2
  clear hHeld2
  obtain ⟨hB, h6, h6l, ho, hl, hp, hf⟩ := hF
  clear hb5 ho5 hp5
  clear hK K
  try simp only [sqP]
  refine tkP 12 ?_
  try simp only [sqP]
  refine tkP 13 ?_
  try simp only [sqP]
  refine tkP 14 ?_
  try simp only [sqP]
  refine tkP 15 ?_
  try simp only [sqP]
  refine tkP 16 ?_
  try simp only [sqP]
  have hall := And.intro hB (And.intro h6 (And.intro h6l (And.intro ho (And.intro hl (And.intro hp (And.intro hf hHeld))))))
  clear hHeld hf hp hl ho h6l h6 hB
  generalize wn7 = wz at hall ⊢
  revert hall
  revert wz
  revert g6
  revert q6
  revert P6
  revert cF6
  revert F6
  revert ng6
  revert G6
  revert dY6
  revert Y6
  revert cX6
  revert X6
  exact R51.out
 exact z8.nil
 intro X6 cX6 Y6 dY6 G6 ng6 F6 cF6 P6 q6 g6 wR51 hall
 obtain ⟨hB, h6, h6l, ho, hl, hp, hf, hHeld⟩ := hall
 refine za (rs := [18]) (by kernel_rfl) (by simp) ?_
 refine z8.store (o := _) rfl (by rfl) (fun K hK => ?_) ?_
 ·
  have hqho := ho.nb h6 (by decide) (by decide)
  have hqhl := zm hl h6 (by decide)
  have hqhp := zm hp h6 (by decide)
  have z0 := h6.cell (k := 0) rfl
  have f0 := h6.frozen 0
  have z1 := h6.cell (k := 1) rfl
  have f1 := h6.frozen 1
  have z2 := h6.cell (k := 2) rfl
  have f2 := h6.frozen 2
  have z3 := h6.cell (k := 3) rfl
  have f3 := h6.frozen 3
  have z4 := h6.cell (k := 4) rfl
  have f4 := h6.frozen 4
  have z5 := h6.cell (k := 5) rfl
  have f5 := h6.frozen 5
  have z6 := h6.cell (k := 6) rfl
  have f6 := h6.frozen 6
  have z7 := h6.cell (k := 7) rfl
  have f7 := h6.frozen 7
  go_simp
  clear z0 f0 z1 f1 z2 f2 z3 f3 z4 f4 z5 f5 z6 f6 z7 f7
  refine Y5 hK (fun W => Below w2.heap.size w2 W ∧ Arr W g6 58 [.slice X6 t.blobs.length cX6, .slice Y6 t.ents.length dY6, .int .i64 (t.room : Int), .int .i64 (t.clock : Int), .int .i64 (co.phase : Int), .slice G6 co.grey.length ng6, .string ⟨co.at_.toArray⟩, .slice F6 f0.length cF6] ∧ w2.heap.size ≤ g6 ∧ OwSt W 0 (.slice X6 t.blobs.length cX6) (.slice Y6 t.ents.length dY6) t (fun b => b = g6) ∧ W.ownsRow 0 9 1 (.slice G6 co.grey.length ng6) co.grey.length (strs co.grey) ∧ W.ownsRow 0 68 3 (.slice P6 pts.length q6) pts.length (pcs pts) ∧ FlsO W 0 (.slice F6 f0.length cF6) f0) (fun W => True) ?_ ?_ (fun wn8 hF _ => ?_)
  ·exact ⟨((((((((hB).setCell (p := ⟨g6, 0, none⟩) h6l _).setCell (p := ⟨g6, 1, none⟩) h6l _).setCell (p := ⟨g6, 2, none⟩) h6l _).setCell (p := ⟨g6, 3, none⟩) h6l _).setCell (p := ⟨g6, 4, none⟩) h6l _).setCell (p := ⟨g6, 5, none⟩) h6l _).setCell (p := ⟨g6, 6, none⟩) h6l _).setCell (p := ⟨g6, 7, none⟩) h6l _, h6.all8 _ _ _ _ _ _ _ _, h6l, ho.set8N rfl hqho.1 hqho.2 _ _ _ _ _ _ _ _, zM hl hqhl _ _ _ _ _ _ _ _, zM hp hqhp _ _ _ _ _ _ _ _, hf.set8 h6 (by decide) (by decide) _ _ _ _ _ _ _ _⟩
  ·trivial
  clear hf hp hl ho h6l h6 hB hHeld
  obtain ⟨hB, h6, h6l, ho, hl, hp, hf⟩ := hF
  clear hqho hqhl hqhp
  clear hK K
  try simp only [sqP]
  refine tkP 19 ?_
  try simp only [sqP]
  refine tkP 20 ?_
  try simp only [sqP]
  refine tkP 21 ?_
  try simp only [sqP]
  refine zN (by kernel_rfl) ?_ _
  try dsimp only [Exit.then]
  have hall := And.intro hB (And.intro h6 (And.intro h6l (And.intro ho (And.intro hl (And.intro hp hf)))))
  clear hf hp hl ho h6l h6 hB
  generalize wn8 = wz at hall ⊢
  revert hall
  revert wz
  revert g6
  revert q6
  revert P6
  revert cF6
  revert F6
  revert ng6
  revert G6
  revert dY6
  revert Y6
  revert cX6
  revert X6
  exact REST5.out
 exact z8.nil
 intro X6 cX6 Y6 dY6 G6 ng6 F6 cF6 P6 q6 g6 w6 hall
 obtain ⟨hB, h6, h6l, ho, hl, hp, hf⟩ := hall
 have hOL : OwLo w6 0 (.slice X6 t.blobs.length cX6) (.slice Y6 t.ents.length dY6) (.slice G6 co.grey.length ng6) (.slice F6 f0.length cF6) ⟨t, co, f0⟩ (fun b => b = g6) := ⟨ho, hl, hf⟩
 have hrd := OwLo.rdX (l := ⟨t, co, f0⟩) hOL
 have HY := Lib.hid (show ∀ W, Below w6.heap.size w6 W → Arr W g6 58 [.slice X6 t.blobs.length cX6, .slice Y6 t.ents.length dY6, .int .i64 (t.room : Int), .int .i64 (t.clock : Int), .int .i64 (co.phase : Int), .slice G6 co.grey.length ng6, .string ⟨co.at_.toArray⟩, .slice F6 f0.length cF6] ∧ RdLo W ⟨X6, cX6, Y6, dY6, G6, ng6, F6, cF6⟩ ⟨t, co, f0⟩ from fun W h => ⟨h6.below h, hrd.below h⟩)
 have HEP := Lib.hid (kX P6 Bq pts.length q6 cq pts w6 rfl (by have := (zq (HGS.out.e.one _ (List.getElem_mem hk)).2.1).1; rw [← HPT.out] at this; omega) (Rd.of_own hp) (HD.out w6 hB).2.2.2.rd)
 have HB6 := Lib.hid hB
 have hy := h6
 have hx := (HK2.out w6 hB).1
 have d1 := (HD.out w6 hB).2.1
 have x0 := hx.cell (k := 0) rfl
 have x1 := hx.cell (k := 1) rfl
 have x2 := hx.cell (k := 2) rfl
 have x3 := hx.cell (k := 3) rfl
 have x4 := hx.cell (k := 4) rfl
 have x5 := hx.cell (k := 5) rfl
 have x6 := hx.cell (k := 6) rfl
 have x7 := hx.cell (k := 7) rfl
 have y0 := hy.cell (k := 0) rfl
 have y1 := hy.cell (k := 1) rfl
 have y2 := hy.cell (k := 2) rfl
 have y3 := hy.cell (k := 3) rfl
 have y4 := hy.cell (k := 4) rfl
 have y5 := hy.cell (k := 5) rfl
 have y6 := hy.cell (k := 6) rfl
 have y7 := hy.cell (k := 7) rfl
 clear hx hy ho hl hf hp hOL hrd h6 h6l hB HSB HAS
 go_wp2_with fail
 clear d1 x0 x1 x2 x3 x4 x5 x6 x7 y0 y1 y2 y3 y4 y5 y6 y7
 refine ((HEP.out)).mono ?_; rintro e_ w7 ⟨rfl, hb7⟩; dsimp only
 have hb27 := HB6.out.trans (hb7.mono HB6.out.size)
 have hx := (HK2.out w7 hb27).1
 have hy := (HY.out w7 hb7).1
 have x0 := hx.cell (k := 0) rfl
 have x1 := hx.cell (k := 1) rfl
 have x2 := hx.cell (k := 2) rfl
 have x3 := hx.cell (k := 3) rfl
 have x4 := hx.cell (k := 4) rfl
 have x5 := hx.cell (k := 5) rfl
 have x6 := hx.cell (k := 6) rfl
 have x7 := hx.cell (k := 7) rfl
 have y0 := hy.cell (k := 0) rfl
 have y1 := hy.cell (k := 1) rfl
 have y2 := hy.cell (k := 2) rfl
 have y3 := hy.cell (k := 3) rfl
 have y4 := hy.cell (k := 4) rfl
 have y5 := hy.cell (k := 5) rfl
 have y6 := hy.cell (k := 6) rfl
 have y7 := hy.cell (k := 7) rfl
 have HCP := Lib.hid (yb ⟨X6, cX6, Y6, dY6, G6, ng6, F6, cF6⟩ ⟨t, co, f0⟩ w7 HGT.out (HY.out w7 hb7).2)
 have HB27 := Lib.hid hb27
 clear hx hy hb7 hb27 HEP
 go_wp2_with fail
 clear x0 x1 x2 x3 x4 x5 x6 x7 y0 y1 y2 y3 y4 y5 y6 y7
 refine ((HCP.out)).mono ?_; rintro e_ w8 ⟨v1, v2, v3, v4, rfl, ho8, hb8⟩; dsimp only
 have hte0 : 0 < t.ents.length := by have h : t.ents.length = s.ents.length := HT.out.2.1; omega
 obtain ⟨ge, cz, rfl, hge1, hge2, hcz1, hcz2⟩ := ho8.s.e.rwo.nonnil hte0
 obtain ⟨⟨X8, cX8, Y8, dY8, G8, ng8, F8, cF8⟩, rfl, e2, rfl, rfl, -⟩ := ho8.rd
 clear e2
 obtain ⟨w9, hw9⟩ : ∃ W, W = w8.alloc (.cells #[.slice X8 t.blobs.length cX8, .slice (some ⟨ge, 0, none⟩) t.ents.length cz, .int .i64 (t.room : Int), .int .i64 (t.clock : Int), .int .i64 (co.phase : Int), .slice G8 co.grey.length ng8, .string ⟨co.at_.toArray⟩, .slice F8 f0.length cF8] 58) := ⟨_, rfl⟩
 have hZ9 : Arr w9 w8.heap.size 58 [.slice X8 t.blobs.length cX8, .slice (some ⟨ge, 0, none⟩) t.ents.length cz, .int .i64 (t.room : Int), .int .i64 (t.clock : Int), .int .i64 (co.phase : Int), .slice G8 co.grey.length ng8, .string ⟨co.at_.toArray⟩, .slice F8 f0.length cF8] := by rw [hw9]; exact Arr.new w8 58 _
 have hb89 : Below w8.heap.size w8 w9 := by rw [hw9]; exact (Below.refl _ _).alloc (Nat.le_refl _) _
 obtain ⟨gz, hgz⟩ : ∃ g, g = w8.heap.size := ⟨_, rfl⟩
 have ho9 := (ho8.wider (N' := fun b => b < w7.heap.size ∨ b = gz) (fun b hb => hb.elim .inl (fun h => .inr (by rw [h, hgz]; exact Nat.le_refl _)))).below hb89
 rw [← hgz] at hZ9
 have hb79 := hb8.trans (hb89.mono hb8.size)
 have hb29 := HB27.out.trans (hb79.mono HB27.out.size)
 have hgz7 : w7.heap.size ≤ gz := by rw [hgz]; exact hb8.size
 have hgez : ge ≠ gz := by omega
 have HW9 := Lib.hid hw9
 have HGZ := Lib.hid hgz
 have HO9 := Lib.hid ho9
 have HZ9 := Lib.hid hZ9
 have HB29 := Lib.hid hb29
 have h27s : w2.heap.size ≤ w7.heap.size := HB27.out.size
 clear ho8 hb8 hw9 hZ9 hb89 hgz ho9 hb79 hb29 HCP
 repeat' ((fail_if_success (with_reducible refine zl 9 ?_)); (fail_if_success (with_reducible refine zi 9 ?_)); (fail_if_success (with_reducible refine zg 9 ?_)); (fail_if_success (with_reducible refine zk 9 ?_)); (fail_if_success (with_reducible refine zh 9 ?_)); (fail_if_success (with_reducible refine zj 9 ?_)); (fail_if_success at_builtin); (fail_if_success at_make); (first | go_values | go_skip | go_guarded | go_step | go_upon | go_back))
 rw [← HW9.out, ← HGZ.out]
 clear HW9
 have hx := (HK2.out w9 HB29.out).1
 have x3 := hx.cell (k := 3) rfl
 have hz := HZ9.out
 have z0 := hz.cell (k := 0) rfl
 have z1 := hz.cell (k := 1) rfl
 have z2 := hz.cell (k := 2) rfl
 have z3 := hz.cell (k := 3) rfl
 have z4 := hz.cell (k := 4) rfl
 have z5 := hz.cell (k := 5) rfl
 have z6 := hz.cell (k := 6) rfl
 have z7 := hz.cell (k := 7) rfl
 have f3 := hz.frozen 3
 have HZ10 := Lib.hid (hz.set (k := 3) (by simp) (.int .i64 (s.clock : Int)))
 have HO10 := Lib.hid (HO9.out.set1 (k := 3) hz (.inr rfl) (.int .i64 (s.clock : Int)))
 have HB10 := Lib.hid (HB29.out.setCell (p := ⟨gz, 3, none⟩) (show w2.heap.size ≤ gz by omega) (.int .i64 (s.clock : Int)))
 clear hx hz HZ9 HO9
 go_wp2_with fail
 clear x3 z0 z1 z2 z3 z4 z5 z6 z7 f3
 generalize w9.setCell ⟨gz, 3, none⟩ (.int .i64 (s.clock : Int)) = w10 at *
 have hx := (HK2.out w10 HB10.out).1
 have x1 := hx.cell (k := 1) rfl
 have hz := HZ10.out
 have z1 := hz.cell (k := 1) rfl
 have d3 := (HD.out w10 HB10.out).2.2.1
 have hte' : t.ents.length = s.ents.length := HT.out.2.1
 have hkt : k < t.ents.length := by rw [hte']; exact hk
 have hk2 : (k : Int) < (t.ents.length : Int) := by omega
 clear hte'
 have hb10 := (Below.refl w10.heap.size w10).drew
 have hod := HO10.out.below hb10
 obtain ⟨st, hst⟩ : ∃ n : Nat, n = s.ents[k].stamp := ⟨_, rfl⟩
 rw [← hst] at d3
 obtain ⟨⟨v0, k3⟩, f3, hos, hgs⟩ := hod.s.setE (j := 3) (u := .int .i64 (st : Int)) (y := { t.ents[k] with stamp := st }) hkt (by omega) (fun W cs h => jJ _ _ W cs h) (yl _)
 have hge3 : w2.heap.size ≤ ge := by omega
 obtain ⟨ye, hye⟩ : ∃ y : EntP, y = { t.ents[k] with stamp := st } := ⟨_, rfl⟩
 rw [← hye] at hos
 obtain ⟨xe, hxe⟩ := hod.s.e.own_m
 have hoc := zc hod.c (xH hxe hod.c (by decide) ge rfl) (k := k * 4 + 3) (u := .int .i64 (st : Int))
 have hof := hod.f.setE hxe (k * 4 + 3) (.int .i64 (st : Int))
 have hoz := (hz.below hb10).other (g' := ge) (k := k * 4 + 3) (Ne.symm hgez) (.int .i64 (st : Int))
 have hob := (HB10.out.drew).setCell (p := ⟨ge, k * 4 + 3, none⟩) hge3 (.int .i64 (st : Int))
 have hzs : (⟨t.blobs, t.ents.set k ye, t.room, s.clock⟩ : StoP) = s := by
  have h1 : t = qD s k s.ents[k] := HT.out.2.2
  have h2 : ye = s.ents[k] := by
   rw [hye, hst]
   subst h1
   simp [qD]
  rw [h2, h1]
  exact Jf hk
 have HOS := Lib.hid ((hos.clk t.room s.clock))
 have HOC := Lib.hid hoc
 have HOF := Lib.hid hof
 have HOZ := Lib.hid hoz
 have HOB := Lib.hid hob
 have HZS := Lib.hid hzs
 clear hx hz hod hos hgs hye hxe hoc hof hoz hob hzs hst
 go_wp2_with fail
 go_still_tail 11, (by kernel_rfl)
 change wpList _ _ _ _ _ w10.drew
 repeat' ((fail_if_success (with_reducible refine zl 11 ?_)); (fail_if_success (with_reducible refine zi 11 ?_)); (fail_if_success (with_reducible refine zg 11 ?_)); (fail_if_success (with_reducible refine zk 11 ?_)); (fail_if_success (with_reducible refine zh 11 ?_)); (fail_if_success (with_reducible refine zj 11 ?_)); (fail_if_success at_builtin); (fail_if_success at_make); (first | go_values | go_skip | go_guarded | go_step | go_upon | go_back))
 clear x1 z1 d3 k3 f3
 have hwe : w10.drew.setCell ⟨ge, k * 4 + 3, none⟩ (.int .i64 (st : Int)) = (w10.setCell ⟨ge, k * 4 + 3, none⟩ (.int .i64 (st : Int))).drew := rfl
 rw [hwe] at HOS HOC HOF HOZ HOB
 clear hwe
 generalize (w10.setCell ⟨ge, k * 4 + 3, none⟩ (.int .i64 (st : Int))).drew = w11 at *
 obtain ⟨zs, hzd⟩ : ∃ z : StoP, z = ⟨t.blobs, t.ents.set k ye, t.room, s.clock⟩ := ⟨_, rfl⟩
 have hlen : t.ents.length = zs.ents.length := by rw [hzd]; exact List.length_set.symm
 have hbl : t.blobs.length = zs.blobs.length := by rw [hzd]
 have hrm : (t.room : Int) = (zs.room : Int) := by rw [hzd]
 have hcl : (s.clock : Int) = (zs.clock : Int) := by rw [hzd]
 have hos := HOS.out
 have hzs := HZS.out
 have hoz := HOZ.out
 have hx := (HK2.out w11 HOB.out).1
 rw [← hzd] at hos hzs
 rw [hbl, hlen] at hos hoz
 rw [hrm, hcl] at hoz
 have hrz := OwLo.rdX (l := ⟨zs, co, f0⟩) ⟨hos, HOC.out, HOF.out⟩
 have hgz : GoodS zs := by rw [hzs]; exact HGS.out
 have HSM := Lib.hid (Z2 ⟨X1, cX1, some ⟨bq, oq, none⟩, dY1, G1, ng1, F1, cF1⟩ ⟨X8, cX8, some ⟨ge, 0, none⟩, cz, G8, ng8, F8, cF8⟩ s zs co f0 w11 HGS.out hgz HGT.out.f HGT.out.g (HK2.out w11 HOB.out).2 hrz (by rw [hzs]; exact xJ _) (by rw [hzs]; exact xD _) (by rw [hzs]) (by rw [hzs]))
 have x0 := hx.cell (k := 0) rfl
 have x1 := hx.cell (k := 1) rfl
 have x2 := hx.cell (k := 2) rfl
 have x3 := hx.cell (k := 3) rfl
 have x4 := hx.cell (k := 4) rfl
 have x5 := hx.cell (k := 5) rfl
 have x6 := hx.cell (k := 6) rfl
 have x7 := hx.cell (k := 7) rfl
 have z0 := hoz.cell (k := 0) rfl
 have z1 := hoz.cell (k := 1) rfl
 have z2 := hoz.cell (k := 2) rfl
 have z3 := hoz.cell (k := 3) rfl
 have z4 := hoz.cell (k := 4) rfl
 have z5 := hoz.cell (k := 5) rfl
 have z6 := hoz.cell (k := 6) rfl
 have z7 := hoz.cell (k := 7) rfl
 clear hlen hbl hrm hcl hos hzs hoz hx hrz hgz hzd HOS HZS HOC HOF HOZ
 go_wp2_with fail
 clear x0 x1 x2 x3 x4 x5 x6 x7 z0 z1 z2 z3 z4 z5 z6 z7
 refine ((HSM.out)).mono ?_; rintro e_ w12 ⟨rfl, hb12⟩; dsimp only
 go_wp2_with fail
 go_ret
 exact ⟨rfl, HB2.out.trans ((HOB.out.trans (hb12.mono HOB.out.size)).mono HB2.out.size)⟩
end Go.Proofs.YtpbacomdoddhdaaGreat
