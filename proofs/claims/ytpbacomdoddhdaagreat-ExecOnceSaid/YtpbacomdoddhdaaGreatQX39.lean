/- Lemmas of the proof. Conditions: as stated. -/
import Derived.Test.YtpbacomdoddhdaaGreatQX37
set_option linter.unusedVariables false
set_option linter.unusedSimpArgs false
set_option maxRecDepth 100000
namespace Go.Proofs.YtpbacomdoddhdaaGreat
open Go.RowKit Go.Maps
theorem Zy (A : Option Addr) (c : Nat) (l : List BlobP) (r : RawP) (w : World) (hg : GoodB l) (hc : l.length ≤ c) (hm : c ≤ maxLen) (hA : Rw BlobS w A l) (hr : RawOk r) :
  Calls Tryz.prog 21 #[.slice A l.length c, .agg #[.int .i64 r.kind, .int .i64 r.a, .int .i64 r.b, .string r.text]] w fun e w' => ∃ P p, e = .returned (.slice P (zw l r).length p) ∧ Sl w' 3 P (zw l r).length p (pcs (zw l r)) ∧ Below w.heap.size w w' := by
 refine (vZ A c l r w (by have := hg.len; omega) hc hm (fun b hb => by have := (hg.one b hb).2.1; omega) hA hr).mono ?_
 rintro e w' ⟨v, rfl, ho, hb⟩
 obtain ⟨P, p, rfl, hs, -⟩ := jp ho
 exact ⟨P, p, rfl, hs, hb⟩
theorem YN {s : StoP} {co : ColP} {k : List UInt8} {a : Int} {ps : List PartP} : Zf ⟨s, co, [⟨k, a, []⟩]⟩ k ps = (loZ, 10) := by
 have : fnd 0 [(⟨k, a, []⟩ : FlP)] k = some 0 := by simp [fnd]
 unfold Zf
 simp only [this]
 rfl
theorem YL {s : StoP} {K : List UInt8} {ps : List PartP} (h : zT s.blobs ps = 0) : Zf ⟨s, coZ, []⟩ K ps = (⟨qJ s K ps, coZ, []⟩, 0) := by
 have : zU s coZ K ps = (qJ s K ps, coZ, 0) := by
  unfold zU
  rw [if_pos h, Xr rfl]
 unfold Zf
 simp only [this]
 rfl
theorem KQ {s : StoP} {k K : List UInt8} {a : Int} {ps : List PartP} (h : ∀ x ∈ s.ents, x.key ≠ k) (hh : zT s.blobs ps = 0) (hg : GoodS (qJ s K ps)) : ∃ (co : ColP) (f0 f1 : List FlP) (lz : LoP) (t : StoP) (c2 : ColP), co = coZ ∧ f0 = [] ∧ yW ⟨s, co, f0⟩ k a = (⟨s, co, f1⟩, [], true, 0) ∧ Zf ⟨s, co, f1⟩ k ps = (lz, 10) ∧ Zf ⟨s, co, f0⟩ K ps = (⟨t, c2, f0⟩, 0) ∧ GoodL ⟨t, c2, f0⟩ :=
 ⟨coZ, [], _, _, _, _, rfl, rfl, uT h, YN, YL hh, .of hg (ZI _) (by show (0 : Nat) ≤ 1000; omega) GoodF.nil_ (fun p hp => by cases hp)⟩
set_option maxHeartbeats 16000000 in
theorem uD (A : Option Addr) (n c : Nat) (l : List RawP) (r : RawP) (w : World) (hl : l.length = n) (hc : n ≤ c) (hm : c ≤ maxLen) (hok : ∀ r ∈ l, RawOk r) (hr : Rd w 4 A n (rcs l)) (hro : RawOk r) :
  Calls Tryz.prog 8 #[.slice A n c, YI r] w fun e w' => e = .returned (.bool true) ∧ Below w.heap.size w w' := by
 obtain ⟨w0, hw0⟩ : ∃ w0, w0 = w.alloc (.cells #[.int .i64 r.kind, .int .i64 r.a, .int .i64 r.b, .string r.text] 42) := ⟨_, rfl⟩
 have hb0 : Below w.heap.size w w0 := by rw [hw0]; exact (Below.refl _ _).alloc (Nat.le_refl _) _
 obtain ⟨gr, hgr⟩ : ∃ g, g = w.heap.size := ⟨_, rfl⟩
 have hRb : Arr w0 gr 42 [.int .i64 r.kind, .int .i64 r.a, .int .i64 r.b, .string r.text] := by rw [hw0, hgr]; exact Arr.new w 42 _
 have HLF := Lib.hid (uQ A n c l w0 hl hc hm hok (hr.below hb0))
 have hgd := xk l
 have hnv := Vf l
 have hck := ug l
 have hs7 := Jp l
 obtain ⟨hp1, hp2⟩ := KB l r
 obtain ⟨ps, hps⟩ : ∃ ps, ps = zw (sto l).blobs r := ⟨_, rfl⟩
 rw [← hps] at hp1 hp2
 unfold lof at HLF hgd
 generalize sto l = s at *
 have hkx : hexC (keyS (pk r.a 7)) = 0 := zF _
 have hck' : s.clock < 1099511627776 := by omega
 have hel : s.ents.length < 10 := by omega
 obtain ⟨co, f0, f1, lz, t, c2, hco, hf0, p1, p2, p3, hgt⟩ := KQ (K := keyS (pk r.a 7)) (a := 7) hnv hp2 (kJ hgd.s hkx hp1 (qA hp2) hck' hel)
 rw [← hco, ← hf0] at HLF hgd
 have hg1 : GoodL ⟨s, co, f1⟩ := by have := yp (n := 7) hgd qK.1 qK.2 (by omega) (by omega) hck' (by rw [p1]); rwa [p1] at this
 have HA1 := Lib.hid (fun p W (h : RdLo W p ⟨s, co, f0⟩) => yv p ⟨s, co, f0⟩ nvS 7 W hgd h qK (by omega) (by omega) hck' _ _ _ _ p1)
 have HA2 := Lib.hid (fun p W PA pc (h : RdLo W p ⟨s, co, f1⟩) hP => XR p ⟨s, co, f1⟩ nvS ps PA pc W hg1 h qK.1 hp1 hck' hel hP _ _ p2)
 have HA3 := Lib.hid (fun p W PA pc (h : RdLo W p ⟨s, co, f0⟩) hP => Xd p ⟨s, co, f0⟩ (keyS (pk r.a 7)) ps PA pc W hgd h hkx hp1 hck' hel hP _ _ p3)
 have HCK := Lib.hid (fun p W (h : RdLo W p ⟨t, c2, f0⟩) => yf p ⟨t, c2, f0⟩ W hgt h)
 have HGS := Lib.hid hgd.s
 have HPG := Lib.hid (fun X cX Y dY W (h : RdSt W X cX Y dY s) => Zy X cX s.blobs r W HGS.out.b h.bc h.bm h.b hro)
 rw [← hps] at HPG
 have HKY := Lib.hid (fun W => V1 r.a W hro.a0 hro.a1)
 obtain ⟨kk, hkk⟩ : ∃ k : List UInt8, k = nvS := ⟨_, rfl⟩
 obtain ⟨KK, hKK⟩ : ∃ k : List UInt8, k = keyS (pk r.a 7) := ⟨_, rfl⟩
 rw [← hkk] at HA1 HA2
 rw [← hKK] at HA3 HKY
 have HKK := Lib.hid hkk
 have HB0 := Lib.hid hb0
 have HRB := Lib.hid hRb
 rw [← hgr] at HB0 ⊢
 have hgl : gr < w0.heap.size := HRB.out.lt
 obtain ⟨rk, ra, rb, rt⟩ := r
 unfold YI
 dsimp only at hw0 HRB HPG HKY
 have HW0 := Lib.hid hw0
 have HGR := Lib.hid hgr
 clear hok hl hr hro hgd hnv hco hf0 p1 p2 p3 hg1 hgt hck' hck hkk hKK hkx hel hs7 hp1 hp2 hps hb0 hRb hw0 hgr
 go_enter Tryz.func8, Tryz.ntmps8
 go_wp2_with fail
 rw [← HW0.out, ← HGR.out]
 clear HW0
 refine ((HLF.out)).mono ?_; rintro e_ w1 ⟨⟨X1, cX1, Y1, dY1, G1, ng1, F1, cF1⟩, rfl, hrd1, hb1⟩; dsimp only
 obtain ⟨w2, g2, hw2, hg2, hb12, hk2⟩ := kj w1 X1 Y1 G1 F1 cX1 dY1 ng1 cF1 s co f0 hrd1
 have HK2 := Lib.hid hk2
 have HW2 := Lib.hid hw2
 have HG2 := Lib.hid hg2
 have HB2 := Lib.hid (hb1.trans (hb12.mono hb1.size))
 clear hrd1 hb1 hb12 hk2 hw2 hg2 HLF
 repeat' ((fail_if_success (with_reducible refine zl 2 ?_)); (fail_if_success (with_reducible refine zi 2 ?_)); (fail_if_success (with_reducible refine zg 2 ?_)); (fail_if_success (with_reducible refine zk 2 ?_)); (fail_if_success (with_reducible refine zh 2 ?_)); (fail_if_success (with_reducible refine zj 2 ?_)); (fail_if_success at_builtin); (fail_if_success at_make); (first | go_values | go_skip | go_guarded | go_step | go_upon | go_back))
 rw [← HW2.out, ← HG2.out]
 clear HW2
 obtain ⟨L, hL⟩ : ∃ L : List UInt8, L = [110, 101, 118, 101, 114, 32, 109, 97, 100, 101] := ⟨_, rfl⟩
 have hz1 : ka (w2.alloc (.cells #[.int .u8 110, .int .u8 101, .int .u8 118, .int .u8 101, .int .u8 114, .int .u8 32, .int .u8 109, .int .u8 97, .int .u8 100, .int .u8 101] 5 (10, 11))) w2.heap.size (some ⟨w2.heap.size, 0, none⟩) 10 L := by
  rw [hL]
  exact ⟨w2.heap.size, [], (10, 11), rfl, Nat.le_refl _, World.alloc_heap_new w2 _, rfl, by simp [maxLen], .inr (Nat.le_refl _)⟩
 have hL10 : L.length = 10 := by rw [hL]; rfl
 have hr1 := hz1.rd
 rw [hL10] at hr1
 have HL := Lib.hid hL
 have hb23 := (Below.refl w2.heap.size w2).alloc (Nat.le_refl _) (.cells #[.int .u8 110, .int .u8 101, .int .u8 118, .int .u8 101, .int .u8 114, .int .u8 32, .int .u8 109, .int .u8 97, .int .u8 100, .int .u8 101] 5 (10, 11))
 have HD := Lib.hid (kx (some ⟨w2.heap.size, 0, none⟩) 10 10 L _ hL10 (by omega) (by omega) hr1)
 have HB23 := Lib.hid hb23
 have hkc := fun (w : World) (C : Array Value) (n c : Nat) => Lib.run_convert_bytes_const (P := Tryz.prog) w 43 5 C n c Tryz.underlying43 Tryz.underlying5
 clear hr1 hz1 hb23 hL
 go_wp2_with fail
 clear hkc
 refine ((HD.out)).mono ?_; rintro e_ w3 ⟨rfl, hb3⟩; dsimp only
 have hsd : shaS L = kk := by rw [HL.out, HKK.out, nvS]
 rw [hsd]
 have HB3 := Lib.hid (HB23.out.trans (hb3.mono HB23.out.size))
 clear hb3 hsd HD HB23
 repeat' ((fail_if_success (with_reducible refine zl 3 ?_)); (fail_if_success (with_reducible refine zi 3 ?_)); (fail_if_success (with_reducible refine zg 3 ?_)); (fail_if_success (with_reducible refine zk 3 ?_)); (fail_if_success (with_reducible refine zh 3 ?_)); (fail_if_success (with_reducible refine zj 3 ?_)); (fail_if_success at_builtin); (fail_if_success at_make); (first | go_values | go_skip | go_guarded | go_step | go_upon | go_back))
 have hk := HK2.out w3 HB3.out
 have HC1 := Lib.hid (HA1.out _ w3 hk.2)
 have x0 := hk.1.cell (k := 0) rfl
 have x1 := hk.1.cell (k := 1) rfl
 have x2 := hk.1.cell (k := 2) rfl
 have x3 := hk.1.cell (k := 3) rfl
 have x4 := hk.1.cell (k := 4) rfl
 have x5 := hk.1.cell (k := 5) rfl
 have x6 := hk.1.cell (k := 6) rfl
 have x7 := hk.1.cell (k := 7) rfl
 clear hk HA1
 go_wp2_with fail
 clear x0 x1 x2 x3 x4 x5 x6 x7
 refine ((HC1.out)).mono ?_; rintro e_ w4 ⟨⟨X4, cX4, Y4, dY4, G4, ng4, F4, cF4⟩, P4, d4, rfl, hrd4, -, hb4⟩; dsimp only
 obtain ⟨w5, g5, hw5, hg5, hb45, hk5⟩ := kj w4 X4 Y4 G4 F4 cX4 dY4 ng4 cF4 s co f1 hrd4
 have HK5 := Lib.hid hk5
 have HW5 := Lib.hid hw5
 have HG5 := Lib.hid hg5
 have HB5 := Lib.hid (HB3.out.trans ((hb4.trans (hb45.mono hb4.size)).mono HB3.out.size))
 clear hrd4 hb4 hb45 hk5 hw5 hg5 HC1
 go_wp2_with fail
 rw [← HW5.out, ← HG5.out]
 clear HW5
 have HSB := Lib.hid (show ∀ W, Below w5.heap.size w5 W → (W.cell? ⟨g2, 0, none⟩ = some (.slice X1 s.blobs.length cX1) ∧ W.cell? ⟨g2, 1, none⟩ = some (.slice Y1 s.ents.length dY1) ∧ W.cell? ⟨g2, 2, none⟩ = some (.int .i64 (s.room : Int)) ∧ W.cell? ⟨g2, 3, none⟩ = some (.int .i64 (s.clock : Int)) ∧ W.cell? ⟨g2, 4, none⟩ = some (.int .i64 (co.phase : Int)) ∧ W.cell? ⟨g2, 5, none⟩ = some (.slice G1 co.grey.length ng1) ∧ W.cell? ⟨g2, 6, none⟩ = some (.string ⟨co.at_.toArray⟩) ∧ W.cell? ⟨g2, 7, none⟩ = some (.slice F1 f0.length cF1)) ∧ (W.cell? ⟨g5, 0, none⟩ = some (.slice X4 s.blobs.length cX4) ∧ W.cell? ⟨g5, 1, none⟩ = some (.slice Y4 s.ents.length dY4) ∧ W.cell? ⟨g5, 2, none⟩ = some (.int .i64 (s.room : Int)) ∧ W.cell? ⟨g5, 3, none⟩ = some (.int .i64 (s.clock : Int)) ∧ W.cell? ⟨g5, 4, none⟩ = some (.int .i64 (co.phase : Int)) ∧ W.cell? ⟨g5, 5, none⟩ = some (.slice G4 co.grey.length ng4) ∧ W.cell? ⟨g5, 6, none⟩ = some (.string ⟨co.at_.toArray⟩) ∧ W.cell? ⟨g5, 7, none⟩ = some (.slice F4 f1.length cF4)) ∧ (W.cell? ⟨gr, 0, none⟩ = some (.int .i64 rk) ∧ W.cell? ⟨gr, 1, none⟩ = some (.int .i64 ra) ∧ W.cell? ⟨gr, 2, none⟩ = some (.int .i64 rb) ∧ W.cell? ⟨gr, 3, none⟩ = some (.string rt)) from fun W h => by
  have h1 := (HK2.out W (HB5.out.trans (h.mono HB5.out.size))).1
  have h2 := (HK5.out W h).1
  have h3 := HRB.out.below (HB2.out.trans ((HB5.out.trans (h.mono HB5.out.size)).mono HB2.out.size))
  exact ⟨⟨h1.cell (k := 0) rfl, h1.cell (k := 1) rfl, h1.cell (k := 2) rfl, h1.cell (k := 3) rfl, h1.cell (k := 4) rfl, h1.cell (k := 5) rfl, h1.cell (k := 6) rfl, h1.cell (k := 7) rfl⟩, ⟨h2.cell (k := 0) rfl, h2.cell (k := 1) rfl, h2.cell (k := 2) rfl, h2.cell (k := 3) rfl, h2.cell (k := 4) rfl, h2.cell (k := 5) rfl, h2.cell (k := 6) rfl, h2.cell (k := 7) rfl⟩, h3.cell (k := 0) rfl, h3.cell (k := 1) rfl, h3.cell (k := 2) rfl, h3.cell (k := 3) rfl⟩)
 have HPT := Lib.hid (fun W (h : Below w5.heap.size w5 W) => HPG.out X1 cX1 Y1 dY1 W (HK2.out W (HB5.out.trans (h.mono HB5.out.size))).2.s)
 have HPU := Lib.hid (fun W P q (h : Below w5.heap.size w5 W) (hP : Sl W 3 P ps.length q (pcs ps)) => HA2.out _ W P q (HK5.out W h).2 hP)
 have HPV := Lib.hid (fun W P q (h : Below w5.heap.size w5 W) (hP : Sl W 3 P ps.length q (pcs ps)) => HA3.out _ W P q (HK2.out W (HB5.out.trans (h.mono HB5.out.size))).2 hP)
 clear HA2 HA3 HPG
 apply qp
 intro REST4
 apply qp
 intro R41
 apply qp
 intro R42
 refine zv [12] (S := (fun w' => (w'.cell? ⟨g2, 0, none⟩ = some (.slice X1 s.blobs.length cX1) ∧ w'.cell? ⟨g2, 1, none⟩ = some (.slice Y1 s.ents.length dY1) ∧ w'.cell? ⟨g2, 2, none⟩ = some (.int .i64 (s.room : Int)) ∧ w'.cell? ⟨g2, 3, none⟩ = some (.int .i64 (s.clock : Int)) ∧ w'.cell? ⟨g2, 4, none⟩ = some (.int .i64 (co.phase : Int)) ∧ w'.cell? ⟨g2, 5, none⟩ = some (.slice G1 co.grey.length ng1) ∧ w'.cell? ⟨g2, 6, none⟩ = some (.string ⟨co.at_.toArray⟩) ∧ w'.cell? ⟨g2, 7, none⟩ = some (.slice F1 f0.length cF1)) ∧ (w'.cell? ⟨g5, 0, none⟩ = some (.slice X4 s.blobs.length cX4) ∧ w'.cell? ⟨g5, 1, none⟩ = some (.slice Y4 s.ents.length dY4) ∧ w'.cell? ⟨g5, 2, none⟩ = some (.int .i64 (s.room : Int)) ∧ w'.cell? ⟨g5, 3, none⟩ = some (.int .i64 (s.clock : Int)) ∧ w'.cell? ⟨g5, 4, none⟩ = some (.int .i64 (co.phase : Int)) ∧ w'.cell? ⟨g5, 5, none⟩ = some (.slice G4 co.grey.length ng4) ∧ w'.cell? ⟨g5, 6, none⟩ = some (.string ⟨co.at_.toArray⟩) ∧ w'.cell? ⟨g5, 7, none⟩ = some (.slice F4 f1.length cF4)) ∧ (w'.cell? ⟨gr, 0, none⟩ = some (.int .i64 rk) ∧ w'.cell? ⟨gr, 1, none⟩ = some (.int .i64 ra) ∧ w'.cell? ⟨gr, 2, none⟩ = some (.int .i64 rb) ∧ w'.cell? ⟨gr, 3, none⟩ = some (.string rt)))) (by kernel_rfl) ?_ (fun hHeld => ?_)
 ·exact HSB.out _ (((Below.refl w5.heap.size w5)).drew)
 have hB := ((Below.refl w5.heap.size w5)).drew
 generalize w5.drew = wn0 at *
 refine tkU 0 ?_
 try simp only [sqP]
 refine tkP 1 ?_
 try simp only [sqP]
 refine tkP 2 ?_
 try simp only [sqP]
 refine tkP 3 ?_
 try simp only [sqP]
 refine tkU 4 ?_
 try simp only [sqP]
 refine tkU 5 ?_
 try simp only [sqP]
 refine za (rs := [6, 11]) (by kernel_rfl) (by simp) ?_
 refine z8.cons (o := _) rfl (fun K hK => ?_) ?_
 ·
  go_simp
  refine (HPT.out wn0 hB).mono ?_
  rintro e5 wv ⟨P6, q6, rfl, hz5, hb5⟩
  dsimp only
  refine ku hK ?_ (fun W => Below w5.heap.size w5 W ∧ Sl W 3 P6 ps.length q6 (pcs ps)) (fun W => True) ?_ ?_ (fun wn1 hHeld2 hF _ => ?_)
  ·exact HSB.out _ ((hB.trans (hb5.mono hB.size)))
  ·exact ⟨hB.trans (hb5.mono hB.size), hz5⟩
  ·trivial
  clear hB hHeld
  have hHeld := hHeld2
  clear hHeld2
  obtain ⟨hB, hP⟩ := hF
  clear hb5 hz5
  clear hK K
  try simp only [sqP]
  refine za (rs := [7, 11]) (by kernel_rfl) (by simp) ?_
  refine z8.cons (o := _) rfl (fun K hK => ?_) ?_
  ·
   go_simp
   refine (HPU.out wn1 P6 q6 hB hP).mono ?_
   rintro e5 wv ⟨⟨X6, cX6, Y6, dY6, G6, ng6, F6, cF6⟩, rfl, -, hb5⟩
   dsimp only
   refine ku hK ?_ (fun W => Below w5.heap.size w5 W) (fun W => True) ?_ ?_ (fun wn2 hHeld2 hF _ => ?_)
   ·exact HSB.out _ ((hB.trans (hb5.mono hB.size)))
   ·exact hB.trans (hb5.mono hB.size)
   ·trivial
   clear hP hB hHeld
   have hHeld := hHeld2
   clear hHeld2
   have hB := hF
   clear hb5
   clear hK K
   try simp only [sqP]
   refine tkP 8 ?_
   try simp only [sqP]
   refine tkP 9 ?_
   try simp only [sqP]
   refine tkP 10 ?_
   try simp only [sqP]
   refine za (rs := [11]) (by kernel_rfl) (by simp) ?_
   refine z8.cons (o := _) rfl (fun K hK => ?_) ?_
   ·
    have hba := (Below.refl wn2.heap.size wn2).alloc (Nat.le_refl _) (.cells #[.slice none 0 0, .slice none 0 0, .int .i64 0, .int .i64 0, .int .i64 0, .slice none 0 0, .string ⟨#[]⟩, .slice none 0 0] 58)
    have hn := Arr.new wn2 58 [.slice none 0 0, .slice none 0 0, .int .i64 0, .int .i64 0, .int .i64 0, .slice none 0 0, .string ⟨#[]⟩, .slice none 0 0]
    have hnl : w5.heap.size ≤ wn2.heap.size := hB.size
    obtain ⟨g7, hge⟩ : ∃ g, g = wn2.heap.size := ⟨_, rfl⟩
    have hN : ∀ b, b = g7 → wn2.heap.size ≤ b := fun b h => by rw [h, hge]; exact Nat.le_refl _
    rw [← hge] at hn hnl
    go_simp
    rw [← hge]
    clear hge
    refine ku hK ?_ (fun W => Below w5.heap.size w5 W ∧ Arr W g7 58 [.slice none 0 0, .slice none 0 0, .int .i64 0, .int .i64 0, .int .i64 0, .slice none 0 0, .string ⟨#[]⟩, .slice none 0 0] ∧ w5.heap.size ≤ g7) (fun W => True) ?_ ?_ (fun wn3 hHeld2 hF _ => ?_)
    ·exact HSB.out _ ((hB.trans (hba.mono hB.size)))
    ·exact ⟨hB.trans (hba.mono hB.size), hn, hnl⟩
    ·trivial
    clear hB hHeld
    have hHeld := hHeld2
    clear hHeld2
    obtain ⟨hB, h7, h7l⟩ := hF
    clear hba hn hnl hN
    clear hK K
    try simp only [sqP]
    have hall := And.intro hB (And.intro h7 (And.intro h7l hHeld))
    clear hHeld h7l h7 hB
    generalize wn3 = wz at hall ⊢
    revert hall
    revert wz
    revert g7
    revert cF6
    revert F6
    revert ng6
    revert G6
    revert dY6
    revert Y6
    revert cX6
    revert X6
    revert q6
    revert P6
    exact R41.out
   exact z8.nil
  refine z8.cons (o := _) rfl (fun K hK => ?_) ?_
  ·
   have hba := (Below.refl wn1.heap.size wn1).alloc (Nat.le_refl _) (.cells #[.slice none 0 0, .slice none 0 0, .int .i64 0, .int .i64 0, .int .i64 0, .slice none 0 0, .string ⟨#[]⟩, .slice none 0 0] 58)
   have hn := Arr.new wn1 58 [.slice none 0 0, .slice none 0 0, .int .i64 0, .int .i64 0, .int .i64 0, .slice none 0 0, .string ⟨#[]⟩, .slice none 0 0]
   have hnl : w5.heap.size ≤ wn1.heap.size := hB.size
   obtain ⟨g7, hge⟩ : ∃ g, g = wn1.heap.size := ⟨_, rfl⟩
   have hN : ∀ b, b = g7 → wn1.heap.size ≤ b := fun b h => by rw [h, hge]; exact Nat.le_refl _
   rw [← hge] at hn hnl
   go_simp
   rw [← hge]
   clear hge
   refine ku hK ?_ (fun W => Below w5.heap.size w5 W ∧ Arr W g7 58 [.slice none 0 0, .slice none 0 0, .int .i64 0, .int .i64 0, .int .i64 0, .slice none 0 0, .string ⟨#[]⟩, .slice none 0 0] ∧ w5.heap.size ≤ g7 ∧ Sl W 3 P6 ps.length q6 (pcs ps)) (fun W => True) ?_ ?_ (fun wn4 hHeld2 hF _ => ?_)
   ·exact HSB.out _ ((hB.trans (hba.mono hB.size)))
   ·exact ⟨hB.trans (hba.mono hB.size), hn, hnl, hP.below hba⟩
   ·trivial
   clear hP hB hHeld
   have hHeld := hHeld2
   clear hHeld2
   obtain ⟨hB, h7, h7l, hP⟩ := hF
   clear hba hn hnl hN
   clear hK K
   try simp only [sqP]
   have hall := And.intro hB (And.intro h7 (And.intro h7l (And.intro hP hHeld)))
   clear hHeld hP h7l h7 hB
   generalize wn4 = wz at hall ⊢
   revert hall
   revert wz
   revert g7
   revert q6
   revert P6
   exact R42.out
  exact z8.nil
 refine z8.cons (o := _) rfl (fun K hK => ?_) ?_
 ·
  have hba := (Below.refl wn0.heap.size wn0).alloc (Nat.le_refl _) (.cells #[.slice none 0 0, .slice none 0 0, .int .i64 0, .int .i64 0, .int .i64 0, .slice none 0 0, .string ⟨#[]⟩, .slice none 0 0] 58)
  have hn := Arr.new wn0 58 [.slice none 0 0, .slice none 0 0, .int .i64 0, .int .i64 0, .int .i64 0, .slice none 0 0, .string ⟨#[]⟩, .slice none 0 0]
  have hnl : w5.heap.size ≤ wn0.heap.size := hB.size
  obtain ⟨g7, hge⟩ : ∃ g, g = wn0.heap.size := ⟨_, rfl⟩
  have hN : ∀ b, b = g7 → wn0.heap.size ≤ b := fun b h => by rw [h, hge]; exact Nat.le_refl _
  rw [← hge] at hn hnl
  go_simp
  rw [← hge]
  clear hge
  refine ku hK ?_ (fun W => Below w5.heap.size w5 W ∧ Arr W g7 58 [.slice none 0 0, .slice none 0 0, .int .i64 0, .int .i64 0, .int .i64 0, .slice none 0 0, .string ⟨#[]⟩, .slice none 0 0] ∧ w5.heap.size ≤ g7) (fun W => True) ?_ ?_ (fun wn5 hHeld2 hF _ => ?_)
  ·exact HSB.out _ ((hB.trans (hba.mono hB.size)))
  ·exact ⟨hB.trans (hba.mono hB.size), hn, hnl⟩
  ·trivial
  clear hB hHeld
  have hHeld := hHeld2
  clear hHeld2
  obtain ⟨hB, h7, h7l⟩ := hF
  clear hba hn hnl hN
  clear hK K
  try simp only [sqP]
  refine za (rs := [6]) (by kernel_rfl) (by simp) ?_
  refine z8.cons (o := _) rfl (fun K hK => ?_) ?_
  ·
   go_simp
   refine (HPT.out wn5 hB).mono ?_
   rintro e5 wv ⟨P6, q6, rfl, hz5, hb5⟩
   dsimp only
   refine ku hK ?_ (fun W => Below w5.heap.size w5 W ∧ Arr W g7 58 [.slice none 0 0, .slice none 0 0, .int .i64 0, .int .i64 0, .int .i64 0, .slice none 0 0, .string ⟨#[]⟩, .slice none 0 0] ∧ w5.heap.size ≤ g7 ∧ Sl W 3 P6 ps.length q6 (pcs ps)) (fun W => True) ?_ ?_ (fun wn6 hHeld2 hF _ => ?_)
   ·exact HSB.out _ ((hB.trans (hb5.mono hB.size)))
   ·exact ⟨hB.trans (hb5.mono hB.size), h7.below hb5, h7l, hz5⟩
   ·trivial
   clear h7l h7 hB hHeld
   have hHeld := hHeld2
   clear hHeld2
   obtain ⟨hB, h7, h7l, hP⟩ := hF
   clear hb5 hz5
   clear hK K
   try simp only [sqP]
   have hall := And.intro hB (And.intro h7 (And.intro h7l (And.intro hP hHeld)))
   clear hHeld hP h7l h7 hB
   generalize wn6 = wz at hall ⊢
   revert hall
   revert wz
   revert g7
   revert q6
   revert P6
   exact R42.out
  exact z8.nil
 exact z8.nil
 intro P6 q6 g7 wR42 hall
 obtain ⟨hB, h7, h7l, hP, hHeld⟩ := hall
 refine za (rs := [7]) (by kernel_rfl) (by simp) ?_
 refine z8.cons (o := _) rfl (fun K hK => ?_) ?_
 ·
  go_simp
  refine (HPU.out wR42 P6 q6 hB hP).mono ?_
  rintro e5 wv ⟨⟨X6, cX6, Y6, dY6, G6, ng6, F6, cF6⟩, rfl, -, hb5⟩
  dsimp only
  refine ku hK ?_ (fun W => Below w5.heap.size w5 W ∧ Arr W g7 58 [.slice none 0 0, .slice none 0 0, .int .i64 0, .int .i64 0, .int .i64 0, .slice none 0 0, .string ⟨#[]⟩, .slice none 0 0] ∧ w5.heap.size ≤ g7) (fun W => True) ?_ ?_ (fun wn7 hHeld2 hF _ => ?_)
  ·exact HSB.out _ ((hB.trans (hb5.mono hB.size)))
  ·exact ⟨hB.trans (hb5.mono hB.size), h7.below hb5, h7l⟩
  ·trivial
  clear hP h7l h7 hB hHeld
  have hHeld := hHeld2
  clear hHeld2
  obtain ⟨hB, h7, h7l⟩ := hF
  clear hb5
  clear hK K
  try simp only [sqP]
  refine tkP 8 ?_
  try simp only [sqP]
  refine tkP 9 ?_
  try simp only [sqP]
  refine tkP 10 ?_
  try simp only [sqP]
  have hall := And.intro hB (And.intro h7 (And.intro h7l hHeld))
  clear hHeld h7l h7 hB
  generalize wn7 = wz at hall ⊢
  revert hall
  revert wz
  revert g7
  revert cF6
  revert F6
  revert ng6
  revert G6
  revert dY6
  revert Y6
  revert cX6
  revert X6
  revert q6
  revert P6
  exact R41.out
 exact z8.nil
 intro P6 q6 X6 cX6 Y6 dY6 G6 ng6 F6 cF6 g7 wR41 hall
 obtain ⟨hB, h7, h7l, hHeld⟩ := hall
 refine za (rs := [12]) (by kernel_rfl) (by simp) ?_
 refine z8.store (o := _) rfl (by rfl) (fun K hK => ?_) ?_
 ·
  have z0 := h7.cell (k := 0) rfl
  have f0 := h7.frozen 0
  have z1 := h7.cell (k := 1) rfl
  have f1 := h7.frozen 1
  have z2 := h7.cell (k := 2) rfl
  have f2 := h7.frozen 2
  have z3 := h7.cell (k := 3) rfl
  have f3 := h7.frozen 3
  have z4 := h7.cell (k := 4) rfl
  have f4 := h7.frozen 4
  have z5 := h7.cell (k := 5) rfl
  have f5 := h7.frozen 5
  have z6 := h7.cell (k := 6) rfl
  have f6 := h7.frozen 6
  have z7 := h7.cell (k := 7) rfl
  have f7 := h7.frozen 7
  go_simp
  clear z0 f0 z1 f1 z2 f2 z3 f3 z4 f4 z5 f5 z6 f6 z7 f7
  refine Y5 hK (fun W => Below w5.heap.size w5 W ∧ Arr W g7 58 [.slice X6 lz.st.blobs.length cX6, .slice Y6 lz.st.ents.length dY6, .int .i64 (lz.st.room : Int), .int .i64 (lz.st.clock : Int), .int .i64 (lz.co.phase : Int), .slice G6 lz.co.grey.length ng6, .string ⟨lz.co.at_.toArray⟩, .slice F6 lz.fs.length cF6] ∧ w5.heap.size ≤ g7) (fun W => True) ?_ ?_ (fun wn8 hF _ => ?_)
  ·exact ⟨((((((((hB).setCell (p := ⟨g7, 0, none⟩) h7l _).setCell (p := ⟨g7, 1, none⟩) h7l _).setCell (p := ⟨g7, 2, none⟩) h7l _).setCell (p := ⟨g7, 3, none⟩) h7l _).setCell (p := ⟨g7, 4, none⟩) h7l _).setCell (p := ⟨g7, 5, none⟩) h7l _).setCell (p := ⟨g7, 6, none⟩) h7l _).setCell (p := ⟨g7, 7, none⟩) h7l _, h7.all8 _ _ _ _ _ _ _ _, h7l⟩
  ·trivial
  clear h7l h7 hB hHeld
  obtain ⟨hB, h7, h7l⟩ := hF
  skip
  clear hK K
  try simp only [sqP]
  refine tkP 13 ?_
  try simp only [sqP]
  refine zN (by kernel_rfl) ?_ _
  try dsimp only [Exit.then]
  have hall := And.intro hB (And.intro h7 h7l)
  clear h7l h7 hB
  generalize wn8 = wz at hall ⊢
  revert hall
  revert wz
  revert g7
  revert cF6
  revert F6
  revert ng6
  revert G6
  revert dY6
  revert Y6
  revert cX6
  revert X6
  revert q6
  revert P6
  exact REST4.out
 exact z8.nil
 intro P6 q6 X6 cX6 Y6 dY6 G6 ng6 F6 cF6 g7 w7 hall
 obtain ⟨hB, h7, h7l⟩ := hall
 have HB57 := Lib.hid hB
 have HSD := Lib.hid (show ∀ W, Below w7.heap.size w7 W → (W.cell? ⟨g2, 0, none⟩ = some (.slice X1 s.blobs.length cX1) ∧ W.cell? ⟨g2, 1, none⟩ = some (.slice Y1 s.ents.length dY1) ∧ W.cell? ⟨g2, 2, none⟩ = some (.int .i64 (s.room : Int)) ∧ W.cell? ⟨g2, 3, none⟩ = some (.int .i64 (s.clock : Int)) ∧ W.cell? ⟨g2, 4, none⟩ = some (.int .i64 (co.phase : Int)) ∧ W.cell? ⟨g2, 5, none⟩ = some (.slice G1 co.grey.length ng1) ∧ W.cell? ⟨g2, 6, none⟩ = some (.string ⟨co.at_.toArray⟩) ∧ W.cell? ⟨g2, 7, none⟩ = some (.slice F1 f0.length cF1)) ∧ (W.cell? ⟨gr, 0, none⟩ = some (.int .i64 rk) ∧ W.cell? ⟨gr, 1, none⟩ = some (.int .i64 ra) ∧ W.cell? ⟨gr, 2, none⟩ = some (.int .i64 rb) ∧ W.cell? ⟨gr, 3, none⟩ = some (.string rt)) from fun W h => by
  obtain ⟨h1, _, h2⟩ := HSB.out W (HB57.out.trans (h.mono HB57.out.size))
  exact ⟨h1, h2⟩)
 clear hB h7 h7l
 go_wp2_with fail
 apply qp
 intro REST5
 apply qp
 intro R51
 apply qp
 intro R52
 apply qp
 intro R53
 refine zv [14] (S := (fun w' => (w'.cell? ⟨g2, 0, none⟩ = some (.slice X1 s.blobs.length cX1) ∧ w'.cell? ⟨g2, 1, none⟩ = some (.slice Y1 s.ents.length dY1) ∧ w'.cell? ⟨g2, 2, none⟩ = some (.int .i64 (s.room : Int)) ∧ w'.cell? ⟨g2, 3, none⟩ = some (.int .i64 (s.clock : Int)) ∧ w'.cell? ⟨g2, 4, none⟩ = some (.int .i64 (co.phase : Int)) ∧ w'.cell? ⟨g2, 5, none⟩ = some (.slice G1 co.grey.length ng1) ∧ w'.cell? ⟨g2, 6, none⟩ = some (.string ⟨co.at_.toArray⟩) ∧ w'.cell? ⟨g2, 7, none⟩ = some (.slice F1 f0.length cF1)) ∧ (w'.cell? ⟨gr, 0, none⟩ = some (.int .i64 rk) ∧ w'.cell? ⟨gr, 1, none⟩ = some (.int .i64 ra) ∧ w'.cell? ⟨gr, 2, none⟩ = some (.int .i64 rb) ∧ w'.cell? ⟨gr, 3, none⟩ = some (.string rt)))) (by kernel_rfl) ?_ (fun hHeld => ?_)
 ·exact HSD.out _ (((Below.refl w7.heap.size w7)).drew)
 have hB := ((Below.refl w7.heap.size w7)).drew
 generalize w7.drew = wn0 at *
 refine tkU 0 ?_
 try simp only [sqP]
 refine tkP 1 ?_
 try simp only [sqP]
 refine tkU 2 ?_
 try simp only [sqP]
 refine tkP 4 ?_
 try simp only [sqP]
 refine tkP 5 ?_
 try simp only [sqP]
 refine tkU 6 ?_
 try simp only [sqP]
 refine tkU 7 ?_
 try simp only [sqP]
 refine za (rs := [3, 13]) (by kernel_rfl) (by simp) ?_
 refine z8.cons (o := _) rfl (fun K hK => ?_) ?_
 ·
  go_simp
  refine (HKY.out wn0).mono ?_
  rintro e5 wv ⟨rfl, hb5⟩
  dsimp only
  refine ku hK ?_ (fun W => Below w7.heap.size w7 W) (fun W => True) ?_ ?_ (fun wn1 hHeld2 hF _ => ?_)
  ·exact HSD.out _ ((hB.trans (hb5.mono hB.size)))
  ·exact hB.trans (hb5.mono hB.size)
  ·trivial
  clear hB hHeld
  have hHeld := hHeld2
  clear hHeld2
  have hB := hF
  clear hb5
  clear hK K
  try simp only [sqP]
  refine za (rs := [8, 13]) (by kernel_rfl) (by simp) ?_
  refine z8.cons (o := _) rfl (fun K hK => ?_) ?_
  ·
   go_simp
   refine (HPT.out wn1 (HB57.out.trans (hB.mono HB57.out.size))).mono ?_
   rintro e5 wv ⟨P8, q8, rfl, hz5, hb5⟩
   dsimp only
   refine ku hK ?_ (fun W => Below w7.heap.size w7 W ∧ Sl W 3 P8 ps.length q8 (pcs ps)) (fun W => True) ?_ ?_ (fun wn2 hHeld2 hF _ => ?_)
   ·exact HSD.out _ ((hB.trans (hb5.mono hB.size)))
   ·exact ⟨hB.trans (hb5.mono hB.size), hz5⟩
   ·trivial
   clear hB hHeld
   have hHeld := hHeld2
   clear hHeld2
   obtain ⟨hB, hP⟩ := hF
   clear hb5 hz5
   clear hK K
   try simp only [sqP]
   refine za (rs := [9, 13]) (by kernel_rfl) (by simp) ?_
   refine z8.cons (o := _) rfl (fun K hK => ?_) ?_
   ·
    go_simp
    refine (HPV.out wn2 P8 q8 (HB57.out.trans (hB.mono HB57.out.size)) hP).mono ?_
    rintro e5 wv ⟨v1, v2, v3, v4, rfl, ho5, hb5⟩
    obtain ⟨⟨X8, cX8, Y8, dY8, G8, ng8, F8, cF8⟩, rfl, rfl, rfl, rfl, -⟩ := ho5.rd
    dsimp only
    refine ku hK ?_ (fun W => Below w7.heap.size w7 W ∧ OwSt W 0 (.slice X8 t.blobs.length cX8) (.slice Y8 t.ents.length dY8) t (fun b => False) ∧ W.ownsRow 0 9 1 (.slice G8 c2.grey.length ng8) c2.grey.length (strs c2.grey) ∧ FlsO W 0 (.slice F8 f0.length cF8) f0) (fun W => True) ?_ ?_ (fun wn3 hHeld2 hF _ => ?_)
    ·exact HSD.out _ ((hB.trans (hb5.mono hB.size)))
    ·exact ⟨hB.trans (hb5.mono hB.size), (ho5.s.lower (base' := 0) (Nat.zero_le _)).mono (fun b hb => hb.elim), zd ho5.c (Nat.zero_le _), ho5.f.lower (Nat.zero_le _)⟩
    ·trivial
    clear hP hB hHeld
    have hHeld := hHeld2
    clear hHeld2
    obtain ⟨hB, ho, hl, hf⟩ := hF
    clear hb5 ho5
    clear hK K
    try simp only [sqP]
    refine tkP 10 ?_
    try simp only [sqP]
    refine tkP 11 ?_
    try simp only [sqP]
    refine tkP 12 ?_
    try simp only [sqP]
    refine za (rs := [13]) (by kernel_rfl) (by simp) ?_
    refine z8.cons (o := _) rfl (fun K hK => ?_) ?_
    ·
     have hba := (Below.refl wn3.heap.size wn3).alloc (Nat.le_refl _) (.cells #[.slice none 0 0, .slice none 0 0, .int .i64 0, .int .i64 0, .int .i64 0, .slice none 0 0, .string ⟨#[]⟩, .slice none 0 0] 58)
     have hn := Arr.new wn3 58 [.slice none 0 0, .slice none 0 0, .int .i64 0, .int .i64 0, .int .i64 0, .slice none 0 0, .string ⟨#[]⟩, .slice none 0 0]
     have hnl : w7.heap.size ≤ wn3.heap.size := hB.size
     obtain ⟨g9, hge⟩ : ∃ g, g = wn3.heap.size := ⟨_, rfl⟩
     have hN : ∀ b, b = g9 → wn3.heap.size ≤ b := fun b h => by rw [h, hge]; exact Nat.le_refl _
     rw [← hge] at hn hnl
     go_simp
     rw [← hge]
     clear hge
     refine ku hK ?_ (fun W => Below w7.heap.size w7 W ∧ Arr W g9 58 [.slice none 0 0, .slice none 0 0, .int .i64 0, .int .i64 0, .int .i64 0, .slice none 0 0, .string ⟨#[]⟩, .slice none 0 0] ∧ w7.heap.size ≤ g9 ∧ OwSt W 0 (.slice X8 t.blobs.length cX8) (.slice Y8 t.ents.length dY8) t (fun b => b = g9) ∧ W.ownsRow 0 9 1 (.slice G8 c2.grey.length ng8) c2.grey.length (strs c2.grey) ∧ FlsO W 0 (.slice F8 f0.length cF8) f0) (fun W => True) ?_ ?_ (fun wn4 hHeld2 hF _ => ?_)
     ·exact HSD.out _ ((hB.trans (hba.mono hB.size)))
     ·exact ⟨hB.trans (hba.mono hB.size), hn, hnl, (ho.wider (N' := (fun b => b = g9)) (fun b hb => .inr (hN _ hb))).below hba, zb hl hba, hf.below hba⟩
     ·trivial
     clear hf hl ho hB hHeld
     have hHeld := hHeld2
     clear hHeld2
     obtain ⟨hB, h9, h9l, ho, hl, hf⟩ := hF
     clear hba hn hnl hN
     clear hK K
     try simp only [sqP]
     have hall := And.intro hB (And.intro h9 (And.intro h9l (And.intro ho (And.intro hl (And.intro hf hHeld)))))
     clear hHeld hf hl ho h9l h9 hB
     generalize wn4 = wz at hall ⊢
     revert hall
     revert wz
     revert g9
     revert cF8
     revert F8
     revert ng8
     revert G8
     revert dY8
     revert Y8
     revert cX8
     revert X8
     revert q8
     revert P8
     exact R51.out
    exact z8.nil
   refine z8.cons (o := _) rfl (fun K hK => ?_) ?_
   ·
    have hba := (Below.refl wn2.heap.size wn2).alloc (Nat.le_refl _) (.cells #[.slice none 0 0, .slice none 0 0, .int .i64 0, .int .i64 0, .int .i64 0, .slice none 0 0, .string ⟨#[]⟩, .slice none 0 0] 58)
    have hn := Arr.new wn2 58 [.slice none 0 0, .slice none 0 0, .int .i64 0, .int .i64 0, .int .i64 0, .slice none 0 0, .string ⟨#[]⟩, .slice none 0 0]
    have hnl : w7.heap.size ≤ wn2.heap.size := hB.size
    obtain ⟨g9, hge⟩ : ∃ g, g = wn2.heap.size := ⟨_, rfl⟩
    have hN : ∀ b, b = g9 → wn2.heap.size ≤ b := fun b h => by rw [h, hge]; exact Nat.le_refl _
    rw [← hge] at hn hnl
    go_simp
    rw [← hge]
    clear hge
    refine ku hK ?_ (fun W => Below w7.heap.size w7 W ∧ Arr W g9 58 [.slice none 0 0, .slice none 0 0, .int .i64 0, .int .i64 0, .int .i64 0, .slice none 0 0, .string ⟨#[]⟩, .slice none 0 0] ∧ w7.heap.size ≤ g9 ∧ Sl W 3 P8 ps.length q8 (pcs ps)) (fun W => True) ?_ ?_ (fun wn5 hHeld2 hF _ => ?_)
    ·exact HSD.out _ ((hB.trans (hba.mono hB.size)))
    ·exact ⟨hB.trans (hba.mono hB.size), hn, hnl, hP.below hba⟩
    ·trivial
    clear hP hB hHeld
    have hHeld := hHeld2
    clear hHeld2
    obtain ⟨hB, h9, h9l, hP⟩ := hF
    clear hba hn hnl hN
    clear hK K
    try simp only [sqP]
    have hall := And.intro hB (And.intro h9 (And.intro h9l (And.intro hP hHeld)))
    clear hHeld hP h9l h9 hB
    generalize wn5 = wz at hall ⊢
    revert hall
    revert wz
    revert g9
    revert q8
    revert P8
    exact R52.out
   exact z8.nil
  refine z8.cons (o := _) rfl (fun K hK => ?_) ?_
  ·
   have hba := (Below.refl wn1.heap.size wn1).alloc (Nat.le_refl _) (.cells #[.slice none 0 0, .slice none 0 0, .int .i64 0, .int .i64 0, .int .i64 0, .slice none 0 0, .string ⟨#[]⟩, .slice none 0 0] 58)
   have hn := Arr.new wn1 58 [.slice none 0 0, .slice none 0 0, .int .i64 0, .int .i64 0, .int .i64 0, .slice none 0 0, .string ⟨#[]⟩, .slice none 0 0]
   have hnl : w7.heap.size ≤ wn1.heap.size := hB.size
   obtain ⟨g9, hge⟩ : ∃ g, g = wn1.heap.size := ⟨_, rfl⟩
   have hN : ∀ b, b = g9 → wn1.heap.size ≤ b := fun b h => by rw [h, hge]; exact Nat.le_refl _
   rw [← hge] at hn hnl
   go_simp
   rw [← hge]
   clear hge
   refine ku hK ?_ (fun W => Below w7.heap.size w7 W ∧ Arr W g9 58 [.slice none 0 0, .slice none 0 0, .int .i64 0, .int .i64 0, .int .i64 0, .slice none 0 0, .string ⟨#[]⟩, .slice none 0 0] ∧ w7.heap.size ≤ g9) (fun W => True) ?_ ?_ (fun wn6 hHeld2 hF _ => ?_)
   ·exact HSD.out _ ((hB.trans (hba.mono hB.size)))
   ·exact ⟨hB.trans (hba.mono hB.size), hn, hnl⟩
   ·trivial
   clear hB hHeld
   have hHeld := hHeld2
   clear hHeld2
   obtain ⟨hB, h9, h9l⟩ := hF
   clear hba hn hnl hN
   clear hK K
   try simp only [sqP]
   have hall := And.intro hB (And.intro h9 (And.intro h9l hHeld))
   clear hHeld h9l h9 hB
   generalize wn6 = wz at hall ⊢
   revert hall
   revert wz
   revert g9
   exact R53.out
  exact z8.nil
 refine z8.cons (o := _) rfl (fun K hK => ?_) ?_
 ·
  have hba := (Below.refl wn0.heap.size wn0).alloc (Nat.le_refl _) (.cells #[.slice none 0 0, .slice none 0 0, .int .i64 0, .int .i64 0, .int .i64 0, .slice none 0 0, .string ⟨#[]⟩, .slice none 0 0] 58)
  have hn := Arr.new wn0 58 [.slice none 0 0, .slice none 0 0, .int .i64 0, .int .i64 0, .int .i64 0, .slice none 0 0, .string ⟨#[]⟩, .slice none 0 0]
  have hnl : w7.heap.size ≤ wn0.heap.size := hB.size
  obtain ⟨g9, hge⟩ : ∃ g, g = wn0.heap.size := ⟨_, rfl⟩
  have hN : ∀ b, b = g9 → wn0.heap.size ≤ b := fun b h => by rw [h, hge]; exact Nat.le_refl _
  rw [← hge] at hn hnl
  go_simp
  rw [← hge]
  clear hge
  refine ku hK ?_ (fun W => Below w7.heap.size w7 W ∧ Arr W g9 58 [.slice none 0 0, .slice none 0 0, .int .i64 0, .int .i64 0, .int .i64 0, .slice none 0 0, .string ⟨#[]⟩, .slice none 0 0] ∧ w7.heap.size ≤ g9) (fun W => True) ?_ ?_ (fun wn7 hHeld2 hF _ => ?_)
  ·exact HSD.out _ ((hB.trans (hba.mono hB.size)))
  ·exact ⟨hB.trans (hba.mono hB.size), hn, hnl⟩
  ·trivial
  clear hB hHeld
  have hHeld := hHeld2
  clear hHeld2
  obtain ⟨hB, h9, h9l⟩ := hF
  clear hba hn hnl hN
  clear hK K
  try simp only [sqP]
  refine za (rs := [3]) (by kernel_rfl) (by simp) ?_
  refine z8.cons (o := _) rfl (fun K hK => ?_) ?_
  ·
   go_simp
   refine (HKY.out wn7).mono ?_
   rintro e5 wv ⟨rfl, hb5⟩
   dsimp only
   refine ku hK ?_ (fun W => Below w7.heap.size w7 W ∧ Arr W g9 58 [.slice none 0 0, .slice none 0 0, .int .i64 0, .int .i64 0, .int .i64 0, .slice none 0 0, .string ⟨#[]⟩, .slice none 0 0] ∧ w7.heap.size ≤ g9) (fun W => True) ?_ ?_ (fun wn8 hHeld2 hF _ => ?_)
   ·exact HSD.out _ ((hB.trans (hb5.mono hB.size)))
   ·exact ⟨hB.trans (hb5.mono hB.size), h9.below hb5, h9l⟩
   ·trivial
   clear h9l h9 hB hHeld
   have hHeld := hHeld2
   clear hHeld2
   obtain ⟨hB, h9, h9l⟩ := hF
   clear hb5
   clear hK K
   try simp only [sqP]
   have hall := And.intro hB (And.intro h9 (And.intro h9l hHeld))
   clear hHeld h9l h9 hB
   generalize wn8 = wz at hall ⊢
   revert hall
   revert wz
   revert g9
   exact R53.out
  exact z8.nil
 exact z8.nil
 intro g9 wR53 hall
 obtain ⟨hB, h9, h9l, hHeld⟩ := hall
 refine za (rs := [8]) (by kernel_rfl) (by simp) ?_
 refine z8.cons (o := _) rfl (fun K hK => ?_) ?_
 ·
  go_simp
  refine (HPT.out wR53 (HB57.out.trans (hB.mono HB57.out.size))).mono ?_
  rintro e5 wv ⟨P8, q8, rfl, hz5, hb5⟩
  dsimp only
  refine ku hK ?_ (fun W => Below w7.heap.size w7 W ∧ Arr W g9 58 [.slice none 0 0, .slice none 0 0, .int .i64 0, .int .i64 0, .int .i64 0, .slice none 0 0, .string ⟨#[]⟩, .slice none 0 0] ∧ w7.heap.size ≤ g9 ∧ Sl W 3 P8 ps.length q8 (pcs ps)) (fun W => True) ?_ ?_ (fun wn9 hHeld2 hF _ => ?_)
  ·exact HSD.out _ ((hB.trans (hb5.mono hB.size)))
  ·exact ⟨hB.trans (hb5.mono hB.size), h9.below hb5, h9l, hz5⟩
  ·trivial
  clear h9l h9 hB hHeld
  have hHeld := hHeld2
  clear hHeld2
  obtain ⟨hB, h9, h9l, hP⟩ := hF
  clear hb5 hz5
  clear hK K
  try simp only [sqP]
  have hall := And.intro hB (And.intro h9 (And.intro h9l (And.intro hP hHeld)))
  clear hHeld hP h9l h9 hB
  generalize wn9 = wz at hall ⊢
  revert hall
  revert wz
  revert g9
  revert q8
  revert P8
  exact R52.out
 exact z8.nil
 intro P8 q8 g9 wR52 hall
 obtain ⟨hB, h9, h9l, hP, hHeld⟩ := hall
 refine za (rs := [9]) (by kernel_rfl) (by simp) ?_
 refine z8.cons (o := _) rfl (fun K hK => ?_) ?_
 ·
  go_simp
  refine (HPV.out wR52 P8 q8 (HB57.out.trans (hB.mono HB57.out.size)) hP).mono ?_
  rintro e5 wv ⟨v1, v2, v3, v4, rfl, ho5, hb5⟩
  obtain ⟨⟨X8, cX8, Y8, dY8, G8, ng8, F8, cF8⟩, rfl, rfl, rfl, rfl, -⟩ := ho5.rd
  dsimp only
  refine ku hK ?_ (fun W => Below w7.heap.size w7 W ∧ Arr W g9 58 [.slice none 0 0, .slice none 0 0, .int .i64 0, .int .i64 0, .int .i64 0, .slice none 0 0, .string ⟨#[]⟩, .slice none 0 0] ∧ w7.heap.size ≤ g9 ∧ OwSt W 0 (.slice X8 t.blobs.length cX8) (.slice Y8 t.ents.length dY8) t (fun b => b = g9) ∧ W.ownsRow 0 9 1 (.slice G8 c2.grey.length ng8) c2.grey.length (strs c2.grey) ∧ FlsO W 0 (.slice F8 f0.length cF8) f0) (fun W => True) ?_ ?_ (fun wn10 hHeld2 hF _ => ?_)
  ·exact HSD.out _ ((hB.trans (hb5.mono hB.size)))
  ·exact ⟨hB.trans (hb5.mono hB.size), h9.below hb5, h9l, (ho5.s.lower (base' := 0) (Nat.zero_le _)).mono (N' := (fun b => b = g9)) (fun b hb => (by rw [hb]; exact h9.lt)), zd ho5.c (Nat.zero_le _), ho5.f.lower (Nat.zero_le _)⟩
  ·trivial
  clear hP h9l h9 hB hHeld
  have hHeld := hHeld2
  clear hHeld2
  obtain ⟨hB, h9, h9l, ho, hl, hf⟩ := hF
  clear hb5 ho5
  clear hK K
  try simp only [sqP]
  refine tkP 10 ?_
  try simp only [sqP]
  refine tkP 11 ?_
  try simp only [sqP]
  refine tkP 12 ?_
  try simp only [sqP]
  have hall := And.intro hB (And.intro h9 (And.intro h9l (And.intro ho (And.intro hl (And.intro hf hHeld)))))
  clear hHeld hf hl ho h9l h9 hB
  generalize wn10 = wz at hall ⊢
  revert hall
  revert wz
  revert g9
  revert cF8
  revert F8
  revert ng8
  revert G8
  revert dY8
  revert Y8
  revert cX8
  revert X8
  revert q8
  revert P8
  exact R51.out
 exact z8.nil
 intro P8 q8 X8 cX8 Y8 dY8 G8 ng8 F8 cF8 g9 wR51 hall
 obtain ⟨hB, h9, h9l, ho, hl, hf, hHeld⟩ := hall
 refine za (rs := [14]) (by kernel_rfl) (by simp) ?_
 refine z8.store (o := _) rfl (by rfl) (fun K hK => ?_) ?_
 ·
  have hqho := ho.nb h9 (by decide) (by decide)
  have hqhl := zm hl h9 (by decide)
  have z0 := h9.cell (k := 0) rfl
  have f0 := h9.frozen 0
  have z1 := h9.cell (k := 1) rfl
  have f1 := h9.frozen 1
  have z2 := h9.cell (k := 2) rfl
  have f2 := h9.frozen 2
  have z3 := h9.cell (k := 3) rfl
  have f3 := h9.frozen 3
  have z4 := h9.cell (k := 4) rfl
  have f4 := h9.frozen 4
  have z5 := h9.cell (k := 5) rfl
  have f5 := h9.frozen 5
  have z6 := h9.cell (k := 6) rfl
  have f6 := h9.frozen 6
  have z7 := h9.cell (k := 7) rfl
  have f7 := h9.frozen 7
  go_simp
  clear z0 f0 z1 f1 z2 f2 z3 f3 z4 f4 z5 f5 z6 f6 z7 f7
  refine Y5 hK (fun W => Below w7.heap.size w7 W ∧ Arr W g9 58 [.slice X8 t.blobs.length cX8, .slice Y8 t.ents.length dY8, .int .i64 (t.room : Int), .int .i64 (t.clock : Int), .int .i64 (c2.phase : Int), .slice G8 c2.grey.length ng8, .string ⟨c2.at_.toArray⟩, .slice F8 f0.length cF8] ∧ w7.heap.size ≤ g9 ∧ OwSt W 0 (.slice X8 t.blobs.length cX8) (.slice Y8 t.ents.length dY8) t (fun b => b = g9) ∧ W.ownsRow 0 9 1 (.slice G8 c2.grey.length ng8) c2.grey.length (strs c2.grey) ∧ FlsO W 0 (.slice F8 f0.length cF8) f0) (fun W => True) ?_ ?_ (fun wn11 hF _ => ?_)
  ·exact ⟨((((((((hB).setCell (p := ⟨g9, 0, none⟩) h9l _).setCell (p := ⟨g9, 1, none⟩) h9l _).setCell (p := ⟨g9, 2, none⟩) h9l _).setCell (p := ⟨g9, 3, none⟩) h9l _).setCell (p := ⟨g9, 4, none⟩) h9l _).setCell (p := ⟨g9, 5, none⟩) h9l _).setCell (p := ⟨g9, 6, none⟩) h9l _).setCell (p := ⟨g9, 7, none⟩) h9l _, h9.all8 _ _ _ _ _ _ _ _, h9l, ho.set8N rfl hqho.1 hqho.2 _ _ _ _ _ _ _ _, zM hl hqhl _ _ _ _ _ _ _ _, hf.set8 h9 (by decide) (by decide) _ _ _ _ _ _ _ _⟩
  ·trivial
  clear hf hl ho h9l h9 hB hHeld
  obtain ⟨hB, h9, h9l, ho, hl, hf⟩ := hF
  clear hqho hqhl
  clear hK K
  try simp only [sqP]
  refine tkP 15 ?_
  try simp only [sqP]
  refine zN (by kernel_rfl) ?_ _
  try dsimp only [Exit.then]
  have hall := And.intro hB (And.intro h9 (And.intro h9l (And.intro ho (And.intro hl hf))))
  clear hf hl ho h9l h9 hB
  generalize wn11 = wz at hall ⊢
  revert hall
  revert wz
  revert g9
  revert cF8
  revert F8
  revert ng8
  revert G8
  revert dY8
  revert Y8
  revert cX8
  revert X8
  revert q8
  revert P8
  exact REST5.out
 exact z8.nil
 intro P8 q8 X8 cX8 Y8 dY8 G8 ng8 F8 cF8 g9 w9 hall
 obtain ⟨hB, h9, h9l, ho, hl, hf⟩ := hall
 obtain ⟨⟨_, _, _, _, _, _, _, _⟩, e1, e2, e3, e4, hrd⟩ := OwLo.rd (l := ⟨t, c2, f0⟩) ⟨ho, hl, hf⟩
 cases e1; cases e2; cases e3; cases e4
 have HC9 := Lib.hid (HCK.out _ w9 hrd)
 have x0 := h9.cell (k := 0) rfl
 have x1 := h9.cell (k := 1) rfl
 have x2 := h9.cell (k := 2) rfl
 have x3 := h9.cell (k := 3) rfl
 have x4 := h9.cell (k := 4) rfl
 have x5 := h9.cell (k := 5) rfl
 have x6 := h9.cell (k := 6) rfl
 have x7 := h9.cell (k := 7) rfl
 have HB9 := Lib.hid (HB5.out.trans ((HB57.out.trans (hB.mono HB57.out.size)).mono HB5.out.size))
 clear ho hl hf hrd h9 h9l hB HCK
 go_wp2_with fail
 clear x0 x1 x2 x3 x4 x5 x6 x7
 refine ((HC9.out)).mono ?_; rintro e_ w10 ⟨rfl, hb10⟩; dsimp only
 go_wp2_with fail
 go_ret
 have hb2 := HB2.out.trans ((HB9.out.trans (hb10.mono HB9.out.size)).mono HB2.out.size)
 exact ⟨rfl, HB0.out.trans (hb2.mono (Nat.le_of_lt hgl))⟩
def alI (i : Nat) : List Int := (List.range i).map fun j : Nat => (j : Int) + 1
theorem Z3 (i : Nat) : (alI i).length = i := by simp [alI]
theorem uE (i : Nat) : alI (i + 1) = alI i ++ [(i : Int) + 1] := by simp [alI, List.range_succ]
theorem Vt (i : Nat) : (i : Int) + 1 ∉ alI i := fun h => by
 simp only [alI, List.mem_map, List.mem_range] at h
 obtain ⟨j, hj, e⟩ := h
 omega
theorem xl (i : Nat) : alI (i + 1) = 1 :: (alI (i + 1)).tail := by
 induction i with
 | zero => rfl
 | succ i ih => rw [uE, ih]; rfl
def flI (k : List UInt8) (i : Nat) : List FlP := match alI i with | [] => [] | a :: r => [⟨k, a, r⟩]
theorem ut (k : List UInt8) (i : Nat) : flI k (i + 1) = [⟨k, 1, (alI (i + 1)).tail⟩] := by
 unfold flI
 rw [xl]
 rfl
theorem ZU {s : StoP} {k : List UInt8} (h : ∀ x ∈ s.ents, x.key ≠ k) (i : Nat) (hi : i ≤ 5) : yW ⟨s, coZ, flI k i⟩ k ((i : Int) + 1) = (⟨s, coZ, flI k (i + 1)⟩, [], decide (i = 0), 0) := by
 cases i with
 | zero => exact uT h
 | succ i =>
  have hj : qN (flI k (i + 1)) k (((i + 1 : Nat) : Int) + 1) = (flI k (i + 1 + 1), false, 0) := by
   have h1 := Vt (i + 1)
   have h2 := Z3 (i + 1)
   have e : (alI (i + 1) ++ [((i + 1 : Nat) : Int) + 1]).tail = (alI (i + 1)).tail ++ [((i + 1 : Nat) : Int) + 1] := by rw [xl]; rfl
   rw [ut, ut, uE (i + 1), e]
   rw [xl] at h1 h2
   generalize (alI (i + 1)).tail = r at *
   simp only [List.length_cons] at h2
   have h3 : fnd 0 [(⟨k, 1, r⟩ : FlP)] k = some 0 := by simp [fnd]
   unfold qN
   simp only [h3, List.getElem?_cons_zero]
   rw [if_neg (by simpa using h1), if_neg (by omega)]
   rfl
  unfold yW
  rw [kF.2 h]
  simp only [hj]
  rfl
theorem xO {s : StoP} {k : List UInt8} (hg : GoodL ⟨s, coZ, []⟩) (h : ∀ x ∈ s.ents, x.key ≠ k) (hk : hexC k = 0 ∧ k.length ≤ 1000) (hc : s.clock < 1099511627776) : ∀ i, i ≤ 6 → GoodL ⟨s, coZ, flI k i⟩
 | 0, _ => hg
 | i + 1, hi => by
  have h1 := ZU h i (by omega)
  have h2 := yp (n := (i : Int) + 1) (xO hg h hk hc i (by omega)) hk.1 hk.2 (by omega) (by omega) hc (by rw [h1])
  rwa [h1] at h2
theorem Yr {s : StoP} {k : List UInt8} {ps : List PartP} (i : Nat) (hh : zT s.blobs ps = 0) : yX ⟨s, coZ, flI k (i + 1)⟩ k ps = (⟨qJ s k ps, coZ, []⟩, alI (i + 1), 0) := by
 have h1 : kT (flI k (i + 1)) k = ([], alI (i + 1), 0) := by
  rw [ut]
  have h3 : fnd 0 [(⟨k, 1, (alI (i + 1)).tail⟩ : FlP)] k = some 0 := by simp [fnd]
  unfold kT
  simp only [h3, List.getElem?_cons_zero]
  rw [← xl]
  rfl
 have h2 : zU s coZ k ps = (qJ s k ps, coZ, 0) := by
  unfold zU
  rw [if_pos hh, Xr rfl]
 unfold yX
 simp only [h1, h2]
 rfl
theorem Xk {s : StoP} {k : List UInt8} {ps : List PartP} (hg : GoodS (qJ s k ps)) (n : Int) (hn : 1 ≤ n) : ∃ t, yW ⟨qJ s k ps, coZ, []⟩ k n = (⟨t, coZ, []⟩, ps, false, 0) := by
 obtain ⟨y, hy, h1, h2, _⟩ := Xh s.ents ⟨k, ps, 0, s.clock + 1⟩
 obtain ⟨j, hj, e⟩ := List.getElem_of_mem hy
 have hf : (qJ s k ps).ents.findIdx? (fun x => x.key == k) = some j := Vq hg.e.ris hj (by show (kO s.ents _)[j].key = k; rw [e]; exact h1)
 refine ⟨qD (qJ s k ps) j y, ?_⟩
 unfold yW
 have h3 : (qJ s k ps).ents[j]? = some y := (List.getElem?_eq_getElem hj).trans (congrArg some e)
 simp only [hf, h3]
 rw [h2]
end Go.Proofs.YtpbacomdoddhdaaGreat
