/- Lemmas of the proof. Conditions: as stated. -/
import Derived.Test.YtpbacomdoddhdaaGreatQX39
set_option linter.unusedVariables false
set_option linter.unusedSimpArgs false
set_option maxRecDepth 100000
namespace Go.Proofs.YtpbacomdoddhdaaGreat
open Go.RowKit Go.Maps
theorem jV (gk : Nat) (d : List UInt8) (l : List EntP) (w : World) (hk : w.cell? ⟨gk, 0, none⟩ = some (.string ⟨d.toArray⟩)) (hg : gk < w.heap.size) : js w l 43 (.pointer (some ⟨gk, 0, none⟩)) (fun b => b.key == d) := by
 refine ⟨fun _ _ => by kernel_rfl, fun b B cb W hb hbel hs => ?_⟩
 have hg1 : gk < W.heap.size := Nat.lt_of_lt_of_le hg hbel.size
 have hk0 : W.cell? ⟨gk, 0, none⟩ = some (.string ⟨d.toArray⟩) := (hbel.cell (p := ⟨gk, 0, none⟩) hg).trans hk
 generalize hs1 : (⟨b.key.toArray⟩ : ByteArray) = s
 generalize hs2 : (⟨d.toArray⟩ : ByteArray) = t at hk0
 have hst : (b.key == d) = (s.toList == t.toList) := by
  rw [← hs1, ← hs2, ByteArray.toList_eq, ByteArray.toList_eq]
 dsimp only
 rw [hst]
 have hb1 := (Below.refl W.heap.size W).alloc (Nat.le_refl _) (.cells #[.string s, .slice B b.parts.length cb, .int .i64 (b.pins : Int), (.int .i64 (b.stamp : Int))] 65)
 have hk1 : (W.alloc (.cells #[.string s, .slice B b.parts.length cb, .int .i64 (b.pins : Int), (.int .i64 (b.stamp : Int))] 65)).cell? ⟨gk, 0, none⟩ = some (.string t) := (World.cell?_alloc_lt W _ ⟨gk, 0, none⟩ hg1).trans hk0
 clear hst hs1 hs2
 go_enter Tryz.func43, Tryz.ntmps43
 go_wp2_with fail
 go_ret
 exact ⟨rfl, hb1⟩
theorem OwLo.low {w w' : World} {base : Nat} {v1 v2 v3 v4 : Value} {l : LoP} {N : Nat → Prop} {row : Option Nat} (h : OwLo w base v1 v2 v3 v4 l N) (hg : w.grownBy w' row) (hr : ∀ j, row = some j → j < base) (hN : ∀ j, row = some j → N j) : OwLo w' base v1 v2 v3 v4 l N := by
 refine ⟨⟨h.s.b.other hg (fun b e e2 => ?_) (fun b e => .inl (hN b e)), h.s.e.other hg (fun b e e2 => ?_) (fun b e => .inl (hN b e)), h.s.ne⟩, h.c.kept hg ?_, h.f.low hg hr⟩
 ·have := (h.s.b.rwo.blk e2).1; have := hr b e; omega
 ·have := (h.s.e.rwo.blk e2).1; have := hr b e; omega
 ·cases hb : v3.ownBlock with
  | none => exact .inl rfl
  | some b => exact .inr (fun e1 => by have := (h.c.lt b hb).1; have := hr b e1.symm; omega)
set_option maxHeartbeats 16000000 in
theorem uU (A : Option Addr) (n c : Nat) (l : List RawP) (r : RawP) (y : Int) (w : World) (hl : l.length = n) (hc : n ≤ c) (hm : c ≤ maxLen) (hok : ∀ r ∈ l, RawOk r) (hr : Rd w 4 A n (rcs l)) (hro : RawOk r) (hy0 : -9223372036854775808 ≤ y) (hy1 : y ≤ 9223372036854775807) :
  Calls Tryz.prog 9 #[.slice A n c, YI r, .int .i64 y] w fun e w' => e = .returned (.bool true) ∧ Below w.heap.size w w' := by
 obtain ⟨w0, hw0⟩ : ∃ w0, w0 = w.alloc (.cells #[.int .i64 r.kind, .int .i64 r.a, .int .i64 r.b, .string r.text] 42) := ⟨_, rfl⟩
 have hb0 : Below w.heap.size w w0 := by rw [hw0]; exact (Below.refl _ _).alloc (Nat.le_refl _) _
 obtain ⟨gr, hgr⟩ : ∃ g, g = w.heap.size := ⟨_, rfl⟩
 have hRb : Arr w0 gr 42 [.int .i64 r.kind, .int .i64 r.a, .int .i64 r.b, .string r.text] := by rw [hw0, hgr]; exact Arr.new w 42 _
 have HLF := Lib.hid (uQ A n c l w0 hl hc hm hok (hr.below hb0))
 have hgd := xk l
 have hck := ug l
 have hs7 := Jp l
 obtain ⟨hp1, hp2⟩ := KB l r
 obtain ⟨ps, hps⟩ : ∃ ps, ps = zw (sto l).blobs r := ⟨_, rfl⟩
 rw [← hps] at hp1 hp2
 unfold lof at HLF hgd
 generalize sto l = s at *
 have hck' : s.clock < 1099511627776 := by omega
 have hel : s.ents.length < 10 := by omega
 have hlb : s.blobs.length ≤ 24 := hgd.s.b.len
 have HPY := Lib.hid (fun w' => zI y 5 5 rfl w' hy0 hy1 (by omega) (by omega))
 have hqy := k9 y (m := 5) (by omega)
 generalize pk y 5 = qy at *
 have hwy : IntKind.i64.wrap (1 + (qy : Int)) = 1 + (qy : Int) := IntWalk.i64_in _ (by omega)
 have HCK := Lib.hid (fun p W (h : RdLo W p ⟨s, coZ, []⟩) => yf p ⟨s, coZ, []⟩ W hgd h)
 have HGD := Lib.hid hgd
 have HPG := Lib.hid (fun X cX Y dY W (h : RdSt W X cX Y dY s) => Zy X cX s.blobs r W HGD.out.s.b h.bc h.bm h.b hro)
 rw [← hps] at HPG
 obtain ⟨co, f0, hco, hf0⟩ : ∃ (c : ColP) (f : List FlP), c = coZ ∧ f = [] := ⟨_, _, rfl, rfl⟩
 rw [← hco, ← hf0] at HLF HCK
 have HCO := Lib.hid hco
 have HF0 := Lib.hid hf0
 have HCL := Lib.hid hck
 have HP := Lib.hid (And.intro hp1 (And.intro hp2 (And.intro hck' hel)))
 have HB0 := Lib.hid hb0
 have HRB := Lib.hid hRb
 have HRO := Lib.hid hro
 rw [← hgr] at HB0 ⊢
 have hgl : gr < w0.heap.size := HRB.out.lt
 obtain ⟨rk, ra, rb, rt⟩ := r
 unfold YI
 dsimp only at hw0 HRB HPG HRO
 have HW0 := Lib.hid hw0
 have HGR := Lib.hid hgr
 clear hok hl hr hro hgd hco hf0 hck' hck hel hs7 hp1 hp2 hps hb0 hRb hw0 hgr hy0 hy1
 go_enter Tryz.func9, Tryz.ntmps9
 repeat' (fail_if_success (first|at_builtin|at_make));first|go_values|go_skip|go_guarded|go_step|go_upon|go_back
 rw [← HW0.out, ← HGR.out]
 clear HW0
 refine ((HLF.out)).mono ?_; rintro e_ w1 ⟨⟨X1, cX1, Y1, dY1, G1, ng1, F1, cF1⟩, rfl, hrd1, hb1⟩; dsimp only
 obtain ⟨w2, g2, hw2, hg2, hb12, hk2⟩ := kj w1 X1 Y1 G1 F1 cX1 dY1 ng1 cF1 s co f0 hrd1
 have HK2 := Lib.hid hk2
 have HW2 := Lib.hid hw2
 have HG2 := Lib.hid hg2
 have HB2 := Lib.hid (hb1.trans (hb12.mono hb1.size))
 have hg2l : w0.heap.size ≤ g2 := by rw [hg2]; exact hb1.size
 clear hrd1 hb1 hb12 hk2 hw2 hg2 HLF
 repeat' ((fail_if_success (with_reducible refine zl 2 ?_)); (fail_if_success (with_reducible refine zi 2 ?_)); (fail_if_success (with_reducible refine zg 2 ?_)); (fail_if_success (with_reducible refine zk 2 ?_)); (fail_if_success (with_reducible refine zh 2 ?_)); (fail_if_success (with_reducible refine zj 2 ?_)); (fail_if_success at_builtin); (fail_if_success at_make); (first | go_values | go_skip | go_guarded | go_step | go_upon | go_back))
 rw [← HW2.out, ← HG2.out]
 clear HW2
 have hx3 := (HRB.out.below HB2.out).cell (k := 3) rfl
 have hrz : rt.size ≤ 140737488351232 := HRO.out.t
 have hrl : rt.data.toList.length ≤ 140737488351232 := by rw [Array.length_toList]; exact hrz
 obtain ⟨w3, qz, hz, hb3⟩ := Vc rt w2 (by simp only [maxLen]; omega)
 generalize rt.data.toList = T at *
 generalize grownCap w2 rt.size 0 5 = cz at *
 repeat' (fail_if_success (first|at_builtin|at_make));first|go_values|go_skip|go_guarded|go_step|go_upon|go_back
 clear hx3 qz
 refine kI rfl (.tmp 27) (.const (.string ⟨#[107, 101, 121]⟩)) rfl (by rfl) hz rfl (Src.str Tryz.underlying9 _) (by show _ + 3 ≤ _; omega) hb3.size ?_
 intro A4 c4 w4 hz4 hb4
 have hc4 := hb3.trans hb4
 have hql : (T ++ (⟨#[107, 101, 121]⟩ : ByteArray).data.toList).length ≤ 140737488351235 := by rw [List.length_append]; show _ + 3 ≤ _; omega
 generalize (T ++ (⟨#[107, 101, 121]⟩ : ByteArray).data.toList) = Q at *
 have HDG := vK A4 Q.length c4 Q w4 rfl hz4.cap.1 (by omega) hz4.rd
 have hkx : hexC (shaS Q) = 0 ∧ (shaS Q).length ≤ 1000 := ⟨zF Q, by rw [xo]; omega⟩
 generalize shaS Q = k at *
 obtain ⟨sL, hsL⟩ : ∃ x : ByteArray, x = ⟨k.toArray⟩ := ⟨_, rfl⟩
 rw [← hsL] at HDG
 have HDG := Lib.hid HDG
 have HSL := Lib.hid hsL
 have HKX := Lib.hid hkx
 have HC4 := Lib.hid hc4
 clear hz hb3 hb4 hsL hkx hz4 hc4
 repeat' (fail_if_success (first|at_builtin|at_make));first|go_values|go_skip|go_guarded|go_step|go_upon|go_back
 clear hql
 refine ((HDG.out)).mono ?_; rintro e_ w5 ⟨rfl, hb5⟩; dsimp only
 obtain ⟨w6, hw6⟩ : ∃ W, W = w5.alloc (.cells #[.string sL] 9) := ⟨_, rfl⟩
 have hk6 : Arr w6 w5.heap.size 9 [.string sL] := by rw [hw6]; exact Arr.new w5 9 _
 have hb56 : Below w5.heap.size w5 w6 := by rw [hw6]; exact (Below.refl _ _).alloc (Nat.le_refl _) _
 have hb26 := HC4.out.trans ((hb5.trans (hb56.mono hb5.size)).mono HC4.out.size)
 obtain ⟨g8, hg8⟩ : ∃ g, g = w5.heap.size := ⟨_, rfl⟩
 rw [← hg8] at hk6
 have h28 : w2.heap.size ≤ g8 := by rw [hg8]; exact (HC4.out.trans (hb5.mono HC4.out.size)).size
 have HW6 := Lib.hid hw6
 have HG8 := Lib.hid hg8
 have HK6 := Lib.hid hk6
 have HB26 := Lib.hid hb26
 have hg2w : g2 < w2.heap.size := (HK2.out w2 (Below.refl _ _)).1.lt
 clear hb5 hw6 hg8 hk6 hb56 hb26 HDG HC4
 repeat' ((fail_if_success (with_reducible refine zl 3 ?_)); (fail_if_success (with_reducible refine zi 3 ?_)); (fail_if_success (with_reducible refine zg 3 ?_)); (fail_if_success (with_reducible refine zk 3 ?_)); (fail_if_success (with_reducible refine zh 3 ?_)); (fail_if_success (with_reducible refine zj 3 ?_)); (fail_if_success at_builtin); (fail_if_success at_make); (first | go_values | go_skip | go_guarded | go_step | go_upon | go_back))
 rw [← HW6.out, ← HG8.out]
 clear HW6
 have hx := (HK2.out w6 HB26.out).1
 have x1 := hx.cell (k := 1) rfl
 have hct := ux Y1 dY1 s.ents 43 (.pointer (some ⟨g8, 0, none⟩)) (fun b => b.key == k) w6 (by have : s.ents.length ≤ 10 := HGD.out.s.e.len; omega) (HK2.out w6 HB26.out).2.s.e (jV g8 k s.ents w6 (by have := HK6.out.cell (k := 0) rfl; rw [HSL.out] at this; exact this) HK6.out.lt)
 have hle : s.ents.length ≤ 10 := HGD.out.s.e.len
 cases hany : s.ents.any (fun b => b.key == k) with
 | true =>
  rw [hany] at hct
  have HCT := Lib.hid hct
  clear hx hct hany
  repeat' (fail_if_success (first|at_builtin|at_make));first|go_values|go_skip|go_guarded|go_step|go_upon|go_back
  clear x1
  refine ((HCT.out)).mono ?_; rintro e_ w7 ⟨rfl, hb7⟩; dsimp only
  have hb27 := HB26.out.trans (hb7.mono HB26.out.size)
  have hk := HK2.out w7 hb27
  have HC7 := Lib.hid (HCK.out _ w7 hk.2)
  have x0 := hk.1.cell (k := 0) rfl
  have x1 := hk.1.cell (k := 1) rfl
  have x2 := hk.1.cell (k := 2) rfl
  have x3 := hk.1.cell (k := 3) rfl
  have x4 := hk.1.cell (k := 4) rfl
  have x5 := hk.1.cell (k := 5) rfl
  have x6 := hk.1.cell (k := 6) rfl
  have x7 := hk.1.cell (k := 7) rfl
  have HB27 := Lib.hid hb27
  clear hk hb27 hb7
  repeat' (fail_if_success (first|at_builtin|at_make));first|go_values|go_skip|go_guarded|go_step|go_upon|go_back
  clear x0 x1 x2 x3 x4 x5 x6 x7
  refine ((HC7.out)).mono ?_; rintro e_ w8 ⟨rfl, hb8⟩; dsimp only
  repeat' (fail_if_success (first|at_builtin|at_make));first|go_values|go_skip|go_guarded|go_step|go_upon|go_back
  go_ret
  have hb2 := HB2.out.trans ((HB27.out.trans (hb8.mono HB27.out.size)).mono HB2.out.size)
  exact ⟨rfl, HB0.out.trans (hb2.mono (Nat.le_of_lt hgl))⟩
 | false =>
  rw [hany] at hct
  have HCT := Lib.hid hct
  have hab : ∀ x ∈ s.ents, x.key ≠ k := jX (by rw [hany]; decide)
  have HAB := Lib.hid hab
  clear hx hct hany hab
  repeat' (fail_if_success (first|at_builtin|at_make));first|go_values|go_skip|go_guarded|go_step|go_upon|go_back
  clear x1
  refine ((HCT.out)).mono ?_; rintro e_ w7 ⟨rfl, hb7⟩; dsimp only
  obtain ⟨N1, hN1⟩ : ∃ N : Nat, 1 + (qy : Int) = (N : Int) := ⟨qy + 1, by omega⟩
  have hN5 : N1 ≤ 5 := by omega
  have hN0 : 1 ≤ N1 := by omega
  have hwn : IntKind.i64.wrap ((N1 : Int) + 1) = (N1 : Int) + 1 := IntWalk.i64_in _ (by omega)
  have HN1 := Lib.hid hN1
  clear hN1
  have hb27 := HB26.out.trans (hb7.mono HB26.out.size)
  have hR7 := HRB.out.below (HB2.out.trans (hb27.mono HB2.out.size))
  have hK7 := HK6.out.below hb7
  have hk2 := HK2.out w7 hb27
  have hBw := HB0.out.trans ((HB2.out.trans (hb27.mono HB2.out.size)).mono (Nat.le_of_lt hgl))
  have hf0k : f0 = flI k 0 := HF0.out
  subst hf0k
  have HR7 := Lib.hid hR7
  have HK7 := Lib.hid hK7
  have HK27 := Lib.hid hk2
  have HBW := Lib.hid hBw
  clear hb27 hR7 hK7 hk2 hBw hb7 HB26 HK6
  repeat' (fail_if_success (first|at_builtin|at_make));first|go_values|go_skip|go_guarded|go_step|go_upon|go_back
  refine ((HPY.out _)).mono ?_; rintro e_ w_ ⟨rfl, rfl⟩; dsimp only
  repeat' ((fail_if_success (with_reducible refine zl 6 ?_)); (fail_if_success (with_reducible refine zi 6 ?_)); (fail_if_success (with_reducible refine zg 6 ?_)); (fail_if_success (with_reducible refine zk 6 ?_)); (fail_if_success (with_reducible refine zh 6 ?_)); (fail_if_success (with_reducible refine zj 6 ?_)); (fail_if_success at_builtin); (fail_if_success at_make); (first | go_values | go_skip | go_guarded | go_step | go_upon | go_back))
  rw [HN1.out]
  clear HN1 HPY hwy
  obtain ⟨HPC, hpr⟩ := HP.out
  have hgi := fun i (h : i ≤ 6) => xO HGD.out HAB.out HKX.out hpr.2.1 i h
  have haw := fun p W i (h : i ≤ 5) (hr : RdLo W p ⟨s, coZ, flI k i⟩) => uq p ⟨s, coZ, flI k i⟩ k ((i : Int) + 1) W (hgi i (by omega)) hr HKX.out.1 HKX.out.2 (by omega) (by omega) hpr.2.1
  have hcw := fun p W i (h : i ≤ 6) (hr : RdLo W p ⟨s, coZ, flI k i⟩) => yf p ⟨s, coZ, flI k i⟩ W (hgi i h) hr
  have haw2 : ∀ p W i, i ≤ 5 → RdLo W p ⟨s, coZ, flI k i⟩ → Calls Tryz.prog 32 #[loV p ⟨s, coZ, flI k i⟩, .string ⟨k.toArray⟩, .int .i64 ((i : Int) + 1)] W fun e w' => ∃ v1 v2 v3 v4 P pc, e = .returned (.tuple #[QD v1 v2 v3 v4 ⟨s, coZ, flI k (i + 1)⟩, .slice P 0 pc, .bool (decide (i = 0)), .int .i64 0]) ∧ OwLo w' W.heap.size v1 v2 v3 v4 ⟨s, coZ, flI k (i + 1)⟩ (fun b => b < W.heap.size) ∧ Below W.heap.size W w' := fun p W i h hr => by
   refine (haw p W i h hr).mono ?_
   rw [ZU HAB.out i h]
   rintro e w' ⟨v1, v2, v3, v4, vp, rfl, ho, hp, hb⟩
   obtain ⟨P, pc, rfl, _, _⟩ := Sl.of_own hp
   exact ⟨v1, v2, v3, v4, P, pc, rfl, ho, hb⟩
  clear haw
  rw [← HCO.out, ← HSL.out] at haw2
  rw [← HCO.out] at hcw
  have HAW := Lib.hid haw2
  have HCW := Lib.hid hcw
  clear haw2 hcw hgi hpr HPC
  repeat' ((fail_if_success (with_reducible refine zl 8 ?_)); (fail_if_success (with_reducible refine zi 8 ?_)); (fail_if_success (with_reducible refine zg 8 ?_)); (fail_if_success (with_reducible refine zk 8 ?_)); (fail_if_success (with_reducible refine zh 8 ?_)); (fail_if_success (with_reducible refine zj 8 ?_)); (fail_if_success at_builtin); (fail_if_success at_make); (first | go_values | go_skip | go_guarded | go_step | go_upon | go_back))
  go_loopg [9, 43] (N1 + 1) (fun gn u iv wr => ∃ (i : Nat) (X : Option Addr) (cX : Nat) (Y : Option Addr) (dY : Nat) (G : Option Addr) (ng : Nat) (F : Option Addr) (cF : Nat), gn = N1 + 1 - i ∧ iv = .int .i64 (i : Int) ∧ i ≤ N1 + 1 ∧ Arr wr g2 58 [.slice X s.blobs.length cX, .slice Y s.ents.length dY, .int .i64 (s.room : Int), .int .i64 (s.clock : Int), .int .i64 (co.phase : Int), .slice G co.grey.length ng, .string ⟨co.at_.toArray⟩, .slice F (flI k i).length cF] ∧ RdLo wr ⟨X, cX, Y, dY, G, ng, F, cF⟩ ⟨s, co, flI k i⟩ ∧ Arr wr gr 42 [.int .i64 rk, .int .i64 ra, .int .i64 rb, .string rt] ∧ Arr wr g8 9 [.string sL] ∧ wr.ownsRow w.heap.size 3 1 u (alI i).length (ins (alI i)) ∧ Below gr w wr)
  case atStart => exact ⟨0, X1, cX1, Y1, dY1, G1, ng1, F1, cF1, rfl, rfl, by omega, HK27.out.1, HK27.out.2, HR7.out, HK7.out, World.ownsRow_nil _ _ _ _, HBW.out⟩
  case round =>
   obtain ⟨i, X, cX, Y, dY, G, ng, F, cF, hgi, rfl, hi, hA, hrd, hAr, hAk, hown, hbl⟩ := hrel
   have HGI := Lib.hid hgi
   have HA := Lib.hid hA
   have HRD := Lib.hid hrd
   have HAR := Lib.hid hAr
   have HAK := Lib.hid hAk
   have HOW := Lib.hid hown
   have HBL := Lib.hid hbl
   clear hgi hA hrd hAr hAk hown hbl
   by_cases hlt : i < N1 + 1
   rotate_left
   ·obtain rfl : i = N1 + 1 := by omega
    have hl1 : decide (((N1 + 1 : Nat) : Int) < (N1 : Int) + 1) = false := decide_eq_false (by omega)
    have hl2 : decide ((N1 : Int) + 1 < (N1 : Int) + 1) = false := decide_eq_false (by omega)
    obtain ⟨hcz, hhv, hck, hel⟩ := HP.out
    have hgp := kJ HGD.out.s HKX.out.1 hcz (qA hhv) hck hel
    obtain ⟨t2, ha⟩ := Xk hgp 9 (by omega)
    obtain ⟨t, f9, ht, hf9⟩ : ∃ (t : StoP) (f : List FlP), t = qJ s k ps ∧ f = [] := ⟨_, _, rfl, rfl⟩
    have hd := Yr (s := s) (k := k) N1 hhv
    rw [← ht, ← hf9] at ha hd
    have hgt : GoodL ⟨t, coZ, f9⟩ := by rw [ht, hf9]; exact .of hgp (ZI _) (by show (0 : Nat) ≤ 1000; omega) GoodF.nil_ (fun p hp => by cases hp)
    have hgn := xO HGD.out HAB.out HKX.out hck (N1 + 1) (by omega)
    have hdn := fun p W PA pc (h : RdLo W p ⟨s, coZ, flI k (N1 + 1)⟩) hP => KS p ⟨s, coZ, flI k (N1 + 1)⟩ k ps PA pc W hgn h HKX.out.1 hcz hck hel hP _ _ _ hd
    have htk : t.clock < 1099511627776 := by rw [ht]; show s.clock + 1 < _; have := HCL.out; omega
    have has := fun p W (h : RdLo W p ⟨t, coZ, f9⟩) => yv p ⟨t, coZ, f9⟩ k 9 W hgt h HKX.out (by omega) (by omega) htk _ _ _ _ ha
    rw [← HCO.out, ← HSL.out] at hdn has
    have hpl : ps.length ≤ 8 := (zq hcz).1
    have he10 : ((s.ents.length : Int) == 10) = false := by rw [beq_eq_false_iff_ne]; omega
    have he11 : (s.ents.length == 10) = false := by rw [beq_eq_false_iff_ne]; omega
    have hf1 : ((f9.length : Int) == 0) = true := by rw [hf9]; rfl
    have hf2 : (f9.length == 0) = true := by rw [hf9]; rfl
    have HDN := Lib.hid hdn
    have HAS := Lib.hid has
    have HPT := Lib.hid (HPG.out X cX Y dY wr HRD.out.s)
    have q0 := HA.out.cell (k := 0) rfl
    have r0 := HAR.out.cell (k := 0) rfl
    have r1 := HAR.out.cell (k := 1) rfl
    have r2 := HAR.out.cell (k := 2) rfl
    have r3 := HAR.out.cell (k := 3) rfl
    clear hcz hhv hck hel hgp ha ht hf9 hd hgt hgn hdn htk has
    repeat' (fail_if_success (first|at_builtin|at_make));first|go_values|go_skip|go_guarded|go_step|go_upon|go_back
    clear q0 r0 r1 r2 r3
    refine ((HPT.out)).mono ?_; rintro e_ w8 ⟨P8, p8, rfl, hP8, hb8⟩; dsimp only
    have hk := HA.out.below hb8
    have x0 := hk.cell (k := 0) rfl
    have x1 := hk.cell (k := 1) rfl
    have x2 := hk.cell (k := 2) rfl
    have x3 := hk.cell (k := 3) rfl
    have x4 := hk.cell (k := 4) rfl
    have x5 := hk.cell (k := 5) rfl
    have x6 := hk.cell (k := 6) rfl
    have x7 := hk.cell (k := 7) rfl
    have k0 := (HAK.out.below hb8).cell (k := 0) rfl
    have HC8 := Lib.hid (HDN.out _ w8 P8 p8 (HRD.out.below hb8) hP8)
    have HP8 := Lib.hid hP8
    have HB8 := Lib.hid hb8
    clear hk hb8 hP8 HPT HDN
    repeat' (fail_if_success (first|at_builtin|at_make));first|go_values|go_skip|go_guarded|go_step|go_upon|go_back
    clear x0 x1 x2 x3 x4 x5 x6 x7 k0
    refine ((HC8.out)).mono ?_; rintro e_ w9 ⟨⟨X9, cX9, Y9, dY9, G9, ng9, F9, cF9⟩, U9, u9, rfl, hrd9, hu9, hb9⟩; dsimp only
    obtain ⟨wA, gA, hwA, hgA, hb9A, hkA⟩ := kj w9 X9 Y9 G9 F9 cX9 dY9 ng9 cF9 t co f9 hrd9
    have hb8A := hb9.trans (hb9A.mono hb9.size)
    have hbrA := HB8.out.trans (hb8A.mono HB8.out.size)
    have HKA := Lib.hid hkA
    have HWA := Lib.hid hwA
    have HGA := Lib.hid hgA
    have HUA := Lib.hid (hu9.rd.below hb9A)
    have HB8A := Lib.hid hb8A
    have HBRA := Lib.hid hbrA
    clear hrd9 hu9 hb9 hwA hgA hb9A hkA hb8A hbrA HC8
    repeat' ((fail_if_success (with_reducible refine zl 18 ?_)); (fail_if_success (with_reducible refine zi 18 ?_)); (fail_if_success (with_reducible refine zg 18 ?_)); (fail_if_success (with_reducible refine zk 18 ?_)); (fail_if_success (with_reducible refine zh 18 ?_)); (fail_if_success (with_reducible refine zj 18 ?_)); (fail_if_success at_builtin); (fail_if_success at_make); (first | go_values | go_skip | go_guarded | go_step | go_upon | go_back))
    rw [← HWA.out, ← HGA.out]
    clear HWA
    have hk := HA.out.below HBRA.out
    have x1 := hk.cell (k := 1) rfl
    have k0 := (HAK.out.below HBRA.out).cell (k := 0) rfl
    have hy := (HKA.out wA (Below.refl _ _)).1
    have HCA := Lib.hid (HAS.out _ wA (HKA.out wA (Below.refl _ _)).2)
    have y0 := hy.cell (k := 0) rfl
    have y1 := hy.cell (k := 1) rfl
    have y2 := hy.cell (k := 2) rfl
    have y3 := hy.cell (k := 3) rfl
    have y4 := hy.cell (k := 4) rfl
    have y5 := hy.cell (k := 5) rfl
    have y6 := hy.cell (k := 6) rfl
    have y7 := hy.cell (k := 7) rfl
    clear hk hy HAS
    repeat' (fail_if_success (first|at_builtin|at_make));first|go_values|go_skip|go_guarded|go_step|go_upon|go_back
    clear x1 k0 y0 y1 y2 y3 y4 y5 y6 y7
    refine ((HCA.out)).mono ?_; rintro e_ wB ⟨⟨XB, cXB, YB, dYB, GB, ngB, FB, cFB⟩, PB, pB, rfl, hrdB, hpB, hbB⟩; dsimp only
    obtain ⟨wC, gC, hwC, hgC, hbBC, hkC⟩ := kj wB XB YB GB FB cXB dYB ngB cFB t2 co f9 hrdB
    have hbAC := hbB.trans (hbBC.mono hbB.size)
    have HKC := Lib.hid hkC
    have HWC := Lib.hid hwC
    have HGC := Lib.hid hgC
    have HPC := Lib.hid (hpB.rd.below hbBC)
    have HBAC := Lib.hid hbAC
    clear hrdB hpB hbB hwC hgC hbBC hkC hbAC HCA
    repeat' ((fail_if_success (with_reducible refine zl 21 ?_)); (fail_if_success (with_reducible refine zi 21 ?_)); (fail_if_success (with_reducible refine zg 21 ?_)); (fail_if_success (with_reducible refine zk 21 ?_)); (fail_if_success (with_reducible refine zh 21 ?_)); (fail_if_success (with_reducible refine zj 21 ?_)); (fail_if_success at_builtin); (fail_if_success at_make); (first | go_values | go_skip | go_guarded | go_step | go_upon | go_back))
    rw [← HWC.out, ← HGC.out]
    clear HWC
    have hbrC := HBRA.out.trans (HBAC.out.mono HBRA.out.size)
    obtain ⟨AI, nI, hvI, _, hrI⟩ := Rd.of_own' (zb HOW.out hbrC)
    have hai : (alI (N1 + 1)).length ≤ 7 := by rw [Z3]; omega
    have HEI := Lib.hid (jr U9 AI u9 nI (alI (N1 + 1)) wC (by omega) (HUA.out.below HBAC.out) hrI)
    have HEP := Lib.hid (fun W (h : Below wC.heap.size wC W) => kX PB P8 ps.length pB p8 ps W rfl (by omega) (HPC.out.below h) ((HP8.out.rd.below HB8A.out).below (HBAC.out.trans (h.mono HBAC.out.size))))
    have HBRC := Lib.hid hbrC
    have HVI := Lib.hid hvI
    clear hvI hrI hbrC HPC HUA HP8
    rw [HVI.out]
    have hy := (HKA.out wC HBAC.out).1
    have hz := (HKC.out wC (Below.refl _ _)).1
    have y0 := hy.cell (k := 0) rfl
    have y1 := hy.cell (k := 1) rfl
    have y2 := hy.cell (k := 2) rfl
    have y3 := hy.cell (k := 3) rfl
    have y4 := hy.cell (k := 4) rfl
    have y5 := hy.cell (k := 5) rfl
    have y6 := hy.cell (k := 6) rfl
    have y7 := hy.cell (k := 7) rfl
    have z0 := hz.cell (k := 0) rfl
    have z1 := hz.cell (k := 1) rfl
    have z2 := hz.cell (k := 2) rfl
    have z3 := hz.cell (k := 3) rfl
    have z4 := hz.cell (k := 4) rfl
    have z5 := hz.cell (k := 5) rfl
    have z6 := hz.cell (k := 6) rfl
    have z7 := hz.cell (k := 7) rfl
    clear hy hz
    repeat' (fail_if_success (first|at_builtin|at_make));first|go_values|go_skip|go_guarded|go_step|go_upon|go_back
    clear y0 y1 y2 y3 y4 y5 y6 y7 z0 z1 z2 z3 z4 z5 z6 z7
    refine ((HEI.out)).mono ?_; rintro e_ wD ⟨rfl, hbD⟩; dsimp only
    have HED := Lib.hid (HEP.out wD hbD)
    have HBD := Lib.hid hbD
    clear hbD HEP
    repeat' (fail_if_success (first|at_builtin|at_make));first|go_values|go_skip|go_guarded|go_step|go_upon|go_back
    refine ((HED.out)).mono ?_; rintro e_ wE ⟨rfl, hbE⟩; dsimp only
    have hbCE := HBD.out.trans (hbE.mono HBD.out.size)
    have y7 := (HKA.out wE (HBAC.out.trans (hbCE.mono HBAC.out.size))).1.cell (k := 7) rfl
    have z7 := (HKC.out wE hbCE).1.cell (k := 7) rfl
    have HBE := Lib.hid hbCE
    clear hbE hbCE
    repeat' (fail_if_success (first|at_builtin|at_make));first|go_values|go_skip|go_guarded|go_step|go_upon|go_back
    go_ret
    have hbz := HBRC.out.trans (HBE.out.mono HBRC.out.size)
    exact ⟨by simp, HBL.out.trans (hbz.mono (Nat.le_trans (show gr ≤ g2 by omega) (Nat.le_of_lt HA.out.lt)))⟩
   have hl1 : decide ((i : Int) < (N1 : Int) + 1) = true := decide_eq_true (by omega)
   have hwi : IntKind.i64.wrap ((i : Int) + 1) = (i : Int) + 1 := IntWalk.i64_in _ (by omega)
   obtain ⟨b, hb⟩ : ∃ b : Bool, decide (i = 0) = b := ⟨_, rfl⟩
   have hb2 : ((i : Int) == 0) = b := by rw [← hb, Bool.eq_iff_iff, beq_iff_eq, decide_eq_true_iff]; omega
   have hc1 := HAW.out _ wr i (by omega) HRD.out
   rw [hb] at hc1
   have HC1 := Lib.hid hc1
   have hk := HA.out
   have x0 := hk.cell (k := 0) rfl
   have x1 := hk.cell (k := 1) rfl
   have x2 := hk.cell (k := 2) rfl
   have x3 := hk.cell (k := 3) rfl
   have x4 := hk.cell (k := 4) rfl
   have x5 := hk.cell (k := 5) rfl
   have x6 := hk.cell (k := 6) rfl
   have x7 := hk.cell (k := 7) rfl
   have k0 := HAK.out.cell (k := 0) rfl
   clear hc1 hk hb
   repeat' (fail_if_success (first|at_builtin|at_make));first|go_values|go_skip|go_guarded|go_step|go_upon|go_back
   clear x0 x1 x2 x3 x4 x5 x6 x7 k0
   refine ((HC1.out)).mono ?_; rintro e_ w8 ⟨v1, v2, v3, v4, P8, p8, rfl, ho8, hb8⟩; dsimp only
   obtain ⟨⟨X9, cX9, Y9, dY9, G9, ng9, F9, cF9⟩, rfl, rfl, rfl, rfl, hrd8⟩ := ho8.rd
   obtain ⟨w9, g9, hw9, hg9, hb89, hk9⟩ := kj w8 X9 Y9 G9 F9 cX9 dY9 ng9 cF9 s co (flI k (i + 1)) hrd8
   have HC9 := Lib.hid (HCW.out _ w9 (i + 1) (by omega) (hk9 w9 (Below.refl _ _)).2)
   have HK9 := Lib.hid hk9
   have HW9 := Lib.hid hw9
   have HG9 := Lib.hid hg9
   have hb19 := hb8.trans (hb89.mono hb8.size)
   have HO9 := Lib.hid (ho8.below hb89)
   have HB19 := Lib.hid hb19
   have hl9 : g9 < w9.heap.size := (hk9 w9 (Below.refl _ _)).1.lt
   have hl8 : wr.heap.size ≤ g9 := by rw [hg9]; exact hb8.size
   clear ho8 hrd8 hw9 hg9 hb89 hk9 hb8 hb19 HC1
   repeat' ((fail_if_success (with_reducible refine zl 11 ?_)); (fail_if_success (with_reducible refine zi 11 ?_)); (fail_if_success (with_reducible refine zg 11 ?_)); (fail_if_success (with_reducible refine zk 11 ?_)); (fail_if_success (with_reducible refine zh 11 ?_)); (fail_if_success (with_reducible refine zj 11 ?_)); (fail_if_success at_builtin); (fail_if_success at_make); (first | go_values | go_skip | go_guarded | go_step | go_upon | go_back))
   rw [← HW9.out, ← HG9.out]
   clear HW9
   have hk := (HK9.out w9 (Below.refl _ _)).1
   have x0 := hk.cell (k := 0) rfl
   have x1 := hk.cell (k := 1) rfl
   have x2 := hk.cell (k := 2) rfl
   have x3 := hk.cell (k := 3) rfl
   have x4 := hk.cell (k := 4) rfl
   have x5 := hk.cell (k := 5) rfl
   have x6 := hk.cell (k := 6) rfl
   have x7 := hk.cell (k := 7) rfl
   clear hk
   repeat' (fail_if_success (first|at_builtin|at_make));first|go_values|go_skip|go_guarded|go_step|go_upon|go_back
   clear x0 x1 x2 x3 x4 x5 x6 x7
   refine ((HC9.out)).mono ?_; rintro e_ w10 ⟨rfl, hb10⟩; dsimp only
   have hb110 := HB19.out.trans (hb10.mono HB19.out.size)
   have hA10 := HA.out.below hb110
   have hlo := HO9.out.below hb10
   have hR10 := HAR.out.below hb110
   have hK10 := HAK.out.below hb110
   have how10 := zb HOW.out hb110
   have hbl10 := HBL.out.trans (hb110.mono (Nat.le_trans (show gr ≤ w2.heap.size by omega) (by have := HA.out.lt; have := HAK.out.lt; omega)))
   have hgwr : g2 < wr.heap.size := HA.out.lt
   have hk := (HK9.out w10 hb10).1
   have x0 := hk.cell (k := 0) rfl
   have x1 := hk.cell (k := 1) rfl
   have x2 := hk.cell (k := 2) rfl
   have x3 := hk.cell (k := 3) rfl
   have x4 := hk.cell (k := 4) rfl
   have x5 := hk.cell (k := 5) rfl
   have x6 := hk.cell (k := 6) rfl
   have x7 := hk.cell (k := 7) rfl
   have y0 := hA10.cell (k := 0) rfl
   have y1 := hA10.cell (k := 1) rfl
   have y2 := hA10.cell (k := 2) rfl
   have y3 := hA10.cell (k := 3) rfl
   have y4 := hA10.cell (k := 4) rfl
   have y5 := hA10.cell (k := 5) rfl
   have y6 := hA10.cell (k := 6) rfl
   have y7 := hA10.cell (k := 7) rfl
   have f0 := hA10.frozen 0
   have f1 := hA10.frozen 1
   have f2 := hA10.frozen 2
   have f3 := hA10.frozen 3
   have f4 := hA10.frozen 4
   have f5 := hA10.frozen 5
   have f6 := hA10.frozen 6
   have f7 := hA10.frozen 7
   have HA11 := Lib.hid (hA10.all8 (.slice X9 s.blobs.length cX9) (.slice Y9 s.ents.length dY9) (.int .i64 (s.room : Int)) (.int .i64 (s.clock : Int)) (.int .i64 (co.phase : Int)) (.slice G9 co.grey.length ng9) (.string ⟨co.at_.toArray⟩) (.slice F9 (flI k (i + 1)).length cF9))
   have HL11 := Lib.hid (hlo.set8 hA10 hgwr (.slice X9 s.blobs.length cX9) (.slice Y9 s.ents.length dY9) (.int .i64 (s.room : Int)) (.int .i64 (s.clock : Int)) (.int .i64 (co.phase : Int)) (.slice G9 co.grey.length ng9) (.string ⟨co.at_.toArray⟩) (.slice F9 (flI k (i + 1)).length cF9))
   have HR11 := Lib.hid (ZO hR10 (show gr ≠ g2 by omega) (.slice X9 s.blobs.length cX9) (.slice Y9 s.ents.length dY9) (.int .i64 (s.room : Int)) (.int .i64 (s.clock : Int)) (.int .i64 (co.phase : Int)) (.slice G9 co.grey.length ng9) (.string ⟨co.at_.toArray⟩) (.slice F9 (flI k (i + 1)).length cF9))
   have HK11 := Lib.hid (ZO hK10 (show g8 ≠ g2 by omega) (.slice X9 s.blobs.length cX9) (.slice Y9 s.ents.length dY9) (.int .i64 (s.room : Int)) (.int .i64 (s.clock : Int)) (.int .i64 (co.phase : Int)) (.slice G9 co.grey.length ng9) (.string ⟨co.at_.toArray⟩) (.slice F9 (flI k (i + 1)).length cF9))
   have HW11 := Lib.hid (zM how10 (zm how10 hA10 (by decide)) (.slice X9 s.blobs.length cX9) (.slice Y9 s.ents.length dY9) (.int .i64 (s.room : Int)) (.int .i64 (s.clock : Int)) (.int .i64 (co.phase : Int)) (.slice G9 co.grey.length ng9) (.string ⟨co.at_.toArray⟩) (.slice F9 (flI k (i + 1)).length cF9))
   have HB11 := Lib.hid (zy hbl10 (show gr ≤ g2 by omega) (.slice X9 s.blobs.length cX9) (.slice Y9 s.ents.length dY9) (.int .i64 (s.room : Int)) (.int .i64 (s.clock : Int)) (.int .i64 (co.phase : Int)) (.slice G9 co.grey.length ng9) (.string ⟨co.at_.toArray⟩) (.slice F9 (flI k (i + 1)).length cF9))
   clear hb110 hA10 hlo hR10 hK10 how10 hbl10 hk hb10 HC9 HK9 HO9 HB19
   repeat' ((fail_if_success (with_reducible refine zl 14 ?_)); (fail_if_success (with_reducible refine zi 14 ?_)); (fail_if_success (with_reducible refine zg 14 ?_)); (fail_if_success (with_reducible refine zk 14 ?_)); (fail_if_success (with_reducible refine zh 14 ?_)); (fail_if_success (with_reducible refine zj 14 ?_)); (fail_if_success at_builtin); (fail_if_success at_make); (first | go_values | go_skip | go_guarded | go_step | go_upon | go_back))
   clear x0 x1 x2 x3 x4 x5 x6 x7 y0 y1 y2 y3 y4 y5 y6 y7 f0 f1 f2 f3 f4 f5 f6 f7
   dsimp only [Zu] at HA11 HL11 HR11 HK11 HW11 HB11
   generalize (((((((w10.setCell ⟨g2, 0, none⟩ (.slice X9 s.blobs.length cX9)).setCell ⟨g2, 1, none⟩ (.slice Y9 s.ents.length dY9)).setCell ⟨g2, 2, none⟩ (.int .i64 (s.room : Int))).setCell ⟨g2, 3, none⟩ (.int .i64 (s.clock : Int))).setCell ⟨g2, 4, none⟩ (.int .i64 (co.phase : Int))).setCell ⟨g2, 5, none⟩ (.slice G9 co.grey.length ng9)).setCell ⟨g2, 6, none⟩ (.string ⟨co.at_.toArray⟩)).setCell ⟨g2, 7, none⟩ (.slice F9 (flI k (i + 1)).length cF9) = w11 at *
   have hlu := HOW.out.lt
   have HLU := Lib.hid hlu
   have hai : (alI i).length ≤ 6 := by rw [Z3]; omega
   have hbw : w.heap.size ≤ w11.heap.size := by rw [← HGR.out]; have := HA11.out.lt; omega
   clear hlu
   repeat' (fail_if_success (first|at_builtin|at_make));first|go_values|go_skip|go_guarded|go_step|go_upon|go_back
   refine zn rfl (.tmp 75) (.tmp 78) rfl XG (by rfl) HW11.out (us := [.int .i64 ((i : Int) + 1)]) (m := 1) (by rfl) rfl (by intro u hu; simp only [List.mem_singleton] at hu; subst hu; rfl) (by omega) hbw ?_
   intro v12 w12 ho12 hg12 hv12
   have hA12 := HA11.out.grown hg12 (zm HW11.out HA11.out (by decide))
   have hR12 := HR11.out.grown hg12 (zm HW11.out HR11.out (by decide))
   have hK12 := HK11.out.grown hg12 (zm HW11.out HK11.out (by decide))
   have hL12 := OwLo.rdX (l := ⟨s, co, flI k (i + 1)⟩) (HL11.out.low hg12 (fun j e => (HLU.out j e).2) (fun j e => (HLU.out j e).2))
   have hB12 := HB11.out.grown hg12 (show gr ≤ w11.heap.size by rw [HGR.out]; exact hbw) (fun j e => by rw [HGR.out]; exact (HW11.out.lt j e).1)
   have hO12 : w12.ownsRow w.heap.size 3 1 v12 (alI (i + 1)).length (ins (alI (i + 1))) := by
    rw [uE, List.length_append, show ins (alI i ++ [(i : Int) + 1]) = ins (alI i) ++ [.int .i64 ((i : Int) + 1)] by simp [ins]]
    exact ho12
   clear ho12 hg12 hv12 HLU HA11 HL11 HR11 HK11 HW11 HB11
   repeat' (fail_if_success (first|at_builtin|at_make));first|go_values|go_skip|go_guarded|go_step|go_upon|go_back
   go_roundg (N1 + 1 - (i + 1))
   case measure => have := HGI.out; omega
   case rel => exact ⟨i + 1, X9, cX9, Y9, dY9, G9, ng9, F9, cF9, rfl, by go_num, by omega, hA12, hL12, hR12, hK12, hO12, hB12⟩
end Go.Proofs.YtpbacomdoddhdaaGreat
