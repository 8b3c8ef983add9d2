/- Lemmas of the proof. Conditions: as stated. -/
import Derived.Test.YtpbacomdoddhdaaGreatQX36
set_option linter.unusedVariables false
set_option linter.unusedSimpArgs false
set_option maxRecDepth 100000
namespace Go.Proofs.YtpbacomdoddhdaaGreat
open Go.RowKit Go.Maps
def nvS : List UInt8 := shaS [110, 101, 118, 101, 114, 32, 109, 97, 100, 101]
theorem VR : ∀ k, k < 7 → keyS k ≠ nvS := by
 have key : ∀ k : Fin 7, keyS k.val ≠ nvS := by decide +kernel
 exact fun k h => key ⟨k, h⟩
theorem qK : hexC nvS = 0 ∧ nvS.length ≤ 1000 := ⟨zF _, by rw [nvS, xo]; omega⟩
theorem yv (p : LoW) (l : LoP) (key : List UInt8) (n : Int) (w : World) (hg : GoodL l) (hr : RdLo w p l) (hk : hexC key = 0 ∧ key.length ≤ 1000) (h1 : 1 ≤ n) (h2 : n ≤ 1000) (hclk : l.st.clock < 1099511627776) (l' : LoP) (ps : List PartP) (b : Bool) (q : Nat) (ha : yW l key n = (l', ps, b, q)) :
  Calls Tryz.prog 32 #[loV p l, .string ⟨key.toArray⟩, .int .i64 n] w fun e w' => ∃ p' P pc, e = .returned (.tuple #[loV p' l', .slice P ps.length pc, .bool b, .int .i64 (q : Int)]) ∧ RdLo w' p' l' ∧ Sl w' 3 P ps.length pc (pcs ps) ∧ Below w.heap.size w w' := by
 refine (uq p l key n w hg hr hk.1 hk.2 h1 h2 hclk).mono ?_
 rw [ha]
 rintro e w' ⟨v1, v2, v3, v4, vp, rfl, ho, hp, hb⟩
 obtain ⟨p', rfl, rfl, rfl, rfl, hrd⟩ := ho.rd
 obtain ⟨P, pc, rfl, hs, _⟩ := Sl.of_own hp
 exact ⟨p', P, pc, rfl, hrd, hs, hb⟩
theorem xI (p : LoW) (l : LoP) (key : List UInt8) (w : World) (hg : GoodL l) (hr : RdLo w p l) (l' : LoP) (who : List Int) (q : Nat) (ha : kV l key = (l', who, q)) :
  Calls Tryz.prog 37 #[loV p l, .string ⟨key.toArray⟩] w fun e w' => ∃ p' U uc, e = .returned (.tuple #[loV p' l', .slice U who.length uc, .int .i64 (q : Int)]) ∧ RdLo w' p' l' ∧ Sl w' 1 U who.length uc (ins who) ∧ Below w.heap.size w w' := by
 refine (jO p l key w hg hr).mono ?_
 rw [ha]
 rintro e w' ⟨v1, v2, v3, v4, u, rfl, ho, hp, hb⟩
 obtain ⟨p', rfl, rfl, rfl, rfl, hrd⟩ := ho.rd
 obtain ⟨U, uc, rfl, hs, _⟩ := Sl.of_own hp
 exact ⟨p', U, uc, rfl, hrd, hs, hb⟩
theorem KS (p : LoW) (l : LoP) (key : List UInt8) (ps : List PartP) (PA : Option Addr) (pc : Nat) (w : World) (hg : GoodL l) (hr : RdLo w p l) (hk : hexC key = 0) (hpz : chk ps = 0) (hclk : l.st.clock < 1099511627776) (hlen : l.st.ents.length < 10) (hP : Sl w 3 PA ps.length pc (pcs ps)) (l' : LoP) (who : List Int) (q : Nat) (ha : yX l key ps = (l', who, q)) :
  Calls Tryz.prog 44 #[loV p l, .string ⟨key.toArray⟩, .slice PA ps.length pc] w fun e w' => ∃ p' U uc, e = .returned (.tuple #[loV p' l', .slice U who.length uc, .int .i64 (q : Int)]) ∧ RdLo w' p' l' ∧ Sl w' 1 U who.length uc (ins who) ∧ Below w.heap.size w w' := by
 refine (Ke p l key ps PA pc w hg hr hk hpz hclk hlen hP).mono ?_
 rw [ha]
 rintro e w' ⟨v1, v2, v3, v4, u, rfl, ho, hp, hb⟩
 obtain ⟨p', rfl, rfl, rfl, rfl, hrd⟩ := ho.rd
 obtain ⟨U, uc, rfl, hs, _⟩ := Sl.of_own hp
 exact ⟨p', U, uc, rfl, hrd, hs, hb⟩
theorem XR (p : LoW) (l : LoP) (key : List UInt8) (ps : List PartP) (PA : Option Addr) (pc : Nat) (w : World) (hg : GoodL l) (hr : RdLo w p l) (hk : hexC key = 0) (hpz : chk ps = 0) (hclk : l.st.clock < 1099511627776) (hlen : l.st.ents.length < 10) (hP : Sl w 3 PA ps.length pc (pcs ps)) (l' : LoP) (q : Nat) (ha : Zf l key ps = (l', q)) :
  Calls Tryz.prog 40 #[loV p l, .string ⟨key.toArray⟩, .slice PA ps.length pc] w fun e w' => ∃ p', e = .returned (.tuple #[loV p' l', .int .i64 (q : Int)]) ∧ RdLo w' p' l' ∧ Below w.heap.size w w' := by
 refine (Zz p l key ps PA pc w hg hr hk hpz hclk hlen hP).mono ?_
 rw [ha]
 rintro e w' ⟨v1, v2, v3, v4, rfl, ho, hb⟩
 obtain ⟨p', rfl, rfl, rfl, rfl, hrd⟩ := ho.rd
 exact ⟨p', rfl, hrd, hb⟩
theorem Xd (p : LoW) (l : LoP) (key : List UInt8) (ps : List PartP) (PA : Option Addr) (pc : Nat) (w : World) (hg : GoodL l) (hr : RdLo w p l) (hk : hexC key = 0) (hpz : chk ps = 0) (hclk : l.st.clock < 1099511627776) (hlen : l.st.ents.length < 10) (hP : Sl w 3 PA ps.length pc (pcs ps)) (l' : LoP) (q : Nat) (ha : Zf l key ps = (l', q)) :
  Calls Tryz.prog 40 #[loV p l, .string ⟨key.toArray⟩, .slice PA ps.length pc] w fun e w' => ∃ v1 v2 v3 v4, e = .returned (.tuple #[QD v1 v2 v3 v4 l', .int .i64 (q : Int)]) ∧ OwLo w' w.heap.size v1 v2 v3 v4 l' (fun b => b < w.heap.size) ∧ Below w.heap.size w w' := by
 have h := Zz p l key ps PA pc w hg hr hk hpz hclk hlen hP
 rw [ha] at h
 exact h
theorem Jc {w : World} {g b : Nat} (h : b ≠ g) (u0 u1 u2 u3 u4 u5 u6 u7 : Value) : (Zu w g u0 u1 u2 u3 u4 u5 u6 u7).heap[b]? = w.heap[b]? := by
 unfold Zu
 rw [Below.heap_setCell _ _ _ _ h, Below.heap_setCell _ _ _ _ h, Below.heap_setCell _ _ _ _ h, Below.heap_setCell _ _ _ _ h, Below.heap_setCell _ _ _ _ h, Below.heap_setCell _ _ _ _ h, Below.heap_setCell _ _ _ _ h, Below.heap_setCell _ _ _ _ h]
def VZ (v : Value) : Prop := v = .slice none 0 0 ∨ v = .int .i64 0 ∨ v = .string ⟨#[]⟩
theorem Rd.off8 {w : World} {g size n : Nat} {A : Option Addr} {xs zs : List Value} {e : TypeId} (h : Rd w size A n xs) (hA : Arr w g e zs) (hz : ∀ v ∈ zs, VZ v) (h0 : ∀ v, xs[0]? = some v → ¬ VZ v) (hs : 0 < size) (u0 u1 u2 u3 u4 u5 u6 u7 : Value) : Rd (Zu w g u0 u1 u2 u3 u4 u5 u6 u7) size A n xs := by
 refine ⟨h.1, fun hn => ?_⟩
 obtain ⟨b, off, e1, hb, hc⟩ := h.2 hn
 have hne : b ≠ g := fun e2 => by
  subst e2
  have hx : 0 < xs.length := by rw [h.1]; exact Nat.mul_pos hn hs
  have h1 := hc 0 xs[0] (List.getElem?_eq_getElem hx)
  have h' : w.heap[b]? = _ := hA
  have h2 : zs[off]? = some xs[0] := by simpa [World.cell?, h'] using h1
  exact h0 _ (List.getElem?_eq_getElem hx) (hz _ (List.mem_of_getElem? h2))
 refine ⟨b, off, e1, Nat.lt_of_lt_of_le hb (by simp), fun j u hu => ?_⟩
 have h1 := hc j u hu
 have h2 := Jc (w := w) hne u0 u1 u2 u3 u4 u5 u6 u7
 generalize Zu w g u0 u1 u2 u3 u4 u5 u6 u7 = W at *
 unfold World.cell? at h1 ⊢
 rw [h2]
 exact h1
theorem Sl.off8 {w : World} {g size n c : Nat} {A : Option Addr} {xs zs : List Value} {e : TypeId} (h : Sl w size A n c xs) (hA : Arr w g e zs) (hz : ∀ v ∈ zs, VZ v) (h0 : ∀ v, xs[0]? = some v → ¬ VZ v) (hs : 0 < size) (u0 u1 u2 u3 u4 u5 u6 u7 : Value) : Sl (Zu w g u0 u1 u2 u3 u4 u5 u6 u7) size A n c xs :=
 ⟨h.rd.off8 hA hz h0 hs _ _ _ _ _ _ _ _, h.cap, h.max, fun a ha => Nat.lt_of_lt_of_le (h.live a ha) (by simp)⟩
theorem Zl {l : List UInt8} (h : l ≠ []) : ¬ VZ (.string ⟨l.toArray⟩) := by
 rintro (e | e | e)
 ·cases e
 ·cases e
 ·injection e with e
  injection e with e
  exact h (by have := congrArg Array.toList e; simpa using this)
theorem Un {n : List UInt8} (h : qg n = 0) : n ≠ [] := by rintro rfl; revert h; decide
theorem RdSt.off8 {w : World} {g cX dY : Nat} {X Y : Option Addr} {s : StoP} {zs : List Value} {e : TypeId} (h : RdSt w X cX Y dY s) (hg : GoodS s) (hA : Arr w g e zs) (hz : ∀ v ∈ zs, VZ v) (u0 u1 u2 u3 u4 u5 u6 u7 : Value) : RdSt (Zu w g u0 u1 u2 u3 u4 u5 u6 u7) X cX Y dY s := by
 refine ⟨?_, ?_, h.bc, h.bm, h.ec, h.em⟩
 ·obtain ⟨ps, h1, h2, h3⟩ := h.b
  refine ⟨ps, h1, fun p hp => ?_, h3.off8 hA hz (fun v hv => ?_) (by decide) _ _ _ _ _ _ _ _⟩
  ·obtain ⟨A, c, e1, hs⟩ := h2 p hp
   refine ⟨A, c, e1, hs.off8 hA hz (fun v hv => ?_) (by decide) _ _ _ _ _ _ _ _⟩
   cases hd : p.1.data with
   | nil => rw [hd] at hv; cases hv
   | cons x r => rw [hd] at hv; cases hv; rintro (e | e | e) <;> cases e
  ·cases ps with
   | nil => cases hv
   | cons p ps =>
    obtain ⟨A, c, e1, hs⟩ := h2 p (by simp)
    rw [zE, e1] at hv
    cases hv
    have hm : p.1 ∈ s.blobs := by rw [← h1]; simp
    exact Zl (K8 hg p.1 hm)
 ·obtain ⟨ps, h1, h2, h3⟩ := h.e
  refine ⟨ps, h1, fun p hp => ?_, h3.off8 hA hz (fun v hv => ?_) (by decide) _ _ _ _ _ _ _ _⟩
  ·obtain ⟨A, c, e1, hs⟩ := h2 p hp
   refine ⟨A, c, e1, hs.off8 hA hz (fun v hv => ?_) (by decide) _ _ _ _ _ _ _ _⟩
   have hm : p.1 ∈ s.ents := by rw [← h1]; exact List.mem_map.2 ⟨p, hp, rfl⟩
   have hcz := (zq (hg.e.one p.1 hm).2.1).2
   cases hd : p.1.parts with
   | nil => rw [hd] at hv; cases hv
   | cons x r =>
    rw [hd] at hv hcz
    cases hv
    exact Zl (Un (hcz x (by simp)).1)
  ·cases ps with
   | nil => cases hv
   | cons p ps =>
    obtain ⟨A, c, e1, hs⟩ := h2 p (by simp)
    rw [zE, e1] at hv
    cases hv
    have hm : p.1 ∈ s.ents := by rw [← h1]; simp
    have hk := (hg.e.one p.1 hm).1
    exact Zl (fun e => by rw [e] at hk; revert hk; decide)
theorem OwLo.rdX {w : World} {base : Nat} {X Y G F : Option Addr} {cX dY ng cF : Nat} {l : LoP} {N : Nat → Prop} (h : OwLo w base (.slice X l.st.blobs.length cX) (.slice Y l.st.ents.length dY) (.slice G l.co.grey.length ng) (.slice F l.fs.length cF) l N) : RdLo w ⟨X, cX, Y, dY, G, ng, F, cF⟩ l := by
 obtain ⟨⟨_, _, _, _, _, _, _, _⟩, e1, e2, e3, e4, hrd⟩ := h.rd
 cases e1; cases e2; cases e3; cases e4
 exact hrd
def lof (l : List RawP) : LoP := ⟨sto l, coZ, []⟩
theorem xk (l : List RawP) : GoodL (lof l) := .of (ul l) (ZI _) (by show (0 : Nat) ≤ 1000; omega) GoodF.nil_ (fun p hp => by cases hp)
theorem Up (w : World) : Fls w none [] := ⟨[], rfl, Rd.nil_, fun k p a hp => by simp at hp⟩
set_option maxHeartbeats 4000000 in
theorem uQ (A : Option Addr) (n c : Nat) (l : List RawP) (w : World) (hl : l.length = n) (hc : n ≤ c) (hm : c ≤ maxLen) (hok : ∀ r ∈ l, RawOk r) (hr : Rd w 4 A n (rcs l)) :
  Calls Tryz.prog 29 #[.slice A n c] w fun e w' => ∃ p, e = .returned (loV p (lof l)) ∧ RdLo w' p (lof l) ∧ Below w.heap.size w w' := by
 obtain ⟨w0, hw0⟩ : ∃ W, W = w.alloc (.cells #[.slice none 0 0, .slice none 0 0, .int .i64 0, .int .i64 0, .int .i64 0, .slice none 0 0, .string ⟨#[]⟩, .slice none 0 0] 58) := ⟨_, rfl⟩
 have hR : Arr w0 w.heap.size 58 [.slice none 0 0, .slice none 0 0, .int .i64 0, .int .i64 0, .int .i64 0, .slice none 0 0, .string ⟨#[]⟩, .slice none 0 0] := by rw [hw0]; exact Arr.new w 58 _
 have hb0 : Below w.heap.size w w0 := by rw [hw0]; exact (Below.refl _ _).alloc (Nat.le_refl _) _
 have HS := Lib.hid (X5 A n c l w0 hl hc hm hok (hr.below hb0))
 have HW0 := Lib.hid hw0
 have HB0 := Lib.hid hb0
 have HR := Lib.hid hR
 clear hok hl hr hc hm hw0 hb0 hR
 go_enter Tryz.func29, Tryz.ntmps29
 go_wp2_with fail
 rw [← HW0.out]
 clear HW0
 refine ((HS.out)).mono ?_; rintro e_ w1 ⟨v1, v2, rfl, hb, he, hb1⟩; dsimp only
 obtain ⟨X, cX, rfl, hx1, hx2, hxr⟩ := hb.rows
 obtain ⟨Y, cY, rfl, hy1, hy2, hyr⟩ := he.rows
 have hR1 := HR.out.below hb1
 have f0 := hR1.frozen 0
 have f1 := hR1.frozen 1
 have f2 := hR1.frozen 2
 have f3 := hR1.frozen 3
 have f4 := hR1.frozen 4
 have f5 := hR1.frozen 5
 have f6 := hR1.frozen 6
 have f7 := hR1.frozen 7
 have y0 := hR1.cell (k := 0) rfl
 have y1 := hR1.cell (k := 1) rfl
 have y2 := hR1.cell (k := 2) rfl
 have y3 := hR1.cell (k := 3) rfl
 have y4 := hR1.cell (k := 4) rfl
 have y5 := hR1.cell (k := 5) rfl
 have y6 := hR1.cell (k := 6) rfl
 have y7 := hR1.cell (k := 7) rfl
 have hb01 := HB0.out.trans (hb1.mono HB0.out.size)
 have HFN := Lib.hid (hR1.all8 (.slice X (sto l).blobs.length cX) (.slice Y (sto l).ents.length cY) (.int .i64 ((sto l).room : Int)) (.int .i64 ((sto l).clock : Int)) (.int .i64 0) (.slice none 0 0) (.string ⟨#[]⟩) (.slice none 0 0))
 have HB9 := Lib.hid (zy hb01 (show w.heap.size ≤ w.heap.size by omega) (.slice X (sto l).blobs.length cX) (.slice Y (sto l).ents.length cY) (.int .i64 ((sto l).room : Int)) (.int .i64 ((sto l).clock : Int)) (.int .i64 0) (.slice none 0 0) (.string ⟨#[]⟩) (.slice none 0 0))
 have HRX := Lib.hid (RdSt.off8 (g := w.heap.size) ⟨hxr, hyr, hx1, hx2, hy1, hy2⟩ (ul l) hR1 (by intro v hv; simp only [List.mem_cons, List.not_mem_nil, or_false] at hv; unfold VZ; rcases hv with rfl | rfl | rfl | rfl | rfl | rfl | rfl | rfl <;> simp) (.slice X (sto l).blobs.length cX) (.slice Y (sto l).ents.length cY) (.int .i64 ((sto l).room : Int)) (.int .i64 ((sto l).clock : Int)) (.int .i64 0) (.slice none 0 0) (.string ⟨#[]⟩) (.slice none 0 0))
 clear hR1
 go_wp2_with fail
 refine bodyPost_ret (results_cell_row rfl _ _ w.heap.size _ _ _ _ (by rfl) HFN.out Tryz.underlying58 rfl (by kernel_rfl)) rfl ?_
 exact ⟨⟨X, cX, Y, cY, none, 0, none, 0⟩, rfl, ⟨HRX.out, Js _, Up _, by show 0 ≤ 0; omega, by show 0 ≤ maxLen; omega⟩, HB9.out⟩
theorem jr (A B : Option Addr) (c d : Nat) (l : List Int) (w : World) (hn : l.length ≤ 9223372036854775807) (h1 : Rd w 1 A l.length (ins l)) (h2 : Rd w 1 B l.length (ins l)) :
  Calls Tryz.prog 38 #[.slice A l.length c, .slice B l.length d] w fun e w' => e = .returned (.bool true) ∧ Below w.heap.size w w' := by
 rcases Nat.eq_zero_or_pos l.length with h0 | h0
 ·rw [h0]
  refine (Tryz.slices_Equal_int_empty A B c 0 d w (by omega)).mono ?_
  rintro e w' ⟨rfl, rfl⟩
  exact ⟨by simp, Below.refl _ _⟩
 ·obtain ⟨b1, o1, rfl, _, hc1⟩ := h1.2 (by omega)
  obtain ⟨b2, o2, rfl, _, hc2⟩ := h2.2 (by omega)
  have hg : ∀ j, j < l.length → (ins l)[j]? = some (.int .i64 (l.getD j 0)) := fun j hj => by
   rw [ins, List.getElem?_map, List.getElem?_eq_getElem hj, List.getD_eq_getElem?_getD, List.getElem?_eq_getElem hj]; rfl
  refine (Tryz.slices_Equal_int b1 o1 l.length c b2 o2 l.length d l l w (Nat.le_refl _) (Nat.le_refl _) hn hn (fun j hj => hc1 j _ (hg j hj)) (fun j hj => hc2 j _ (hg j hj))).mono ?_
  rintro e w' ⟨rfl, q, rfl⟩
  exact ⟨by simp, below_drewN (Below.refl _ _) q⟩
theorem kj (w : World) (X Y G F : Option Addr) (cX dY ng cF : Nat) (s : StoP) (co : ColP) (fs : List FlP) (hr : RdLo w ⟨X, cX, Y, dY, G, ng, F, cF⟩ ⟨s, co, fs⟩) : ∃ W g, W = w.alloc (.cells #[.slice X s.blobs.length cX, .slice Y s.ents.length dY, .int .i64 (s.room : Int), .int .i64 (s.clock : Int), .int .i64 (co.phase : Int), .slice G co.grey.length ng, .string ⟨co.at_.toArray⟩, .slice F fs.length cF] 58) ∧ g = w.heap.size ∧ Below w.heap.size w W ∧
  ∀ W', Below W.heap.size W W' → Arr W' g 58 [.slice X s.blobs.length cX, .slice Y s.ents.length dY, .int .i64 (s.room : Int), .int .i64 (s.clock : Int), .int .i64 (co.phase : Int), .slice G co.grey.length ng, .string ⟨co.at_.toArray⟩, .slice F fs.length cF] ∧ RdLo W' ⟨X, cX, Y, dY, G, ng, F, cF⟩ ⟨s, co, fs⟩ := by
 have hb := (Below.refl w.heap.size w).alloc (Nat.le_refl _) (.cells #[.slice X s.blobs.length cX, .slice Y s.ents.length dY, .int .i64 (s.room : Int), .int .i64 (s.clock : Int), .int .i64 (co.phase : Int), .slice G co.grey.length ng, .string ⟨co.at_.toArray⟩, .slice F fs.length cF] 58)
 exact ⟨_, _, rfl, rfl, hb, fun W' h => ⟨(Arr.new w 58 _).below h, (hr.below hb).below h⟩⟩
abbrev loN (s : StoP) (fs : List FlP) : LoP := ⟨s, coZ, fs⟩
section
variable {s : StoP} {k : List UInt8} {a b : Int}
theorem uT (h : ∀ x ∈ s.ents, x.key ≠ k) : yW (loN s []) k a = (loN s [⟨k, a, []⟩], [], true, 0) := by
 unfold yW
 rw [kF.2 h]
 rfl
theorem YU (h : ∀ x ∈ s.ents, x.key ≠ k) (hab : b ≠ a) : yW (loN s [⟨k, a, []⟩]) k b = (loN s [⟨k, a, [b]⟩], [], false, 0) := by
 unfold yW
 rw [kF.2 h]
 have : qN (loN s [⟨k, a, []⟩]).fs k b = ([⟨k, a, [b]⟩], false, 0) := by
  simp [qN, fnd, hab]
 simp only [this]
 rfl
theorem Xo : kV (loN s [⟨k, a, [b]⟩]) k = (loN s [], [a, b], 0) := by
 have : kT (loN s [⟨k, a, [b]⟩]).fs k = ([], [a, b], 0) := by simp [kT, fnd]
 unfold kV
 simp only [this]
 rfl
theorem Uk : kV (loN s []) k = (loZ, [], 5) := rfl
end
theorem Vf (l : List RawP) : ∀ x ∈ (sto l).ents, x.key ≠ nvS := fun x hx => by
 obtain ⟨j, hj, e⟩ := ((vo l).eone x ((zx _ _).mem_iff.1 hx)).1
 rw [e]
 exact VR j hj
theorem KL {s : StoP} {k : List UInt8} {a b : Int} (h : ∀ x ∈ s.ents, x.key ≠ k) (hab : b ≠ a) : ∃ (co : ColP) (f0 f1 f2 f3 : List FlP), co = coZ ∧ f0 = [] ∧ yW ⟨s, co, f0⟩ k a = (⟨s, co, f1⟩, [], true, 0) ∧ yW ⟨s, co, f1⟩ k b = (⟨s, co, f2⟩, [], false, 0) ∧ kV ⟨s, co, f2⟩ k = (⟨s, co, f0⟩, [a, b], 0) ∧ yW ⟨s, co, f0⟩ k b = (⟨s, co, f3⟩, [], true, 0) ∧ kV ⟨s, co, f0⟩ k = (loZ, [], 5) :=
 ⟨coZ, [], _, _, _, rfl, rfl, uT h, YU h hab, Xo, uT h, Uk⟩
set_option maxHeartbeats 16000000 in
theorem xY (A : Option Addr) (n c : Nat) (l : List RawP) (x y : Int) (w : World) (hl : l.length = n) (hc : n ≤ c) (hm : c ≤ maxLen) (hok : ∀ r ∈ l, RawOk r) (hr : Rd w 4 A n (rcs l)) (hx0 : -9223372036854775808 ≤ x) (hx1 : x ≤ 9223372036854775807) (hy0 : -9223372036854775808 ≤ y) (hy1 : y ≤ 9223372036854775807) :
  Calls Tryz.prog 7 #[.slice A n c, .int .i64 x, .int .i64 y] w fun e w' => e = .returned (.bool true) ∧ Below w.heap.size w w' := by
 have HLF := Lib.hid (uQ A n c l w hl hc hm hok hr)
 have hgd := xk l
 have hnv := Vf l
 have hck := ug l
 unfold lof at HLF hgd
 generalize sto l = s at *
 have HPX := Lib.hid (fun w' => zI x 500 500 rfl w' hx0 hx1 (by omega) (by omega))
 have HPY := Lib.hid (fun w' => zI y 500 500 rfl w' hy0 hy1 (by omega) (by omega))
 have hqx := k9 x (m := 500) (by omega)
 have hqy := k9 y (m := 500) (by omega)
 generalize pk x 500 = qx at *
 generalize pk y 500 = qy at *
 have hwx : IntKind.i64.wrap (1 + (qx : Int)) = 1 + (qx : Int) := IntWalk.i64_in _ (by omega)
 have hwy : IntKind.i64.wrap (501 + (qy : Int)) = 501 + (qy : Int) := IntWalk.i64_in _ (by omega)
 obtain ⟨a, hae⟩ : ∃ a : Int, a = 1 + (qx : Int) := ⟨_, rfl⟩
 obtain ⟨b, hbe⟩ : ∃ b : Int, b = 501 + (qy : Int) := ⟨_, rfl⟩
 have ha1 : 1 ≤ a := by omega
 have ha2 : a ≤ 1000 := by omega
 have hb1' : 1 ≤ b := by omega
 have hb2' : b ≤ 1000 := by omega
 have hab : b ≠ a := by omega
 have hck' : s.clock < 1099511627776 := by omega
 obtain ⟨co, f0, f1, f2, f3, hco, hf0, p1, p2, p3, p4, p5⟩ := KL hnv hab
 rw [← hco, ← hf0] at HLF hgd
 have hg1 : GoodL ⟨s, co, f1⟩ := by have := yp (n := a) hgd qK.1 qK.2 ha1 ha2 hck' (by rw [p1]); rwa [p1] at this
 have hg2 : GoodL ⟨s, co, f2⟩ := by have := yp (n := b) hg1 qK.1 qK.2 hb1' hb2' hck' (by rw [p2]); rwa [p2] at this
 have HA1 := Lib.hid (fun p W (h : RdLo W p ⟨s, co, f0⟩) => yv p ⟨s, co, f0⟩ nvS a W hgd h qK ha1 ha2 hck' _ _ _ _ p1)
 have HA2 := Lib.hid (fun p W (h : RdLo W p ⟨s, co, f1⟩) => yv p ⟨s, co, f1⟩ nvS b W hg1 h qK hb1' hb2' hck' _ _ _ _ p2)
 have HA3 := Lib.hid (fun p W (h : RdLo W p ⟨s, co, f2⟩) => xI p ⟨s, co, f2⟩ nvS W hg2 h _ _ _ p3)
 have HA4 := Lib.hid (fun p W (h : RdLo W p ⟨s, co, f0⟩) => yv p ⟨s, co, f0⟩ nvS b W hgd h qK hb1' hb2' hck' _ _ _ _ p4)
 have HA5 := Lib.hid (fun p W (h : RdLo W p ⟨s, co, f0⟩) => xI p ⟨s, co, f0⟩ nvS W hgd h _ _ _ p5)
 have HF0 := Lib.hid hf0
 have HGS := Lib.hid hgd.s
 have HAE := Lib.hid hae
 have HBE := Lib.hid hbe
 obtain ⟨kk, hkk⟩ : ∃ k : List UInt8, k = nvS := ⟨_, rfl⟩
 rw [← hkk] at HA1 HA2 HA3 HA4 HA5
 have HKK := Lib.hid hkk
 clear hok hl hr hx0 hx1 hy0 hy1 hgd hnv hco hf0 p1 p2 p3 p4 p5 hg1 hg2 hae hbe hab hck' hck hkk ha1 ha2 hb1' hb2'
 go_enter Tryz.func7, Tryz.ntmps7
 go_wp2_with fail
 refine ((HLF.out)).mono ?_; rintro e_ w1 ⟨⟨X1, cX1, Y1, dY1, G1, ng1, F1, cF1⟩, rfl, hrd1, hb1⟩; dsimp only
 obtain ⟨w2, g2, hw2, hg2, hb12, hk2⟩ := kj w1 X1 Y1 G1 F1 cX1 dY1 ng1 cF1 s co f0 hrd1
 have HK2 := Lib.hid hk2
 have HW2 := Lib.hid hw2
 have HG2 := Lib.hid hg2
 have HB2 := Lib.hid (hb1.trans (hb12.mono hb1.size))
 clear hrd1 hb1 hb12 hk2 hw2 hg2 HLF
 repeat' ((fail_if_success (with_reducible refine zl 2 ?_)); (fail_if_success (with_reducible refine zi 2 ?_)); (fail_if_success (with_reducible refine zg 2 ?_)); (fail_if_success (with_reducible refine zk 2 ?_)); (fail_if_success (with_reducible refine zh 2 ?_)); (fail_if_success (with_reducible refine zj 2 ?_)); (fail_if_success at_builtin); (fail_if_success at_make); (first | go_values | go_skip | go_guarded | go_step | go_upon | go_back))
 rw [← HW2.out, ← HG2.out]
 clear HW2
 obtain ⟨L, hL⟩ : ∃ L : List UInt8, L = [110, 101, 118, 101, 114, 32, 109, 97, 100, 101] := ⟨_, rfl⟩
 have hz1 : ka (w2.alloc (.cells #[.int .u8 110, .int .u8 101, .int .u8 118, .int .u8 101, .int .u8 114, .int .u8 32, .int .u8 109, .int .u8 97, .int .u8 100, .int .u8 101] 5 (10, 11))) w2.heap.size (some ⟨w2.heap.size, 0, none⟩) 10 L := by
  rw [hL]
  exact ⟨w2.heap.size, [], (10, 11), rfl, Nat.le_refl _, World.alloc_heap_new w2 _, rfl, by simp [maxLen], .inr (Nat.le_refl _)⟩
 have hL10 : L.length = 10 := by rw [hL]; rfl
 have hr1 := hz1.rd
 rw [hL10] at hr1
 have HL := Lib.hid hL
 have hb23 := (Below.refl w2.heap.size w2).alloc (Nat.le_refl _) (.cells #[.int .u8 110, .int .u8 101, .int .u8 118, .int .u8 101, .int .u8 114, .int .u8 32, .int .u8 109, .int .u8 97, .int .u8 100, .int .u8 101] 5 (10, 11))
 have HD := Lib.hid (kx (some ⟨w2.heap.size, 0, none⟩) 10 10 L _ hL10 (by omega) (by omega) hr1)
 have HB23 := Lib.hid hb23
 have hkc := fun (w : World) (C : Array Value) (n c : Nat) => Lib.run_convert_bytes_const (P := Tryz.prog) w 43 5 C n c Tryz.underlying43 Tryz.underlying5
 clear hr1 hz1 hb23 hL
 go_wp2_with fail
 clear hkc
 refine ((HD.out)).mono ?_; rintro e_ w3 ⟨rfl, hb3⟩; dsimp only
 have hsd : shaS L = kk := by rw [HL.out, HKK.out, nvS]
 rw [hsd]
 have HB3 := Lib.hid (HB23.out.trans (hb3.mono HB23.out.size))
 clear hb3 hsd HD HB23
 go_wp2_with fail
 refine ((HPX.out _)).mono ?_; rintro e_ w_ ⟨rfl, rfl⟩; dsimp only
 go_wp2_with fail
 refine ((HPY.out _)).mono ?_; rintro e_ w_ ⟨rfl, rfl⟩; dsimp only
 repeat' ((fail_if_success (with_reducible refine zl 4 ?_)); (fail_if_success (with_reducible refine zi 4 ?_)); (fail_if_success (with_reducible refine zg 4 ?_)); (fail_if_success (with_reducible refine zk 4 ?_)); (fail_if_success (with_reducible refine zh 4 ?_)); (fail_if_success (with_reducible refine zj 4 ?_)); (fail_if_success at_builtin); (fail_if_success at_make); (first | go_values | go_skip | go_guarded | go_step | go_upon | go_back))
 rw [← HAE.out, ← HBE.out]
 clear HPX HPY
 have hk := HK2.out w3 HB3.out
 have HC1 := Lib.hid (HA1.out _ w3 hk.2)
 have x0 := hk.1.cell (k := 0) rfl
 have x1 := hk.1.cell (k := 1) rfl
 have x2 := hk.1.cell (k := 2) rfl
 have x3 := hk.1.cell (k := 3) rfl
 have x4 := hk.1.cell (k := 4) rfl
 have x5 := hk.1.cell (k := 5) rfl
 have x6 := hk.1.cell (k := 6) rfl
 have x7 := hk.1.cell (k := 7) rfl
 clear hk HA1
 go_wp2_with fail
 clear x0 x1 x2 x3 x4 x5 x6 x7
 refine ((HC1.out)).mono ?_; rintro e_ w4 ⟨⟨X4, cX4, Y4, dY4, G4, ng4, F4, cF4⟩, P4, d4, rfl, hrd4, -, hb4⟩; dsimp only
 obtain ⟨w5, g5, hw5, hg5, hb45, hk5⟩ := kj w4 X4 Y4 G4 F4 cX4 dY4 ng4 cF4 s co f1 hrd4
 have HK5 := Lib.hid hk5
 have HW5 := Lib.hid hw5
 have HG5 := Lib.hid hg5
 have HB5 := Lib.hid (HB3.out.trans ((hb4.trans (hb45.mono hb4.size)).mono HB3.out.size))
 clear hrd4 hb4 hb45 hk5 hw5 hg5 HC1
 repeat' ((fail_if_success (with_reducible refine zl 5 ?_)); (fail_if_success (with_reducible refine zi 5 ?_)); (fail_if_success (with_reducible refine zg 5 ?_)); (fail_if_success (with_reducible refine zk 5 ?_)); (fail_if_success (with_reducible refine zh 5 ?_)); (fail_if_success (with_reducible refine zj 5 ?_)); (fail_if_success at_builtin); (fail_if_success at_make); (first | go_values | go_skip | go_guarded | go_step | go_upon | go_back))
 rw [← HW5.out, ← HG5.out]
 clear HW5
 have hk := HK5.out w5 (Below.refl _ _)
 have HC2 := Lib.hid (HA2.out _ w5 hk.2)
 have x0 := hk.1.cell (k := 0) rfl
 have x1 := hk.1.cell (k := 1) rfl
 have x2 := hk.1.cell (k := 2) rfl
 have x3 := hk.1.cell (k := 3) rfl
 have x4 := hk.1.cell (k := 4) rfl
 have x5 := hk.1.cell (k := 5) rfl
 have x6 := hk.1.cell (k := 6) rfl
 have x7 := hk.1.cell (k := 7) rfl
 clear hk HA2
 go_wp2_with fail
 clear x0 x1 x2 x3 x4 x5 x6 x7
 refine ((HC2.out)).mono ?_; rintro e_ w6 ⟨⟨X6, cX6, Y6, dY6, G6, ng6, F6, cF6⟩, P6, d6, rfl, hrd6, -, hb6⟩; dsimp only
 obtain ⟨w7, g7, hw7, hg7, hb67, hk7⟩ := kj w6 X6 Y6 G6 F6 cX6 dY6 ng6 cF6 s co f2 hrd6
 have HK7 := Lib.hid hk7
 have HW7 := Lib.hid hw7
 have HG7 := Lib.hid hg7
 have HB7 := Lib.hid (HB5.out.trans ((hb6.trans (hb67.mono hb6.size)).mono HB5.out.size))
 clear hrd6 hb6 hb67 hk7 hw7 hg7 HC2
 repeat' ((fail_if_success (with_reducible refine zl 6 ?_)); (fail_if_success (with_reducible refine zi 6 ?_)); (fail_if_success (with_reducible refine zg 6 ?_)); (fail_if_success (with_reducible refine zk 6 ?_)); (fail_if_success (with_reducible refine zh 6 ?_)); (fail_if_success (with_reducible refine zj 6 ?_)); (fail_if_success at_builtin); (fail_if_success at_make); (first | go_values | go_skip | go_guarded | go_step | go_upon | go_back))
 rw [← HW7.out, ← HG7.out]
 clear HW7
 have hk := HK7.out w7 (Below.refl _ _)
 have HC3 := Lib.hid (HA3.out _ w7 hk.2)
 have x0 := hk.1.cell (k := 0) rfl
 have x1 := hk.1.cell (k := 1) rfl
 have x2 := hk.1.cell (k := 2) rfl
 have x3 := hk.1.cell (k := 3) rfl
 have x4 := hk.1.cell (k := 4) rfl
 have x5 := hk.1.cell (k := 5) rfl
 have x6 := hk.1.cell (k := 6) rfl
 have x7 := hk.1.cell (k := 7) rfl
 clear hk HA3
 go_wp2_with fail
 clear x0 x1 x2 x3 x4 x5 x6 x7
 refine ((HC3.out)).mono ?_; rintro e_ w8 ⟨⟨X8, cX8, Y8, dY8, G8, ng8, F8, cF8⟩, U8, d8, rfl, hrd8, hu8, hb8⟩; dsimp only
 obtain ⟨w9, g9, hw9, hg9, hb89, hk9⟩ := kj w8 X8 Y8 G8 F8 cX8 dY8 ng8 cF8 s co f0 hrd8
 have HK9 := Lib.hid hk9
 have HW9 := Lib.hid hw9
 have HG9 := Lib.hid hg9
 have HU9 := Lib.hid (hu8.rd.below hb89)
 have HB9 := Lib.hid (HB7.out.trans ((hb8.trans (hb89.mono hb8.size)).mono HB7.out.size))
 clear hrd8 hb8 hb89 hk9 hw9 hg9 hu8 HC3
 repeat' ((fail_if_success (with_reducible refine zl 7 ?_)); (fail_if_success (with_reducible refine zi 7 ?_)); (fail_if_success (with_reducible refine zg 7 ?_)); (fail_if_success (with_reducible refine zk 7 ?_)); (fail_if_success (with_reducible refine zh 7 ?_)); (fail_if_success (with_reducible refine zj 7 ?_)); (fail_if_success at_builtin); (fail_if_success at_make); (first | go_values | go_skip | go_guarded | go_step | go_upon | go_back))
 rw [← HW9.out, ← HG9.out]
 clear HW9
 have hk := HK9.out w9 (Below.refl _ _)
 have HC4 := Lib.hid (HA4.out _ w9 hk.2)
 have x0 := hk.1.cell (k := 0) rfl
 have x1 := hk.1.cell (k := 1) rfl
 have x2 := hk.1.cell (k := 2) rfl
 have x3 := hk.1.cell (k := 3) rfl
 have x4 := hk.1.cell (k := 4) rfl
 have x5 := hk.1.cell (k := 5) rfl
 have x6 := hk.1.cell (k := 6) rfl
 have x7 := hk.1.cell (k := 7) rfl
 clear hk HA4
 go_wp2_with fail
 clear x0 x1 x2 x3 x4 x5 x6 x7
 refine ((HC4.out)).mono ?_; rintro e_ w10 ⟨⟨X10, cX10, Y10, dY10, G10, ng10, F10, cF10⟩, P10, d10, rfl, hrd10, -, hb10⟩; dsimp only
 obtain ⟨w11, g11, hw11, hg11, hb1011, hk11⟩ := kj w10 X10 Y10 G10 F10 cX10 dY10 ng10 cF10 s co f3 hrd10
 have HW11 := Lib.hid hw11
 have HG11 := Lib.hid hg11
 have HB911 := Lib.hid (hb10.trans (hb1011.mono hb10.size))
 clear hrd10 hb10 hb1011 hk11 hw11 hg11 HC4
 repeat' ((fail_if_success (with_reducible refine zl 8 ?_)); (fail_if_success (with_reducible refine zi 8 ?_)); (fail_if_success (with_reducible refine zg 8 ?_)); (fail_if_success (with_reducible refine zk 8 ?_)); (fail_if_success (with_reducible refine zh 8 ?_)); (fail_if_success (with_reducible refine zj 8 ?_)); (fail_if_success at_builtin); (fail_if_success at_make); (first | go_values | go_skip | go_guarded | go_step | go_upon | go_back))
 rw [← HW11.out, ← HG11.out]
 clear HW11
 have hk := HK9.out w11 HB911.out
 have HC5 := Lib.hid (HA5.out _ w11 hk.2)
 have x0 := hk.1.cell (k := 0) rfl
 have x1 := hk.1.cell (k := 1) rfl
 have x2 := hk.1.cell (k := 2) rfl
 have x3 := hk.1.cell (k := 3) rfl
 have x4 := hk.1.cell (k := 4) rfl
 have x5 := hk.1.cell (k := 5) rfl
 have x6 := hk.1.cell (k := 6) rfl
 have x7 := hk.1.cell (k := 7) rfl
 clear hk HA5
 go_wp2_with fail
 clear x0 x1 x2 x3 x4 x5 x6 x7
 refine ((HC5.out)).mono ?_; rintro e_ w12 ⟨⟨X12, cX12, Y12, dY12, G12, ng12, F12, cF12⟩, U12, d12, rfl, -, -, hb12⟩; dsimp only
 obtain ⟨w13, hw13⟩ : ∃ W, W = w12.alloc (.cells #[.slice X12 0 cX12, .slice Y12 0 dY12, .int .i64 0, .int .i64 0, .int .i64 0, .slice G12 0 ng12, .string ⟨#[]⟩, .slice F12 0 cF12] 58) := ⟨_, rfl⟩
 have hb1213 : Below w12.heap.size w12 w13 := by rw [hw13]; exact (Below.refl _ _).alloc (Nat.le_refl _) _
 have hb1113 := hb12.trans (hb1213.mono hb12.size)
 have hb913 := HB911.out.trans (hb1113.mono HB911.out.size)
 have hb14 := (Below.refl w13.heap.size w13).alloc (Nat.le_refl _) (.cells #[.int .i64 a, .int .i64 b] 3)
 have hrab : Rd (w13.alloc (.cells #[.int .i64 a, .int .i64 b] 3)) 1 (some ⟨w13.heap.size, 0, none⟩) [a, b].length (ins [a, b]) := Rd.newN (e := 3) (ins [a, b]) rfl
 have hb914 := hb913.trans (hb14.mono hb913.size)
 have HEQ := Lib.hid (jr U8 (some ⟨w13.heap.size, 0, none⟩) d8 2 [a, b] _ (by simp) (HU9.out.below hb914) hrab)
 have HB914 := Lib.hid hb914
 have HW13 := Lib.hid hw13
 have hf00 : ((f0.length : Int) == 0) = true := by rw [HF0.out]; rfl
 have hf01 : (f0.length == 0) = true := by rw [HF0.out]; rfl
 clear hb12 hw13 hb1213 hb1113 hb913 hb14 hrab hb914 HC5 HU9
 repeat' ((fail_if_success (with_reducible refine zl 9 ?_)); (fail_if_success (with_reducible refine zi 9 ?_)); (fail_if_success (with_reducible refine zg 9 ?_)); (fail_if_success (with_reducible refine zk 9 ?_)); (fail_if_success (with_reducible refine zh 9 ?_)); (fail_if_success (with_reducible refine zj 9 ?_)); (fail_if_success at_builtin); (fail_if_success at_make); (first | go_values | go_skip | go_guarded | go_step | go_upon | go_back))
 rw [← HW13.out]
 clear HW13
 go_wp2_with fail
 refine ((HEQ.out)).mono ?_; rintro e_ w15 ⟨rfl, hb15⟩; dsimp only
 have hb915 := HB914.out.trans (hb15.mono HB914.out.size)
 have hk9 := HK9.out w15 hb915
 have hk2 := HK2.out w15 (HB9.out.trans (hb915.mono HB9.out.size))
 have hlb : s.blobs.length ≤ 24 := HGS.out.b.len
 have hle : s.ents.length ≤ 10 := HGS.out.e.len
 have hpb : ∀ b ∈ s.blobs, b.data.length ≤ 1000000 := fun b hb => by have := (HGS.out.b.one b hb).2.1; omega
 have hpe : ∀ x ∈ s.ents, x.parts.length ≤ 1000000 := fun x hx => by have := (zq (HGS.out.e.one x hx).2.1).1; omega
 have hss := yT X8 X1 Y8 Y1 cX8 cX1 dY8 dY1 s.blobs s.blobs s.ents s.ents (s.room : Int) (s.clock : Int) w15 (by omega) (by omega) hpb hpb (by omega) (by omega) hpe hpe hk9.2.s.b hk2.2.s.b hk9.2.s.e hk2.2.s.e
 rw [xJ, xD] at hss
 have HSS := Lib.hid hss
 have hx9 := hk9.1
 have hx2 := hk2.1
 have x0 := hx9.cell (k := 0) rfl
 have x1 := hx9.cell (k := 1) rfl
 have x2 := hx9.cell (k := 2) rfl
 have x3 := hx9.cell (k := 3) rfl
 have x4 := hx9.cell (k := 4) rfl
 have x5 := hx9.cell (k := 5) rfl
 have x6 := hx9.cell (k := 6) rfl
 have x7 := hx9.cell (k := 7) rfl
 have y0 := hx2.cell (k := 0) rfl
 have y1 := hx2.cell (k := 1) rfl
 have y2 := hx2.cell (k := 2) rfl
 have y3 := hx2.cell (k := 3) rfl
 have y4 := hx2.cell (k := 4) rfl
 have y5 := hx2.cell (k := 5) rfl
 have y6 := hx2.cell (k := 6) rfl
 have y7 := hx2.cell (k := 7) rfl
 have HB15 := Lib.hid hb915
 clear hk9 hk2 hx9 hx2 hss hpb hpe hlb hle hb15 hb915 HEQ HB914
 go_wp2_with fail
 refine ((HSS.out)).mono ?_; rintro e_ w16 ⟨rfl, hb16⟩; dsimp only
 clear x0 x1 x2 x3 x4 x5 x6 x7 y0 y1 y2 y3 y4 y5 y6 y7
 have hb916 := HB15.out.trans (hb16.mono HB15.out.size)
 have x7 := (HK9.out w16 hb916).1.cell (k := 7) rfl
 go_wp2_with fail
 go_ret
 exact ⟨by simp, HB2.out.trans ((HB9.out.trans (hb916.mono HB9.out.size)).mono HB2.out.size)⟩
set_option maxHeartbeats 4000000 in
theorem Z2 (p p' : LoW) (s s' : StoP) (co : ColP) (fs : List FlP) (w : World) (hg : GoodS s) (hg' : GoodS s') (hgf : GoodF fs) (hgr : co.grey.length ≤ 1000) (hr : RdLo w p ⟨s, co, fs⟩) (hr' : RdLo w p' ⟨s', co, fs⟩) (hb : zW s.blobs s'.blobs = true) (he : qj s.ents s'.ents = true) (hro : s'.room = s.room) (hck : s'.clock = s.clock) :
  Calls Tryz.prog 35 #[loV p ⟨s, co, fs⟩, loV p' ⟨s', co, fs⟩] w fun e w' => e = .returned (.bool true) ∧ Below w.heap.size w w' := by
 have hlb : s.blobs.length ≤ 24 := hg.b.len
 have hle : s.ents.length ≤ 10 := hg.e.len
 have hlb' : s'.blobs.length ≤ 24 := hg'.b.len
 have hle' : s'.ents.length ≤ 10 := hg'.e.len
 have hlf : fs.length ≤ 6 := hgf.len
 obtain ⟨X, cX, Y, dY, G, ng, F, cF⟩ := p
 obtain ⟨X', cX', Y', dY', G', ng', F', cF'⟩ := p'
 obtain ⟨blobs', ents', room', clock'⟩ := s'
 dsimp only at hro hck hb he hlb' hle'
 subst hro hck
 have hss := fun W (h : Below w.heap.size w W) => yT X X' Y Y' cX cX' dY dY' s.blobs blobs' s.ents ents' (s.room : Int) (s.clock : Int) W (by omega) (by omega) (fun b hb => by have := (hg.b.one b hb).2.1; omega) (fun b hb => by have := (hg'.b.one b hb).2.1; omega) (by omega) (by omega) (fun x hx => by have := (zq (hg.e.one x hx).2.1).1; omega) (fun x hx => by have := (zq (hg'.e.one x hx).2.1).1; omega) (hr.s.below h).b (hr'.s.below h).b (hr.s.below h).e (hr'.s.below h).e
 rw [hb, he] at hss
 have heq := fun W (h : Below w.heap.size w W) => Uu G G' ng ng' co.grey co.grey W (by omega) (by omega) (hr.c.below h).rd (hr'.c.below h).rd
 rw [decide_eq_true rfl] at heq
 have hef := fun W (h : Below w.heap.size w W) => XA F F' cF cF' fs W (by omega) (fun p hp => by have := (hgf.all p hp).2.1; omega) (hr.f.below h) (hr'.f.below h)
 obtain ⟨w1, hw1, hP, hR, hbx⟩ := zO w 58 58 [.slice X s.blobs.length cX, .slice Y s.ents.length dY, .int .i64 (s.room : Int), .int .i64 (s.clock : Int), .int .i64 (co.phase : Int), .slice G co.grey.length ng, .string ⟨co.at_.toArray⟩, .slice F fs.length cF] [.slice X' blobs'.length cX', .slice Y' ents'.length dY', .int .i64 (s.room : Int), .int .i64 (s.clock : Int), .int .i64 (co.phase : Int), .slice G' co.grey.length ng', .string ⟨co.at_.toArray⟩, .slice F' fs.length cF']
 have hb1 := hbx
 have HSS := Lib.hid (hss w1 hb1)
 have HEQ := Lib.hid (fun W (h : Below w1.heap.size w1 W) => heq W (hb1.trans (h.mono hb1.size)))
 have HEF := Lib.hid (fun W (h : Below w1.heap.size w1 W) => hef W (hb1.trans (h.mono hb1.size)))
 have HK := Lib.hid (fun W (h : Below w1.heap.size w1 W) => And.intro (hP.below h) (hR.below h))
 have HBX := Lib.hid hbx
 have hph : ((co.phase : Int) == (co.phase : Int)) = true := by rw [beq_iff_eq]
 obtain ⟨gb, hgb⟩ : ∃ g, g = w.heap.size := ⟨_, rfl⟩
 have HW1 := Lib.hid hw1
 have HGB := Lib.hid hgb
 rw [← hgb] at HK HBX ⊢
 have hk := HK.out w1 (Below.refl _ _)
 clear hg hg' hgf hr hr' hb he hss heq hef hP hR hbx hb1 hgr hw1 hgb
 have hx := hk.1
 have hy := hk.2
 have x0 := hx.cell (k := 0) rfl
 have x1 := hx.cell (k := 1) rfl
 have x2 := hx.cell (k := 2) rfl
 have x3 := hx.cell (k := 3) rfl
 have x4 := hx.cell (k := 4) rfl
 have x5 := hx.cell (k := 5) rfl
 have x6 := hx.cell (k := 6) rfl
 have x7 := hx.cell (k := 7) rfl
 have y0 := hy.cell (k := 0) rfl
 have y1 := hy.cell (k := 1) rfl
 have y2 := hy.cell (k := 2) rfl
 have y3 := hy.cell (k := 3) rfl
 have y4 := hy.cell (k := 4) rfl
 have y5 := hy.cell (k := 5) rfl
 have y6 := hy.cell (k := 6) rfl
 have y7 := hy.cell (k := 7) rfl
 rw [HW1.out, HGB.out] at x0 x1 x2 x3 y0 y1 y2 y3
 clear hx hy hk x4 x5 x6 x7 y4 y5 y6 y7
 go_enter Tryz.func35, Tryz.ntmps35
 go_wp2_with fail
 rw [← HW1.out, ← HGB.out]
 clear x0 x1 x2 x3 y0 y1 y2 y3 HW1
 refine ((HSS.out)).mono ?_; rintro e_ w2 ⟨rfl, hb2⟩; dsimp only
 have hk := HK.out w2 hb2
 have hx := hk.1
 have hy := hk.2
 have x0 := hx.cell (k := 0) rfl
 have x1 := hx.cell (k := 1) rfl
 have x2 := hx.cell (k := 2) rfl
 have x3 := hx.cell (k := 3) rfl
 have x4 := hx.cell (k := 4) rfl
 have x5 := hx.cell (k := 5) rfl
 have x6 := hx.cell (k := 6) rfl
 have x7 := hx.cell (k := 7) rfl
 have y0 := hy.cell (k := 0) rfl
 have y1 := hy.cell (k := 1) rfl
 have y2 := hy.cell (k := 2) rfl
 have y3 := hy.cell (k := 3) rfl
 have y4 := hy.cell (k := 4) rfl
 have y5 := hy.cell (k := 5) rfl
 have y6 := hy.cell (k := 6) rfl
 have y7 := hy.cell (k := 7) rfl
 have HC2 := Lib.hid (HEQ.out w2 hb2)
 have HB2 := Lib.hid hb2
 clear hx hy hk hb2
 go_wp2_with fail
 clear x0 x1 x2 x3 x4 x5 x6 x7 y0 y1 y2 y3 y4 y5 y6 y7
 refine ((HC2.out)).mono ?_; rintro e_ w3 ⟨rfl, hb3⟩; dsimp only
 have hb13 := HB2.out.trans (hb3.mono HB2.out.size)
 have hk := HK.out w3 hb13
 have hx := hk.1
 have hy := hk.2
 have x0 := hx.cell (k := 0) rfl
 have x1 := hx.cell (k := 1) rfl
 have x2 := hx.cell (k := 2) rfl
 have x3 := hx.cell (k := 3) rfl
 have x4 := hx.cell (k := 4) rfl
 have x5 := hx.cell (k := 5) rfl
 have x6 := hx.cell (k := 6) rfl
 have x7 := hx.cell (k := 7) rfl
 have y0 := hy.cell (k := 0) rfl
 have y1 := hy.cell (k := 1) rfl
 have y2 := hy.cell (k := 2) rfl
 have y3 := hy.cell (k := 3) rfl
 have y4 := hy.cell (k := 4) rfl
 have y5 := hy.cell (k := 5) rfl
 have y6 := hy.cell (k := 6) rfl
 have y7 := hy.cell (k := 7) rfl
 have HC3 := Lib.hid (HEF.out w3 hb13)
 have HB3 := Lib.hid hb13
 clear hx hy hk hb3 hb13
 go_wp2_with fail
 clear x0 x1 x2 x3 x4 x5 x6 x7 y0 y1 y2 y3 y4 y5 y6 y7
 refine ((HC3.out)).mono ?_; rintro e_ w4 ⟨rfl, hb4⟩; dsimp only
 go_wp2_with fail
 go_ret
 have hb14 := HB3.out.trans (hb4.mono HB3.out.size)
 have hz : gb ≤ w1.heap.size := by rw [HGB.out]; exact (show Below w.heap.size w w1 by rw [← HGB.out]; exact HBX.out).size
 exact ⟨by simp, HBX.out.trans (hb14.mono hz)⟩
end Go.Proofs.YtpbacomdoddhdaaGreat
