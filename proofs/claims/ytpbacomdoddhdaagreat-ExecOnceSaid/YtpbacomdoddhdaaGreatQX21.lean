/- Lemmas of the proof. Conditions: as stated. -/
import Derived.Test.YtpbacomdoddhdaaGreatQX16
import Derived.Test.YtpbacomdoddhdaaGreatQX20
set_option linter.unusedVariables false
set_option linter.unusedSimpArgs false
set_option maxRecDepth 100000
namespace Go.Proofs.YtpbacomdoddhdaaGreat
open Go.RowKit
theorem ZK : ∀ x y : List UInt8, Lib.compareBytes x y = 0 ↔ x = y
 | [], [] => by simp [Lib.compareBytes]
 | [], _ :: _ => by simp [Lib.compareBytes]
 | _ :: _, [] => by simp [Lib.compareBytes]
 | a :: x, b :: y => by
  rw [Lib.compareBytes]
  rcases V0 a b with h | h | h
  ·rw [if_pos h]
   exact ⟨fun e => by omega, fun e => by cases e; exact absurd h (UInt8.lt_irrefl _)⟩
  ·subst h
   rw [if_neg (UInt8.lt_irrefl _), if_neg (UInt8.lt_irrefl _), ZK x y]
   simp
  ·rw [if_neg (UInt8.lt_asymm h), if_pos h]
   exact ⟨fun e => by omega, fun e => by cases e; exact absurd h (UInt8.lt_irrefl _)⟩
theorem Qs (s t : ByteArray) (v1 v2 v3 : Value) (w : World) :
  Calls Tryz.prog 166 #[.agg #[.string s, v1, v2, v3], .string t] w fun e w' => e = .returned (.int .i64 (Lib.compareBytes s.data.toList t.data.toList)) ∧ Below w.heap.size w w' := by
 have hA1 := Arr.new w 65 [.string s, v1, v2, v3]
 have hA : Arr (w.alloc (.cells #[.string s, v1, v2, v3] 65)) w.heap.size 65 [.string s, v1, v2, v3] := hA1
 have hb := (Below.refl w.heap.size w).alloc (Nat.le_refl _) (.cells #[.string s, v1, v2, v3] 65)
 have a0 := hA.cell (k := 0) rfl
 have HC := Lib.hid (fun W => Tryz.strings_Compare s t W)
 clear hA1 hA
 go_enter Tryz.func166, Tryz.ntmps166
 go_wp2_with fail
 generalize w.alloc (.cells #[.string s, v1, v2, v3] 65) = W at *
 refine ((HC.out W)).mono ?_; rintro e_ w1 ⟨rfl, rfl⟩; dsimp only
 go_wp2_with fail
 go_ret
 exact ⟨rfl, hb⟩
set_option maxHeartbeats 8000000 in
theorem UI (A : Option Addr) (c : Nat) (l : List EntP) (d : List UInt8) (w : World) (hl : l.length ≤ 100000) (hris : RisesBy (·.key) l) (hA : Rw EntS w A l) :
  Calls Tryz.prog 165 #[.slice A l.length c, .string ⟨d.toArray⟩, .func (.func 166) #[] #[]] w fun e w' =>
   ∃ i f, e = .returned (.tuple #[.int .i64 ((i : Nat) : Int), .bool f]) ∧ i ≤ l.length ∧ (∀ k (h : k < l.length), k < i → Op.bytesLess l[k].key d = true) ∧ (∀ k (h : k < l.length), i ≤ k → Op.bytesLess l[k].key d = false) ∧ (f = true ↔ ∃ h : i < l.length, l[i].key = d) ∧ Below w.heap.size w w' := by
 obtain ⟨t, ht⟩ : ∃ t : ByteArray, t = ⟨d.toArray⟩ := ⟨_, rfl⟩
 rw [← ht]
 have HT := Lib.hid ht
 have HRI := Lib.hid hris
 clear ht hris
 have HCM := Lib.hid (fun (x : EntP) (A' : Option Addr) (c' : Nat) W => Qs ⟨x.key.toArray⟩ t (.slice A' x.parts.length c') (.int .i64 (x.pins : Int)) (.int .i64 (x.stamp : Int)) W)
 go_enter Tryz.func165, Tryz.ntmps165
 repeat' (fail_if_success (first|at_builtin|at_make));first|go_values|go_skip|go_guarded|go_step|go_upon|go_back
 go_loopg [9, 10] l.length (fun gn u v wr => ∃ i j : Nat, gn = j - i ∧ u = .int .i64 i ∧ v = .int .i64 j ∧ i ≤ j ∧ j ≤ l.length ∧ (∀ k (h : k < l.length), k < i → Op.bytesLess l[k].key d = true) ∧ (∀ k (h : k < l.length), j ≤ k → Op.bytesLess l[k].key d = false) ∧ Below w.heap.size w wr)
 case atStart => exact ⟨0, l.length, rfl, rfl, rfl, by omega, by omega, fun k _ h => absurd h (by omega), fun k h h' => absurd h (by omega), Below.refl _ _⟩
 case round =>
  obtain ⟨i, j, hgk, rfl, rfl, hij, hjl, h1, h2, hbl⟩ := hrel
  have HGK := Lib.hid hgk
  have H1 := Lib.hid h1
  have H2 := Lib.hid h2
  clear hgk h1 h2
  by_cases hlt : i < j
  ·have hcc : decide (i < j) = true := decide_eq_true hlt
   have hhl : (i + j) / 2 < l.length := by omega
   obtain ⟨b, off, B, cb, rfl, hbb, c0, c1, c2, c3, hs⟩ := (hA.below hbl).ent_at ((i + j) / 2) hhl
   have hcm := HCM.out l[(i + j) / 2] B cb wr
   have HM := Lib.hid (show (((i : Int) + (j : Int)) / 2 = (((i + j) / 2 : Nat) : Int)) ∧ (((i : Int) + (j : Int)) / 2 + 1 = (((i + j) / 2 + 1 : Nat) : Int)) from ⟨by omega, by omega⟩)
   have hps := List.pairwise_iff_getElem.1 HRI.out
   obtain ⟨sx, hsx⟩ : ∃ s : ByteArray, s = ⟨(l[(i + j) / 2]).key.toArray⟩ := ⟨_, rfl⟩
   rw [← hsx] at c0 hcm
   have hcp : Lib.compareBytes sx.data.toList t.data.toList = Lib.compareBytes (l[(i + j) / 2]).key d := by rw [hsx, HT.out]
   rw [hcp] at hcm
   cases hle : Op.bytesLess (l[(i + j) / 2]).key d with
   | true =>
    have hz := yE hle
    have HP := Lib.hid (show ∀ k (h : k < l.length), k < (i + j) / 2 + 1 → Op.bytesLess l[k].key d = true from fun k h hk => by
     rcases Nat.lt_or_ge k ((i + j) / 2) with h1 | h1
     ·exact q9 (hps k _ h hhl h1) hle
     ·have : k = (i + j) / 2 := by omega
      subst this; exact hle)
    clear hps hle hsx hcp hs
    generalize Lib.compareBytes (l[(i + j) / 2]).key d = z at *
    generalize l[(i + j) / 2] = x at *
    have hz1 : decide (z < 0) = true := decide_eq_true hz
    have HCL := Lib.hid hcm
    clear hcm
    go_wp2_with fail
    refine ((HCL.out)).mono ?_; rintro e_ w5 ⟨rfl, hb5⟩; dsimp only
    have hbl5 := hbl.trans (hb5.mono hbl.size)
    go_wp2_with fail
    go_roundg (j - ((i + j) / 2 + 1))
    case measure => have := HGK.out; omega
    case rel => exact ⟨(i + j) / 2 + 1, j, rfl, by rw [HM.out.2], rfl, by omega, hjl, HP.out, H2.out, hbl5⟩
   | false =>
    have hz := yK hle
    have HP := Lib.hid (show ∀ k (h : k < l.length), (i + j) / 2 ≤ k → Op.bytesLess l[k].key d = false from fun k h hk => by
     rcases Nat.lt_or_ge ((i + j) / 2) k with h1 | h1
     ·cases hq : Op.bytesLess l[k].key d with
      | false => rfl
      | true => have := q9 (hps _ k hhl h h1) hq; rw [hle] at this; cases this
     ·have : k = (i + j) / 2 := by omega
      subst this; exact hle)
    clear hps hle hsx hcp hs
    generalize Lib.compareBytes (l[(i + j) / 2]).key d = z at *
    generalize l[(i + j) / 2] = x at *
    have hz1 : decide (z < 0) = false := decide_eq_false hz
    have HCL := Lib.hid hcm
    clear hcm
    go_wp2_with fail
    refine ((HCL.out)).mono ?_; rintro e_ w5 ⟨rfl, hb5⟩; dsimp only
    have hbl5 := hbl.trans (hb5.mono hbl.size)
    go_wp2_with fail
    go_roundg ((i + j) / 2 - i)
    case measure => have := HGK.out; omega
    case rel => exact ⟨i, (i + j) / 2, rfl, rfl, by rw [HM.out.1], by omega, by omega, H1.out, HP.out, hbl5⟩
  ·obtain rfl : i = j := by omega
   have hcc : decide (i < i) = false := by simp
   by_cases hin : i < l.length
   ·have hcd : decide (i < l.length) = true := decide_eq_true hin
    have hi0 : (0 : Int) ≤ (i : Int) := by omega
    have hi1 : (i : Int) < (l.length : Int) := by omega
    obtain ⟨b, off, B, cb, rfl, hbb, c0, c1, c2, c3, hs⟩ := (hA.below hbl).ent_at i hin
    have hcm := HCM.out l[i] B cb wr
    obtain ⟨sx, hsx⟩ : ∃ s : ByteArray, s = ⟨(l[i]).key.toArray⟩ := ⟨_, rfl⟩
    rw [← hsx] at c0 hcm
    have hcp : Lib.compareBytes sx.data.toList t.data.toList = Lib.compareBytes (l[i]).key d := by rw [hsx, HT.out]
    rw [hcp] at hcm
    have HQ := Lib.hid (ZK (l[i]).key d)
    have HE := Lib.hid (show ((∃ h : i < l.length, l[i].key = d) ↔ l[i].key = d) from ⟨fun ⟨_, h⟩ => h, fun h => ⟨hin, h⟩⟩)
    clear hsx hcp hs
    generalize Lib.compareBytes (l[i]).key d = z at *
    generalize l[i] = x at *
    have HCL := Lib.hid hcm
    clear hcm
    go_wp2_with fail
    refine ((HCL.out)).mono ?_; rintro e_ w5 ⟨rfl, hb5⟩; dsimp only
    have hbl5 := hbl.trans (hb5.mono hbl.size)
    go_wp2_with fail
    go_ret2
    refine ⟨i, z == 0, rfl, by omega, H1.out, H2.out, ?_, hbl5⟩
    rw [HE.out, beq_iff_eq, HQ.out]
   ·have hcd : decide (i < l.length) = false := decide_eq_false hin
    repeat' (fail_if_success (first|at_builtin|at_make));first|go_values|go_skip|go_guarded|go_step|go_upon|go_back
    go_ret2
    refine ⟨i, false, rfl, by omega, H1.out, H2.out, ⟨fun h => (by cases h), fun ⟨h, _⟩ => absurd h hin⟩, hbl⟩
theorem QH (gk : Nat) (d : List UInt8) (l : List EntP) (w : World) (hk : w.cell? ⟨gk, 0, none⟩ = some (.string ⟨d.toArray⟩)) (hg : gk < w.heap.size) : js w l 145 (.pointer (some ⟨gk, 0, none⟩)) (fun b => b.key == d) := by
 refine ⟨fun _ _ => by kernel_rfl, fun b B cb W hb hbel hs => ?_⟩
 have hg1 : gk < W.heap.size := Nat.lt_of_lt_of_le hg hbel.size
 have hk0 : W.cell? ⟨gk, 0, none⟩ = some (.string ⟨d.toArray⟩) := (hbel.cell (p := ⟨gk, 0, none⟩) hg).trans hk
 generalize hs1 : (⟨b.key.toArray⟩ : ByteArray) = s
 generalize hs2 : (⟨d.toArray⟩ : ByteArray) = t at hk0
 have hst : (b.key == d) = (s.toList == t.toList) := by
  rw [← hs1, ← hs2, ByteArray.toList_eq, ByteArray.toList_eq]
 dsimp only
 rw [hst]
 have hb1 := (Below.refl W.heap.size W).alloc (Nat.le_refl _) (.cells #[.string s, .slice B b.parts.length cb, .int .i64 (b.pins : Int), (.int .i64 (b.stamp : Int))] 65)
 have hk1 : (W.alloc (.cells #[.string s, .slice B b.parts.length cb, .int .i64 (b.pins : Int), (.int .i64 (b.stamp : Int))] 65)).cell? ⟨gk, 0, none⟩ = some (.string t) := (World.cell?_alloc_lt W _ ⟨gk, 0, none⟩ hg1).trans hk0
 clear hst hs1 hs2
 go_enter Tryz.func145, Tryz.ntmps145
 go_wp2_with fail
 go_ret
 exact ⟨rfl, hb1⟩
theorem xd (A : Option Addr) (c : Nat) (l : List EntP) (d : List UInt8) (w : World) (hl : l.length ≤ 1000000) (hA : Rw EntS w A l) :
  Calls Tryz.prog 91 #[.slice A l.length c, .string ⟨d.toArray⟩] w fun e w' => e = .returned (QJ (l.findIdx? (fun x => x.key == d))) ∧ Below w.heap.size w w' := by
 obtain ⟨s, hs⟩ : ∃ s : ByteArray, s = ⟨d.toArray⟩ := ⟨_, rfl⟩
 rw [← hs]
 have hA1 := Arr.new w 9 [.string s]
 have hb1 := (Below.refl w.heap.size w).alloc (Nat.le_refl _) (.cells #[.string s] 9)
 have hA1' : Arr (w.alloc (.cells #[.string s] 9)) w.heap.size 9 [.string s] := hA1
 have hk := hA1'.cell (k := 0) rfl
 have HI := QL A c l _ (.pointer (some ⟨w.heap.size, 0, none⟩)) (fun x => x.key == d) (w.alloc (.cells #[.string s] 9)) hl (hA.below hb1) (QH w.heap.size d l _ (by rw [hk, hs]) hA1'.lt)
 clear hs hA hA1 hA1' hk
 cases hf : l.findIdx? (fun x => x.key == d) with
 | none =>
  rw [hf] at HI
  have HI := Lib.hid HI
  go_enter Tryz.func91, Tryz.ntmps91
  go_wp2_with fail
  refine ((HI.out)).mono ?_; rintro e_ w2 ⟨rfl, hb2⟩; dsimp only
  have hb12 := hb1.trans (hb2.mono hb1.size)
  go_wp2_with fail
  go_ret2
  exact ⟨rfl, hb12⟩
 | some i =>
  rw [hf] at HI
  have HI := Lib.hid HI
  have hi : decide ((i : Int) < 0) = false := decide_eq_false (by omega)
  go_enter Tryz.func91, Tryz.ntmps91
  go_wp2_with fail
  refine ((HI.out)).mono ?_; rintro e_ w2 ⟨rfl, hb2⟩; dsimp only
  have hb12 := hb1.trans (hb2.mono hb1.size)
  go_wp2_with fail
  go_ret2
  exact ⟨rfl, hb12⟩
set_option maxHeartbeats 8000000 in
theorem Vu (A : Option Addr) (c : Nat) (l : List EntP) (x : EntP) (PA : Option Addr) (pc : Nat) (w : World) (hg : GoodE l) (hx : GoodE1 x) (hlen : l.length < 10) (hA : Rw EntS w A l) (hP : Sl w 3 PA x.parts.length pc (pcs x.parts)) :
  Calls Tryz.prog 116 #[.slice A l.length c, .agg #[.string ⟨x.key.toArray⟩, .slice PA x.parts.length pc, .int .i64 (x.pins : Int), .int .i64 (x.stamp : Int)]] w fun e w' =>
   ∃ v, e = .returned (.tuple #[v, .int .i64 0]) ∧ RwX EntS 65 w' w.heap.size v (kO l x) (fun b => b < w.heap.size) ∧ Below w.heap.size w w' := by
 have HGD := Lib.hid (jI hg hx hlen)
 have hpl : x.parts.length ≤ 8 := (zq hx.2.1).1
 have hg1 := hg.ris
 obtain ⟨sx, hsx⟩ : ∃ s : ByteArray, s = ⟨x.key.toArray⟩ := ⟨_, rfl⟩
 rw [← hsx]
 have hX : Arr (w.alloc (.cells #[.string sx, .slice PA x.parts.length pc, .int .i64 (x.pins : Int), .int .i64 (x.stamp : Int)] 65)) w.heap.size 65 [.string sx, .slice PA x.parts.length pc, .int .i64 (x.pins : Int), .int .i64 (x.stamp : Int)] := Arr.new w 65 _
 have hb1 := (Below.refl w.heap.size w).alloc (Nat.le_refl _) (.cells #[.string sx, .slice PA x.parts.length pc, .int .i64 (x.pins : Int), .int .i64 (x.stamp : Int)] 65)
 have HC1 := Lib.hid (kz A c l _ hg (hA.below hb1))
 have hA1 := hA.below hb1
 have hP1 := hP.below hb1
 have HSX := Lib.hid hsx
 obtain ⟨H, hH⟩ : ∃ H, H = w.heap.size := ⟨_, rfl⟩
 have hlt1 := hX.lt
 rw [← hH] at hX hlt1
 have hgl : l.length ≤ 10 := hg.len
 have HPL := Lib.hid (show ∀ y ∈ l, y.parts.length ≤ 1000000 from fun y hy => by have := (zq (hg.one y hy).2.1).1; omega)
 have HA0 := Lib.hid hA
 clear hg hx hA hP hsx
 go_enter Tryz.func116, Tryz.ntmps116
 go_wp2_with fail
 rw [← hH]
 have HH := Lib.hid hH
 clear hH
 generalize w.alloc (.cells #[.string sx, .slice PA x.parts.length pc, .int .i64 (x.pins : Int), .int .i64 (x.stamp : Int)] 65) = w1 at *
 refine ((HC1.out)).mono ?_; rintro e_ w2 ⟨rfl, hb2⟩; dsimp only
 have hb12 := hb1.trans (hb2.mono hb1.size)
 have hX2 := hX.below hb2
 have hA2 := hA1.below hb2
 have hP2 := hP1.below hb2
 have k0 := hX2.cell (k := 0) rfl
 have HBS := UI A c l x.key w2 (by omega) hg1 hA2
 rw [← HSX.out] at HBS
 have HBS := Lib.hid HBS
 clear hX hA1 hP1
 go_wp2_with fail
 clear k0
 refine ((HBS.out)).mono ?_; rintro e_ w3 ⟨i, f, rfl, hil, P1, P2, hf, hb3⟩; dsimp only
 have hb13 := hb12.trans (hb3.mono hb12.size)
 have hX3 := hX2.below hb3
 have hA3 := hA2.below hb3
 have hP3 := hP2.below hb3
 have HF := Lib.hid hf
 have HP1 := Lib.hid P1
 have HP2 := Lib.hid P2
 have HG1 := Lib.hid hg1
 have HCP := Lib.hid (ZY A c l w3 (by omega) (fun y hy => HPL.out y hy) hA3)
 clear hX2 hA2 hP2 hf P1 P2 hg1
 go_wp2_with fail
 refine ((HCP.out)).mono ?_; rintro e_ w4 ⟨g, rfl, hx4, hb4⟩; dsimp only
 have hb14 := hb13.trans (hb4.mono hb13.size)
 have hX4 := hX3.below hb4
 have hP4 := hP3.below hb4
 have hH3 := hX3.lt
 have y1 := hX4.cell (k := 1) rfl
 have HCN := Lib.hid (kD PA x.parts.length pc (pcs x.parts) w4 (by omega) hP4.rd (uj _))
 have hg3 := (hx4.rwo.blk rfl)
 clear hX3 hA3 hP3
 go_wp2_with fail
 clear y1
 refine ((HCN.out)).mono ?_; rintro e_ w5 ⟨v5, rfl, ho5, hb5⟩; dsimp only
 obtain ⟨A5, c5, rfl, hs5, hl5⟩ := jp ho5
 have hX5 := hX4.below hb5
 have hx5 := hx4.below hb5
 have hb15 := hb14.trans (hb5.mono hb14.size)
 have f1 := hX5.frozen 1
 have y1 := hX5.cell (k := 1) rfl
 have hx6 := hx5.set (g := H) (k := 1) hH3 hH3 (.slice A5 x.parts.length c5)
 have hX6 := hX5.set (k := 1) (by simp) (.slice A5 x.parts.length c5)
 have hs6 := hs5.other (g := H) (k := 1) (fun a ha => by have := hl5 a ha; have := hX4.lt; omega) (.slice A5 x.parts.length c5)
 have hb06 := hb15.setCell (p := ⟨H, 1, none⟩) (by rw [← HH.out]; exact Nat.le_refl _) (.slice A5 x.parts.length c5)
 have hsz4 : w4.heap.size ≤ w5.heap.size := hb5.size
 have hgb : g < w4.heap.size := hg3.2
 have hw03 : w.heap.size ≤ w3.heap.size := hb13.size
 have hw34 : w3.heap.size ≤ w4.heap.size := hb4.size
 clear hx4 hx5 hX4 hX5 hP4 ho5 hs5 hb4 hb5 hb15 hb14 hb13
 have hX6' : Arr (w5.setCell ⟨H, 1, none⟩ (.slice A5 x.parts.length c5)) H 65 [.string sx, .slice A5 x.parts.length c5, .int .i64 (x.pins : Int), .int .i64 (x.stamp : Int)] := hX6
 clear hX6
 cases f with
 | true =>
  obtain ⟨hi, he⟩ := HF.out.1 rfl
  have HPE := Lib.hid (show kO l x = l.set i { x with pins := l[i].pins } by
   unfold kO; rw [XP (f := fun y : EntP => y.key) HP1.out hi he]
   show l.set i { x with pins := (match l[i]? with | some y => y.pins | none => 0) } = _
   rw [List.getElem?_eq_getElem hi])
  obtain ⟨b, off, B, cb, rfl, hbb, d0, d1, d2, d3, _⟩ := (HA0.out.below hb06).ent_at i hi
  have hi0 : (0 : Int) ≤ (i : Int) := by omega
  have hi1 : (i : Int) < (l.length : Int) := by omega
  clear he
  generalize l[i].pins = pn at *
  have f2 := hX6'.frozen 2
  have y2 := hX6'.cell (k := 2) rfl
  have hX7 : Arr ((w5.setCell ⟨H, 1, none⟩ (.slice A5 x.parts.length c5)).setCell ⟨H, 2, none⟩ (.int .i64 (pn : Int))) H 65 [.string sx, .slice A5 x.parts.length c5, .int .i64 (pn : Int), .int .i64 (x.stamp : Int)] := hX6'.set (k := 2) (by simp) _
  have hx7 := hx6.set (g := H) (k := 2) hH3 hH3 (.int .i64 (pn : Int))
  have hs7 := hs6.other (g := H) (k := 2) (fun a ha => by have := hl5 a ha; omega) (.int .i64 (pn : Int))
  have hb07 := hb06.setCell (p := ⟨H, 2, none⟩) (by rw [← HH.out]; exact Nat.le_refl _) (.int .i64 (pn : Int))
  obtain ⟨ps7, hx7o, hx7l⟩ : ∃ cs, Arr ((w5.setCell ⟨H, 1, none⟩ (.slice A5 x.parts.length c5)).setCell ⟨H, 2, none⟩ (.int .i64 (pn : Int))) g 65 cs ∧ cs.length = l.length * 4 := by
   obtain ⟨ps, _, _, h3, _⟩ := hx7
   obtain ⟨g', cap', cs, e1, _, h4, _, _, h5, _⟩ := yQ h3 (by omega)
   injection e1 with e11 _ e13
   injection e11 with e11
   injection e11 with e11
   subst e11 e13
   exact ⟨cs, h4, h5⟩
  have q0 := hx7o.cell (k := i * 4) (List.getElem?_eq_getElem (by omega))
  have q1 := hx7o.cell (k := i * 4 + 1) (List.getElem?_eq_getElem (by omega))
  have q2 := hx7o.cell (k := i * 4 + 2) (List.getElem?_eq_getElem (by omega))
  have q3 := hx7o.cell (k := i * 4 + 3) (List.getElem?_eq_getElem (by omega))
  have p0 := hx7o.frozen (i * 4)
  have p1 := hx7o.frozen (i * 4 + 1)
  have p2 := hx7o.frozen (i * 4 + 2)
  have p3 := hx7o.frozen (i * 4 + 3)
  have k0 := hX7.cell (k := 0) rfl
  have k1 := hX7.cell (k := 1) rfl
  have k2 := hX7.cell (k := 2) rfl
  have k3 := hX7.cell (k := 3) rfl
  obtain ⟨hx8, hg8⟩ := hx7.put4 (x := { x with pins := pn }) (u0 := .string sx) (u1 := .slice A5 x.parts.length c5) (u2 := .int .i64 (pn : Int)) (u3 := .int .i64 (x.stamp : Int)) rfl hi ⟨A5, c5, by rw [HSX.out]; rfl, hs7⟩ (fun b hb ⟨a, n', c', hm, e⟩ => by
   simp only [List.mem_cons, List.not_mem_nil, or_false, Value.slice.injEq, reduceCtorEq, false_or] at hm
   have := hl5 a hm.1.symm
   rcases hb with hb | hb <;> omega)
  have hb08 := hb07.grown hg8 hb07.size (fun k hk => by cases hk; exact Nat.le_trans hw03 hg3.1)
  rw [show l.set i { x with pins := pn } = kO l x from HPE.out.symm] at hx8
  have hlen8 : (kO l x).length = l.length := by rw [HPE.out, List.length_set]
  rw [put4] at hx8 hg8 hb08
  clear hx7o hx6 hs6 hX6' hx7 hs7 hb06 hb07 hg8 hX7
  go_wp2_with fail
  clear d0 d1 d2 d3 f2 y2 q0 q1 q2 q3 p0 p1 p2 p3 k0 k1 k2 k3 hx7l
  generalize (((((w5.setCell ⟨H, 1, none⟩ (.slice A5 x.parts.length c5)).setCell ⟨H, 2, none⟩ (.int .i64 (pn : Int))).setCell ⟨g, i * 4, none⟩ (.string sx)).setCell ⟨g, i * 4 + 1, none⟩ (.slice A5 x.parts.length c5)).setCell ⟨g, i * 4 + 2, none⟩ (.int .i64 (pn : Int))).setCell ⟨g, i * 4 + 3, none⟩ (.int .i64 (x.stamp : Int)) = w8 at *
  have HC8 := kz (some ⟨g, 0, none⟩) l.length (kO l x) w8 HGD.out (by
   obtain ⟨A', c', e1, _, _, h⟩ := hx8.rwo.rows
   injection e1 with e2
   rw [e2]; exact h)
  rw [hlen8] at HC8
  have HC8 := Lib.hid HC8
  refine ((HC8.out)).mono ?_; rintro e_ w9 ⟨rfl, hb9⟩; dsimp only
  have hx9 := ((hx8.below hb9).lower hw03).wider (N' := fun b => b < w.heap.size) (fun b hb => .inl (Nat.lt_of_lt_of_le hb hw03))
  have hb09 := hb08.trans (hb9.mono hb08.size)
  clear hx8 hb08 hb9
  go_wp2_with fail
  go_ret2
  exact ⟨_, rfl, hx9, hb09⟩
 | false =>
  have hn : ¬ ∃ h : i < l.length, l[i].key = x.key := fun h => by have := HF.out.2 h; cases this
  have HPE := Lib.hid (show kO l x = l.take i ++ x :: l.drop i by
   unfold kO; rw [UB (f := fun y : EntP => y.key) HG1.out HP1.out HP2.out hn]
   exact (J0 (f := fun y : EntP => y.key) HG1.out HP1.out HP2.out hn rfl).symm)
  have k0 := hX6'.cell (k := 0) rfl
  have k1 := hX6'.cell (k := 1) rfl
  have k2 := hX6'.cell (k := 2) rfl
  have k3 := hX6'.cell (k := 3) rfl
  clear hn HF
  have hg31 : w3.heap.size ≤ g := hg3.1
  have hz6 : (w5.setCell ⟨H, 1, none⟩ (.slice A5 x.parts.length c5)).heap.size = w5.heap.size := by simp [World.setCell]
  have hV : Arr ((w5.setCell ⟨H, 1, none⟩ (.slice A5 x.parts.length c5)).alloc (.cells #[.string sx, .slice A5 x.parts.length c5, .int .i64 (x.pins : Int), .int .i64 (x.stamp : Int)] 65)) (w5.setCell ⟨H, 1, none⟩ (.slice A5 x.parts.length c5)).heap.size 65 (zZ x A5 c5) := by
   rw [zZ, ← HSX.out]; exact Arr.new (w5.setCell ⟨H, 1, none⟩ (.slice A5 x.parts.length c5)) 65 _
  have hba := (Below.refl (w5.setCell ⟨H, 1, none⟩ (.slice A5 x.parts.length c5)).heap.size (w5.setCell ⟨H, 1, none⟩ (.slice A5 x.parts.length c5))).alloc (Nat.le_refl _) (.cells #[.string sx, .slice A5 x.parts.length c5, .int .i64 (x.pins : Int), .int .i64 (x.stamp : Int)] 65)
  have hx7 := hx6.below hba
  have hs7 := hs6.below hba
  have hb07 := hb06.trans (hba.mono hb06.size)
  have hgsz : g < (w5.setCell ⟨H, 1, none⟩ (.slice A5 x.parts.length c5)).heap.size := (hx6.rwo.blk rfl).2
  have hbs7 : w3.heap.size ≤ ((w5.setCell ⟨H, 1, none⟩ (.slice A5 x.parts.length c5)).alloc (.cells #[.string sx, .slice A5 x.parts.length c5, .int .i64 (x.pins : Int), .int .i64 (x.stamp : Int)] 65)).heap.size := by rw [World.size_alloc]; omega
  clear hx6 hs6 hX6' hba hb06
  go_wp2_with fail
  rw [← hz6]
  clear k0 k1 k2 k3
  generalize hw6 : (w5.setCell ⟨H, 1, none⟩ (.slice A5 x.parts.length c5)) = w6 at *
  clear hw6 hz6
  generalize w6.alloc (.cells #[.string sx, .slice A5 x.parts.length c5, .int .i64 (x.pins : Int), .int .i64 (x.stamp : Int)] 65) = w7 at *
  have HIN := Lib.hid (Qy l g i x A5 c5 w6.heap.size 1 w7 w3.heap.size (fun b => b < w3.heap.size) hil (by omega) hbs7 hx7 hV ⟨A5, c5, rfl, hs7⟩ (fun b hb hle => by
   obtain ⟨a, e1, e2⟩ := Q9 hle
   have := hl5 a e1
   rcases hb with hb | hb <;> omega))
  clear hV hx7 hs7 hbs7
  refine ((HIN.out)).mono ?_; rintro e_ w8 ⟨v8, rfl, hx8, hg8⟩; dsimp only
  have hb08 := hb07.grown hg8 hb07.size (fun k hk => by cases hk; exact Nat.le_trans hw03 hg3.1)
  rw [show l.take i ++ x :: l.drop i = kO l x from HPE.out.symm] at hx8
  have hlp : (kO l x).length ≤ 10 := HGD.out.len
  have HCL := Lib.hid (KN v8 (kO l x) w8 w3.heap.size _ (by omega) hx8)
  obtain ⟨A8, c8, rfl, _, _, _⟩ := hx8.rwo.rows
  clear hx8 hg8 hb07
  go_wp2_with fail
  refine ((HCL.out)).mono ?_; rintro e_ w9 ⟨v9, rfl, hx9, hb9⟩; dsimp only
  have hb09 := hb08.trans (hb9.mono hb08.size)
  have hw8 : w.heap.size ≤ w8.heap.size := hb08.size
  obtain ⟨A9, c9, rfl, _, _, hR9⟩ := hx9.rwo.rows
  have HC8 := Lib.hid (kz A9 c9 (kO l x) w9 HGD.out hR9)
  clear hb9 hb08 hR9
  go_wp2_with fail
  refine ((HC8.out)).mono ?_; rintro e_ w10 ⟨rfl, hb10⟩; dsimp only
  have hx10 := ((hx9.below hb10).lower hw8).wider (N' := fun b => b < w.heap.size) (fun b hb => .inl (Nat.lt_of_lt_of_le hb hw03))
  have hb010 := hb09.trans (hb10.mono hb09.size)
  clear hx9 hb09 hb10
  go_wp2_with fail
  go_ret2
  exact ⟨_, rfl, hx10, hb010⟩
theorem Qf (gk : Nat) (d : List UInt8) (l : List BlobP) (w : World) (hk : w.cell? ⟨gk, 0, none⟩ = some (.string ⟨d.toArray⟩)) (hg : gk < w.heap.size) : Q6 w l 196 (.pointer (some ⟨gk, 0, none⟩)) (fun b => b.dig == d) := by
 refine ⟨fun _ _ => by kernel_rfl, fun b B cb W hb hbel hs => ?_⟩
 have hg1 : gk < W.heap.size := Nat.lt_of_lt_of_le hg hbel.size
 have hk0 : W.cell? ⟨gk, 0, none⟩ = some (.string ⟨d.toArray⟩) := (hbel.cell (p := ⟨gk, 0, none⟩) hg).trans hk
 generalize hs1 : (⟨b.dig.toArray⟩ : ByteArray) = s
 generalize hs2 : (⟨d.toArray⟩ : ByteArray) = t at hk0
 have hst : (b.dig == d) = (s.toList == t.toList) := by
  rw [← hs1, ← hs2, ByteArray.toList_eq, ByteArray.toList_eq]
 dsimp only
 rw [hst]
 have hb1 := (Below.refl W.heap.size W).alloc (Nat.le_refl _) (.cells #[.string s, .slice B b.data.length cb, .int .i64 (b.pins : Int), (.bool b.mark)] 96)
 have hk1 : (W.alloc (.cells #[.string s, .slice B b.data.length cb, .int .i64 (b.pins : Int), (.bool b.mark)] 96)).cell? ⟨gk, 0, none⟩ = some (.string t) := (World.cell?_alloc_lt W _ ⟨gk, 0, none⟩ hg1).trans hk0
 clear hst hs1 hs2
 go_enter Tryz.func196, Tryz.ntmps196
 go_wp2_with fail
 go_ret
 exact ⟨rfl, hb1⟩
theorem ur (A : Option Addr) (c : Nat) (l : List BlobP) (d : List UInt8) (w : World) (hl : l.length ≤ 1000000) (hA : Rw BlobS w A l) :
  Calls Tryz.prog 135 #[.slice A l.length c, .string ⟨d.toArray⟩] w fun e w' => e = .returned (QJ (l.findIdx? (fun x => x.dig == d))) ∧ Below w.heap.size w w' := by
 obtain ⟨s, hs⟩ : ∃ s : ByteArray, s = ⟨d.toArray⟩ := ⟨_, rfl⟩
 rw [← hs]
 have hA1 := Arr.new w 9 [.string s]
 have hb1 := (Below.refl w.heap.size w).alloc (Nat.le_refl _) (.cells #[.string s] 9)
 have hA1' : Arr (w.alloc (.cells #[.string s] 9)) w.heap.size 9 [.string s] := hA1
 have hk := hA1'.cell (k := 0) rfl
 have HI := KT A c l _ (.pointer (some ⟨w.heap.size, 0, none⟩)) (fun x => x.dig == d) (w.alloc (.cells #[.string s] 9)) hl (hA.below hb1) (Qf w.heap.size d l _ (by rw [hk, hs]) hA1'.lt)
 clear hs hA hA1 hA1' hk
 cases hf : l.findIdx? (fun x => x.dig == d) with
 | none =>
  rw [hf] at HI
  have HI := Lib.hid HI
  go_enter Tryz.func135, Tryz.ntmps135
  go_wp2_with fail
  refine ((HI.out)).mono ?_; rintro e_ w2 ⟨rfl, hb2⟩; dsimp only
  have hb12 := hb1.trans (hb2.mono hb1.size)
  go_wp2_with fail
  go_ret2
  exact ⟨rfl, hb12⟩
 | some i =>
  rw [hf] at HI
  have HI := Lib.hid HI
  have hi : decide ((i : Int) < 0) = false := decide_eq_false (by omega)
  go_enter Tryz.func135, Tryz.ntmps135
  go_wp2_with fail
  refine ((HI.out)).mono ?_; rintro e_ w2 ⟨rfl, hb2⟩; dsimp only
  have hb12 := hb1.trans (hb2.mono hb1.size)
  go_wp2_with fail
  go_ret2
  exact ⟨rfl, hb12⟩
set_option maxHeartbeats 8000000 in
theorem Zh (A : Option Addr) (c : Nat) (l : List BlobP) (PA : Option Addr) (pc : Nat) (ps : List PartP) (w : World) (hl : l.length ≤ 1000000) (hp : ps.length ≤ 1000000) (hA : Rw BlobS w A l) (hP : Rd w 3 PA ps.length (pcs ps)) :
  Calls Tryz.prog 83 #[.slice A l.length c, .slice PA ps.length pc] w fun e w' => e = .returned (.int .i64 (zT l ps : Int)) ∧ Below w.heap.size w w' := by
 generalize hR : zT l ps = R
 have HR0 := Lib.hid hR
 clear hR
 go_enter Tryz.func83, Tryz.ntmps83
 go_wp2_with fail
 go_loopg [11] ps.length (fun gn i wr => ∃ j : Nat, gn = ps.length - j ∧ i = .int .i64 j ∧ j ≤ ps.length ∧ zT l (ps.drop j) = R ∧ Below w.heap.size w wr)
 case atStart => exact ⟨0, rfl, rfl, by omega, by rw [List.drop_zero]; exact HR0.out, Below.refl _ _⟩
 case round =>
  obtain ⟨j, hgk, rfl, hj, hrest, hbl⟩ := hrel
  have HGK := Lib.hid hgk
  have HRS := Lib.hid hrest
  clear hgk hrest
  by_cases hlt : j < ps.length
  ·have hcc : decide (j < ps.length) = true := decide_eq_true hlt
   obtain ⟨b, off, rfl, hbb, hcell⟩ := (hP.below hbl).2 (by omega)
   have hj0 : (0 : Int) ≤ (j : Int) := by omega
   have hj1 : (j : Int) < (ps.length : Int) := by omega
   have hat := fun k (hk : k < 3) => ky ps j k hlt hk
   have HDR := Lib.hid (show zT l (ps[j] :: ps.drop (j + 1)) = R by rw [← List.drop_eq_getElem_cons hlt]; exact HRS.out)
   generalize ps[j] = p at *
   have c0 := hcell (j * 3 + 0) _ (hat 0 (by omega))
   have c1 := hcell (j * 3 + 1) _ (hat 1 (by omega))
   have c2 := hcell (j * 3 + 2) _ (hat 2 (by omega))
   rw [Nat.add_zero] at c0
   rw [show off + (j * 3 + 1) = off + j * 3 + 1 by omega] at c1
   rw [show off + (j * 3 + 2) = off + j * 3 + 2 by omega] at c2
   try dsimp only [kr, List.getElem?_cons_zero, List.getElem?_cons_succ] at c0 c1 c2
   obtain ⟨sn, hsn⟩ : ∃ s : ByteArray, s = ⟨p.name.toArray⟩ := ⟨_, rfl⟩
   obtain ⟨sp, hsp⟩ : ∃ s : ByteArray, s = ⟨p.dig.toArray⟩ := ⟨_, rfl⟩
   rw [← hsn] at c0
   rw [← hsp] at c1
   have HSP := Lib.hid hsp
   have hX : Arr (wr.alloc (.cells #[.string sn, .string sp, .int .i64 (p.size : Int)] 68)) wr.heap.size 68 [.string sn, .string sp, .int .i64 (p.size : Int)] := Arr.new wr 68 _
   have hba := (Below.refl wr.heap.size wr).alloc (Nat.le_refl _) (.cells #[.string sn, .string sp, .int .i64 (p.size : Int)] 68)
   have hb2 := hbl.trans (hba.mono hbl.size)
   have x1 := hX.cell (k := 1) rfl
   clear hat hcell hbl hba hsn hsp
   go_wp2_with fail
   generalize wr.alloc (.cells #[.string sn, .string sp, .int .i64 (p.size : Int)] 68) = w2 at *
   generalize wr.heap.size = gx at *
   clear c0 c1 c2 x1
   have hA2 := hA.below hb2
   have HFN := ur A c l p.dig w2 hl hA2
   rw [← HSP.out] at HFN
   cases hf : l.findIdx? (fun x => x.dig == p.dig) with
   | none =>
    rw [hf, QJ] at HFN
    have HFN := Lib.hid HFN
    have HE := Lib.hid (show R = 5 by rw [← HDR.out, zT, hf])
    clear hf hA2
    refine ((HFN.out)).mono ?_; rintro e_ w3 ⟨rfl, hb3⟩; dsimp only
    have hb23 := hb2.trans (hb3.mono hb2.size)
    go_wp2_with fail
    go_ret
    rw [HE.out]
    exact ⟨rfl, hb23⟩
   | some i =>
    obtain ⟨hi, _, _⟩ := List.findIdx?_eq_some_iff_getElem.1 hf
    rw [hf, QJ] at HFN
    have HFN := Lib.hid HFN
    have HRR := Lib.hid (show R = if l[i].data.length = p.size then zT l (ps.drop (j + 1)) else 4 by
     rw [← HDR.out, zT, hf]
     show (if (match l[i]? with | some b => b.data.length | none => 0) = p.size then _ else _) = _
     rw [List.getElem?_eq_getElem hi])
    clear hf
    refine ((HFN.out)).mono ?_; rintro e_ w3 ⟨rfl, hb3⟩; dsimp only
    have hb23 := hb2.trans (hb3.mono hb2.size)
    have hX3 := hX.below hb3
    obtain ⟨b', off', B, cb, rfl, hbb', d0, d1, d2, d3, _⟩ := (hA2.below hb3).blob_at i hi
    have hi0 : (0 : Int) ≤ (i : Int) := by omega
    have hi1 : (i : Int) < (l.length : Int) := by omega
    have x2 := hX3.cell (k := 2) rfl
    generalize l[i].data.length = m at *
    clear hA2 hX hb2 hb3 d0 d2 d3
    by_cases hm : m = p.size
    ·have hne : ((m : Int) != (p.size : Int)) = false := by rw [bne_eq_false_iff_eq]; omega
     have HN := Lib.hid (show zT l (ps.drop (j + 1)) = R by rw [HRR.out, if_pos hm])
     go_wp2_with fail
     go_quiet (fail)
     go_wp2_with fail
     go_roundg (ps.length - (j + 1))
     case measure => have := HGK.out; omega
     case rel => exact ⟨j + 1, rfl, by go_num, by omega, HN.out, zC hb23 _⟩
    ·have hne : ((m : Int) != (p.size : Int)) = true := by rw [bne_iff_ne]; omega
     have HN := Lib.hid (show R = 4 by rw [HRR.out, if_neg hm])
     go_wp2_with fail
     go_quiet (fail)
     go_wp2_with fail
     go_ret
     rw [HN.out]
     exact ⟨rfl, zC hb23 _⟩
  ·obtain rfl : j = ps.length := by omega
   have hcc : decide (ps.length < ps.length) = false := by simp
   have HE := Lib.hid (show R = 0 by rw [← HRS.out, List.drop_length, zT])
   go_wp2_with fail
   go_ret
   rw [HE.out]
   exact ⟨rfl, hbl⟩
theorem Jd (k : Int) (h : k = 0 ∨ k = 1 ∨ k = 2) (w : World) : (Instr.index 126 (.agg #[.int .i64 0, .int .i64 0, .int .i64 0]) (.int .i64 k)).run Tryz.prog w = .ok (.int .i64 0) w := by
 rcases h with rfl | rfl | rfl <;> kernel_rfl
theorem qc {P : Program} {fn : Func} {p u : Tmp} {ty : TypeId} (h : fn.results = #[.cell p ty, .tmp u]) (tmps : Array Value) (w : World) (g : Nat) (t : TypeId) (cs : Array Value) (fr : Nat × Nat) (d : TypeDesc)
  (hp : tmps.getD p undef = .pointer (some ⟨g, 0, none⟩)) (hg : w.heap[g]? = some (.cells cs t fr))
  (hu : P.underlying ty = some d) (hd : (match d with | .struct _ | .array _ _ => true | _ => false) = true) (hi : (P.info? ty).map (·.size) = some cs.size) :
  (results fn tmps).run P w = .ok (.tuple #[.agg cs, tmps.getD u undef]) w := by
 have hp' : tmps[p]?.getD undef = .pointer (some ⟨g, 0, none⟩) := by simpa using hp
 simp [results, h, hp', asAddr, run_loadVar_row w g t ty cs fr d hg hu hd hi]
theorem zP {P : Program} {fn : Func} {p u z : Tmp} {ty : TypeId} (h : fn.results = #[.cell p ty, .tmp u, .tmp z]) (tmps : Array Value) (w : World) (g : Nat) (t : TypeId) (cs : Array Value) (fr : Nat × Nat) (d : TypeDesc)
  (hp : tmps.getD p undef = .pointer (some ⟨g, 0, none⟩)) (hg : w.heap[g]? = some (.cells cs t fr))
  (hu : P.underlying ty = some d) (hd : (match d with | .struct _ | .array _ _ => true | _ => false) = true) (hi : (P.info? ty).map (·.size) = some cs.size) :
  (results fn tmps).run P w = .ok (.tuple #[.agg cs, tmps.getD u undef, tmps.getD z undef]) w := by
 have hp' : tmps[p]?.getD undef = .pointer (some ⟨g, 0, none⟩) := by simpa using hp
 simp [results, h, hp', asAddr, run_loadVar_row w g t ty cs fr d hg hu hd hi]
abbrev stV (v1 v2 : Value) (s : StoP) : Value := .agg #[v1, v2, .int .i64 (s.room : Int), .int .i64 (s.clock : Int)]
structure OwSt (w : World) (base : Nat) (v1 v2 : Value) (s : StoP) (N : Nat → Prop) : Prop where
 b : RwX BlobS 96 w base v1 s.blobs (fun g => N g ∨ v2.ownBlock = some g)
 e : RwX EntS 65 w base v2 s.ents (fun g => N g ∨ v1.ownBlock = some g)
 ne : ∀ g, v1.ownBlock = some g → v2.ownBlock ≠ some g
theorem OwSt.below {w w' : World} {base : Nat} {v1 v2 : Value} {s : StoP} {N : Nat → Prop} (h : OwSt w base v1 v2 s N) (hb : Below w.heap.size w w') : OwSt w' base v1 v2 s N := ⟨h.b.below hb, h.e.below hb, h.ne⟩
theorem OwSt.lower {w : World} {base base' : Nat} {v1 v2 : Value} {s : StoP} {N : Nat → Prop} (h : OwSt w base v1 v2 s N) (hb : base' ≤ base) : OwSt w base' v1 v2 s N := ⟨h.b.lower hb, h.e.lower hb, h.ne⟩
theorem OwSt.wider {w : World} {base : Nat} {v1 v2 : Value} {s : StoP} {N N' : Nat → Prop} (h : OwSt w base v1 v2 s N) (hN : ∀ b, N' b → N b ∨ w.heap.size ≤ b) : OwSt w base v1 v2 s N' :=
 ⟨h.b.wider fun b hb => hb.elim (fun h1 => (hN b h1).imp .inl id) (fun h1 => .inl (.inr h1)), h.e.wider fun b hb => hb.elim (fun h1 => (hN b h1).imp .inl id) (fun h1 => .inl (.inr h1)), h.ne⟩
structure RdSt (w : World) (A : Option Addr) (c : Nat) (B : Option Addr) (d : Nat) (s : StoP) : Prop where
 b : Rw BlobS w A s.blobs
 e : Rw EntS w B s.ents
 bc : s.blobs.length ≤ c
 bm : c ≤ maxLen
 ec : s.ents.length ≤ d
 em : d ≤ maxLen
theorem RdSt.below {w w' : World} {A B : Option Addr} {c d : Nat} {s : StoP} (h : RdSt w A c B d s) (hb : Below w.heap.size w w') : RdSt w' A c B d s := ⟨h.b.below hb, h.e.below hb, h.bc, h.bm, h.ec, h.em⟩
theorem OwSt.rows {w : World} {base : Nat} {v1 v2 : Value} {s : StoP} {N : Nat → Prop} (h : OwSt w base v1 v2 s N) : ∃ A c B d, v1 = .slice A s.blobs.length c ∧ v2 = .slice B s.ents.length d ∧ RdSt w A c B d s := by
 obtain ⟨A, c, e1, h1, h2, h3⟩ := h.b.rwo.rows
 obtain ⟨B, d, e2, k1, k2, k3⟩ := h.e.rwo.rows
 exact ⟨A, c, B, d, e1, e2, h3, k3, h1, h2, k1, k2⟩
set_option maxHeartbeats 16000000 in
theorem qY (A : Option Addr) (c : Nat) (B : Option Addr) (d : Nat) (s : StoP) (w : World) (hg : GoodS s) (hr : RdSt w A c B d s) :
  Calls Tryz.prog 18 #[.agg #[.slice A s.blobs.length c, .slice B s.ents.length d, .int .i64 (s.room : Int), .int .i64 (s.clock : Int)]] w fun e w' => e = .returned (.int .i64 0) ∧ Below w.heap.size w w' := by
 have hlb : s.blobs.length ≤ 24 := hg.b.len
 have hle : s.ents.length ≤ 10 := hg.e.len
 have hus : usd s.blobs ≤ 4000 := Nat.le_trans hg.used hg.room
 have hrm := hg.room
 have hck := hg.clock
 obtain ⟨w0, hw0⟩ : ∃ w0, w0 = w.alloc (.cells #[.slice A s.blobs.length c, .slice B s.ents.length d, .int .i64 (s.room : Int), .int .i64 (s.clock : Int)] 26) := ⟨_, rfl⟩
 obtain ⟨H, hH⟩ : ∃ H, H = w.heap.size := ⟨_, rfl⟩
 have hS : Arr w0 H 26 [.slice A s.blobs.length c, .slice B s.ents.length d, .int .i64 (s.room : Int), .int .i64 (s.clock : Int)] := by rw [hw0, hH]; exact Arr.new w 26 _
 have hb0 : Below w.heap.size w w0 := by rw [hw0]; exact (Below.refl _ _).alloc (Nat.le_refl _) _
 have hA0 := hr.b.below hb0
 have hE0 := hr.e.below hb0
 have HSB := Lib.hid (show ∀ W, Below w0.heap.size w0 W → W.cell? ⟨H, 0, none⟩ = some (.slice A s.blobs.length c) ∧ W.cell? ⟨H, 1, none⟩ = some (.slice B s.ents.length d) ∧ W.cell? ⟨H, 2, none⟩ = some (.int .i64 (s.room : Int)) from fun W h =>
  ⟨(hS.below h).cell (k := 0) rfl, (hS.below h).cell (k := 1) rfl, (hS.below h).cell (k := 2) rfl⟩)
 have HCB := Lib.hid (fun W (h : Below w0.heap.size w0 W) => jL A c s.blobs W hg.b (hA0.below h))
 have HCE := Lib.hid (fun W (h : Below w0.heap.size w0 W) => kz B d s.ents W hg.e (hE0.below h))
 have HCF := Lib.hid (show ∀ W, Below w0.heap.size w0 W → Calls Tryz.prog 53 #[.slice A s.blobs.length c, .int .i64 (s.room : Int), .int .i64 0] W fun e w' => e = .returned (.int .i64 0) ∧ Below W.heap.size W w' from fun W h => by
  have := VT A c s.blobs s.room 0 W (by omega) (by omega) hrm (by omega) (hA0.below h)
  rw [if_pos (by have := hg.used; omega)] at this
  exact this)
 have HEN := Lib.hid (show ∀ x ∈ s.ents, x.stamp ≤ s.clock ∧ zT s.blobs x.parts = 0 ∧ x.parts.length ≤ 8 from fun x hx =>
  ⟨(hg.ent x hx).1, xu hg.b.ris (hg.ent x hx).2, (zq (hg.e.one x hx).2.1).1⟩)
 have ck1 : decide ((s.clock : Int) < 0) = false := decide_eq_false (by omega)
 have ck2 : decide ((s.clock : Int) > 1099511627776) = false := decide_eq_false (by omega)
 have ck3 : decide ((1099511627776 : Int) < (s.clock : Int)) = false := decide_eq_false (by omega)
 have ck4 : decide (1099511627776 < s.clock) = false := decide_eq_false (by omega)
 clear hg hr
 go_enter Tryz.func18, Tryz.ntmps18
 go_wp2_with fail
 rw [← hw0]
 rw [← hH]
 clear hw0
 have HH := Lib.hid hH
 clear hH
 refine wp_region_held_drew (S := (fun w' => w'.cell? ⟨H, 0, none⟩ = some (.slice A s.blobs.length c) ∧ w'.cell? ⟨H, 1, none⟩ = some (.slice B s.ents.length d) ∧ w'.cell? ⟨H, 2, none⟩ = some (.int .i64 (s.room : Int)))) (by kernel_rfl) ?_ (fun hHeld => ?_)
 ·exact HSB.out _ (Below.refl _ w0).drew
 have hB := (Below.refl w0.heap.size w0).drew
 generalize w0.drew = wn0 at *
 refine sqTH 0 ?_;try simp only [sqP]
 refine sqTH 1 ?_;try simp only [sqP]
 refine sqTH 3 ?_;try simp only [sqP]
 refine sqTH 4 ?_;try simp only [sqP]
 refine sqTH 6 ?_;try simp only [sqP]
 refine sqTH 7 ?_;try simp only [sqP]
 refine sqTH 8 ?_;try simp only [sqP]
 refine sqTH 9 ?_;try simp only [sqP]
 refine sqTH 12 ?_;try simp only [sqP]
 refine wpAnyH_ready (rs := [2]) (by kernel_rfl) (by simp) ?_
 refine AllReadyH.cons (o := _) rfl (fun K hK => ?_) ?_
 ·
  go_simp
  refine (HCB.out wn0 hB).mono ?_
  rintro e5 w5 ⟨rfl, hb5⟩
  dsimp only
  refine qI hK ?_ (Below wn0.heap.size wn0) (fun W => True) ?_ ?_ (fun wn1 hHeld hst hnew => ?_)
  ·(exact HSB.out _ (hB.trans (hb5.mono hB.size)))
  ·(exact hb5)
  ·(trivial)
  have hB := hB.trans (hst.mono hB.size)
  clear hst
  clear hK K
  try simp only [sqP]
  refine wpAnyH_ready (rs := [5]) (by kernel_rfl) (by simp) ?_
  refine AllReadyH.cons (o := _) rfl (fun K hK => ?_) ?_
  ·
   go_simp
   refine (HCE.out wn1 hB).mono ?_
   rintro e5 w5 ⟨rfl, hb5⟩
   dsimp only
   refine qI hK ?_ (Below wn1.heap.size wn1) (fun W => True) ?_ ?_ (fun wn2 hHeld hst hnew => ?_)
   ·(exact HSB.out _ (hB.trans (hb5.mono hB.size)))
   ·(exact hb5)
   ·(trivial)
   have hB := hB.trans (hst.mono hB.size)
   clear hst
   clear hK K
   try simp only [sqP]
   refine wpAnyH_ready (rs := [10]) (by kernel_rfl) (by simp) ?_
   refine AllReadyH.cons (o := _) rfl (fun K hK => ?_) ?_
   ·
    go_simp
    refine (HCF.out wn2 hB).mono ?_
    rintro e5 w5 ⟨rfl, hb5⟩
    dsimp only
    refine qI hK ?_ (Below wn2.heap.size wn2) (fun W => True) ?_ ?_ (fun wn3 hHeld hst hnew => ?_)
    ·(exact HSB.out _ (hB.trans (hb5.mono hB.size)))
    ·(exact hb5)
    ·(trivial)
    have hB := hB.trans (hst.mono hB.size)
    clear hst
    clear hK K
    try simp only [sqP]
    refine sqTH 11 ?_;try simp only [sqP]
    refine wpAnyH_done (by kernel_rfl) ?_ _
    dsimp only [Exit.then]
    clear hHeld
    have hb1 := hb0.trans (hB.mono hb0.size)
    have hS1 := hS.below hB
    have hA1 := hA0.below hB
    have hE1 := hE0.below hB
    clear hB hS hA0 hE0 hb0
    generalize wn3 = w1 at *
    go_wp2_with fail
    go_loopg [19] 3 (fun gn i wr => ∃ j : Int, i = .int .i64 j ∧ (j = 0 ∨ j = 1 ∨ j = 2 ∨ j = 3) ∧ gn = (3 - j).toNat ∧ wr = w1)
    case atStart => exact ⟨0, rfl, by omega, rfl, rfl⟩
    case round =>
     obtain ⟨j, rfl, hj, hgn, hwr⟩ := hrel
     subst hwr
     have ix0 := Jd 0 (by omega) wr
     have ix1 := Jd 1 (by omega) wr
     have ix2 := Jd 2 (by omega) wr
     rcases hj with rfl | rfl | rfl | rfl
     ·go_wp2_with fail
      go_roundg 2
      case measure => omega
      case rel => exact ⟨1, rfl, by omega, rfl, rfl⟩
     ·go_wp2_with fail
      go_roundg 1
      case measure => omega
      case rel => exact ⟨2, rfl, by omega, rfl, rfl⟩
     ·go_wp2_with fail
      go_roundg 0
      case measure => omega
      case rel => exact ⟨3, rfl, by omega, rfl, rfl⟩
     ·clear hgn ix0 ix1 ix2
      generalize wr = wr0 at *
      have d3 := hS1.cell (k := 3) rfl
      have d1 := hS1.cell (k := 1) rfl
      go_wp2_with fail
      clear d3 d1
      go_loopg [37] s.ents.length (fun gn i wr => ∃ j : Nat, gn = s.ents.length - j ∧ i = .int .i64 j ∧ j ≤ s.ents.length ∧ Below wr0.heap.size wr0 wr)
      case atStart => exact ⟨0, rfl, rfl, by omega, Below.refl _ _⟩
      case round =>
       obtain ⟨j, hgk, rfl, hj, hbl⟩ := hrel
       have HGK := Lib.hid hgk
       clear hgk
       by_cases hlt : j < s.ents.length
       ·have hcc : decide (j < s.ents.length) = true := decide_eq_true hlt
        obtain ⟨b, off, PB, cb, rfl, hbb, c0, c1, c2, c3, hs⟩ := (hE1.below hbl).ent_at j hlt
        have hj0 : (0 : Int) ≤ (j : Int) := by omega
        have hj1 : (j : Int) < (s.ents.length : Int) := by omega
        obtain ⟨g1, g2, g3⟩ := HEN.out s.ents[j] (List.getElem_mem hlt)
        have HG2 := Lib.hid g2
        generalize s.ents[j] = x at *
        obtain ⟨sx, hsx⟩ : ∃ s : ByteArray, s = ⟨x.key.toArray⟩ := ⟨_, rfl⟩
        rw [← hsx] at c0
        have st1 : decide ((x.stamp : Int) > (s.clock : Int)) = false := decide_eq_false (by omega)
        have st2 : decide ((s.clock : Int) < (x.stamp : Int)) = false := decide_eq_false (by omega)
        have st3 : decide (s.clock < x.stamp) = false := decide_eq_false (by omega)
        have hX : Arr (wr.alloc (.cells #[.string sx, .slice PB x.parts.length cb, .int .i64 (x.pins : Int), .int .i64 (x.stamp : Int)] 65)) wr.heap.size 65 [.string sx, .slice PB x.parts.length cb, .int .i64 (x.pins : Int), .int .i64 (x.stamp : Int)] := Arr.new wr 65 _
        have hba := (Below.refl wr.heap.size wr).alloc (Nat.le_refl _) (.cells #[.string sx, .slice PB x.parts.length cb, .int .i64 (x.pins : Int), .int .i64 (x.stamp : Int)] 65)
        have hbl2 := hbl.trans (hba.mono hbl.size)
        have hs2 := hs.below hba
        have hS2 := hS1.below hbl2
        have hA2 := hA1.below hbl2
        have x1 := hX.cell (k := 1) rfl
        have x3 := hX.cell (k := 3) rfl
        have y0 := hS2.cell (k := 0) rfl
        have y3 := hS2.cell (k := 3) rfl
        clear hsx hs hba hbl g2
        go_wp2_with fail
        generalize wr.alloc (.cells #[.string sx, .slice PB x.parts.length cb, .int .i64 (x.pins : Int), .int .i64 (x.stamp : Int)] 65) = w2 at *
        generalize wr.heap.size = gx at *
        clear c0 c1 c2 c3 x1 x3 y0 y3
        have HHV := Zh A c s.blobs PB cb x.parts w2 (by omega) (by omega) hA2 hs2.rd
        rw [HG2.out] at HHV
        have HHV := Lib.hid HHV
        clear hA2 hs2 hS2 hX
        refine ((HHV.out)).mono ?_; rintro e_ w3 ⟨rfl, hb3⟩; dsimp only
        have hbl3 := hbl2.trans (hb3.mono hbl2.size)
        go_wp2_with fail
        go_roundg (s.ents.length - (j + 1))
        case measure => have := HGK.out; omega
        case rel => exact ⟨j + 1, rfl, by go_num, by omega, hbl3⟩
       ·obtain rfl : j = s.ents.length := by omega
        have hcc : decide (s.ents.length < s.ents.length) = false := by simp
        go_wp2_with fail
        go_ret
        exact ⟨rfl, hb1.trans (hbl.mono hb1.size)⟩
   exact AllReadyH.nil
  exact AllReadyH.nil
 exact AllReadyH.nil
theorem OwSt.set {w : World} {base g k : Nat} {v1 v2 : Value} {s : StoP} {N : Nat → Prop} (h : OwSt w base v1 v2 s N) (hg : g < base) (hN : N g) (u : Value) : OwSt (w.setCell ⟨g, k, none⟩ u) base v1 v2 s N := ⟨h.b.set hg (.inl hN) u, h.e.set hg (.inl hN) u, h.ne⟩
set_option maxHeartbeats 16000000 in
theorem uF (A : Option Addr) (c : Nat) (B : Option Addr) (d : Nat) (s : StoP) (w : World) (hl : s.blobs.length ≤ 100000) (he : s.ents.length ≤ 100000) (hd : ∀ b ∈ s.blobs, b.data.length ≤ 1000000) (hp : ∀ x ∈ s.ents, x.parts.length ≤ 1000000) (hr : RdSt w A c B d s) :
  Calls Tryz.prog 48 #[.agg #[.slice A s.blobs.length c, .slice B s.ents.length d, .int .i64 (s.room : Int), .int .i64 (s.clock : Int)]] w fun e w' => ∃ g1 g2, e = .returned (.agg #[.slice (some ⟨g1, 0, none⟩) s.blobs.length s.blobs.length, .slice (some ⟨g2, 0, none⟩) s.ents.length s.ents.length, .int .i64 (s.room : Int), .int .i64 (s.clock : Int)]) ∧ OwSt w' w.heap.size (.slice (some ⟨g1, 0, none⟩) s.blobs.length s.blobs.length) (.slice (some ⟨g2, 0, none⟩) s.ents.length s.ents.length) s (fun b => b < w.heap.size) ∧ Below w.heap.size w w' := by
 obtain ⟨w0, hw0, hS, hR, hb0⟩ := q4 w 26 [.slice A s.blobs.length c, .slice B s.ents.length d, .int .i64 (s.room : Int), .int .i64 (s.clock : Int)] [.slice none 0 0, .slice none 0 0, .int .i64 0, .int .i64 0]
 obtain ⟨H, hH⟩ : ∃ H, H = w.heap.size := ⟨_, rfl⟩
 have hA0 := hr.b.below hb0
 have hE0 := hr.e.below hb0
 rw [← hH] at hS hR hb0 ⊢
 have hHl : H < w0.heap.size := hS.lt
 have hHr : H + 1 < w0.heap.size := hR.lt
 have HSB := Lib.hid (show ∀ W, Below w0.heap.size w0 W → W.cell? ⟨H, 1, none⟩ = some (.slice B s.ents.length d) from fun W h => (hS.below h).cell (k := 1) rfl)
 have HC0 := Lib.hid (show ∀ W, Below w0.heap.size w0 W → W.cell? ⟨H, 0, none⟩ = some (.slice A s.blobs.length c) from fun W h => (hS.below h).cell (k := 0) rfl)
 have HCB := Lib.hid (show ∀ W, Below w0.heap.size w0 W → Calls Tryz.prog 109 #[.slice A s.blobs.length c] W fun e w' => ∃ g, e = .returned (.slice (some ⟨g, 0, none⟩) s.blobs.length s.blobs.length) ∧ RwX BlobS 96 w' w0.heap.size (.slice (some ⟨g, 0, none⟩) s.blobs.length s.blobs.length) s.blobs (fun b => b < w0.heap.size) ∧ Below W.heap.size W w' from fun W h =>
  (ZH A c s.blobs W hl hd (hA0.below h)).mono fun e w' ⟨g, h1, h2, h3⟩ => ⟨g, h1, (h2.lower h.size).wider (fun b hb => .inl (Nat.lt_of_lt_of_le hb h.size)), h3⟩)
 have HCE := Lib.hid (show ∀ W v1, Below w0.heap.size w0 W → RwX BlobS 96 W w0.heap.size v1 s.blobs (fun b => b < w0.heap.size) → Calls Tryz.prog 110 #[.slice B s.ents.length d] W fun e w' => ∃ g, e = .returned (.slice (some ⟨g, 0, none⟩) s.ents.length s.ents.length) ∧ OwSt w' w0.heap.size v1 (.slice (some ⟨g, 0, none⟩) s.ents.length s.ents.length) s (fun b => b < w0.heap.size) ∧ Below W.heap.size W w' from fun W v1 h hv =>
  (ZY B d s.ents W he hp (hE0.below h)).mono fun e w' ⟨g, h1, h2, h3⟩ => by
   have hge : W.heap.size ≤ g := (h2.rwo.blk rfl).1
   refine ⟨g, h1, ⟨(hv.wider (fun b hb => hb.imp id (fun e => by cases e; exact hge))).below h3, (h2.lower h.size).wider (fun b hb => .inl ?_), fun g' e1 e2 => ?_⟩, h3⟩
   ·rcases hb with hb | hb
    ·exact Nat.lt_of_lt_of_le hb h.size
    ·exact (hv.rwo.blk hb).2
   ·have := (hv.rwo.blk e1).2
    have e3 : some g = some g' := e2
    cases e3; omega)
 clear hr hd hp hA0 hE0
 go_enter Tryz.func48, Tryz.ntmps48
 go_wp2_with fail
 rw [← hw0]
 rw [← hH]
 clear hw0 hH
 refine zG 9 (S := (fun w' => w'.cell? ⟨H, 1, none⟩ = some (.slice B s.ents.length d))) (by kernel_rfl) ?_ (fun hHeld => ?_)
 ·exact HSB.out _ (Below.refl _ w0).drew
 have hB := (Below.refl w0.heap.size w0).drew
 generalize w0.drew = wn0 at *
 refine sqTT 0 ?_;try simp only [sqP]
 refine sqTT 3 ?_;try simp only [sqP]
 refine sqTT 4 ?_;try simp only [sqP]
 refine zp (rs := [1]) (by kernel_rfl) (by simp) ?_
 refine ze.cons (o := _) rfl (fun K hK => ?_) ?_
 ·
  have c0 := HC0.out _ hB
  go_simp
  refine QW hK ?_ (Below wn0.heap.size wn0) (fun W => True) ?_ ?_ (fun wn1 hHeld hst hnew => ?_)
  ·(exact HSB.out _ (hB.trans (Below.mono (show Below wn0.heap.size wn0 _ from by (first | exact hb5 | exact Below.refl _ _)) hB.size)))
  ·(first | exact hb5 | exact Below.refl _ _)
  ·(trivial)
  have hB := hB.trans (hst.mono hB.size)
  clear hst
  clear hK K
  try simp only [sqP]
  refine zp (rs := [2]) (by kernel_rfl) (by simp) ?_
  refine ze.cons (o := _) rfl (fun K hK => ?_) ?_
  ·
   go_simp
   refine (HCB.out wn1 hB).mono ?_
   rintro e5 w5 ⟨g1, rfl, hx5, hb5⟩
   dsimp only
   refine QW hK ?_ (Below wn1.heap.size wn1) (fun W => RwX BlobS 96 W w0.heap.size (.slice (some ⟨g1, 0, none⟩) s.blobs.length s.blobs.length) s.blobs (fun b => b < w0.heap.size)) ?_ ?_ (fun wn2 hHeld hst hnew => ?_)
   ·(exact HSB.out _ (hB.trans (Below.mono (show Below wn1.heap.size wn1 _ from by (first | exact hb5 | exact Below.refl _ _)) hB.size)))
   ·(first | exact hb5 | exact Below.refl _ _)
   ·(exact hx5)
   have hB := hB.trans (hst.mono hB.size)
   have hv1 := hnew
   clear hnew
   clear hst
   clear hK K
   try simp only [sqP]
   refine sqTT 6 ?_;try simp only [sqP]
   refine zp (rs := [5]) (by kernel_rfl) (by simp) ?_
   refine ze.cons (o := _) rfl (fun K hK => ?_) ?_
   ·
    go_simp
    refine (HCE.out wn2 _ hB hv1).mono ?_
    rintro e5 w5 ⟨g2, rfl, hx5, hb5⟩
    dsimp only
    refine QW hK ?_ (Below wn2.heap.size wn2) (fun W => OwSt W w0.heap.size (.slice (some ⟨g1, 0, none⟩) s.blobs.length s.blobs.length) (.slice (some ⟨g2, 0, none⟩) s.ents.length s.ents.length) s (fun b => b < w0.heap.size)) ?_ ?_ (fun wn3 hHeld hst hnew => ?_)
    ·(exact HSB.out _ (hB.trans (Below.mono (show Below wn2.heap.size wn2 _ from by (first | exact hb5 | exact Below.refl _ _)) hB.size)))
    ·(first | exact hb5 | exact Below.refl _ _)
    ·(exact hx5)
    have hB := hB.trans (hst.mono hB.size)
    have ho := hnew
    clear hnew hv1
    clear hst
    clear hK K
    try simp only [sqP]
    refine zp (rs := [7]) (by kernel_rfl) (by simp) ?_
    refine ze.cons (o := _) rfl (fun K hK => ?_) ?_
    ·
     have fz := (hS.below hB).frozen 0
     have cz := (hS.below hB).cell (k := 0) rfl
     go_simp
     clear fz cz
     refine QW hK ?_ (fun W => Arr W H 26 [(.slice (some ⟨g1, 0, none⟩) s.blobs.length s.blobs.length), .slice B s.ents.length d, .int .i64 (s.room : Int), .int .i64 (s.clock : Int)] ∧ Arr W (H + 1) 26 [.slice none 0 0, .slice none 0 0, .int .i64 0, .int .i64 0]) (fun W => OwSt W w0.heap.size (.slice (some ⟨g1, 0, none⟩) s.blobs.length s.blobs.length) (.slice (some ⟨g2, 0, none⟩) s.ents.length s.ents.length) s (fun b => b < w0.heap.size) ∧ Below H w W) ?_ ?_ (fun wn4 hHeld hF hG => ?_)
     ·exact ((hS.below hB).set (k := 0) (by simp) (.slice (some ⟨g1, 0, none⟩) s.blobs.length s.blobs.length)).cell (k := 1) rfl
     ·exact ⟨(hS.below hB).set (k := 0) (by simp) (.slice (some ⟨g1, 0, none⟩) s.blobs.length s.blobs.length), (hR.below hB).other (by omega) (.slice (some ⟨g1, 0, none⟩) s.blobs.length s.blobs.length)⟩
     ·exact ⟨ho.set hHl hHl (.slice (some ⟨g1, 0, none⟩) s.blobs.length s.blobs.length), (hb0.trans (hB.mono (Nat.le_of_lt hHl))).setCell (p := ⟨H, 0, none⟩) (Nat.le_refl _) (.slice (some ⟨g1, 0, none⟩) s.blobs.length s.blobs.length)⟩
     clear hB ho
     clear hK K
     try simp only [sqP]
     refine sqTT 8 ?_;try simp only [sqP]
     refine zp (rs := [9]) (by kernel_rfl) (by simp) ?_
     refine ze.last (o := _) rfl (fun K hK => ?_)
     have fz := hF.1.frozen 1
     have cz := hF.1.cell (k := 1) rfl
     go_simp
     clear fz cz
     refine J6 hK ?_
     clear hK K
     try simp only [sqP]
     refine kh (by kernel_rfl) ?_ _
     dsimp only [Exit.then]
     clear hHeld
     obtain ⟨hS7, hR7⟩ := hF
     obtain ⟨ho7, hb7⟩ := hG
     have hS9 : Arr (wn4.setCell ⟨H, 1, none⟩ (.slice (some ⟨g2, 0, none⟩) s.ents.length s.ents.length)) H 26 [(.slice (some ⟨g1, 0, none⟩) s.blobs.length s.blobs.length), (.slice (some ⟨g2, 0, none⟩) s.ents.length s.ents.length), .int .i64 (s.room : Int), .int .i64 (s.clock : Int)] := hS7.set (k := 1) (by simp) (.slice (some ⟨g2, 0, none⟩) s.ents.length s.ents.length)
     have hR9 := hR7.other (g' := H) (k := 1) (by omega) (.slice (some ⟨g2, 0, none⟩) s.ents.length s.ents.length)
     have ho9 := ho7.set (k := 1) hHl hHl (.slice (some ⟨g2, 0, none⟩) s.ents.length s.ents.length)
     have hb9 := hb7.setCell (p := ⟨H, 1, none⟩) (Nat.le_refl _) (.slice (some ⟨g2, 0, none⟩) s.ents.length s.ents.length)
     clear hS7 hR7 ho7 hb7 hS hR
     generalize wn4.setCell ⟨H, 1, none⟩ (.slice (some ⟨g2, 0, none⟩) s.ents.length s.ents.length) = w9 at *
     have z0 := hS9.cell (k := 0) rfl
     have z1 := hS9.cell (k := 1) rfl
     have z2 := hS9.cell (k := 2) rfl
     have z3 := hS9.cell (k := 3) rfl
     have f0 := hR9.frozen 0
     have f1 := hR9.frozen 1
     have f2 := hR9.frozen 2
     have f3 := hR9.frozen 3
     have y0 := hR9.cell (k := 0) rfl
     have y1 := hR9.cell (k := 1) rfl
     have y2 := hR9.cell (k := 2) rfl
     have y3 := hR9.cell (k := 3) rfl
     have hfin := hR9.all4 (.slice (some ⟨g1, 0, none⟩) s.blobs.length s.blobs.length) (.slice (some ⟨g2, 0, none⟩) s.ents.length s.ents.length) (.int .i64 (s.room : Int)) (.int .i64 (s.clock : Int))
     have ho10 := (((ho9.set (g := H + 1) (k := 0) (by omega) (by omega) (.slice (some ⟨g1, 0, none⟩) s.blobs.length s.blobs.length)).set (g := H + 1) (k := 1) (by omega) (by omega) (.slice (some ⟨g2, 0, none⟩) s.ents.length s.ents.length)).set (g := H + 1) (k := 2) (by omega) (by omega) (.int .i64 (s.room : Int))).set (g := H + 1) (k := 3) (by omega) (by omega) (.int .i64 (s.clock : Int))
     have hb10 := (((hb9.setCell (p := ⟨H + 1, 0, none⟩) (by simp only; omega) (.slice (some ⟨g1, 0, none⟩) s.blobs.length s.blobs.length)).setCell (p := ⟨H + 1, 1, none⟩) (by simp only; omega) (.slice (some ⟨g2, 0, none⟩) s.ents.length s.ents.length)).setCell (p := ⟨H + 1, 2, none⟩) (by simp only; omega) (.int .i64 (s.room : Int))).setCell (p := ⟨H + 1, 3, none⟩) (by simp only; omega) (.int .i64 (s.clock : Int))
     clear hR9 ho9 hb9 hS9
     go_wp2_with fail
     clear z0 z1 z2 z3 f0 f1 f2 f3 y0 y1 y2 y3
     refine bodyPost_ret (results_cell_row rfl _ _ (H + 1) _ _ _ _ (by rfl) hfin Tryz.underlying26 rfl (by kernel_rfl)) rfl ?_
     exact ⟨g1, g2, rfl, (ho10.lower (base' := H) (by omega)).wider (N' := fun b => b < H) (fun b hb => .inl (by omega)), hb10⟩
    exact ze.nil
   exact ze.nil
  exact ze.nil
 exact ze.nil
end Go.Proofs.YtpbacomdoddhdaaGreat
