/- Lemmas of the proof. Conditions: as stated. -/
import Derived.Test.YtpbacomdoddhdaaGreatQK15
import Derived.Test.YtpbacomdoddhdaaGreatQK16
import Derived.Test.YtpbacomdoddhdaaGreatQK18
set_option linter.unusedVariables false
set_option linter.unusedSimpArgs false
set_option maxRecDepth 100000
namespace Go.Proofs.YtpbacomdoddhdaaGreat
open Go.RowKit
section
variable {α : Type} {f : α → List UInt8} {l : List α} {d : List UInt8} {i : Nat}
theorem uP (h1 : ∀ k (h : k < l.length), k < i → Op.bytesLess (f l[k]) d = true) (hi : i < l.length) (he : f l[i] = d) : l.findIdx? (fun x => f x == d) = some i := by
 rw [List.findIdx?_eq_some_iff_getElem]
 exact ⟨hi, by simp [he], fun k hk => by
  have := xf (h1 k (by omega) hk)
  simp [this]⟩
theorem QI (hr : RisesBy f l) (h1 : ∀ k (h : k < l.length), k < i → Op.bytesLess (f l[k]) d = true) (h2 : ∀ k (h : k < l.length), i ≤ k → Op.bytesLess (f l[k]) d = false) (hn : ¬ ∃ h : i < l.length, f l[i] = d) :
  (∀ x ∈ l, f x ≠ d) ∧ ∀ k (h : k < l.length), i ≤ k → Op.bytesLess d (f l[k]) = true := by
 have hp := List.pairwise_iff_getElem.1 hr
 have h3 : ∀ k (h : k < l.length), i ≤ k → Op.bytesLess d (f l[k]) = true := fun k h hk => by
  have hi : i < l.length := by omega
  have h4 : Op.bytesLess d (f l[i]) = true := by
   rcases xe d (f l[i]) with h | h | h
   ·exact h
   ·exact absurd ⟨hi, h.symm⟩ hn
   ·rw [h2 i hi (Nat.le_refl _)] at h; cases h
  rcases Nat.lt_or_ge i k with h5 | h5
  ·exact zO h4 (hp i k hi h h5)
  ·obtain rfl : i = k := by omega
   exact h4
 refine ⟨fun x hx e => ?_, h3⟩
 obtain ⟨k, hk, rfl⟩ := List.mem_iff_getElem.1 hx
 rcases Nat.lt_or_ge k i with h5 | h5
 ·exact xf (h1 k hk h5) e
 ·exact xf (h3 k hk h5) e.symm
theorem Up (hr : RisesBy f l) (h1 : ∀ k (h : k < l.length), k < i → Op.bytesLess (f l[k]) d = true) (h2 : ∀ k (h : k < l.length), i ≤ k → Op.bytesLess (f l[k]) d = false) (hn : ¬ ∃ h : i < l.length, f l[i] = d) {x : α} (hx : f x = d) :
  RisesBy f (l.take i ++ x :: l.drop i) ∧ (l.take i ++ x :: l.drop i).Perm (x :: l) := by
 have h3 := (QI hr h1 h2 hn).2
 have ht : ∀ a ∈ l.take i, Op.bytesLess (f a) d = true := fun a ha => by
  obtain ⟨k, hk, rfl⟩ := List.mem_iff_getElem.1 ha
  rw [List.length_take] at hk
  rw [List.getElem_take]
  exact h1 k (by omega) (by omega)
 have hd : ∀ a ∈ l.drop i, Op.bytesLess d (f a) = true := fun a ha => by
  obtain ⟨k, hk, rfl⟩ := List.mem_iff_getElem.1 ha
  rw [List.length_drop] at hk
  rw [List.getElem_drop]
  exact h3 (i + k) (by omega) (by omega)
 refine ⟨List.pairwise_append.2 ⟨hr.sublist (List.take_sublist _ _), List.pairwise_cons.2 ⟨fun a ha => by rw [hx]; exact hd a ha, hr.sublist (List.drop_sublist _ _)⟩, fun a ha b hb => ?_⟩, ?_⟩
 ·rcases List.mem_cons.1 hb with rfl | hb
  ·rw [hx]; exact ht a ha
  ·exact zO (ht a ha) (hd b hb)
 ·have := (List.perm_middle (a := x) (l₁ := l.take i) (l₂ := l.drop i))
  rwa [List.take_append_drop] at this
theorem V0 (hr : RisesBy f l) (h1 : ∀ k (h : k < l.length), k < i → Op.bytesLess (f l[k]) d = true) (h2 : ∀ k (h : k < l.length), i ≤ k → Op.bytesLess (f l[k]) d = false) (hn : ¬ ∃ h : i < l.length, f l[i] = d) {x : α} (hx : f x = d) :
  l.take i ++ x :: l.drop i = srt f (x :: l) := by
 obtain ⟨a, b⟩ := Up hr h1 h2 hn hx
 exact Ka a b
theorem XN (hr : RisesBy f l) (h1 : ∀ k (h : k < l.length), k < i → Op.bytesLess (f l[k]) d = true) (h2 : ∀ k (h : k < l.length), i ≤ k → Op.bytesLess (f l[k]) d = false) (hn : ¬ ∃ h : i < l.length, f l[i] = d) : l.findIdx? (fun x => f x == d) = none := by
 rw [List.findIdx?_eq_none_iff]
 intro x hx
 have := (QI hr h1 h2 hn).1 x hx
 simp [this]
end
def yF (l : List EntP) (x : EntP) : List EntP := match l.findIdx? (fun y => y.key == x.key) with | some i => l.set i { x with pins := (match l[i]? with | some y => y.pins | none => 0) } | none => srt (·.key) (x :: l)
def putB (l : List BlobP) (d : List UInt8) : List BlobP := match l.findIdx? (fun b => b.dig == shaS d) with | some _ => l | none => srt (·.dig) (⟨shaS d, d, 0, false⟩ :: l)
theorem XI {α : Type} {f : α → List UInt8} {l : List α} {x : α} (hr : RisesBy f l) (hn : l.findIdx? (fun y => f y == f x) = none) : RisesBy f (srt f (x :: l)) := qT (by
 rw [List.map_cons, List.nodup_cons]
 refine ⟨fun h => ?_, Rises.nodup (RisesBy.map hr)⟩
 obtain ⟨y, hy, e⟩ := List.mem_map.1 h
 have := List.findIdx?_eq_none_iff.1 hn y hy
 simp [e] at this)
theorem Kd {l : List EntP} {i : Nat} {x : EntP} (hr : RisesBy (·.key) l) (hi : i < l.length) (hk : x.key = l[i].key) : RisesBy (·.key) (l.set i x) := by
 have h : (l.set i x).map (·.key) = l.map (·.key) := by
  rw [List.map_set, hk]
  apply List.ext_getElem?
  intro k
  rw [List.getElem?_set]
  split
  ·rename_i e; subst e; rw [List.length_map, if_pos hi, List.getElem?_map, List.getElem?_eq_getElem hi]; rfl
  ·rfl
 have h1 : Rises ((l.set i x).map (·.key)) := by rw [h]; exact hr.map
 exact List.pairwise_map.1 h1
theorem j6 {l : List EntP} {x : EntP} (hg : GoodE l) (hx : GoodE1 x) (hlen : l.length < 10) : GoodE (yF l x) := by
 unfold yF
 cases hf : l.findIdx? (fun y => y.key == x.key) with
 | none =>
  refine ⟨?_, fun y hy => ?_, XI hg.ris hf⟩
  ·rw [(zw _ _).length_eq]; simp; omega
  ·rcases List.mem_cons.1 ((zw _ _).mem_iff.1 hy) with rfl | h
   ·exact hx
   ·exact hg.one y h
 | some i =>
  obtain ⟨hi, he, _⟩ := List.findIdx?_eq_some_iff_getElem.1 hf
  have he' : l[i].key = x.key := by simpa using he
  show GoodE (l.set i { x with pins := (match l[i]? with | some y => y.pins | none => 0) })
  rw [List.getElem?_eq_getElem hi]
  refine ⟨by rw [List.length_set]; exact hg.len, fun y hy => ?_, Kd hg.ris hi he'.symm⟩
  rcases List.mem_or_eq_of_mem_set hy with h | h
  ·exact hg.one y h
  ·subst h
   obtain ⟨a, b, c, e⟩ := hx
   exact ⟨a, b, (hg.one _ (List.getElem_mem hi)).2.2.1, e⟩
theorem Qu {l : List BlobP} {d : List UInt8} (hg : GoodB l) (hd : d.length ≤ 300) (hlen : l.length < 24) : GoodB (putB l d) := by
 unfold putB
 cases hf : l.findIdx? (fun b => b.dig == shaS d) with
 | none =>
  refine ⟨?_, fun y hy => ?_, XI (f := fun b : BlobP => b.dig) (x := ⟨shaS d, d, 0, false⟩) hg.ris hf⟩
  ·rw [(zw _ _).length_eq]; simp; omega
  ·rcases List.mem_cons.1 ((zw _ _).mem_iff.1 hy) with rfl | h
   ·exact ⟨rfl, hd, by show 0 ≤ 5; omega⟩
   ·exact hg.one y h
 | some i => exact hg
theorem RwX.put4 {α : Type} {S : Shp α} {e : TypeId} {w : World} {base g cap : Nat} {l : List α} {N : Nat → Prop} {i : Nat} {x : α} {u0 u1 u2 u3 : Value} (h : RwX S e w base (.slice (some ⟨g, 0, none⟩) l.length cap) l N) (h4 : S.size = 4) (hi : i < l.length)
  (hR : S.R w x [u0, u1, u2, u3]) (hl : ∀ b, (b = g ∨ N b) → ¬ leads b [u0, u1, u2, u3]) :
  RwX S e (put4 w g (i * 4) u0 u1 u2 u3) base (.slice (some ⟨g, 0, none⟩) l.length cap) (l.set i x) N ∧ w.grownBy (put4 w g (i * 4) u0 u1 u2 u3) (some g) := by
 obtain ⟨ps, h1, h2, h3, h5⟩ := h
 have hpl : ps.length = l.length := by rw [← h1, List.length_map]
 have hip : i < ps.length := by omega
 have hlen : ∀ p ∈ ps, p.2.length = 4 := fun p hp => by rw [h2.lens p hp, h4]
 have hli := hlen _ (List.getElem_mem hip)
 obtain ⟨a0, a1, a2, a3, ha⟩ : ∃ a0 a1 a2 a3, ps[i].2 = [a0, a1, a2, a3] := by
  match hq : ps[i].2, hli with
  | [a0, a1, a2, a3], _ => exact ⟨a0, a1, a2, a3, rfl⟩
 have e1 : cls ps = cls (ps.take i) ++ [a0, a1, a2, a3] ++ cls (ps.drop (i + 1)) := by
  conv => lhs; rw [← List.take_append_drop i ps, List.drop_eq_getElem_cons hip, kz, zG, ha]
  rw [List.append_assoc]
 rw [e1] at h3
 have hcl : (cls (ps.take i)).length = i * 4 := by
  rw [ul (s := 4) _ (fun p hp => hlen p (List.mem_of_mem_take hp)), List.length_take]
  rw [Nat.min_eq_left (by omega)]
 obtain ⟨ho, hg⟩ := uJ h3 hcl u0 u1 u2 u3
 have hall : ∀ p ∈ ps.set i (x, [u0, u1, u2, u3]), S.R w p.1 p.2 ∧ ∀ b, (b = g ∨ N b) → ¬ leads b p.2 := fun p hp => by
  rcases List.mem_or_eq_of_mem_set hp with h | h
  ·exact ⟨h2 p h, fun b hb => h5 p h b (hb.imp (fun e => by rw [e]; rfl) id)⟩
  ·subst h; exact ⟨hR, hl⟩
 refine ⟨⟨ps.set i (x, [u0, u1, u2, u3]), by rw [List.map_set, h1], ?_, ?_, fun p hp b hb => (hall p hp).2 b (hb.imp (fun e => (Option.some.inj e).symm) id)⟩, hg⟩
 ·exact qh.grown (w := w) (g := some g) (fun p hp => (hall p hp).1) hg (fun p hp b hb => (hall p hp).2 b (.inl (Option.some.inj hb).symm))
 ·have e2 : cls (ps.set i (x, [u0, u1, u2, u3])) = cls (ps.take i) ++ [u0, u1, u2, u3] ++ cls (ps.drop (i + 1)) := by
   rw [U1 (s := 4) ps i _ hip hlen, qX (s := 4) ps i hlen, ka (s := 4) ps (i + 1) hlen]
  rw [List.length_set, e2]; exact ho
theorem qx {d : List UInt8} (h : hexC d = 0) : d.length = 64 := by
 unfold hexC at h
 by_cases h64 : d.length = 64
 ·exact h64
 ·rw [if_pos (by omega)] at h; cases h
theorem Zw {x : List PartP} (h : chk x = 0) : Z5 x := fun p hp => by
 obtain ⟨h1, h2, h3⟩ := (zi h).2 p hp
 have e1 := kE h1
 have e2 := qx h2
 exact ⟨by omega, by omega, by omega⟩
theorem Qp (l : List UInt8) : yj (shaS l) l = 0 := by
 rw [yj, zv, if_neg (by decide), if_neg (by simp)]
set_option maxHeartbeats 8000000 in
theorem xY (A : Option Addr) (c : Nat) (l : List BlobP) (w : World) (hg : GoodB l) (hA : Rw BlobS w A l) :
  Calls Tryz.prog 81 #[.slice A l.length c] w fun e w' => e = .returned (.int .i64 0) ∧ Below w.heap.size w w' := by
 have HG := Lib.hid hg
 have hl := hg.len
 have hps := List.pairwise_iff_getElem.1 hg.ris
 have HPS := Lib.hid hps
 clear hg hps
 go_enter Tryz.func81, Tryz.ntmps81
 go_wp2_with fail
 go_loopg [11] l.length (fun gn i wr => ∃ j : Nat, gn = l.length - j ∧ i = .int .i64 j ∧ j ≤ l.length ∧ Below w.heap.size w wr)
 case atStart => exact ⟨0, rfl, rfl, by omega, Below.refl _ _⟩
 case round =>
  obtain ⟨j, hgk, rfl, hj, hbl⟩ := hrel
  have HGK := Lib.hid hgk
  clear hgk
  by_cases hlt : j < l.length
  ·have hcc : decide (j < l.length) = true := decide_eq_true hlt
   have hA2 := hA.below hbl
   obtain ⟨b, off, B, cb, rfl, hbb, c0, c1, c2, c3, hs⟩ := hA2.blob_at j hlt
   have hj0 : (0 : Int) ≤ (j : Int) := by omega
   have hj1 : (j : Int) < (l.length : Int) := by omega
   have HG1 := Lib.hid (HG.out.one l[j] (List.getElem_mem hlt))
   have hprev : 0 < j → ∃ q : List UInt8, Op.bytesLess q l[j].dig = true ∧ wr.cell? ⟨b, off + (j - 1) * 4, none⟩ = some (.string ⟨q.toArray⟩) := fun h0 => by
    obtain ⟨b', off', B', cb', e1, _, d0, _⟩ := hA2.blob_at (j - 1) (by omega)
    cases e1
    exact ⟨_, HPS.out (j - 1) j (by omega) hlt (by omega), d0⟩
   generalize l[j] = x at *
   obtain ⟨sx, hsx⟩ : ∃ s : ByteArray, s = ⟨x.dig.toArray⟩ := ⟨_, rfl⟩
   rw [← hsx] at c0
   have HSX := Lib.hid hsx
   have HSL := Lib.hid (show sx.data.toList = x.dig by rw [hsx])
   clear hsx hA2
   have hX : Arr (wr.alloc (.cells #[.string sx, .slice B x.data.length cb, .int .i64 (x.pins : Int), (.bool x.mark)] 96)) wr.heap.size 96 [.string sx, .slice B x.data.length cb, .int .i64 (x.pins : Int), (.bool x.mark)] := Arr.new wr 96 _
   have hba := (Below.refl wr.heap.size wr).alloc (Nat.le_refl _) (.cells #[.string sx, .slice B x.data.length cb, .int .i64 (x.pins : Int), (.bool x.mark)] 96)
   have hb2 := hbl.trans (hba.mono hbl.size)
   have hs2 := hs.below hba
   have hq2 : 0 < j → ∃ q : List UInt8, Op.bytesLess q x.dig = true ∧ (wr.alloc (.cells #[.string sx, .slice B x.data.length cb, .int .i64 (x.pins : Int), (.bool x.mark)] 96)).cell? ⟨b, off + (j - 1) * 4, none⟩ = some (.string ⟨q.toArray⟩) := fun h0 => by
    obtain ⟨q, q1, q2⟩ := hprev h0
    exact ⟨q, q1, (hba.cell (p := ⟨b, off + (j - 1) * 4, none⟩) hbb).trans q2⟩
   have hbb2 : b < (wr.alloc (.cells #[.string sx, .slice B x.data.length cb, .int .i64 (x.pins : Int), (.bool x.mark)] 96)).heap.size := by simp; omega
   have x0 := hX.cell (k := 0) rfl
   have x1 := hX.cell (k := 1) rfl
   have x2 := hX.cell (k := 2) rfl
   have x3 := hX.cell (k := 3) rfl
   clear hprev hbl hba hs
   go_wp2_with fail
   generalize wr.alloc (.cells #[.string sx, .slice B x.data.length cb, .int .i64 (x.pins : Int), (.bool x.mark)] 96) = w2 at *
   generalize wr.heap.size = gx at *
   clear c0 c1 c2 c3 x0 x1 x2 x3
   obtain ⟨g1, g2, g3⟩ := HG1.out
   have hsz : sx.size ≤ 140737488351232 := by
    rw [HSX.out]; show (x.dig.toArray).size ≤ _; rw [List.size_toArray, g1, ut]; decide
   have HRT := XG sx B x.data.length cb x.data (x.pins : Int) x.mark w2 (by omega) (by omega) hsz rfl g2 hs2.cap hs2.rd
   rw [HSL.out, g1, Qp] at HRT
   have HRT := Lib.hid HRT
   clear g1 g2 g3 hsz hs2
   refine ((HRT.out)).mono ?_; rintro e_ w3 ⟨rfl, hb3⟩; dsimp only
   have hb23 := hb2.trans (hb3.mono hb2.size)
   have hX3 := hX.below hb3
   clear hX hb2
   by_cases h0 : 0 < j
   ·obtain ⟨q, q1, q2⟩ := hq2 h0
    have hkb : decide (0 < (j : Int)) = true := decide_eq_true (by omega)
    have hkc : decide ((j : Int) > 0) = true := decide_eq_true (by omega)
    have hkd : decide (0 < j) = true := decide_eq_true h0
    have hm1 : IntKind.i64.wrap ((j : Int) - 1) = (j : Int) - 1 := IntWalk.i64_in _ (by omega)
    have hm2 : ((j : Int) - 1).toNat = j - 1 := by omega
    have hm3 : (0 : Int) ≤ (j : Int) - 1 := by omega
    have hm4 : (j : Int) - 1 < (l.length : Int) := by omega
    have hm5 : (1 : Int) ≤ (j : Int) := by omega
    obtain ⟨sq, hsq⟩ : ∃ s : ByteArray, s = ⟨q.toArray⟩ := ⟨_, rfl⟩
    rw [← hsq] at q2
    have q3 := (hb3.cell (p := ⟨b, off + (j - 1) * 4, none⟩) hbb2).trans q2
    have l1 : Op.bytesLess sx.toList sq.toList = false := by
     rw [HSX.out, hsq, ByteArray.toList_eq, ByteArray.toList_eq]; exact ky q1
    have l2 : (sx.toList == sq.toList) = false := by
     rw [HSX.out, hsq, ByteArray.toList_eq, ByteArray.toList_eq, beq_eq_false_iff_ne]; exact (xf q1).symm
    have y0 := hX3.cell (k := 0) rfl
    clear hsq q1 q2 hq2
    go_wp2_with fail
    go_quiet (fail)
    go_wp2_with fail
    go_roundg (l.length - (j + 1))
    case measure => have := HGK.out; omega
    case rel => exact ⟨j + 1, rfl, by go_num, by omega, zR hb23 _⟩
   ·have hkb : decide (0 < (j : Int)) = false := decide_eq_false (by omega)
    have hkc : decide ((j : Int) > 0) = false := decide_eq_false (by omega)
    have hkd : decide (0 < j) = false := decide_eq_false h0
    clear hq2
    go_wp2_with fail
    go_quiet (fail)
    go_wp2_with fail
    go_roundg (l.length - (j + 1))
    case measure => have := HGK.out; omega
    case rel => exact ⟨j + 1, rfl, by go_num, by omega, zR hb23 _⟩
  ·obtain rfl : j = l.length := by omega
   have hcc : decide (l.length < l.length) = false := by simp
   go_wp2_with fail
   go_ret
   exact ⟨rfl, hbl⟩
set_option maxHeartbeats 8000000 in
theorem yo (A : Option Addr) (c : Nat) (l : List EntP) (w : World) (hg : GoodE l) (hA : Rw EntS w A l) :
  Calls Tryz.prog 82 #[.slice A l.length c] w fun e w' => e = .returned (.int .i64 0) ∧ Below w.heap.size w w' := by
 have HG := Lib.hid hg
 have hl := hg.len
 have hps := List.pairwise_iff_getElem.1 hg.ris
 have HPS := Lib.hid hps
 clear hg hps
 go_enter Tryz.func82, Tryz.ntmps82
 go_wp2_with fail
 go_loopg [13] l.length (fun gn i wr => ∃ j : Nat, gn = l.length - j ∧ i = .int .i64 j ∧ j ≤ l.length ∧ Below w.heap.size w wr)
 case atStart => exact ⟨0, rfl, rfl, by omega, Below.refl _ _⟩
 case round =>
  obtain ⟨j, hgk, rfl, hj, hbl⟩ := hrel
  have HGK := Lib.hid hgk
  clear hgk
  by_cases hlt : j < l.length
  ·have hcc : decide (j < l.length) = true := decide_eq_true hlt
   have hA2 := hA.below hbl
   obtain ⟨b, off, B, cb, rfl, hbb, c0, c1, c2, c3, hs⟩ := hA2.ent_at j hlt
   have hj0 : (0 : Int) ≤ (j : Int) := by omega
   have hj1 : (j : Int) < (l.length : Int) := by omega
   have HG1 := Lib.hid (HG.out.one l[j] (List.getElem_mem hlt))
   have hprev : 0 < j → ∃ q : List UInt8, Op.bytesLess q l[j].key = true ∧ wr.cell? ⟨b, off + (j - 1) * 4, none⟩ = some (.string ⟨q.toArray⟩) := fun h0 => by
    obtain ⟨b', off', B', cb', e1, _, d0, _⟩ := hA2.ent_at (j - 1) (by omega)
    cases e1
    exact ⟨_, HPS.out (j - 1) j (by omega) hlt (by omega), d0⟩
   generalize l[j] = x at *
   obtain ⟨sx, hsx⟩ : ∃ s : ByteArray, s = ⟨x.key.toArray⟩ := ⟨_, rfl⟩
   rw [← hsx] at c0
   have HSX := Lib.hid hsx
   have HSL := Lib.hid (show sx.data.toList = x.key by rw [hsx])
   clear hsx hA2
   have hX : Arr (wr.alloc (.cells #[.string sx, .slice B x.parts.length cb, .int .i64 (x.pins : Int), (.int .i64 (x.stamp : Int))] 65)) wr.heap.size 65 [.string sx, .slice B x.parts.length cb, .int .i64 (x.pins : Int), (.int .i64 (x.stamp : Int))] := Arr.new wr 65 _
   have hba := (Below.refl wr.heap.size wr).alloc (Nat.le_refl _) (.cells #[.string sx, .slice B x.parts.length cb, .int .i64 (x.pins : Int), (.int .i64 (x.stamp : Int))] 65)
   have hb2 := hbl.trans (hba.mono hbl.size)
   have hs2 := hs.below hba
   have hq2 : 0 < j → ∃ q : List UInt8, Op.bytesLess q x.key = true ∧ (wr.alloc (.cells #[.string sx, .slice B x.parts.length cb, .int .i64 (x.pins : Int), (.int .i64 (x.stamp : Int))] 65)).cell? ⟨b, off + (j - 1) * 4, none⟩ = some (.string ⟨q.toArray⟩) := fun h0 => by
    obtain ⟨q, q1, q2⟩ := hprev h0
    exact ⟨q, q1, (hba.cell (p := ⟨b, off + (j - 1) * 4, none⟩) hbb).trans q2⟩
   have hbb2 : b < (wr.alloc (.cells #[.string sx, .slice B x.parts.length cb, .int .i64 (x.pins : Int), (.int .i64 (x.stamp : Int))] 65)).heap.size := by simp; omega
   have x0 := hX.cell (k := 0) rfl
   have x1 := hX.cell (k := 1) rfl
   have x2 := hX.cell (k := 2) rfl
   have x3 := hX.cell (k := 3) rfl
   clear hprev hbl hba hs
   go_wp2_with fail
   generalize wr.alloc (.cells #[.string sx, .slice B x.parts.length cb, .int .i64 (x.pins : Int), (.int .i64 (x.stamp : Int))] 65) = w2 at *
   generalize wr.heap.size = gx at *
   clear c0 c1 c2 c3 x0 x1 x2 x3
   obtain ⟨g1, g2, g3, g4⟩ := HG1.out
   have hsz : sx.size ≤ 140737488351232 := by
    have := qx g1
    rw [HSX.out]; show (x.key.toArray).size ≤ _; rw [List.size_toArray]; omega
   have HRT := ku sx w2 hsz
   rw [HSL.out, g1] at HRT
   have HRT := Lib.hid HRT
   have hpl := (zi g2).1
   have HPO := Lib.hid (Zw g2)
   have HG2 := Lib.hid g2
   have HPN := Lib.hid (fun w' => yz (x.pins : Int) (by omega) (by omega) w')
   have st1 : decide ((x.stamp : Int) < 0) = false := decide_eq_false (by omega)
   have st2 : decide ((x.stamp : Int) > 1099511627776) = false := decide_eq_false (by omega)
   have st3 : decide ((1099511627776 : Int) < (x.stamp : Int)) = false := decide_eq_false (by omega)
   have st4 : decide (1099511627776 < x.stamp) = false := decide_eq_false (by omega)
   clear g1 g2 hsz
   refine ((HRT.out)).mono ?_; rintro e_ w3 ⟨rfl, hb3⟩; dsimp only
   have hb23 := hb2.trans (hb3.mono hb2.size)
   have hX3 := hX.below hb3
   have hs3 := hs2.below hb3
   have HMC := Lib.hid (show ∀ w', Below w3.heap.size w3 w' → Calls Tryz.prog 114 #[.slice B x.parts.length cb] w' fun e w'' => e = .returned (.int .i64 0) ∧ Below w'.heap.size w' w'' from fun w' hb => by
    have := uB B x.parts.length cb x.parts w' rfl hs3.cap (by omega) HPO.out (hs3.below hb).rd
    rwa [HG2.out] at this)
   clear hX hb2 hs2 hs3
   by_cases h0 : 0 < j
   ·obtain ⟨q, q1, q2⟩ := hq2 h0
    have hkb : decide (0 < (j : Int)) = true := decide_eq_true (by omega)
    have hkc : decide ((j : Int) > 0) = true := decide_eq_true (by omega)
    have hkd : decide (0 < j) = true := decide_eq_true h0
    have hm1 : IntKind.i64.wrap ((j : Int) - 1) = (j : Int) - 1 := IntWalk.i64_in _ (by omega)
    have hm2 : ((j : Int) - 1).toNat = j - 1 := by omega
    have hm3 : (0 : Int) ≤ (j : Int) - 1 := by omega
    have hm4 : (j : Int) - 1 < (l.length : Int) := by omega
    have hm5 : (1 : Int) ≤ (j : Int) := by omega
    obtain ⟨sq, hsq⟩ : ∃ s : ByteArray, s = ⟨q.toArray⟩ := ⟨_, rfl⟩
    rw [← hsq] at q2
    have q3 := (hb3.cell (p := ⟨b, off + (j - 1) * 4, none⟩) hbb2).trans q2
    have l1 : Op.bytesLess sx.toList sq.toList = false := by
     rw [HSX.out, hsq, ByteArray.toList_eq, ByteArray.toList_eq]; exact ky q1
    have l2 : (sx.toList == sq.toList) = false := by
     rw [HSX.out, hsq, ByteArray.toList_eq, ByteArray.toList_eq, beq_eq_false_iff_ne]; exact (xf q1).symm
    have y0 := hX3.cell (k := 0) rfl
    clear hsq q1 q2 hq2
    go_wp2_with fail
    go_quiet (fail)
    have hb34 := fun n => zR (Below.refl w3.heap.size w3) n
    have hb24 := fun n => zR hb23 n
    have y1 := fun n => (hX3.drewN n).cell (k := 1) rfl
    go_wp2_with fail
    refine ((HMC.out _ (hb34 _))).mono ?_; rintro e_ w5 ⟨rfl, hb5⟩; dsimp only
    have hb25 := (hb24 _).trans (hb5.mono (hb24 _).size)
    have hX5 := (hX3.below (hb34 _)).below hb5
    clear y1 hb34 hb24
    have y2 := hX5.cell (k := 2) rfl
    have y3 := hX5.cell (k := 3) rfl
    go_wp2_with fail
    refine ((HPN.out w5)).mono ?_; rintro e_ _ ⟨rfl, rfl⟩; dsimp only
    go_wp2_with fail
    go_roundg (l.length - (j + 1))
    case measure => have := HGK.out; omega
    case rel => exact ⟨j + 1, rfl, by go_num, by omega, hb25⟩
   ·have hkb : decide (0 < (j : Int)) = false := decide_eq_false (by omega)
    have hkc : decide ((j : Int) > 0) = false := decide_eq_false (by omega)
    have hkd : decide (0 < j) = false := decide_eq_false h0
    clear hq2
    go_wp2_with fail
    go_quiet (fail)
    have hb34 := fun n => zR (Below.refl w3.heap.size w3) n
    have hb24 := fun n => zR hb23 n
    have y1 := fun n => (hX3.drewN n).cell (k := 1) rfl
    go_wp2_with fail
    refine ((HMC.out _ (hb34 _))).mono ?_; rintro e_ w5 ⟨rfl, hb5⟩; dsimp only
    have hb25 := (hb24 _).trans (hb5.mono (hb24 _).size)
    have hX5 := (hX3.below (hb34 _)).below hb5
    clear y1 hb34 hb24
    have y2 := hX5.cell (k := 2) rfl
    have y3 := hX5.cell (k := 3) rfl
    go_wp2_with fail
    refine ((HPN.out w5)).mono ?_; rintro e_ _ ⟨rfl, rfl⟩; dsimp only
    go_wp2_with fail
    go_roundg (l.length - (j + 1))
    case measure => have := HGK.out; omega
    case rel => exact ⟨j + 1, rfl, by go_num, by omega, hb25⟩
  ·obtain rfl : j = l.length := by omega
   have hcc : decide (l.length < l.length) = false := by simp
   go_wp2_with fail
   go_ret
   exact ⟨rfl, hbl⟩
theorem UU (w : World) : (zeroValue 96).run Tryz.prog w = .ok (.agg #[.string ByteArray.empty, .slice none 0 0, .int .i64 0, .bool false]) w := by kernel_rfl
set_option maxHeartbeats 4000000 in
theorem X9 (g i n cap base : Nat) (xs : List Value) (w : World) (h : w.ownsRow base 96 4 (.slice (some ⟨g, 0, none⟩) n cap) n xs) (hi : i < n) (hx : ∀ u ∈ xs, u.oneCell' = true) :
  Calls Tryz.prog 190 #[.slice (some ⟨g, 0, none⟩) n cap, .int .i64 i, .int .i64 ((i : Int) + 1)] w fun e w' => e = .returned (.slice (some ⟨g, 0, none⟩) (n - 1) cap) ∧
   w'.ownsRow base 96 4 (.slice (some ⟨g, 0, none⟩) (n - 1) cap) (n - 1) (xs.take (i * 4) ++ xs.drop ((i + 1) * 4)) ∧ w.grownBy w' (some g) := by
 obtain ⟨g', cap', cs, e1, hbg, hA, hnc, hcm, hcl, hct⟩ := ZL h (by omega)
 injection e1 with e11 _ e13
 injection e11 with e11
 injection e11 with e11
 subst e11 e13
 obtain ⟨i0, hi0, hz0, hz1, hz2⟩ := info_parts (show (Tryz.prog.info? 96).map (fun i => (i.zero, i.size, i.bytes)) = some (some (.agg #[.string ByteArray.empty, .slice none 0 0, .int .i64 0, .bool false]), 4, 56) by kernel_rfl)
 obtain ⟨zs, hzs⟩ : ∃ zs, zs = (Builtin.zeroCells (Value.agg #[.string ByteArray.empty, .slice none 0 0, .int .i64 0, .bool false]).cells 1).toList := ⟨_, rfl⟩
 have hzs' : zs = [.string ByteArray.empty, .slice none 0 0, .int .i64 0, .bool false] := by rw [hzs]; kernel_rfl
 have hzl : zs.length = 4 := by rw [hzs']; rfl
 have hz1' : ∀ u ∈ zs, u.oneCell' = true := by rw [hzs']; intro u hu; simp at hu; rcases hu with rfl | rfl | rfl | rfl <;> rfl
 obtain ⟨a1, a2⟩ := VI (i := i) (n := n) (zs := zs) hA.drew hcl hnc hi hzl
 rw [hct] at a1 a2
 have hlen : (xs.drop ((i + 1) * 4)).length = (n - (i + 1)) * 4 := by rw [List.length_drop, h.1, Nat.sub_mul]
 obtain ⟨news, hnews⟩ : ∃ news, news = xs.drop ((i + 1) * 4) := ⟨_, rfl⟩
 rw [← hnews] at a1 a2 hlen
 obtain ⟨W1, hW1⟩ : ∃ W1, W1 = w.drew.setCells g (i * 4) news := ⟨_, rfl⟩
 rw [← hW1] at a1 a2
 have hr := Rd.of_own h
 have HC := Lib.hid (show ∀ k u, xs[k]? = some u → w.drew.cell? ⟨g, k, none⟩ = some u from fun k u hu => by
  refine Arr.cell hA.drew ?_
  rw [← hct, List.getElem?_take] at hu
  split at hu
  ·exact hu
  ·cases hu)
 obtain ⟨A, hAd, hsrc⟩ : ∃ A : Addr, (if cap = i + 1 then some (⟨g, 0, none⟩ : Addr) else some ⟨g, (i + 1) * 4, none⟩) = some A ∧ Hid (∀ t u, news[t]? = some u → w.drew.cell? (A.add t) = some u) := by
  by_cases hce : cap = i + 1
  ·refine ⟨⟨g, 0, none⟩, by simp [hce], Lib.hid fun t u hu => ?_⟩
   have h0 : news.length = 0 := by rw [hlen, show n - (i + 1) = 0 by omega]
   rw [List.length_eq_zero_iff.1 h0] at hu
   cases hu
  ·refine ⟨⟨g, (i + 1) * 4, none⟩, by simp [hce], Lib.hid fun t u hu => ?_⟩
   rw [hnews, List.getElem?_drop] at hu
   have := HC.out _ _ hu
   rw [Addr.add_lit]
   exact this
 have s1 := Lib.hid hlen
 have s2 := Lib.hid (show ∀ u ∈ news, u.oneCell' = true from fun u hu => hx u (by rw [hnews] at hu; exact List.mem_of_mem_drop hu))
 have s3 := Lib.hid (show ∀ t, t < news.length → (w.drew.cell? ⟨g, 0 + i * 4 + t, none⟩).isSome = true ∧ w.drew.frozen? ⟨g, 0 + i * 4 + t, none⟩ = false from fun t ht => by
  rw [hlen] at ht
  have hlt : i * 4 + t < xs.length := by rw [h.1]; omega
  rw [Nat.zero_add, HC.out _ _ (List.getElem?_eq_getElem hlt)]
  exact ⟨rfl, hA.drew.frozen _⟩)
 have hclr : ∀ ty, (Builtin.clear_ #[23] ty #[.slice (some ⟨g, (n - 1) * 4, none⟩) (n - (n - 1)) (cap - (n - 1))]).run Tryz.prog W1 = .ok (.tuple #[]) (W1.setCells g ((n - 1) * 4) zs) := fun ty => by
  rw [show n - (n - 1) = 1 by omega]
  exact uO W1 _ _ ty _ zs Tryz.underlying23 UU hzs.symm hz1' g _ _ (fun j hj => by
   have hk : (n - 1) * 4 + j < (cs.take (i * 4) ++ news ++ cs.drop ((n - 1) * 4)).length := by
    simp only [List.length_append, List.length_take, List.length_drop, hcl, hlen]; omega
   rw [a1.cell (List.getElem?_eq_getElem hk)]; rfl) (fun j hj => a1.frozen _)
 have hcapi : i ≤ cap := by omega
 have hci1 : i + 1 ≤ cap := by omega
 have hwi : ((i : Int) + 1).toNat = i + 1 := by omega
 have hp0 : (0 : Int) ≤ (i : Int) + 1 := by omega
 have hp1 : (i : Int) + 1 ≤ (n : Int) := by omega
 have hne : ((i : Int) == (i : Int) + 1) = false := by rw [beq_eq_false_iff_ne]; omega
 have A2 := Lib.hid a2
 have HW1 := Lib.hid hW1
 have HG := Lib.hid (show w.grownBy (W1.setCells g ((n - 1) * 4) zs) (some g) from (show w.grownBy w.drew (some g) from ⟨rfl, rfl, rfl, Nat.le_refl _, fun _ _ _ => rfl⟩).trans (by rw [hW1]; exact (qZ _ _ _).trans (qZ _ _ _)))
 have HL := Lib.hid hlen
 have HCL := Lib.hid hcl
 have HN := Lib.hid hnews
 have HT := Lib.hid hct
 have HX := Lib.hid h.1
 clear hW1 a1 a2 hct hnews hlen hzs hzs' hz1' hr hA HC hx hcl
 go_enter Tryz.func190, Tryz.ntmps190
 go_wp2_with fail
 go_region_law (refine step_append_room rfl (.tmp 22) (.tmp 25) 23 rfl 96 i0 4 Tryz.underlying23 hi0 hz1 g 0 i cap (by simp [Act.eval, Act.put]) A (n - (i + 1)) (cap - (i + 1)) news (by simp [Act.eval, Act.put]) s1.out hsrc.out s2.out (by omega) s3.out ?_; rw [Nat.zero_add, ← HW1.out])
 rw [show i + (n - (i + 1)) = n - 1 by omega]
 go_wp2_with fail
 go_ret
 refine ⟨rfl, ⟨?_, .inr ⟨g, cap, _, rfl, hbg, A2.out, by omega, hcm, ?_, ?_⟩⟩, HG.out⟩
 ·rw [← HN.out, List.length_append, List.length_take, HL.out, HX.out]; omega
 ·simp only [List.size_toArray, List.length_append, List.length_take, List.length_drop, HL.out, hzl, HCL.out]; omega
 ·have e1 : xs.take (i * 4) = cs.take (i * 4) := by rw [← HT.out, List.take_take, Nat.min_eq_left (by omega)]
  rw [e1, ← HN.out, List.append_assoc, List.take_left' (by rw [List.length_append, List.length_take, HL.out, HCL.out]; omega)]
theorem Vm (g i : Nat) (l : List BlobP) (base cap : Nat) (w : World) (N : Nat → Prop) (hi : i < l.length) (h : RwX BlobS 96 w base (.slice (some ⟨g, 0, none⟩) l.length cap) l N) :
  Calls Tryz.prog 190 #[.slice (some ⟨g, 0, none⟩) l.length cap, .int .i64 (i : Int), .int .i64 ((i : Int) + 1)] w fun e w' => e = .returned (.slice (some ⟨g, 0, none⟩) (l.eraseIdx i).length cap) ∧
   RwX BlobS 96 w' base (.slice (some ⟨g, 0, none⟩) (l.eraseIdx i).length cap) (l.eraseIdx i) N ∧ w.grownBy w' (some g) := by
 obtain ⟨ps, h1, h2, h3, h4⟩ := h
 have hlen : (l.eraseIdx i).length = l.length - 1 := List.length_eraseIdx_of_lt hi
 rw [hlen]
 refine (X9 g i l.length cap base (cls ps) w h3 hi h2.ones).mono ?_
 rintro e w' ⟨rfl, ho, hg⟩
 refine ⟨rfl, ⟨ps.eraseIdx i, ?_, ?_, ?_, fun p hp b hb => h4 p (List.mem_of_mem_eraseIdx hp) b hb⟩, hg⟩
 ·rw [← h1, List.eraseIdx_eq_take_drop_succ, List.eraseIdx_eq_take_drop_succ, List.map_append, List.map_take, List.map_drop]
 ·exact qh.grown (w := w) (g := some g) (fun p hp => h2 p (List.mem_of_mem_eraseIdx hp)) hg (fun p hp b hb => h4 p (List.mem_of_mem_eraseIdx hp) b (.inl hb))
 ·rw [← uY (s := 4) ps i h2.lens, hlen]; exact ho
def qI (l : List BlobP) : List PartP → Nat
 | [] => 0
 | p :: ps => match l.findIdx? (fun b => b.dig == p.dig) with
  | none => 5
  | some i => if (match l[i]? with | some b => b.data.length | none => 0) = p.size then qI l ps else 4
theorem U0 {α : Type} {f : α → List UInt8} {l : List α} (hr : RisesBy f l) {d : List UInt8} {x : α} (hx : x ∈ l) (hd : f x = d) : ∃ i, ∃ h : i < l.length, l.findIdx? (fun y => f y == d) = some i ∧ l[i] = x := by
 obtain ⟨i, hi, he⟩ := List.mem_iff_getElem.1 hx
 refine ⟨i, hi, ?_, he⟩
 rw [List.findIdx?_eq_some_iff_getElem]
 refine ⟨hi, by rw [he]; simp [hd], fun k hk => ?_⟩
 have := List.pairwise_iff_getElem.1 hr k i (by omega) hi hk
 rw [he, hd] at this
 simpa using xf this
theorem xV {l : List BlobP} (hr : RisesBy (·.dig) l) : ∀ {ps : List PartP}, Have l ps → qI l ps = 0
 | [], _ => rfl
 | p :: ps, h => by
  obtain ⟨b, hb, h1, h2⟩ := h p (by simp)
  obtain ⟨i, hi, h3, h4⟩ := U0 (f := fun b : BlobP => b.dig) hr hb h1
  rw [qI, h3]
  show (if (match l[i]? with | some b => b.data.length | none => 0) = p.size then _ else _) = _
  rw [List.getElem?_eq_getElem hi, h4]
  show (if b.data.length = p.size then _ else _) = _
  rw [if_pos h2, xV hr fun q hq => h q (by simp [hq])]
theorem kn {l : List BlobP} : ∀ {ps : List PartP}, qI l ps = 0 → Have l ps
 | [], _ => fun p hp => by cases hp
 | p :: ps, h => by
  rw [qI] at h
  cases hf : l.findIdx? (fun b => b.dig == p.dig) with
  | none => rw [hf] at h; cases h
  | some i =>
   rw [hf] at h
   obtain ⟨hi, he, _⟩ := List.findIdx?_eq_some_iff_getElem.1 hf
   have h' : (if (match l[i]? with | some b => b.data.length | none => 0) = p.size then qI l ps else 4) = 0 := h
   have h3 : (if l[i].data.length = p.size then qI l ps else 4) = 0 := by rw [List.getElem?_eq_getElem hi] at h'; exact h'
   by_cases h2 : l[i].data.length = p.size
   ·rw [if_pos h2] at h3
    intro q hq
    rcases List.mem_cons.1 hq with rfl | hq
    ·exact ⟨l[i], List.getElem_mem hi, by simpa using he, h2⟩
    ·exact kn h3 q hq
   ·rw [if_neg h2] at h3; cases h3
def zp (s : StoP) (d : List UInt8) : StoP := { s with blobs := putB s.blobs d }
def yB (s : StoP) (k : List UInt8) (ps : List PartP) : StoP := { s with ents := yF s.ents ⟨k, ps, 0, s.clock + 1⟩, clock := s.clock + 1 }
def ql (s : StoP) (i : Nat) (b : BlobP) (n : Nat) : StoP := { s with blobs := s.blobs.set i { b with pins := n } }
theorem Zg {l : List BlobP} {d : List UInt8} {b : BlobP} (h : b ∈ l) : b ∈ putB l d := by
 unfold putB
 cases l.findIdx? (fun b => b.dig == shaS d) with
 | none => exact (zw _ _).mem_iff.2 (List.mem_cons_of_mem _ h)
 | some i => exact h
theorem X0 (l : List BlobP) (d : List UInt8) : ∃ b ∈ putB l d, b.dig = shaS d := by
 unfold putB
 cases hf : l.findIdx? (fun b => b.dig == shaS d) with
 | none => exact ⟨_, (zw _ _).mem_iff.2 (List.mem_cons_self ..), rfl⟩
 | some i =>
  obtain ⟨hi, he, _⟩ := List.findIdx?_eq_some_iff_getElem.1 hf
  exact ⟨l[i], List.getElem_mem hi, by simpa using he⟩
theorem Qc {s : StoP} {d : List UInt8} (h : GoodS s) (hd : d.length ≤ 300) (hl : s.blobs.length < 24) (hr : usd (putB s.blobs d) ≤ s.room) : GoodS (zp s d) :=
 ⟨Qu h.b hd hl, h.e, h.room, hr, h.clock, fun x hx => ⟨(h.ent x hx).1, (h.ent x hx).2.mono fun b hb => Zg hb⟩⟩
theorem YZ {l : List EntP} {x y : EntP} (h : y ∈ yF l x) : y ∈ l ∨ (y.key = x.key ∧ y.parts = x.parts ∧ y.stamp = x.stamp ∧ (y.pins = x.pins ∨ ∃ z ∈ l, z.key = x.key ∧ y.pins = z.pins)) := by
 unfold yF at h
 cases hf : l.findIdx? (fun y => y.key == x.key) with
 | none =>
  rw [hf] at h
  rcases List.mem_cons.1 ((zw _ _).mem_iff.1 h) with h | h
  ·subst h; exact .inr ⟨rfl, rfl, rfl, .inl rfl⟩
  ·exact .inl h
 | some i =>
  rw [hf] at h
  obtain ⟨hi, he, _⟩ := List.findIdx?_eq_some_iff_getElem.1 hf
  have h' : y ∈ l.set i { x with pins := (match l[i]? with | some y => y.pins | none => 0) } := h
  rw [List.getElem?_eq_getElem hi] at h'
  rcases List.mem_or_eq_of_mem_set h' with h | h
  ·exact .inl h
  ·subst h; exact .inr ⟨rfl, rfl, rfl, .inr ⟨l[i], List.getElem_mem hi, by simpa using he, rfl⟩⟩
theorem vL {s : StoP} {k : List UInt8} {ps : List PartP} (h : GoodS s) (hk : hexC k = 0) (hp : chk ps = 0) (hh : Have s.blobs ps) (hc : s.clock < 1099511627776) (hl : s.ents.length < 10) : GoodS (yB s k ps) := by
 refine ⟨h.b, j6 h.e ⟨hk, hp, by show 0 ≤ 5; omega, by show s.clock + 1 ≤ _; omega⟩ hl, h.room, h.used, by show s.clock + 1 ≤ _; omega, fun x hx => ?_⟩
 rcases YZ hx with h1 | ⟨h1, h2, h3, _⟩
 ·have := h.ent x h1; exact ⟨by show x.stamp ≤ s.clock + 1; omega, this.2⟩
 ·exact ⟨by rw [h3]; exact Nat.le_refl _, by rw [h2]; exact hh⟩
theorem YN {l : List BlobP} {i : Nat} {x : BlobP} (hr : RisesBy (·.dig) l) (hi : i < l.length) (hk : x.dig = l[i].dig) : RisesBy (·.dig) (l.set i x) := by
 have h : (l.set i x).map (·.dig) = l.map (·.dig) := by
  rw [List.map_set, hk]
  apply List.ext_getElem?
  intro k
  rw [List.getElem?_set]
  split
  ·rename_i e; subst e; rw [List.length_map, if_pos hi, List.getElem?_map, List.getElem?_eq_getElem hi]; rfl
  ·rfl
 have h1 : Rises ((l.set i x).map (·.dig)) := by rw [h]; exact hr.map
 exact List.pairwise_map.1 h1
theorem YU {α β : Type} (f : α → β) {l : List α} {i : Nat} {x : α} (hi : i < l.length) (hk : f x = f l[i]) : (l.set i x).map f = l.map f := by
 rw [List.map_set, hk]
 apply List.ext_getElem?
 intro k
 rw [List.getElem?_set]
 split
 ·rename_i e; subst e; rw [List.length_map, if_pos hi, List.getElem?_map, List.getElem?_eq_getElem hi]; rfl
 ·rfl
theorem KX {s : StoP} {i : Nat} {x : BlobP} (h : GoodS s) (hi : i < s.blobs.length) (h1 : x.dig = s.blobs[i].dig) (h2 : x.data = s.blobs[i].data) (h3 : x.pins ≤ 5) : GoodS { s with blobs := s.blobs.set i x } := by
 have g := h.b.one _ (List.getElem_mem hi)
 refine ⟨⟨by rw [List.length_set]; exact h.b.len, fun y hy => (List.mem_or_eq_of_mem_set hy).elim (h.b.one y) (fun e => e ▸ ⟨by rw [h1, h2]; exact g.1, by rw [h2]; exact g.2.1, h3⟩), YN h.b.ris hi h1⟩, h.e, h.room, ?_, h.clock, fun y hy => ⟨(h.ent y hy).1, fun p hp => ?_⟩⟩
 ·show usd (s.blobs.set i x) ≤ _
  unfold usd
  rw [YU (fun b : BlobP => b.data.length) hi (by rw [h2])]
  exact h.used
 ·obtain ⟨b, hb, e1, e2⟩ := (h.ent y hy).2 p hp
  obtain ⟨k, hk, rfl⟩ := List.mem_iff_getElem.1 hb
  by_cases e : k = i
  ·subst e
   exact ⟨x, List.mem_iff_getElem.2 ⟨k, by rw [List.length_set]; exact hk, by simp⟩, by rw [h1]; exact e1, by rw [h2]; exact e2⟩
  ·exact ⟨_, List.mem_iff_getElem.2 ⟨k, by rw [List.length_set]; exact hk, List.getElem_set_ne (fun h => e h.symm) _⟩, e1, e2⟩
theorem vo {s : StoP} {i n : Nat} (h : GoodS s) (hi : i < s.blobs.length) (hn : n ≤ 5) : GoodS (ql s i s.blobs[i] n) := KX h hi rfl rfl hn
end Go.Proofs.YtpbacomdoddhdaaGreat
