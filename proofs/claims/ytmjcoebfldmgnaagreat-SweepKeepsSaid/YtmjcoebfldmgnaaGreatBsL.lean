/- What a binary search tells of a rising list; one element put in where it belongs. No condition. -/
import Derived.Test.YtmjcoebfldmgnaaGreatIns
import Derived.Test.YtmjcoebfldmgnaaGreatSort
import Derived.Test.YtmjcoebfldmgnaaGreatBlob
namespace Go.Proofs.YtmjcoebfldmgnaaGreat
open Go.RowKit
set_option linter.unusedVariables false
set_option linter.unusedSimpArgs false

section
variable {α : Type} {f : α → List UInt8} {l : List α} {d : List UInt8} {i : Nat}
theorem bs_found (h1 : ∀ k (h : k < l.length), k < i → Op.bytesLess (f l[k]) d = true) (hi : i < l.length) (he : f l[i] = d) : l.findIdx? (fun x => f x == d) = some i := by
  rw [List.findIdx?_eq_some_iff_getElem]
  exact ⟨hi, by simp [he], fun k hk => by
    have := bl_ne (h1 k (by omega) hk)
    simp [this]⟩
theorem bs_none (hr : RisesBy f l) (h1 : ∀ k (h : k < l.length), k < i → Op.bytesLess (f l[k]) d = true) (h2 : ∀ k (h : k < l.length), i ≤ k → Op.bytesLess (f l[k]) d = false) (hn : ¬ ∃ h : i < l.length, f l[i] = d) :
    (∀ x ∈ l, f x ≠ d) ∧ ∀ k (h : k < l.length), i ≤ k → Op.bytesLess d (f l[k]) = true := by
  have hp := List.pairwise_iff_getElem.1 hr
  have h3 : ∀ k (h : k < l.length), i ≤ k → Op.bytesLess d (f l[k]) = true := fun k h hk => by
    have hi : i < l.length := by omega
    have h4 : Op.bytesLess d (f l[i]) = true := by
      rcases bl_tri d (f l[i]) with h | h | h
      · exact h
      · exact absurd ⟨hi, h.symm⟩ hn
      · rw [h2 i hi (Nat.le_refl _)] at h; cases h
    rcases Nat.lt_or_ge i k with h5 | h5
    · exact bl_trans h4 (hp i k hi h h5)
    · obtain rfl : i = k := by omega
      exact h4
  refine ⟨fun x hx e => ?_, h3⟩
  obtain ⟨k, hk, rfl⟩ := List.mem_iff_getElem.1 hx
  rcases Nat.lt_or_ge k i with h5 | h5
  · exact bl_ne (h1 k hk h5) e
  · exact bl_ne (h3 k hk h5) e.symm
theorem bs_ins (hr : RisesBy f l) (h1 : ∀ k (h : k < l.length), k < i → Op.bytesLess (f l[k]) d = true) (h2 : ∀ k (h : k < l.length), i ≤ k → Op.bytesLess (f l[k]) d = false) (hn : ¬ ∃ h : i < l.length, f l[i] = d) {x : α} (hx : f x = d) :
    RisesBy f (l.take i ++ x :: l.drop i) ∧ (l.take i ++ x :: l.drop i).Perm (x :: l) := by
  have h3 := (bs_none hr h1 h2 hn).2
  have ht : ∀ a ∈ l.take i, Op.bytesLess (f a) d = true := fun a ha => by
    obtain ⟨k, hk, rfl⟩ := List.mem_iff_getElem.1 ha
    rw [List.length_take] at hk
    rw [List.getElem_take]
    exact h1 k (by omega) (by omega)
  have hd : ∀ a ∈ l.drop i, Op.bytesLess d (f a) = true := fun a ha => by
    obtain ⟨k, hk, rfl⟩ := List.mem_iff_getElem.1 ha
    rw [List.length_drop] at hk
    rw [List.getElem_drop]
    exact h3 (i + k) (by omega) (by omega)
  refine ⟨List.pairwise_append.2 ⟨hr.sublist (List.take_sublist _ _), List.pairwise_cons.2 ⟨fun a ha => by rw [hx]; exact hd a ha, hr.sublist (List.drop_sublist _ _)⟩, fun a ha b hb => ?_⟩, ?_⟩
  · rcases List.mem_cons.1 hb with rfl | hb
    · rw [hx]; exact ht a ha
    · exact bl_trans (ht a ha) (hd b hb)
  · have := (List.perm_middle (a := x) (l₁ := l.take i) (l₂ := l.drop i))
    rwa [List.take_append_drop] at this
theorem bs_srt (hr : RisesBy f l) (h1 : ∀ k (h : k < l.length), k < i → Op.bytesLess (f l[k]) d = true) (h2 : ∀ k (h : k < l.length), i ≤ k → Op.bytesLess (f l[k]) d = false) (hn : ¬ ∃ h : i < l.length, f l[i] = d) {x : α} (hx : f x = d) :
    l.take i ++ x :: l.drop i = srt f (x :: l) := by
  obtain ⟨a, b⟩ := bs_ins hr h1 h2 hn hx
  exact srt_eq a b
theorem bs_idx (hr : RisesBy f l) (h1 : ∀ k (h : k < l.length), k < i → Op.bytesLess (f l[k]) d = true) (h2 : ∀ k (h : k < l.length), i ≤ k → Op.bytesLess (f l[k]) d = false) (hn : ¬ ∃ h : i < l.length, f l[i] = d) : l.findIdx? (fun x => f x == d) = none := by
  rw [List.findIdx?_eq_none_iff]
  intro x hx
  have := (bs_none hr h1 h2 hn).1 x hx
  simp [this]
end
/-- index.Put -/
def putE (l : List EntP) (x : EntP) : List EntP := match l.findIdx? (fun y => y.key == x.key) with | some i => l.set i { x with pins := (match l[i]? with | some y => y.pins | none => 0) } | none => srt (·.key) (x :: l)
/-- blob.Put -/
def putB (l : List BlobP) (d : List UInt8) : List BlobP := match l.findIdx? (fun b => b.dig == shaS d) with | some _ => l | none => srt (·.dig) (⟨shaS d, d, 0, false⟩ :: l)
theorem srt_ok {α : Type} {f : α → List UInt8} {l : List α} {x : α} (hr : RisesBy f l) (hn : l.findIdx? (fun y => f y == f x) = none) : RisesBy f (srt f (x :: l)) := srt_rises (by
  rw [List.map_cons, List.nodup_cons]
  refine ⟨fun h => ?_, Rises.nodup (RisesBy.map hr)⟩
  obtain ⟨y, hy, e⟩ := List.mem_map.1 h
  have := List.findIdx?_eq_none_iff.1 hn y hy
  simp [e] at this)
theorem rises_set {l : List EntP} {i : Nat} {x : EntP} (hr : RisesBy (·.key) l) (hi : i < l.length) (hk : x.key = l[i].key) : RisesBy (·.key) (l.set i x) := by
  have h : (l.set i x).map (·.key) = l.map (·.key) := by
    rw [List.map_set, hk]
    apply List.ext_getElem?
    intro k
    rw [List.getElem?_set]
    split
    · rename_i e; subst e; rw [List.length_map, if_pos hi, List.getElem?_map, List.getElem?_eq_getElem hi]; rfl
    · rfl
  have h1 : Rises ((l.set i x).map (·.key)) := by rw [h]; exact hr.map
  exact List.pairwise_map.1 h1
theorem putE_good {l : List EntP} {x : EntP} (hg : GoodE l) (hx : GoodE1 x) (hlen : l.length < 10) : GoodE (putE l x) := by
  unfold putE
  cases hf : l.findIdx? (fun y => y.key == x.key) with
  | none =>
    refine ⟨?_, fun y hy => ?_, srt_ok hg.ris hf⟩
    · rw [(srt_perm _ _).length_eq]; simp; omega
    · rcases List.mem_cons.1 ((srt_perm _ _).mem_iff.1 hy) with rfl | h
      · exact hx
      · exact hg.one y h
  | some i =>
    obtain ⟨hi, he, _⟩ := List.findIdx?_eq_some_iff_getElem.1 hf
    have he' : l[i].key = x.key := by simpa using he
    show GoodE (l.set i { x with pins := (match l[i]? with | some y => y.pins | none => 0) })
    rw [List.getElem?_eq_getElem hi]
    refine ⟨by rw [List.length_set]; exact hg.len, fun y hy => ?_, rises_set hg.ris hi he'.symm⟩
    rcases List.mem_or_eq_of_mem_set hy with h | h
    · exact hg.one y h
    · subst h
      obtain ⟨a, b, c, e⟩ := hx
      exact ⟨a, b, (hg.one _ (List.getElem_mem hi)).2.2.1, e⟩
theorem putB_good {l : List BlobP} {d : List UInt8} (hg : GoodB l) (hd : d.length ≤ 300) (hlen : l.length < 24) : GoodB (putB l d) := by
  unfold putB
  cases hf : l.findIdx? (fun b => b.dig == shaS d) with
  | none =>
    refine ⟨?_, fun y hy => ?_, srt_ok (f := fun b : BlobP => b.dig) (x := ⟨shaS d, d, 0, false⟩) hg.ris hf⟩
    · rw [(srt_perm _ _).length_eq]; simp; omega
    · rcases List.mem_cons.1 ((srt_perm _ _).mem_iff.1 hy) with rfl | h
      · exact ⟨rfl, hd, by show 0 ≤ 5; omega⟩
      · exact hg.one y h
  | some i => exact hg
/-- one element of a row is written anew -/
theorem RwX.put4 {α : Type} {S : Shp α} {e : TypeId} {w : World} {base g cap : Nat} {l : List α} {N : Nat → Prop} {i : Nat} {x : α} {u0 u1 u2 u3 : Value} (h : RwX S e w base (.slice (some ⟨g, 0, none⟩) l.length cap) l N) (h4 : S.size = 4) (hi : i < l.length)
    (hR : S.R w x [u0, u1, u2, u3]) (hl : ∀ b, (b = g ∨ N b) → ¬ leads b [u0, u1, u2, u3]) :
    RwX S e (put4 w g (i * 4) u0 u1 u2 u3) base (.slice (some ⟨g, 0, none⟩) l.length cap) (l.set i x) N ∧ w.grownBy (put4 w g (i * 4) u0 u1 u2 u3) (some g) := by
  obtain ⟨ps, h1, h2, h3, h5⟩ := h
  have hpl : ps.length = l.length := by rw [← h1, List.length_map]
  have hip : i < ps.length := by omega
  have hlen : ∀ p ∈ ps, p.2.length = 4 := fun p hp => by rw [h2.lens p hp, h4]
  have hli := hlen _ (List.getElem_mem hip)
  obtain ⟨a0, a1, a2, a3, ha⟩ : ∃ a0 a1 a2 a3, ps[i].2 = [a0, a1, a2, a3] := by
    match hq : ps[i].2, hli with
    | [a0, a1, a2, a3], _ => exact ⟨a0, a1, a2, a3, rfl⟩
  have e1 : cls ps = cls (ps.take i) ++ [a0, a1, a2, a3] ++ cls (ps.drop (i + 1)) := by
    conv => lhs; rw [← List.take_append_drop i ps, List.drop_eq_getElem_cons hip, cls_app, cls_cons, ha]
    rw [List.append_assoc]
  rw [e1] at h3
  have hcl : (cls (ps.take i)).length = i * 4 := by
    rw [cls_len (s := 4) _ (fun p hp => hlen p (List.mem_of_mem_take hp)), List.length_take]
    rw [Nat.min_eq_left (by omega)]
  obtain ⟨ho, hg⟩ := own_put4 h3 hcl u0 u1 u2 u3
  have hall : ∀ p ∈ ps.set i (x, [u0, u1, u2, u3]), S.R w p.1 p.2 ∧ ∀ b, (b = g ∨ N b) → ¬ leads b p.2 := fun p hp => by
    rcases List.mem_or_eq_of_mem_set hp with h | h
    · exact ⟨h2 p h, fun b hb => h5 p h b (hb.imp (fun e => by rw [e]; rfl) id)⟩
    · subst h; exact ⟨hR, hl⟩
  refine ⟨⟨ps.set i (x, [u0, u1, u2, u3]), by rw [List.map_set, h1], ?_, ?_, fun p hp b hb => (hall p hp).2 b (hb.imp (fun e => (Option.some.inj e).symm) id)⟩, hg⟩
  · exact Reads.grown (w := w) (g := some g) (fun p hp => (hall p hp).1) hg (fun p hp b hb => (hall p hp).2 b (.inl (Option.some.inj hb).symm))
  · have e2 : cls (ps.set i (x, [u0, u1, u2, u3])) = cls (ps.take i) ++ [u0, u1, u2, u3] ++ cls (ps.drop (i + 1)) := by
      rw [cls_set (s := 4) ps i _ hip hlen, cls_take (s := 4) ps i hlen, cls_drop (s := 4) ps (i + 1) hlen]
    rw [List.length_set, e2]; exact ho
end Go.Proofs.YtmjcoebfldmgnaaGreat
