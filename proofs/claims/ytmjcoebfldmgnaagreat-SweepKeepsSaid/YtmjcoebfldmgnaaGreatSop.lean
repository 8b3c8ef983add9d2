/- What the store's functions make of stores that may be, in plain words. No condition. -/
import Derived.Test.YtmjcoebfldmgnaaGreatBsL
import Derived.Test.YtmjcoebfldmgnaaGreatChk
namespace Go.Proofs.YtmjcoebfldmgnaaGreat
open Go.RowKit
set_option linter.unusedVariables false
set_option linter.unusedSimpArgs false

/-- store.have -/
def haveC (l : List BlobP) : List PartP → Nat
  | [] => 0
  | p :: ps => match l.findIdx? (fun b => b.dig == p.dig) with
    | none => 5
    | some i => if (match l[i]? with | some b => b.data.length | none => 0) = p.size then haveC l ps else 4
theorem ris_idx {α : Type} {f : α → List UInt8} {l : List α} (hr : RisesBy f l) {d : List UInt8} {x : α} (hx : x ∈ l) (hd : f x = d) : ∃ i, ∃ h : i < l.length, l.findIdx? (fun y => f y == d) = some i ∧ l[i] = x := by
  obtain ⟨i, hi, he⟩ := List.mem_iff_getElem.1 hx
  refine ⟨i, hi, ?_, he⟩
  rw [List.findIdx?_eq_some_iff_getElem]
  refine ⟨hi, by rw [he]; simp [hd], fun k hk => ?_⟩
  have := List.pairwise_iff_getElem.1 hr k i (by omega) hi hk
  rw [he, hd] at this
  simpa using bl_ne this
theorem have_zero {l : List BlobP} (hr : RisesBy (·.dig) l) : ∀ {ps : List PartP}, Have l ps → haveC l ps = 0
  | [], _ => rfl
  | p :: ps, h => by
    obtain ⟨b, hb, h1, h2⟩ := h p (by simp)
    obtain ⟨i, hi, h3, h4⟩ := ris_idx (f := fun b : BlobP => b.dig) hr hb h1
    rw [haveC, h3]
    show (if (match l[i]? with | some b => b.data.length | none => 0) = p.size then _ else _) = _
    rw [List.getElem?_eq_getElem hi, h4]
    show (if b.data.length = p.size then _ else _) = _
    rw [if_pos h2, have_zero hr fun q hq => h q (by simp [hq])]
theorem have_of_zero {l : List BlobP} : ∀ {ps : List PartP}, haveC l ps = 0 → Have l ps
  | [], _ => fun p hp => by cases hp
  | p :: ps, h => by
    rw [haveC] at h
    cases hf : l.findIdx? (fun b => b.dig == p.dig) with
    | none => rw [hf] at h; cases h
    | some i =>
      rw [hf] at h
      obtain ⟨hi, he, _⟩ := List.findIdx?_eq_some_iff_getElem.1 hf
      have h' : (if (match l[i]? with | some b => b.data.length | none => 0) = p.size then haveC l ps else 4) = 0 := h
      have h3 : (if l[i].data.length = p.size then haveC l ps else 4) = 0 := by rw [List.getElem?_eq_getElem hi] at h'; exact h'
      by_cases h2 : l[i].data.length = p.size
      · rw [if_pos h2] at h3
        intro q hq
        rcases List.mem_cons.1 hq with rfl | hq
        · exact ⟨l[i], List.getElem_mem hi, by simpa using he, h2⟩
        · exact have_of_zero h3 q hq
      · rw [if_neg h2] at h3; cases h3
/-- store.PutBlob -/
def putBS (s : StoP) (d : List UInt8) : StoP := { s with blobs := putB s.blobs d }
/-- store.Put -/
def putES (s : StoP) (k : List UInt8) (ps : List PartP) : StoP := { s with ents := putE s.ents ⟨k, ps, 0, s.clock + 1⟩, clock := s.clock + 1 }
/-- store.Get of the entry at place i -/
def getS (s : StoP) (i : Nat) (x : EntP) : StoP := { s with ents := s.ents.set i { x with stamp := s.clock + 1 }, clock := s.clock + 1 }
def holdBS (s : StoP) (i : Nat) (b : BlobP) (n : Nat) : StoP := { s with blobs := s.blobs.set i { b with pins := n } }
def holdES (s : StoP) (i : Nat) (x : EntP) (n : Nat) : StoP := { s with ents := s.ents.set i { x with pins := n } }
theorem putB_mem {l : List BlobP} {d : List UInt8} {b : BlobP} (h : b ∈ l) : b ∈ putB l d := by
  unfold putB
  cases l.findIdx? (fun b => b.dig == shaS d) with
  | none => exact (srt_perm _ _).mem_iff.2 (List.mem_cons_of_mem _ h)
  | some i => exact h
theorem mem_putB {l : List BlobP} {d : List UInt8} {b : BlobP} (h : b ∈ putB l d) : b ∈ l ∨ b = ⟨shaS d, d, 0, false⟩ := by
  unfold putB at h
  cases hf : l.findIdx? (fun b => b.dig == shaS d) with
  | none =>
    rw [hf] at h
    rcases List.mem_cons.1 ((srt_perm _ _).mem_iff.1 h) with h | h
    · exact .inr h
    · exact .inl h
  | some i => rw [hf] at h; exact .inl h
theorem putB_has (l : List BlobP) (d : List UInt8) : ∃ b ∈ putB l d, b.dig = shaS d := by
  unfold putB
  cases hf : l.findIdx? (fun b => b.dig == shaS d) with
  | none => exact ⟨_, (srt_perm _ _).mem_iff.2 (List.mem_cons_self ..), rfl⟩
  | some i =>
    obtain ⟨hi, he, _⟩ := List.findIdx?_eq_some_iff_getElem.1 hf
    exact ⟨l[i], List.getElem_mem hi, by simpa using he⟩
theorem putB_len (l : List BlobP) (d : List UInt8) : (putB l d).length ≤ l.length + 1 := by
  unfold putB
  cases hf : l.findIdx? (fun b => b.dig == shaS d) with
  | none => show (srt _ _).length ≤ _; rw [(srt_perm _ _).length_eq]; simp
  | some i => show l.length ≤ _; omega
theorem putB_usd (l : List BlobP) (d : List UInt8) : usd (putB l d) ≤ usd l + d.length := by
  unfold putB
  cases hf : l.findIdx? (fun b => b.dig == shaS d) with
  | none =>
    show usd (srt _ _) ≤ _
    rw [usd_perm (srt_perm _ _)]
    show (List.map _ _).sum ≤ _
    rw [List.map_cons, List.sum_cons]
    exact Nat.le_of_eq (Nat.add_comm _ _)
  | some i => show usd l ≤ _; omega
theorem putBS_good {s : StoP} {d : List UInt8} (h : GoodS s) (hd : d.length ≤ 300) (hl : s.blobs.length < 24) (hr : usd (putB s.blobs d) ≤ s.room) : GoodS (putBS s d) :=
  ⟨putB_good h.b hd hl, h.e, h.room, hr, h.clock, fun x hx => ⟨(h.ent x hx).1, (h.ent x hx).2.mono fun b hb => putB_mem hb⟩⟩
theorem mem_putE {l : List EntP} {x y : EntP} (h : y ∈ putE l x) : y ∈ l ∨ (y.key = x.key ∧ y.parts = x.parts ∧ y.stamp = x.stamp ∧ (y.pins = x.pins ∨ ∃ z ∈ l, z.key = x.key ∧ y.pins = z.pins)) := by
  unfold putE at h
  cases hf : l.findIdx? (fun y => y.key == x.key) with
  | none =>
    rw [hf] at h
    rcases List.mem_cons.1 ((srt_perm _ _).mem_iff.1 h) with h | h
    · subst h; exact .inr ⟨rfl, rfl, rfl, .inl rfl⟩
    · exact .inl h
  | some i =>
    rw [hf] at h
    obtain ⟨hi, he, _⟩ := List.findIdx?_eq_some_iff_getElem.1 hf
    have h' : y ∈ l.set i { x with pins := (match l[i]? with | some y => y.pins | none => 0) } := h
    rw [List.getElem?_eq_getElem hi] at h'
    rcases List.mem_or_eq_of_mem_set h' with h | h
    · exact .inl h
    · subst h; exact .inr ⟨rfl, rfl, rfl, .inr ⟨l[i], List.getElem_mem hi, by simpa using he, rfl⟩⟩
theorem putES_good {s : StoP} {k : List UInt8} {ps : List PartP} (h : GoodS s) (hk : hexC k = 0) (hp : chk ps = 0) (hh : Have s.blobs ps) (hc : s.clock < 1099511627776) (hl : s.ents.length < 10) : GoodS (putES s k ps) := by
  refine ⟨h.b, putE_good h.e ⟨hk, hp, by show 0 ≤ 5; omega, by show s.clock + 1 ≤ _; omega⟩ hl, h.room, h.used, by show s.clock + 1 ≤ _; omega, fun x hx => ?_⟩
  rcases mem_putE hx with h1 | ⟨h1, h2, h3, _⟩
  · have := h.ent x h1; exact ⟨by show x.stamp ≤ s.clock + 1; omega, this.2⟩
  · exact ⟨by rw [h3]; exact Nat.le_refl _, by rw [h2]; exact hh⟩
theorem goodE_set {l : List EntP} {i : Nat} {x : EntP} (h : GoodE l) (hi : i < l.length) (hk : x.key = l[i].key) (hx : GoodE1 x) : GoodE (l.set i x) :=
  ⟨by rw [List.length_set]; exact h.len, fun y hy => (List.mem_or_eq_of_mem_set hy).elim (h.one y) (fun e => e ▸ hx), rises_set h.ris hi hk⟩
theorem getS_good {s : StoP} {i : Nat} (h : GoodS s) (hi : i < s.ents.length) (hc : s.clock < 1099511627776) : GoodS (getS s i s.ents[i]) := by
  have h1 := h.e.one _ (List.getElem_mem hi)
  have h2 := h.ent _ (List.getElem_mem hi)
  refine ⟨h.b, goodE_set h.e hi rfl ⟨h1.1, h1.2.1, h1.2.2.1, by show s.clock + 1 ≤ _; omega⟩, h.room, h.used, by show s.clock + 1 ≤ _; omega, fun x hx => ?_⟩
  rcases List.mem_or_eq_of_mem_set hx with h3 | h3
  · have := h.ent x h3; exact ⟨by show x.stamp ≤ s.clock + 1; omega, this.2⟩
  · subst h3; exact ⟨Nat.le_refl _, h2.2⟩
theorem holdES_good {s : StoP} {i n : Nat} (h : GoodS s) (hi : i < s.ents.length) (hn : n ≤ 5) : GoodS (holdES s i s.ents[i] n) := by
  have h1 := h.e.one _ (List.getElem_mem hi)
  have h2 := h.ent _ (List.getElem_mem hi)
  refine ⟨h.b, goodE_set h.e hi rfl ⟨h1.1, h1.2.1, hn, h1.2.2.2⟩, h.room, h.used, h.clock, fun x hx => ?_⟩
  rcases List.mem_or_eq_of_mem_set hx with h3 | h3
  · exact h.ent x h3
  · subst h3; exact h2
theorem risB_set {l : List BlobP} {i : Nat} {x : BlobP} (hr : RisesBy (·.dig) l) (hi : i < l.length) (hk : x.dig = l[i].dig) : RisesBy (·.dig) (l.set i x) := by
  have h : (l.set i x).map (·.dig) = l.map (·.dig) := by
    rw [List.map_set, hk]
    apply List.ext_getElem?
    intro k
    rw [List.getElem?_set]
    split
    · rename_i e; subst e; rw [List.length_map, if_pos hi, List.getElem?_map, List.getElem?_eq_getElem hi]; rfl
    · rfl
  have h1 : Rises ((l.set i x).map (·.dig)) := by rw [h]; exact hr.map
  exact List.pairwise_map.1 h1
theorem set_same {α β : Type} (f : α → β) {l : List α} {i : Nat} {x : α} (hi : i < l.length) (hk : f x = f l[i]) : (l.set i x).map f = l.map f := by
  rw [List.map_set, hk]
  apply List.ext_getElem?
  intro k
  rw [List.getElem?_set]
  split
  · rename_i e; subst e; rw [List.length_map, if_pos hi, List.getElem?_map, List.getElem?_eq_getElem hi]; rfl
  · rfl
/-- a blob is written anew: its digest, its bytes stay -/
theorem setB_good {s : StoP} {i : Nat} {x : BlobP} (h : GoodS s) (hi : i < s.blobs.length) (h1 : x.dig = s.blobs[i].dig) (h2 : x.data = s.blobs[i].data) (h3 : x.pins ≤ 5) : GoodS { s with blobs := s.blobs.set i x } := by
  have g := h.b.one _ (List.getElem_mem hi)
  refine ⟨⟨by rw [List.length_set]; exact h.b.len, fun y hy => (List.mem_or_eq_of_mem_set hy).elim (h.b.one y) (fun e => e ▸ ⟨by rw [h1, h2]; exact g.1, by rw [h2]; exact g.2.1, h3⟩), risB_set h.b.ris hi h1⟩, h.e, h.room, ?_, h.clock, fun y hy => ⟨(h.ent y hy).1, fun p hp => ?_⟩⟩
  · show usd (s.blobs.set i x) ≤ _
    unfold usd
    rw [set_same (fun b : BlobP => b.data.length) hi (by rw [h2])]
    exact h.used
  · obtain ⟨b, hb, e1, e2⟩ := (h.ent y hy).2 p hp
    obtain ⟨k, hk, rfl⟩ := List.mem_iff_getElem.1 hb
    by_cases e : k = i
    · subst e
      exact ⟨x, List.mem_iff_getElem.2 ⟨k, by rw [List.length_set]; exact hk, by simp⟩, by rw [h1]; exact e1, by rw [h2]; exact e2⟩
    · exact ⟨_, List.mem_iff_getElem.2 ⟨k, by rw [List.length_set]; exact hk, List.getElem_set_ne (fun h => e h.symm) _⟩, e1, e2⟩
theorem holdBS_good {s : StoP} {i n : Nat} (h : GoodS s) (hi : i < s.blobs.length) (hn : n ≤ 5) : GoodS (holdBS s i s.blobs[i] n) := setB_good h hi rfl rfl hn
end Go.Proofs.YtmjcoebfldmgnaaGreat
