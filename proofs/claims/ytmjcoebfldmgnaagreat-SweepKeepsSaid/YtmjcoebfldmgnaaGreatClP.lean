/- The walk of ReachRoots. Conditions: the sizes. A store without its waste, and eviction, in plain words. No condition. -/
import Derived.Test.YtmjcoebfldmgnaaGreatRch
import Derived.Test.YtmjcoebfldmgnaaGreatStore
import Derived.Test.YtmjcoebfldmgnaaGreatOld
/-! The walk of ReachRoots. Conditions: the sizes -/
namespace Go.Proofs.YtmjcoebfldmgnaaGreat
open Go.RowKit Go.Maps
set_option linter.unusedVariables false
set_option linter.unusedSimpArgs false
set_option maxRecDepth 100000

theorem mem_rtsE {s : StoP} {x : EntP} (hx : x ∈ s.ents) {q : PartP} (hq : q ∈ x.parts) : q.dig ∈ rts s :=
  List.mem_append.2 (.inl (List.mem_flatMap.2 ⟨x, hx, List.mem_map.2 ⟨q, hq, rfl⟩⟩))
theorem mem_rtsB {s : StoP} {b : BlobP} (hb : b ∈ s.blobs) (hp : 0 < b.pins) : b.dig ∈ rts s :=
  List.mem_append.2 (.inr (List.mem_map.2 ⟨b, List.mem_filter.2 ⟨hb, by simpa using hp⟩, rfl⟩))
end Go.Proofs.YtmjcoebfldmgnaaGreat
/-! A store without its waste, and eviction, in plain words. No condition -/
namespace Go.Proofs.YtmjcoebfldmgnaaGreat
open Go.RowKit
set_option linter.unusedVariables false
set_option linter.unusedSimpArgs false

/-- the blobs whose digests are on the list -/
def keepB (bl : List BlobP) (L : List (List UInt8)) : List BlobP := bl.filter (fun b => decide (b.dig ∈ L))
/-- a store without its waste -/
noncomputable def cln (s : StoP) : StoP := { s with blobs := s.blobs.filter (fun b => @decide (Rch s.blobs (rts s) b.dig) (Classical.propDecidable _)) }
theorem cln_mem {s : StoP} {b : BlobP} : b ∈ (cln s).blobs ↔ b ∈ s.blobs ∧ Rch s.blobs (rts s) b.dig := by
  unfold cln
  rw [List.mem_filter]
  exact and_congr_right fun _ => @decide_eq_true_iff _ (Classical.propDecidable _)
theorem cln_keep {s : StoP} {L : List (List UInt8)} (hL : StrL L (Rch s.blobs (rts s))) : keepB s.blobs L = (cln s).blobs := by
  unfold cln keepB
  refine List.filter_congr fun b hb => ?_
  have := hL.mem b.dig
  by_cases h : b.dig ∈ L
  · rw [decide_eq_true h]; exact (@decide_eq_true _ (Classical.propDecidable _) (this.1 h)).symm
  · rw [decide_eq_false h]; exact (@decide_eq_false _ (Classical.propDecidable _) (fun h2 => h (this.2 h2))).symm
theorem keep_cln {s : StoP} {L : List (List UInt8)} (hL : StrL L (Rch s.blobs (rts s))) : { s with blobs := keepB s.blobs L } = cln s := by
  rw [cln_keep hL]; rfl
/-! a part of the blobs -/
section
variable {bl bl' : List BlobP} {ds ds' : List (List UInt8)}
theorem InB.sub {x : List UInt8} (hs : ∀ b ∈ bl', b ∈ bl) (h : InB bl' x) : InB bl x := by
  obtain ⟨b, hb, e⟩ := h; exact ⟨b, hs b hb, e⟩
theorem kids_sub (hr : RisesBy (·.dig) bl) (hr' : RisesBy (·.dig) bl') (hs : ∀ b ∈ bl', b ∈ bl) {x : List UInt8} (hx : InB bl' x) : kids bl' x = kids bl x := by
  obtain ⟨b, hb, rfl⟩ := hx
  rw [kids_mem hr' hb, kids_mem hr (hs b hb)]
theorem Rch.sub (hr : RisesBy (·.dig) bl) (hr' : RisesBy (·.dig) bl') (hs : ∀ b ∈ bl', b ∈ bl) (hd : ∀ x ∈ ds', x ∈ ds) {x : List UInt8} (h : Rch bl' ds' x) : Rch bl ds x := by
  induction h with
  | root h1 h2 => exact .root (hd _ h1) (h2.sub hs)
  | step h1 h2 h3 ih => exact .step ih (by rw [← kids_sub hr hr' hs h1.inB]; exact h2) (h3.sub hs)
theorem Rch.keepb (hr : RisesBy (·.dig) bl) (hr' : RisesBy (·.dig) bl') (hs : ∀ b ∈ bl', b ∈ bl) (hd : ∀ x ∈ ds, x ∈ ds') (hk : ∀ x, Rch bl ds x → InB bl' x) {x : List UInt8} (h : Rch bl ds x) : Rch bl' ds' x := by
  induction h with
  | root h1 h2 => exact .root (hd _ h1) (hk _ (.root h1 h2))
  | step h1 h2 h3 ih => exact .step ih (by rw [kids_sub hr hr' hs (hk _ h1)]; exact h2) (hk _ (.step h1 h2 h3))
end
theorem Rch.dmono {bl : List BlobP} {ds ds' : List (List UInt8)} {x : List UInt8} (hd : ∀ x ∈ ds, x ∈ ds') (h : Rch bl ds x) : Rch bl ds' x := h.mono fun y hy hb => .root (hd y hy) hb
theorem cln_rises {s : StoP} (h : RisesBy (·.dig) s.blobs) : RisesBy (·.dig) (cln s).blobs := List.Pairwise.filter _ h
theorem cln_sub {s : StoP} : ∀ b ∈ (cln s).blobs, b ∈ s.blobs := fun b hb => (cln_mem.1 hb).1
theorem cln_ents (s : StoP) : (cln s).ents = s.ents := rfl
theorem cln_room (s : StoP) : (cln s).room = s.room := rfl
theorem cln_clock (s : StoP) : (cln s).clock = s.clock := rfl
theorem rtsB_filter {bl : List BlobP} {p : BlobP → Bool} (h : ∀ b ∈ bl, 0 < b.pins → p b = true) : rtsB (bl.filter p) = rtsB bl := by
  unfold rtsB
  rw [List.filter_filter]
  congr 1
  refine List.filter_congr fun b hb => ?_
  by_cases hp : 0 < b.pins
  · rw [decide_eq_true hp, h b hb hp]; rfl
  · rw [decide_eq_false hp]; rfl
theorem rts_pin {s : StoP} {b : BlobP} (hb : b ∈ s.blobs) (hp : 0 < b.pins) : b.dig ∈ rts s :=
  List.mem_append_right _ (List.mem_map.2 ⟨b, List.mem_filter.2 ⟨hb, decide_eq_true hp⟩, rfl⟩)
theorem rts_part {s : StoP} {x : EntP} {p : PartP} (hx : x ∈ s.ents) (hp : p ∈ x.parts) : p.dig ∈ rts s :=
  List.mem_append_left _ (List.mem_flatMap.2 ⟨x, hx, List.mem_map.2 ⟨p, hp, rfl⟩⟩)
theorem cln_rtsB (s : StoP) : rtsB (cln s).blobs = rtsB s.blobs :=
  rtsB_filter fun b hb hp => @decide_eq_true _ (Classical.propDecidable _) (.root (rts_pin hb hp) ⟨b, hb, rfl⟩)
theorem cln_rts (s : StoP) : rts (cln s) = rts s := by
  show rtsE s.ents ++ rtsB (cln s).blobs = _
  rw [cln_rtsB]; rfl
theorem cln_inB {s : StoP} {x : List UInt8} (h : Rch s.blobs (rts s) x) : InB (cln s).blobs x := by
  obtain ⟨b, hb, rfl⟩ := h.inB
  exact ⟨b, cln_mem.2 ⟨hb, h⟩, rfl⟩
theorem cln_rch {s : StoP} (hr : RisesBy (·.dig) s.blobs) (x : List UInt8) : Rch (cln s).blobs (rts (cln s)) x ↔ Rch s.blobs (rts s) x := by
  rw [cln_rts]
  exact ⟨fun h => h.sub hr (cln_rises hr) cln_sub (fun _ h => h), fun h => h.keepb hr (cln_rises hr) cln_sub (fun _ h => h) (fun _ h => cln_inB h)⟩
theorem cln_full {s : StoP} (hr : RisesBy (·.dig) s.blobs) {b : BlobP} (hb : b ∈ (cln s).blobs) : Rch (cln s).blobs (rts (cln s)) b.dig := (cln_rch hr _).2 (cln_mem.1 hb).2
theorem cln_of_full {s : StoP} (h : ∀ b ∈ s.blobs, Rch s.blobs (rts s) b.dig) : cln s = s := by
  have e : (cln s).blobs = s.blobs := List.filter_eq_self.2 fun b hb => @decide_eq_true _ (Classical.propDecidable _) (h b hb)
  obtain ⟨b, x, r, c⟩ := s
  unfold cln at e ⊢
  rw [StoP.mk.injEq]
  exact ⟨e, rfl, rfl, rfl⟩
theorem cln_idem {s : StoP} (hr : RisesBy (·.dig) s.blobs) : cln (cln s) = cln s := cln_of_full fun b hb => cln_full hr hb
theorem usd_filter (p : BlobP → Bool) : ∀ l : List BlobP, usd (l.filter p) ≤ usd l
  | [] => Nat.le_refl _
  | b :: l => by
    have ih := usd_filter p l
    cases h : p b with
    | true => rw [List.filter_cons_of_pos h]; unfold usd at *; simp only [List.map_cons, List.sum_cons]; omega
    | false => rw [List.filter_cons_of_neg (by simp [h])]; unfold usd at *; simp only [List.map_cons, List.sum_cons]; omega
theorem cln_used (s : StoP) : usd (cln s).blobs ≤ usd s.blobs := usd_filter _ _
theorem cln_len (s : StoP) : (cln s).blobs.length ≤ s.blobs.length := List.length_filter_le _ _
theorem cln_good {s : StoP} (h : GoodS s) : GoodS (cln s) :=
  ⟨⟨Nat.le_trans (cln_len s) h.b.len, fun b hb => h.b.one b (cln_sub b hb), cln_rises h.b.ris⟩, h.e, h.room, Nat.le_trans (cln_used s) h.used, h.clock, fun x hx => ⟨(h.ent x hx).1, fun p hp => by
    obtain ⟨b, hb, e1, e2⟩ := (h.ent x hx).2 p hp
    exact ⟨b, cln_mem.2 ⟨hb, .root (by rw [e1]; exact rts_part hx hp) ⟨b, hb, rfl⟩⟩, e1, e2⟩⟩⟩
/-- fewer entries -/
theorem drop_good {s : StoP} {es : List EntP} (h : GoodS s) (hs : es.Sublist s.ents) : GoodS { s with ents := es } :=
  ⟨h.b, ⟨Nat.le_trans hs.length_le h.e.len, fun x hx => h.e.one x (hs.subset hx), List.Pairwise.sublist hs h.e.ris⟩, h.room, h.used, h.clock, fun x hx => h.ent x (hs.subset hx)⟩
theorem drop_rts {s : StoP} {es : List EntP} (hs : ∀ x ∈ es, x ∈ s.ents) : ∀ x ∈ rts { s with ents := es }, x ∈ rts s := fun x hx => by
  rcases List.mem_append.1 hx with h | h
  · obtain ⟨y, hy, h2⟩ := List.mem_flatMap.1 h
    exact List.mem_append_left _ (List.mem_flatMap.2 ⟨y, hs y hy, h2⟩)
  · exact List.mem_append_right _ h
/-- cleaned before or only behind the dropping: the same -/
theorem cln_drop {s : StoP} {es : List EntP} (hr : RisesBy (·.dig) s.blobs) (hs : ∀ x ∈ es, x ∈ s.ents) : cln { cln s with ents := es } = cln { s with ents := es } := by
  have er : rts { cln s with ents := es } = rts { s with ents := es } := by
    show rtsE es ++ rtsB (cln s).blobs = _
    rw [cln_rtsB]; rfl
  have e1 : ∀ x, Rch (cln s).blobs (rts { cln s with ents := es }) x ↔ Rch s.blobs (rts { s with ents := es }) x := fun x => by
    rw [er]
    exact ⟨fun h => h.sub hr (cln_rises hr) cln_sub (fun _ h => h), fun h => h.keepb hr (cln_rises hr) cln_sub (fun _ h => h) (fun _ h => cln_inB (h.dmono (drop_rts hs)))⟩
  have e2 : (cln { cln s with ents := es }).blobs = (cln { s with ents := es }).blobs := by
    show List.filter _ (List.filter _ s.blobs) = List.filter _ s.blobs
    rw [List.filter_filter]
    refine List.filter_congr fun b hb => ?_
    by_cases h : Rch s.blobs (rts { s with ents := es }) b.dig
    · have h1 : Rch s.blobs (rts s) b.dig := h.dmono (drop_rts hs)
      rw [@decide_eq_true _ (Classical.propDecidable _) h]
      rw [Bool.and_eq_true]
      exact ⟨@decide_eq_true _ (Classical.propDecidable _) ((e1 _).2 h), @decide_eq_true _ (Classical.propDecidable _) h1⟩
    · rw [@decide_eq_false _ (Classical.propDecidable _) h]
      rw [Bool.and_eq_false_iff]
      exact .inl (@decide_eq_false _ (Classical.propDecidable _) fun h2 => h ((e1 _).1 h2))
  have e3 : ∀ t u : StoP, t.blobs = u.blobs → t.ents = u.ents → t.room = u.room → t.clock = u.clock → t = u := fun t u h1 h2 h3 h4 => by
    cases t; cases u; simp only at h1 h2 h3 h4; subst h1 h2 h3 h4; rfl
  exact e3 _ _ e2 rfl rfl rfl
/-! eviction -/
/-- what is evicted, from a clean store on -/
noncomputable def evGo (more : Nat) : Nat → StoP → List (List UInt8) → Option (StoP × List (List UInt8))
  | 0, _, _ => none
  | n + 1, s, g => if usd s.blobs + more ≤ s.room then some (s, g) else
    match oldK s.ents s.ents.length with
    | none => none
    | some i => match s.ents[i]? with
      | none => none
      | some x => evGo more n (cln { s with ents := s.ents.eraseIdx i }) (g ++ [x.key])
/-- evict.Run -/
noncomputable def evRun (more : Nat) (s : StoP) : Option (StoP × List (List UInt8)) :=
  if usd s.blobs + more ≤ s.room then some (s, []) else evGo more (s.ents.length + 1) (cln s) []
end Go.Proofs.YtmjcoebfldmgnaaGreat
