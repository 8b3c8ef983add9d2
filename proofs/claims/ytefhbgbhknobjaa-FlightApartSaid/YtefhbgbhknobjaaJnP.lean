/- Who joined which flight: the map's reading, in plain words. No condition. -/
import Derived.Test.YtefhbgbhknobjaaFGood
import Derived.Test.YtefhbgbhknobjaaFEnd
import Derived.Maps.GroupsBeside
namespace Go.Proofs.Ytefhbgbhknobjaa
open Go.RowKit Go.Maps
open Go.ChangeShapes (lits)
set_option linter.unusedVariables false
set_option linter.unusedSimpArgs false

/-- all who are in a key's flight, the first one first -/
def grp (fs : List FlP) (k : List UInt8) : List Int :=
  match fnd 0 fs k with
  | none => []
  | some i => match fs[i]? with
    | none => []
    | some p => p.lead :: p.wait
theorem grp_none {fs : List FlP} {k : List UInt8} (h : fnd 0 fs k = none) : grp fs k = [] := by rw [grp, h]
theorem grp_some {fs : List FlP} {k : List UInt8} {i : Nat} (h : fnd 0 fs k = some i) (hi : i < fs.length) : grp fs k = fs[i].lead :: fs[i].wait := by
  rw [grp, h]; simp only [List.getElem?_eq_getElem hi]
theorem fnd_key : ∀ (fs : List FlP) (i j : Nat) (k : List UInt8), fnd i fs k = some j → ∃ h : j - i < fs.length, i ≤ j ∧ fs[j - i].key = k
  | p :: r, i, j, k, h => by
    rw [fnd] at h
    split at h
    · rename_i e
      cases h
      refine ⟨by simp, Nat.le_refl _, ?_⟩
      simp only [Nat.sub_self, List.getElem_cons_zero]
      exact e
    · obtain ⟨h1, h2, h3⟩ := fnd_key r (i + 1) j k h
      refine ⟨by simp only [List.length_cons]; omega, by omega, ?_⟩
      have e : j - i = (j - (i + 1)) + 1 := by omega
      simp only [e, List.getElem_cons_succ]
      exact h3
theorem fnd_key0 {fs : List FlP} {j : Nat} {k : List UInt8} (h : fnd 0 fs k = some j) : ∃ h : j < fs.length, fs[j].key = k := by
  obtain ⟨h1, _, h2⟩ := fnd_key fs 0 j k h
  exact ⟨h1, h2⟩
theorem fnd_snoc : ∀ (fs : List FlP) (p : FlP) (i : Nat) (k : List UInt8), fnd i (fs ++ [p]) k = match fnd i fs k with | some j => some j | none => if p.key = k then some (i + fs.length) else none
  | [], p, i, k => by simp [fnd]
  | f :: fs, p, i, k => by
    rw [List.cons_append, fnd, fnd]
    by_cases h : f.key = k
    · rw [if_pos h, if_pos h]
    · rw [if_neg h, if_neg h, fnd_snoc fs p (i + 1) k, show i + 1 + fs.length = i + (f :: fs).length by simp only [List.length_cons]; omega]
theorem grp_snoc_same {fs : List FlP} {k : List UInt8} {n : Int} (h : fnd 0 fs k = none) : grp (fs ++ [⟨k, n, []⟩]) k = [n] := by
  have e : fnd 0 (fs ++ [(⟨k, n, []⟩ : FlP)]) k = some fs.length := by rw [fnd_snoc, h]; simp
  rw [grp_some e (by simp)]
  simp
theorem grp_snoc_other {fs : List FlP} {k k' : List UInt8} {n : Int} (h : k ≠ k') : grp (fs ++ [⟨k, n, []⟩]) k' = grp fs k' := by
  unfold grp
  rw [fnd_snoc]
  cases e : fnd 0 fs k' with
  | none => simp [h]
  | some j =>
    obtain ⟨hj, _⟩ := fnd_key0 e
    simp only []
    rw [List.getElem?_append_left hj]
theorem set_keys (fs : List FlP) (i : Nat) (p : FlP) (hi : i < fs.length) (hk : p.key = fs[i].key) : (fs.set i p).map (·.key) = fs.map (·.key) := by
  rw [List.map_set]
  apply List.ext_getElem
  · simp
  · intro j h1 h2
    rw [List.getElem_set]
    split
    · rename_i e; subst e; simpa using hk
    · rfl
theorem grp_set_same {fs : List FlP} {k : List UInt8} {i : Nat} {p : FlP} (h : fnd 0 fs k = some i) (hi : i < fs.length) (hk : p.key = fs[i].key) : grp (fs.set i p) k = p.lead :: p.wait := by
  have e : fnd 0 (fs.set i p) k = some i := by rw [fnd_keys (fs.set i p) fs 0 k (set_keys fs i p hi hk), h]
  rw [grp_some e (by simpa using hi)]
  simp
theorem grp_set_other {fs : List FlP} {k k' : List UInt8} {i : Nat} {p : FlP} (h : fnd 0 fs k = some i) (hi : i < fs.length) (hk : p.key = fs[i].key) (hne : k ≠ k') : grp (fs.set i p) k' = grp fs k' := by
  unfold grp
  rw [fnd_keys (fs.set i p) fs 0 k' (set_keys fs i p hi hk)]
  cases e : fnd 0 fs k' with
  | none => rfl
  | some j =>
    have hne' : i ≠ j := by
      rintro rfl
      obtain ⟨_, e1⟩ := fnd_key0 e
      obtain ⟨_, e2⟩ := fnd_key0 h
      exact hne (e2.symm.trans e1)
    simp only []
    rw [List.getElem?_set_ne hne']

/-- how a group reads -/
def grpD (l : List Int) : DataW Unit := match l with | [] => .nil | _ :: _ => .slice (lits .i64 l) []
/-- the map's reading: each flight's people, and nothing else -/
structure WhoD (fs : List FlP) (D : DataW Unit) : Prop where
  tidy : Tidy D
  size : size D = fs.length
  has : ∀ k, Maps.has D (.string k) = (fnd 0 fs k).isSome
  at_ : ∀ k, D.atKey (.string k) .nil = grpD (grp fs k)
theorem WhoD.nil_ : WhoD [] (.map []) := ⟨tidy_empty, rfl, fun _ => rfl, fun _ => rfl⟩
theorem lits_inj : ∀ (l m : List Int), lits (H := Unit) .i64 l = lits .i64 m → l = m
  | [], [], _ => rfl
  | [], _ :: _, h => by simp [lits] at h
  | _ :: _, [], h => by simp [lits] at h
  | a :: l, b :: m, h => by
    simp only [lits, List.map_cons, List.cons.injEq] at h
    obtain ⟨h1, h2⟩ := h
    injection h1 with h1
    injection h1 with _ h1
    rw [h1, lits_inj l m h2]
/-- what a look-up has given -/
theorem grp_of {w : World} {base : Nat} {e : TypeId} {v : Value} {zs l : List Int} (ho : w.ownsInts base e .i64 v zs) (hat : grpD l = rowDatum .i64 v zs) : zs = l := by
  rcases ho.datum (H := Unit) with ⟨h1, rfl⟩ | h1
  · rw [h1] at hat
    cases l with
    | nil => rfl
    | cons a l => cases hat
  · rw [h1] at hat
    cases l with
    | nil => cases hat
    | cons a l =>
      injection hat with h
      exact (lits_inj _ _ h).symm
theorem strKey (k : List UInt8) : WideAt.IsKeyLit (.string k) := by simp [WideAt.IsKeyLit]
theorem WhoD.new {fs : List FlP} {D : DataW Unit} {k : List UInt8} {n : Int} (h : WhoD fs D) (hf : fnd 0 fs k = none) : WhoD (fs ++ [⟨k, n, []⟩]) (D.put (.string k) (grpD [n])) := by
  have hh : Maps.has D (.string k) = false := by rw [h.has, hf]; rfl
  refine ⟨h.tidy.put (strKey k) _, ?_, fun k' => ?_, fun k' => ?_⟩
  · rw [size_put h.tidy, hh, h.size]; simp
  · by_cases e : k' = k
    · subst e
      rw [has_put_same h.tidy.isMap (strKey k') _, fnd_snoc, hf]; simp
    · rw [has_put_other (by simpa using e), h.has, fnd_snoc]
      cases fnd 0 fs k' with
      | none => simp [Ne.symm e]
      | some j => rfl
  · by_cases e : k' = k
    · subst e
      rw [atKey_put_same h.tidy.isMap (strKey k') _ _, grp_snoc_same hf]
    · rw [atKey_put_other (by simpa using e), h.at_, grp_snoc_other (Ne.symm e)]
theorem WhoD.more {fs : List FlP} {D : DataW Unit} {k : List UInt8} {i : Nat} {p : FlP} (h : WhoD fs D) (hf : fnd 0 fs k = some i) (hi : i < fs.length) (hk : p.key = fs[i].key) : WhoD (fs.set i p) (D.put (.string k) (grpD (p.lead :: p.wait))) := by
  have hh : Maps.has D (.string k) = true := by rw [h.has, hf]; rfl
  refine ⟨h.tidy.put (strKey k) _, ?_, fun k' => ?_, fun k' => ?_⟩
  · rw [size_put h.tidy, hh, h.size, List.length_set]; simp
  · rw [fnd_keys (fs.set i p) fs 0 k' (set_keys fs i p hi hk)]
    by_cases e : k' = k
    · subst e
      rw [has_put_same h.tidy.isMap (strKey k') _, hf]; rfl
    · rw [has_put_other (by simpa using e), h.has]
  · by_cases e : k' = k
    · subst e
      rw [atKey_put_same h.tidy.isMap (strKey k') _ _, grp_set_same hf hi hk]
    · rw [atKey_put_other (by simpa using e), h.at_, grp_set_other hf hi hk (Ne.symm e)]

section
variable {P : Program} {k e : TypeId} {q : IntKind} {wr w : World} {base b n : Nat} {D : DataW Unit}
theorem groups_below (h : wr.ownsGroups P k base e q b n D) (hb : Below wr.heap.size wr w) : w.ownsGroups P k base e q b n D :=
  h.kept (row := none) ⟨hb.os, hb.tape, hb.output, hb.size, fun k hk _ => hb.block k hk⟩ (by simp) (fun es clock _ x _ => Classical.em _)
/-- the look-up, in a world further on: its slice lies among the elder blocks -/
theorem groups_at {t E : TypeId} {key : Value} {kl : Lit} (h : wr.ownsGroups P k base e q b n D) (hb : Below wr.heap.size wr w) (K : Keyed P k) (ht : P.underlying t = some (.map k E)) (hz : (zeroValue E).run P w = .ok (.slice none 0 0) w) (hn : n < maxLen) (hkey : keyOf P k key = some kl) :
    ∃ v zs, (Instr.lookup t (.map (some b)) key false).run P w = .ok v w ∧ D.atKey kl .nil = rowDatum q v zs ∧ w.ownsInts base e q v zs ∧ zs.length ≤ n ∧ w.groupBack P t k base e q b n D key kl v ∧ (∀ g, v.ownBlock = some g → base ≤ g ∧ g < wr.heap.size) := by
  have hg : wr.grownBy w none := ⟨hb.os, hb.tape, hb.output, hb.size, fun k hk _ => hb.block k hk⟩
  have hS : w.Shuns b (fun g => wr.heap.size ≤ g) := by
    have h1 : wr.Shuns b (fun _ => False) := fun _ _ _ _ _ _ _ h => h
    refine (h1.reno h (No' := fun g => wr.heap.size ≤ g) (fun g hg => .inr hg)).kept hg ?_ (by simp)
    obtain ⟨es, clock, hbb, _⟩ := h
    exact (Array.getElem?_eq_some_iff.1 hbb).1
  have hown := groups_below h hb
  obtain ⟨v, zs, hrun, hat, hoi, hzl, hback⟩ := hown.at K ht hz hn hkey
  refine ⟨v, zs, hrun, hat, hoi, hzl, hback, fun g hg' => ⟨(hoi.1.lt g hg').1, ?_⟩⟩
  obtain ⟨es, clock, hbb, F, _⟩ := hown
  rcases Maps.fit_look false K ht hz hbb F hkey with ⟨hrun', _, _⟩ | ⟨e0, y, hm0, _, hrun', _, _, _⟩
  · rw [hrun] at hrun'
    obtain rfl : v = .slice none 0 0 := by simpa using hrun'
    cases hg'
  · rw [hrun] at hrun'
    obtain rfl : v = e0.val := by simpa using hrun'
    exact Nat.lt_of_not_le (hS es clock hbb e0 hm0 g hg')
theorem groups_mono {n' : Nat} (h : wr.ownsGroups P k base e q b n D) (hn : n ≤ n') : wr.ownsGroups P k base e q b n' D := by
  obtain ⟨es, clock, hb, F, hs, hD, hbb, hlen, hap⟩ := h
  exact ⟨es, clock, hb, F, Nat.le_trans hs hn, hD, hbb, fun x hx zs ho => Nat.le_trans (hlen x hx zs ho) hn, hap⟩
end
/-- flights of one's own, while an elder row turns -/
theorem FlsO.low {w w' : World} {base : Nat} {v : Value} {fs : List FlP} {row : Option Nat} (h : FlsO w base v fs) (hg : w.grownBy w' row) (hr : ∀ j, row = some j → j < base) : FlsO w' base v fs := by
  have off : ∀ {u : Value} {e s m : Nat} {xs : List Value}, w.ownsRow base e s u m xs → w'.ownsRow base e s u m xs := fun {u e s m xs} ho => by
    refine ho.kept hg ?_
    cases hu : u.ownBlock with
    | none => exact .inl rfl
    | some g => exact .inr (fun e1 => by have := (ho.lt g hu).1; have := hr g e1.symm; omega)
  obtain ⟨As, h1, h2, h3, h4⟩ := h
  exact ⟨As, h1, off h2, fun k p a hp ha => ⟨off (h3 k p a hp ha).1, (h3 k p a hp ha).2⟩, h4⟩
end Go.Proofs.Ytefhbgbhknobjaa
