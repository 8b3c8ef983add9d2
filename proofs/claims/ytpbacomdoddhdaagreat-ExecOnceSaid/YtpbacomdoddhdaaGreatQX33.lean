/- Lemmas of the proof. Conditions: as stated. -/
import Derived.Test.YtpbacomdoddhdaaGreatQX30
import Derived.Test.YtpbacomdoddhdaaGreatQX32
set_option linter.unusedVariables false
set_option linter.unusedSimpArgs false
namespace Go.Proofs.YtpbacomdoddhdaaGreat
open Go.RowKit Go.Maps
abbrev stZ : StoP := ⟨[], [], 0, 0⟩
abbrev coZ : ColP := ⟨0, [], []⟩
abbrev loZ : LoP := ⟨stZ, coZ, []⟩
def qN (fs : List FlP) (key : List UInt8) (n : Int) : List FlP × Bool × Nat :=
 match fnd 0 fs key with
 | none => if fs.length = 6 then ([], false, 7) else (fs ++ [⟨key, n, []⟩], true, 0)
 | some i => match fs[i]? with
  | none => ([], false, 0)
  | some p => if (p.lead :: p.wait).contains n then ([], false, 6) else if p.wait.length = 5 then ([], false, 7) else (fs.set i ⟨p.key, p.lead, p.wait ++ [n]⟩, false, 0)
def kT (fs : List FlP) (key : List UInt8) : List FlP × List Int × Nat :=
 match fnd 0 fs key with
 | none => ([], [], 5)
 | some i => match fs[i]? with
  | none => ([], [], 0)
  | some p => (fs.eraseIdx i, p.lead :: p.wait, 0)
noncomputable def zU (s : StoP) (c : ColP) (key : List UInt8) (ps : List PartP) : StoP × ColP × Nat :=
 if zT s.blobs ps = 0 then ((zH (qJ s key ps) c (ps.map (·.dig))).1, (zH (qJ s key ps) c (ps.map (·.dig))).2, 0) else (stZ, coZ, zT s.blobs ps)
def yW (l : LoP) (key : List UInt8) (n : Int) : LoP × List PartP × Bool × Nat :=
 match l.st.ents.findIdx? (fun x => x.key == key) with
 | some i => match l.st.ents[i]? with
  | none => (loZ, [], false, 0)
  | some x => ({ l with st := qD l.st i x }, x.parts, false, 0)
 | none => if (qN l.fs key n).2.2 = 0 then ({ l with fs := (qN l.fs key n).1 }, [], (qN l.fs key n).2.1, 0) else (loZ, [], false, (qN l.fs key n).2.2)
noncomputable def yX (l : LoP) (key : List UInt8) (ps : List PartP) : LoP × List Int × Nat :=
 if (kT l.fs key).2.2 = 0 then
  if (zU l.st l.co key ps).2.2 = 0 then (⟨(zU l.st l.co key ps).1, (zU l.st l.co key ps).2.1, (kT l.fs key).1⟩, (kT l.fs key).2.1, 0) else (loZ, [], (zU l.st l.co key ps).2.2)
 else (loZ, [], (kT l.fs key).2.2)
def kV (l : LoP) (key : List UInt8) : LoP × List Int × Nat :=
 if (kT l.fs key).2.2 = 0 then ({ l with fs := (kT l.fs key).1 }, (kT l.fs key).2.1, 0) else (loZ, [], (kT l.fs key).2.2)
noncomputable def Zf (l : LoP) (key : List UInt8) (ps : List PartP) : LoP × Nat :=
 if (fnd 0 l.fs key).isSome then (loZ, 10)
 else if (zU l.st l.co key ps).2.2 = 0 then (⟨(zU l.st l.co key ps).1, (zU l.st l.co key ps).2.1, l.fs⟩, 0) else (loZ, (zU l.st l.co key ps).2.2)
theorem YS (s : StoP) (c : ColP) (ds : List (List UInt8)) : (zH s c ds).1.room = s.room ∧ (zH s c ds).1.clock = s.clock := by
 rw [qQ]
 exact ⟨rfl, rfl⟩
theorem kF {es : List EntP} {k : List UInt8} : es.findIdx? (fun x => x.key == k) = none ↔ ∀ x ∈ es, x.key ≠ k := by
 rw [List.findIdx?_eq_none_iff]
 simp
theorem uB {es : List EntP} {k : List UInt8} {i : Nat} (h : es.findIdx? (fun x => x.key == k) = some i) : ∃ hi : i < es.length, es[i].key = k := by
 obtain ⟨hi, h1, _⟩ := List.findIdx?_eq_some_iff_getElem.1 h
 exact ⟨hi, by simpa using h1⟩
theorem GoodL.apart {l : LoP} (h : GoodL l) : ∀ p ∈ l.fs, ∀ x ∈ l.st.ents, x.key ≠ p.key := fun p hp => by
 obtain ⟨j, hj, rfl⟩ := List.getElem_of_mem hp
 exact kF.1 (h.no j hj)
theorem GoodL.of {l : LoP} (hs : GoodS l.st) (hc : GoodC l.st l.co) (hg : l.co.grey.length ≤ 1000) (hf : GoodF l.fs) (hn : ∀ p ∈ l.fs, ∀ x ∈ l.st.ents, x.key ≠ p.key) : GoodL l :=
 ⟨hs, hc, hg, hf, fun j hj => kF.2 (hn _ (List.getElem_mem hj))⟩
theorem vr {s t : StoP} {c : ColP} (h : GoodC s c) (hb : t.blobs = s.blobs) (hr : ∀ x ∈ rts t, x ∈ rts s) : GoodC t c :=
 ⟨h.ph, h.gh, h.ris, h.ah, h.g0, h.a0, fun h1 x hx hb' => by rw [hb] at hb' ⊢; exact h.mr h1 x (hr x hx) hb', fun h1 => by rw [hb]; exact h.mb h1, fun h1 x hx => by
  rw [hb] at hx ⊢
  exact h.sw h1 x (hx.dmono hr)⟩
theorem Xx {es : List EntP} {i : Nat} {x : EntP} (hi : i < es.length) (h : x.parts = es[i].parts) : ud (es.set i x) = ud es := by
 unfold ud
 rw [List.flatMap_def, List.flatMap_def, ZM (fun x : EntP => x.parts.map (·.dig)) hi (by rw [h])]
theorem Q5 {s : StoP} {i : Nat} (hi : i < s.ents.length) : rts (qD s i s.ents[i]) = rts s := by
 show ud (s.ents.set i { s.ents[i] with stamp := s.clock + 1 }) ++ jM s.blobs = ud s.ents ++ jM s.blobs
 rw [Xx (x := { s.ents[i] with stamp := s.clock + 1 }) hi rfl]
theorem xB {es : List EntP} {i : Nat} {x y : EntP} (hi : i < es.length) (hk : x.key = es[i].key) (h : y ∈ es.set i x) : ∃ z ∈ es, z.key = y.key := by
 rcases List.mem_or_eq_of_mem_set h with h | rfl
 ·exact ⟨y, h, rfl⟩
 ·exact ⟨es[i], List.getElem_mem hi, hk.symm⟩
theorem GoodL.get {l : LoP} {i : Nat} (h : GoodL l) (hi : i < l.st.ents.length) (hc : l.st.clock < 1099511627776) : GoodL { l with st := qD l.st i l.st.ents[i] } :=
 .of (xL h.s hi hc) (vr h.c rfl (fun x hx => by rw [Q5 hi] at hx; exact hx)) h.g h.f fun p hp x hx => by
  obtain ⟨z, hz, e⟩ := xB (x := { l.st.ents[i] with stamp := l.st.clock + 1 }) hi rfl hx
  rw [← e]
  exact h.apart p hp z hz
theorem QE {fs : List FlP} {key : List UInt8} {n : Int} (h : GoodF fs) (hk : hexC key = 0) (hkl : key.length ≤ 1000) (h1 : 1 ≤ n) (h2 : n ≤ 1000) (h0 : (qN fs key n).2.2 = 0) :
  GoodF (qN fs key n).1 ∧ (∀ p ∈ (qN fs key n).1, p.key = key ∨ ∃ q ∈ fs, q.key = p.key) ∧ (qN fs key n).1.length ≤ fs.length + 1 := by
 unfold qN at h0 ⊢
 cases hf : fnd 0 fs key with
 | none =>
  rw [hf] at h0
  simp only at h0 ⊢
  by_cases h6 : fs.length = 6
  ·rw [if_pos h6] at h0; cases h0
  ·rw [if_neg h6]
   refine ⟨h.snoc (by have := h.len; omega) hk hkl hf h1 h2, fun p hp => ?_, by simp⟩
   rcases List.mem_append.1 hp with hp | hp
   ·exact .inr ⟨p, hp, rfl⟩
   ·rw [List.mem_singleton.1 hp]; exact .inl rfl
 | some i =>
  obtain ⟨hi, hik⟩ := ki hf
  rw [hf] at h0
  simp only [List.getElem?_eq_getElem hi] at h0 ⊢
  by_cases hc : (fs[i].lead :: fs[i].wait).contains n = true
  ·rw [if_pos hc] at h0; cases h0
  ·rw [if_neg hc] at h0 ⊢
   by_cases h5 : fs[i].wait.length = 5
   ·rw [if_pos h5] at h0; cases h0
   ·rw [if_neg h5]
    refine ⟨h.set hi h1 h2 (by simpa using hc) (by have := h.few i hi; omega), fun p hp => ?_, by simp⟩
    rcases List.mem_or_eq_of_mem_set hp with hp | rfl
    ·exact .inr ⟨p, hp, rfl⟩
    ·exact .inl hik
theorem yp {l : LoP} {key : List UInt8} {n : Int} (h : GoodL l) (hk : hexC key = 0) (hkl : key.length ≤ 1000) (h1 : 1 ≤ n) (h2 : n ≤ 1000) (hc : l.st.clock < 1099511627776) (h0 : (yW l key n).2.2.2 = 0) : GoodL (yW l key n).1 := by
 unfold yW at h0 ⊢
 cases hf : l.st.ents.findIdx? (fun x => x.key == key) with
 | some i =>
  obtain ⟨hi, _⟩ := uB hf
  simp only [List.getElem?_eq_getElem hi]
  exact h.get hi hc
 | none =>
  rw [hf] at h0
  simp only at h0 ⊢
  split at h0
  ·rename_i hj
   rw [if_pos hj]
   obtain ⟨a1, a2, _⟩ := QE h.f hk hkl h1 h2 hj
   refine .of h.s h.c h.g a1 fun p hp x hx => ?_
   rcases a2 p hp with e | ⟨q, hq, e⟩
   ·rw [e]; exact kF.1 hf x hx
   ·rw [← e]; exact h.apart q hq x hx
  ·rename_i hj; exact absurd h0 hj
structure LInv (m : Nat) (l : LoP) : Prop where
 b : Bsy m l.st l.co
 f : GoodF l.fs
 ap : ∀ p ∈ l.fs, ∀ x ∈ l.st.ents, x.key ≠ p.key
 k7 : ∀ p ∈ l.fs, ∃ j, j < 7 ∧ p.key = keyS j
theorem LInv.good {m : Nat} {l : LoP} (h : LInv m l) (hm : m ≤ 78) : GoodL l := .of h.b.g h.b.gc (by have := h.b.gr; omega) h.f h.ap
theorem LInv.up {m n : Nat} {l : LoP} (h : LInv m l) (hn : m ≤ n) : LInv n l := ⟨h.b.up hn, h.f, h.ap, h.k7⟩
theorem LInv.get {m i : Nat} {l : LoP} (h : LInv m l) (hm : m ≤ 1000) (hi : i < l.st.ents.length) : LInv (m + 1) { l with st := qD l.st i l.st.ents[i] } := by
 have hc : l.st.clock < 1099511627776 := by have := h.b.ck; omega
 have hk : ∀ x ∈ (qD l.st i l.st.ents[i]).ents, ∃ z ∈ l.st.ents, z.key = x.key := fun x hx => xB (x := { l.st.ents[i] with stamp := l.st.clock + 1 }) hi rfl hx
 refine ⟨⟨xL h.b.g hi hc, vr h.b.gc rfl (fun x hx => by rw [Q5 hi] at hx; exact hx), ?_, fun x hx => ?_, ?_⟩, h.f, fun p hp x hx => ?_, h.k7⟩
 ·have := h.b.gr; show 8 * unm l.st.blobs + l.co.grey.length ≤ _; omega
 ·obtain ⟨z, hz, e⟩ := hk x hx
  rw [← e]; exact h.b.k7 z hz
 ·have := h.b.ck; show l.st.clock + 1 ≤ _; omega
 ·obtain ⟨z, hz, e⟩ := hk x hx
  rw [← e]; exact h.ap p hp z hz
theorem jd {fs : List FlP} {key : List UInt8} (h : GoodF fs) (h0 : (kT fs key).2.2 = 0) :
  GoodF (kT fs key).1 ∧ (∀ p ∈ (kT fs key).1, p ∈ fs ∧ p.key ≠ key) ∧ ∃ i, ∃ hi : i < fs.length, fs[i].key = key ∧ kT fs key = (fs.eraseIdx i, fs[i].lead :: fs[i].wait, 0) := by
 unfold kT at h0 ⊢
 cases hf : fnd 0 fs key with
 | none => rw [hf] at h0; cases h0
 | some i =>
  obtain ⟨hi, hik⟩ := ki hf
  simp only [List.getElem?_eq_getElem hi]
  refine ⟨h.erase i, fun p hp => ⟨List.mem_of_mem_eraseIdx hp, fun e => ?_⟩, i, hi, hik, rfl⟩
  have := vm h.nodup hi
  rw [hik] at this
  exact (zX _ _ _).1 this p hp e
theorem LInv.done {m : Nat} {l : LoP} {key : List UInt8} {ps : List PartP} (h : LInv m l) (hm : m ≤ 78) (hk : ∃ j, j < 7 ∧ key = keyS j) (hp : chk ps = 0) (h0 : (yX l key ps).2.2 = 0) : LInv (m + 1) (yX l key ps).1 := by
 unfold yX at h0 ⊢
 split at h0
 ·rename_i he
  rw [if_pos he]
  obtain ⟨a1, a2, _⟩ := jd h.f he
  split at h0
  ·rename_i hb
   rw [if_pos hb]
   unfold zU at hb ⊢
   by_cases hh : zT l.st.blobs ps = 0
   ·rw [if_pos hh]
    refine ⟨h.b.pute hk hp hh (by have := h.b.ck; omega), a1, fun p hp x hx => ?_, fun p hp => h.k7 p (a2 p hp).1⟩
    dsimp only at hx
    rw [qQ] at hx
    rcases uC (show x ∈ kO l.st.ents _ from hx) with h3 | ⟨h3, _⟩
    ·exact h.ap p (a2 p hp).1 x h3
    ·rw [h3]; exact fun e => (a2 p hp).2 e.symm
   ·rw [if_neg hh] at hb; exact absurd hb hh
  ·rename_i hb; exact absurd h0 hb
 ·rename_i he; exact absurd h0 he
theorem LInv.fail {m : Nat} {l : LoP} {key : List UInt8} (h : LInv m l) (h0 : (kV l key).2.2 = 0) : LInv (m + 1) (kV l key).1 := by
 unfold kV at h0 ⊢
 split at h0
 ·rename_i he
  rw [if_pos he]
  obtain ⟨a1, a2, _⟩ := jd h.f he
  exact ⟨h.b.up (Nat.le_succ _), a1, fun p hp => h.ap p (a2 p hp).1, fun p hp => h.k7 p (a2 p hp).1⟩
 ·rename_i he; exact absurd h0 he
theorem LInv.put {m : Nat} {l : LoP} {key : List UInt8} {ps : List PartP} (h : LInv m l) (hm : m ≤ 78) (hk : ∃ j, j < 7 ∧ key = keyS j) (hp : chk ps = 0) (h0 : (Zf l key ps).2 = 0) : LInv (m + 1) (Zf l key ps).1 := by
 unfold Zf at h0 ⊢
 split at h0
 ·cases h0
 ·rename_i he
  rw [if_neg he]
  split at h0
  ·rename_i hb
   rw [if_pos hb]
   unfold zU at hb ⊢
   by_cases hh : zT l.st.blobs ps = 0
   ·rw [if_pos hh]
    refine ⟨h.b.pute hk hp hh (by have := h.b.ck; omega), h.f, fun p hp x hx => ?_, h.k7⟩
    dsimp only at hx
    rw [qQ] at hx
    rcases uC (show x ∈ kO l.st.ents _ from hx) with h3 | ⟨h3, _⟩
    ·exact h.ap p hp x h3
    ·rw [h3]
     intro e
     have hn : fnd 0 l.fs key = none := by
      cases hf : fnd 0 l.fs key with
      | none => rfl
      | some i => rw [hf] at he; exact absurd rfl he
     exact (zX _ _ _).1 hn p hp e.symm
   ·rw [if_neg hh] at hb; exact absurd hb hh
  ·rename_i hb; exact absurd h0 hb
end Go.Proofs.YtpbacomdoddhdaaGreat
