/- Lemmas of a proof, made shorter by a program. Conditions: none, or as each states. -/
import Derived.Test.YtngfnjekjfeacaaGreatQC26
namespace Go.Proofs.YtngfnjekjfeacaaGreat
open Go.RowKit
set_option linter.unusedVariables false
set_option linter.unusedSimpArgs false
def uni (L : List (List UInt8)) : List (List UInt8) := srt (fun x => x) (nub L)
theorem kR (L : List (List UInt8)) : Rises (uni L) := qX (f := fun x => x) (by rw [List.map_id']; exact uf L)
theorem yZ (L : List (List UInt8)) : StrL (uni L) (fun x => x ∈ L) := by
 refine ⟨(kR L).nodup, (kR L).imp fun {a b} h => ?_, fun x => ?_⟩
 ·rw [Vf]
  cases hb : Op.bytesLess b a with
  | false => rfl
  | true => have := qf h hb; rw [qO] at this; cases this
 ·show x ∈ srt _ _ ↔ _
  rw [(zD _ _).mem_iff, yr]
theorem k9 {L : List (List UInt8)} {x : List UInt8} : x ∈ uni L ↔ x ∈ L := (yZ L).mem x
theorem StrL.uni {L M : List (List UInt8)} {p : List UInt8 → Prop} (h : StrL M p) (hp : ∀ x, p x ↔ x ∈ L) : M = uni L :=
 StrL.uniq h ⟨(yZ L).nd, (yZ L).le, fun x => (k9).trans (hp x).symm⟩
theorem jo (L : List (List UInt8)) : (uni L).length ≤ L.length := by
 have : ∀ l : List (List UInt8), (nub l).length ≤ l.length := fun l => by
  induction l with
  | nil => exact Nat.le_refl _
  | cons x l ih =>
   rw [nub]
   split
   ·exact Nat.le_trans ih (by simp)
   ·simpa using ih
 show (srt _ _).length ≤ _
 rw [(zD _ _).length_eq]
 exact this L
structure ColP where
 phase : Nat
 grey : List (List UInt8)
 at_ : List UInt8
def Kk (bl : List BlobP) : List BlobP := bl.map fun b => { b with mark := false }
def qi (s : StoP) : StoP := { s with blobs := Kk s.blobs }
def qE (s : StoP) : ColP := ⟨1, uni (rts s), []⟩
def mkd (bl : List BlobP) : List (List UInt8) := (bl.filter (·.mark)).map (·.dig)
theorem yw {bl : List BlobP} {x : List UInt8} : x ∈ mkd bl ↔ ∃ b ∈ bl, b.mark = true ∧ b.dig = x := by
 unfold mkd
 rw [List.mem_map]
 constructor
 ·rintro ⟨b, hb, e⟩
  obtain ⟨h1, h2⟩ := List.mem_filter.1 hb
  exact ⟨b, h1, h2, e⟩
 ·rintro ⟨b, hb, h, e⟩
  exact ⟨b, List.mem_filter.2 ⟨hb, h⟩, e⟩
def ze (s : StoP) (c : ColP) : StoP × ColP :=
 match c.grey with
 | [] => (s, ⟨2, [], []⟩)
 | d :: rest => match s.blobs.findIdx? (fun b => b.dig == d) with
  | none => (s, ⟨1, rest, []⟩)
  | some i => match s.blobs[i]? with
   | none => (s, ⟨1, rest, []⟩)
   | some b => if b.mark then (s, ⟨1, rest, []⟩) else ({ s with blobs := s.blobs.set i { b with mark := true } }, ⟨1, uni (rest ++ (q9 b.data).1.map (·.dig)), []⟩)
def zG (s : StoP) (c : ColP) : StoP × ColP × List UInt8 :=
 match s.blobs.findIdx? (fun b => Op.bytesLess c.at_ b.dig) with
 | none => (s, ⟨0, [], []⟩, [])
 | some i => match s.blobs[i]? with
  | none => (s, ⟨0, [], []⟩, [])
  | some b => if b.mark then (s, ⟨2, [], b.dig⟩, []) else ({ s with blobs := s.blobs.eraseIdx i }, ⟨2, [], b.dig⟩, b.dig)
def zm (s : StoP) (c : ColP) : StoP × ColP × List UInt8 := if c.phase = 1 then ((ze s c).1, (ze s c).2, []) else zG s c
def NoM (b : BlobP) : List UInt8 × List UInt8 × Nat := (b.dig, b.data, b.pins)
def EqM (l m : List BlobP) : Prop := l.map NoM = m.map NoM
theorem EqM.symm {l m : List BlobP} (h : EqM l m) : EqM m l := Eq.symm h
theorem EqM.trans {l m k : List BlobP} (h : EqM l m) (h' : EqM m k) : EqM l k := Eq.trans h h'
theorem EqM.len {l m : List BlobP} (h : EqM l m) : l.length = m.length := by
 have := congrArg List.length h
 simpa using this
theorem EqM.at_ {l m : List BlobP} (h : EqM l m) (i : Nat) (h1 : i < l.length) (h2 : i < m.length) : m[i].dig = l[i].dig ∧ m[i].data = l[i].data ∧ m[i].pins = l[i].pins := by
 have h3 := congrArg (fun x => x[i]?) h
 simp only [List.getElem?_map, List.getElem?_eq_getElem h1, List.getElem?_eq_getElem h2, Option.map_some, Option.some.injEq, NoM, Prod.mk.injEq] at h3
 exact ⟨h3.1.symm, h3.2.1.symm, h3.2.2.symm⟩
theorem EqM.mem {l m : List BlobP} (h : EqM l m) {b : BlobP} (hb : b ∈ l) : ∃ b' ∈ m, b'.dig = b.dig ∧ b'.data = b.data ∧ b'.pins = b.pins := by
 obtain ⟨i, hi, rfl⟩ := List.mem_iff_getElem.1 hb
 have h2 : i < m.length := by rw [← h.len]; exact hi
 exact ⟨m[i], List.getElem_mem h2, h.at_ i hi h2⟩
theorem EqM.cons {a b : BlobP} {l m : List BlobP} (h : EqM (a :: l) (b :: m)) : (b.dig = a.dig ∧ b.data = a.data ∧ b.pins = a.pins) ∧ EqM l m := by
 unfold EqM at h
 simp only [List.map_cons, List.cons.injEq] at h
 obtain ⟨h1, h2⟩ := h
 unfold NoM at h1
 simp only [Prod.mk.injEq] at h1
 exact ⟨⟨h1.1.symm, h1.2.1.symm, h1.2.2.symm⟩, h2⟩
theorem QH {x : List UInt8} : ∀ {l m : List BlobP}, EqM l m → m.findIdx? (fun b => b.dig == x) = l.findIdx? (fun b => b.dig == x)
 | [], [], _ => rfl
 | [], b :: m, h => by cases h
 | a :: l, [], h => by cases h
 | a :: l, b :: m, h => by
  obtain ⟨h1, h2⟩ := h.cons
  rw [List.findIdx?_cons, List.findIdx?_cons, h1.1, QH h2]
theorem vW {l m : List BlobP} (h : EqM l m) (x : List UInt8) : kids m x = kids l x := by
 unfold kids
 rw [QH h]
 cases hf : l.findIdx? (fun b => b.dig == x) with
 | none => rfl
 | some i =>
  have hi : i < l.length := (List.findIdx?_eq_some_iff_getElem.1 hf).1
  have hi2 : i < m.length := by rw [← h.len]; exact hi
  simp only [List.getElem?_eq_getElem hi, List.getElem?_eq_getElem hi2]
  rw [(h.at_ i hi hi2).2.1]
theorem yk {l m : List BlobP} (h : EqM l m) {x : List UInt8} : InB m x ↔ InB l x := by
 constructor
 ·rintro ⟨b, hb, e⟩
  obtain ⟨b', hb', e1, _⟩ := h.symm.mem hb
  exact ⟨b', hb', e1.trans e⟩
 ·rintro ⟨b, hb, e⟩
  obtain ⟨b', hb', e1, _⟩ := h.mem hb
  exact ⟨b', hb', e1.trans e⟩
theorem jX {l m : List BlobP} (h : EqM l m) {ds : List (List UInt8)} {x : List UInt8} (hx : Rch l ds x) : Rch m ds x := by
 induction hx with
 | root h1 h2 => exact .root h1 ((yk h).2 h2)
 | step h1 h2 h3 ih => exact .step ih (by rw [vW h]; exact h2) ((yk h).2 h3)
theorem jh {l m : List BlobP} (h : EqM l m) {ds : List (List UInt8)} : Rch m ds = Rch l ds := funext fun x => propext ⟨jX h.symm, jX h⟩
theorem jL : ∀ {l m : List BlobP}, EqM l m → xF m = xF l
 | [], [], _ => rfl
 | [], b :: m, h => by cases h
 | a :: l, [], h => by cases h
 | a :: l, b :: m, h => by
  obtain ⟨h1, h2⟩ := h.cons
  have ih := jL h2
  unfold xF at ih ⊢
  rw [List.filter_cons, List.filter_cons, h1.2.2]
  split
  ·rw [List.map_cons, List.map_cons, h1.1, ih]
  ·exact ih
theorem xj {s : StoP} {m : List BlobP} (h : EqM s.blobs m) : rts { s with blobs := m } = rts s := by
 show vh s.ents ++ xF m = _
 rw [jL h]; rfl
theorem Xz {l m : List BlobP} (h : EqM l m) (hr : RisesBy (·.dig) l) : RisesBy (·.dig) m := by
 have e : m.map (·.dig) = l.map (·.dig) := by
  have h3 := congrArg (List.map Prod.fst) h
  simp only [List.map_map] at h3
  exact h3.symm
 have := List.pairwise_map.1 (e ▸ hr.map : Rises (m.map (·.dig)))
 exact this
theorem V1 {l m : List BlobP} (h : EqM l m) : usd m = usd l := by
 have h3 := congrArg (List.map fun x : List UInt8 × List UInt8 × Nat => x.2.1.length) h
 simp only [List.map_map] at h3
 unfold usd
 exact (congrArg List.sum h3).symm
theorem vP {s : StoP} {m : List BlobP} (h : EqM s.blobs m) (hg : GoodS s) : GoodS { s with blobs := m } :=
 ⟨⟨by rw [← h.len]; exact hg.b.len, fun b hb => by
   obtain ⟨b', hb', e1, e2, e3⟩ := h.symm.mem hb
   have h1 := hg.b.one b' hb'
   unfold GoodB1 at h1 ⊢
   rw [← e1, ← e2, ← e3]; exact h1, Xz h hg.b.ris⟩, hg.e, hg.room, by show usd m ≤ _; rw [V1 h]; exact hg.used, hg.clock, fun x hx => ⟨(hg.ent x hx).1, fun p hp => by
   obtain ⟨b, hb, e1, e2⟩ := (hg.ent x hx).2 p hp
   obtain ⟨b', hb', e3, e4, _⟩ := h.mem hb
   exact ⟨b', hb', e3.trans e1, by rw [e4]; exact e2⟩⟩⟩
theorem qF (l : List BlobP) : EqM l (Kk l) := by
 unfold EqM Kk
 rw [List.map_map]; rfl
theorem ja {l : List BlobP} {i : Nat} (hi : i < l.length) (k : Bool) : EqM l (l.set i { l[i] with mark := k }) := by
 unfold EqM
 rw [List.map_set]
 have : NoM { l[i] with mark := k } = (l.map NoM)[i]'(by simpa using hi) := by rw [List.getElem_map]; rfl
 rw [this, List.set_getElem_self]
end Go.Proofs.YtngfnjekjfeacaaGreat
namespace Go.Proofs.YtngfnjekjfeacaaGreat
open Go.RowKit
set_option linter.unusedVariables false
set_option linter.unusedSimpArgs false
theorem Xy (b : List UInt8) (h : (q9 b).2 ≠ 0) : (q9 b).1 = [] := by
 unfold q9 at h ⊢
 split
 ·rfl
 rename_i h1
 rw [if_neg h1] at h
 split
 ·rfl
 rename_i h2
 rw [if_neg h2] at h
 split
 ·rfl
 rename_i h3
 rw [if_neg h3] at h
 split
 ·rfl
 rename_i h4
 rw [if_neg h4] at h
 split
 ·rfl
 rename_i h5
 rw [if_neg h5] at h
 split
 ·rfl
 rename_i h6
 rw [if_neg h6] at h
 split
 ·rfl
 rename_i h7
 rw [if_neg h7] at h
 exact absurd rfl h
theorem Qs (b : List UInt8) : (q9 b).1 = [] ∨ (enc (q9 b).1 = b ∧ chk (q9 b).1 = 0) := by
 by_cases h : (q9 b).2 = 0
 ·right
  have e : q9 b = ((q9 b).1, 0) := by rw [← h]
  exact Yc e
 ·exact .inl (Xy b h)
theorem YZ (b : List UInt8) : ∀ p ∈ (q9 b).1, hexC p.dig = 0 := fun p hp => by
 rcases Qs b with h | h
 ·rw [h] at hp; cases hp
 ·exact ((zi h.2).2 p hp).2.1
theorem KG {bl : List BlobP} {x y : List UInt8} (h : y ∈ kids bl x) : hexC y = 0 := by
 unfold kids at h
 cases hf : bl.findIdx? (fun b => b.dig == x) with
 | none => rw [hf] at h; cases h
 | some i =>
  rw [hf] at h
  cases hb : bl[i]? with
  | none => simp only [hb] at h; cases h
  | some b =>
   simp only [hb] at h
   obtain ⟨p, hp, rfl⟩ := List.mem_map.1 h
   exact YZ b.data p hp
theorem XU {s : StoP} (hg : GoodS s) {x : List UInt8} (h : x ∈ rts s) : hexC x = 0 := by
 rcases List.mem_append.1 h with h | h
 ·obtain ⟨y, hy, h2⟩ := List.mem_flatMap.1 h
  obtain ⟨p, hp, rfl⟩ := List.mem_map.1 h2
  exact ((zi (hg.e.one y hy).2.1).2 p hp).2.1
 ·obtain ⟨b, hb, rfl⟩ := List.mem_map.1 h
  rw [(hg.b.one b (List.mem_filter.1 hb).1).1]
  exact zu _
structure GoodC (s : StoP) (c : ColP) : Prop where
 ph : c.phase ≤ 2
 gh : ∀ d ∈ c.grey, hexC d = 0
 ris : Rises c.grey
 ah : c.at_ = [] ∨ hexC c.at_ = 0
 g0 : c.phase ≠ 1 → c.grey = []
 a0 : c.phase ≠ 2 → c.at_ = []
 mr : c.phase = 1 → ∀ x ∈ rts s, InB s.blobs x → x ∈ mkd s.blobs ∨ x ∈ c.grey
 mb : c.phase = 1 → ∀ b ∈ s.blobs, b.mark = true → ∀ x ∈ kids s.blobs b.dig, InB s.blobs x → x ∈ mkd s.blobs ∨ x ∈ c.grey
 sw : c.phase = 2 → ∀ x, Rch s.blobs (rts s) x → x ∈ mkd s.blobs
theorem kW {s : StoP} (hg : GoodS s) : GoodS (qi s) := vP (qF s.blobs) hg
theorem ZT (s : StoP) : rts (qi s) = rts s := xj (qF s.blobs)
theorem kX {s : StoP} (hg : GoodS s) : GoodC (qi s) (qE s) := by
 refine ⟨by show 1 ≤ 2; omega, fun d hd => XU hg (k9.1 hd), kR _, .inl rfl, fun h => absurd rfl h, fun _ => rfl, fun _ x hx _ => .inr ?_, fun _ b hb hm => ?_, fun h => absurd h (by show ¬ (1 = 2); omega)⟩
 ·rw [ZT] at hx; exact k9.2 hx
 ·exfalso
  obtain ⟨a, _, rfl⟩ := List.mem_map.1 hb
  cases hm
theorem Ze {s : StoP} (hr : RisesBy (·.dig) s.blobs) (h1 : ∀ x ∈ rts s, InB s.blobs x → x ∈ mkd s.blobs) (h2 : ∀ b ∈ s.blobs, b.mark = true → ∀ x ∈ kids s.blobs b.dig, InB s.blobs x → x ∈ mkd s.blobs) : ∀ x, Rch s.blobs (rts s) x → x ∈ mkd s.blobs := fun x hx => by
 induction hx with
 | root h3 h4 => exact h1 _ h3 h4
 | step h3 h4 h5 ih =>
  obtain ⟨b, hb, hm, rfl⟩ := yw.1 ih
  exact h2 b hb hm _ h4 h5
theorem Xn {l : List BlobP} {i : Nat} (hi : i < l.length) (x : List UInt8) : x ∈ mkd (l.set i { l[i] with mark := true }) ↔ x ∈ mkd l ∨ x = l[i].dig := by
 rw [yw, yw]
 constructor
 ·rintro ⟨b, hb, hm, rfl⟩
  rcases List.mem_or_eq_of_mem_set hb with h | h
  ·exact .inl ⟨b, h, hm, rfl⟩
  ·subst h; exact .inr rfl
 ·rintro (⟨b, hb, hm, rfl⟩ | rfl)
  ·obtain ⟨j, hj, rfl⟩ := List.mem_iff_getElem.1 hb
   by_cases hij : i = j
   ·subst hij
    exact ⟨_, List.mem_iff_getElem.2 ⟨i, by simpa using hi, rfl⟩, by simp, by simp⟩
   ·exact ⟨l[j], List.mem_iff_getElem.2 ⟨j, by simpa using hj, by rw [List.getElem_set_ne hij]⟩, hm, rfl⟩
  ·exact ⟨_, List.mem_iff_getElem.2 ⟨i, by simpa using hi, rfl⟩, by simp, by simp⟩
theorem zO (s : StoP) (c : ColP) : (c.grey = [] ∧ ze s c = (s, ⟨2, [], []⟩)) ∨
  (∃ d rest, c.grey = d :: rest ∧ ¬ InB s.blobs d ∧ ze s c = (s, ⟨1, rest, []⟩)) ∨
  (∃ d rest i, ∃ hi : i < s.blobs.length, c.grey = d :: rest ∧ s.blobs.findIdx? (fun b => b.dig == d) = some i ∧ s.blobs[i].dig = d ∧ s.blobs[i].mark = true ∧ ze s c = (s, ⟨1, rest, []⟩)) ∨
  (∃ d rest i, ∃ hi : i < s.blobs.length, c.grey = d :: rest ∧ s.blobs.findIdx? (fun b => b.dig == d) = some i ∧ s.blobs[i].dig = d ∧ s.blobs[i].mark = false ∧ ze s c = ({ s with blobs := s.blobs.set i { s.blobs[i] with mark := true } }, ⟨1, uni (rest ++ kids s.blobs d), []⟩)) := by
 unfold ze
 cases hc : c.grey with
 | nil => exact .inl ⟨rfl, rfl⟩
 | cons d rest =>
  right
  generalize hf : s.blobs.findIdx? (fun b => b.dig == d) = r
  cases r with
  | none =>
   left
   refine ⟨d, rest, rfl, fun h => ?_, by simp only [hf]⟩
   rw [uU, hf] at h; cases h
  | some i =>
   right
   obtain ⟨hi, hd, _⟩ := List.findIdx?_eq_some_iff_getElem.1 hf
   have hd' : s.blobs[i].dig = d := by simpa using hd
   have hk : kids s.blobs d = (q9 s.blobs[i].data).1.map (·.dig) := by
    unfold kids
    simp only [hf, List.getElem?_eq_getElem hi]
   cases hm : s.blobs[i].mark with
   | true =>
    left
    refine ⟨d, rest, i, hi, rfl, hf, hd', hm, ?_⟩
    simp only [hf, List.getElem?_eq_getElem hi, hm, if_true]
   | false =>
    right
    refine ⟨d, rest, i, hi, rfl, hf, hd', hm, ?_⟩
    rw [hk]
    simp only [hf, List.getElem?_eq_getElem hi, hm, Bool.false_eq_true, if_false]
theorem zI (s : StoP) (c : ColP) : EqM s.blobs (ze s c).1.blobs ∧ (ze s c).1 = { s with blobs := (ze s c).1.blobs } := by
 rcases zO s c with ⟨_, h⟩ | ⟨_, _, _, _, h⟩ | ⟨_, _, _, _, _, _, _, _, h⟩ | ⟨_, _, _, hi, _, _, _, _, h⟩
 ·rw [h]; exact ⟨rfl, rfl⟩
 ·rw [h]; exact ⟨rfl, rfl⟩
 ·rw [h]; exact ⟨rfl, rfl⟩
 ·rw [h]; exact ⟨ja hi true, rfl⟩
theorem xX {s : StoP} (c : ColP) (hg : GoodS s) : GoodS (ze s c).1 := by
 rw [(zI s c).2]; exact vP (zI s c).1 hg
theorem Qf (s : StoP) (c : ColP) : rts (ze s c).1 = rts s := by
 rw [(zI s c).2]; exact xj (zI s c).1
theorem Ko (s : StoP) (c : ColP) : Rch (ze s c).1.blobs (rts (ze s c).1) = Rch s.blobs (rts s) := by
 rw [Qf]; exact jh (zI s c).1
theorem xz {s : StoP} {c : ColP} (hg : GoodS s) (hp : c.phase = 1) (h : GoodC s c) : GoodC (ze s c).1 (ze s c).2 := by
 rcases zO s c with ⟨hc, e⟩ | ⟨d, rest, hc, hn, e⟩ | ⟨d, rest, i, hi, hc, _, hd, hm, e⟩ | ⟨d, rest, i, hi, hc, hf, hd, hm, e⟩
 ·rw [e]
  refine ⟨Nat.le_refl _, (fun d hd => by cases hd), List.Pairwise.nil, .inl rfl, fun _ => rfl, fun h => absurd rfl h, fun h => (by cases h), fun h => (by cases h), fun _ => ?_⟩
  refine Ze hg.b.ris (fun x hx hb => ?_) (fun b hb hm x hx hi => ?_)
  ·rcases h.mr hp x hx hb with h1 | h1
   ·exact h1
   ·rw [hc] at h1; cases h1
  ·rcases h.mb hp b hb hm x hx hi with h1 | h1
   ·exact h1
   ·rw [hc] at h1; cases h1
 ·rw [e]
  have hr := h.ris
  have hgh := h.gh
  rw [hc] at hr hgh
  have drop : ∀ x, InB s.blobs x → (x ∈ mkd s.blobs ∨ x ∈ c.grey) → x ∈ mkd s.blobs ∨ x ∈ rest := fun x hx hh => hh.imp id fun h2 => by
   rw [hc] at h2
   rcases List.mem_cons.1 h2 with rfl | h2
   ·exact absurd hx hn
   ·exact h2
  exact ⟨by show 1 ≤ 2; omega, fun x hx => hgh x (List.mem_cons_of_mem _ hx), (List.pairwise_cons.1 hr).2, .inl rfl, fun h => absurd rfl h, fun _ => rfl, fun _ x hx hi => drop x hi (h.mr hp x hx hi), fun _ b hb hm x hx hi => drop x hi (h.mb hp b hb hm x hx hi), fun h => by cases h⟩
 ·rw [e]
  have hr := h.ris
  have hgh := h.gh
  rw [hc] at hr hgh
  have drop : ∀ x, InB s.blobs x → (x ∈ mkd s.blobs ∨ x ∈ c.grey) → x ∈ mkd s.blobs ∨ x ∈ rest := fun x hx hh => by
   rcases hh with h2 | h2
   ·exact .inl h2
   ·rw [hc] at h2
    rcases List.mem_cons.1 h2 with rfl | h2
    ·exact .inl (yw.2 ⟨_, List.getElem_mem hi, hm, hd⟩)
    ·exact .inr h2
  exact ⟨by show 1 ≤ 2; omega, fun x hx => hgh x (List.mem_cons_of_mem _ hx), (List.pairwise_cons.1 hr).2, .inl rfl, fun h => absurd rfl h, fun _ => rfl, fun _ x hx hi => drop x hi (h.mr hp x hx hi), fun _ b hb hm x hx hi => drop x hi (h.mb hp b hb hm x hx hi), fun h => by cases h⟩
 ·have e1 : (ze s c).1 = { s with blobs := s.blobs.set i { s.blobs[i] with mark := true } } := by rw [e]
  have e2 : (ze s c).2 = ⟨1, uni (rest ++ kids s.blobs d), []⟩ := by rw [e]
  have hE : EqM s.blobs (s.blobs.set i { s.blobs[i] with mark := true }) := ja hi true
  rw [e1, e2]
  have hgh := h.gh
  rw [hc] at hgh
  have keep : ∀ x, (x ∈ mkd s.blobs ∨ x ∈ c.grey) → x ∈ mkd (s.blobs.set i { s.blobs[i] with mark := true }) ∨ x ∈ uni (rest ++ kids s.blobs d) := fun x hh => by
   rw [Xn hi, k9, List.mem_append]
   rcases hh with h2 | h2
   ·exact .inl (.inl h2)
   ·rw [hc] at h2
    rcases List.mem_cons.1 h2 with rfl | h2
    ·exact .inl (.inr hd.symm)
    ·exact .inr (.inl h2)
  refine ⟨by show 1 ≤ 2; omega, fun x hx => ?_, kR _, .inl rfl, fun h => absurd rfl h, fun _ => rfl, fun _ x hx hb => ?_, fun _ b hb hmb x hx hbx => ?_, fun h => by cases h⟩
  ·rcases List.mem_append.1 (k9.1 hx) with h2 | h2
   ·exact hgh x (List.mem_cons_of_mem _ h2)
   ·exact KG h2
  ·rw [xj hE] at hx
   exact keep x (h.mr hp x hx ((yk hE).1 hb))
  ·have hk : kids (s.blobs.set i { s.blobs[i] with mark := true }) b.dig = kids s.blobs b.dig := vW hE _
   have hbx' := (yk hE).1 hbx
   have hx' : x ∈ kids s.blobs b.dig := by rw [← hk]; exact hx
   rcases List.mem_or_eq_of_mem_set hb with h2 | h2
   ·exact keep x (h.mb hp b h2 hmb x hx' hbx')
   ·subst h2
    right
    rw [k9, List.mem_append]
    have hx2 : x ∈ kids s.blobs s.blobs[i].dig := hx'
    rw [hd] at hx2
    exact .inr hx2
theorem Xw {l m : List BlobP} (h : l.Sublist m) : usd l ≤ usd m := by
 induction h with
 | slnil => exact Nat.le_refl _
 | cons a _ ih => unfold usd at *; simp only [List.map_cons, List.sum_cons]; omega
 | cons_cons a _ ih => unfold usd at *; simp only [List.map_cons, List.sum_cons]; omega
theorem qI {l : List BlobP} (hr : RisesBy (·.dig) l) (i : Nat) : RisesBy (·.dig) (l.eraseIdx i) := List.Pairwise.sublist (List.eraseIdx_sublist _ _) hr
theorem uQ {l : List BlobP} (hr : RisesBy (·.dig) l) {i : Nat} (hi : i < l.length) {b : BlobP} (hb : b ∈ l) : b = l[i] ∨ b ∈ l.eraseIdx i := by
 obtain ⟨j, hj, rfl⟩ := List.mem_iff_getElem.1 hb
 by_cases h : j = i
 ·subst h; exact .inl rfl
 ·right
  rw [List.mem_eraseIdx_iff_getElem]
  exact ⟨j, hj, h, rfl⟩
theorem zx (s : StoP) (c : ColP) : (s.blobs.findIdx? (fun b => Op.bytesLess c.at_ b.dig) = none ∧ zG s c = (s, ⟨0, [], []⟩, [])) ∨
  (∃ i, ∃ hi : i < s.blobs.length, s.blobs.findIdx? (fun b => Op.bytesLess c.at_ b.dig) = some i ∧ s.blobs[i].mark = true ∧ zG s c = (s, ⟨2, [], s.blobs[i].dig⟩, [])) ∨
  (∃ i, ∃ hi : i < s.blobs.length, s.blobs.findIdx? (fun b => Op.bytesLess c.at_ b.dig) = some i ∧ s.blobs[i].mark = false ∧ zG s c = ({ s with blobs := s.blobs.eraseIdx i }, ⟨2, [], s.blobs[i].dig⟩, s.blobs[i].dig)) := by
 unfold zG
 cases hf : s.blobs.findIdx? (fun b => Op.bytesLess c.at_ b.dig) with
 | none => exact .inl ⟨rfl, by simp only [hf]⟩
 | some i =>
  right
  obtain ⟨hi, hd, _⟩ := List.findIdx?_eq_some_iff_getElem.1 hf
  cases hm : s.blobs[i].mark with
  | true => exact .inl ⟨i, hi, rfl, hm, by simp only [hf, List.getElem?_eq_getElem hi, hm, if_true]⟩
  | false => exact .inr ⟨i, hi, rfl, hm, by simp only [hf, List.getElem?_eq_getElem hi, hm, Bool.false_eq_true, if_false]⟩
section
variable {s : StoP} {i : Nat}
theorem Z1 (hg : GoodS s) (hi : i < s.blobs.length) (hm : s.blobs[i].mark = false) (hsw : ∀ x, Rch s.blobs (rts s) x → x ∈ mkd s.blobs) : ¬ Rch s.blobs (rts s) s.blobs[i].dig := fun h => by
 obtain ⟨b, hb, hmb, e⟩ := yw.1 (hsw _ h)
 have := hg.b.ris.inj hb (List.getElem_mem hi) e
 subst this
 rw [hm] at hmb; cases hmb
theorem ut (hg : GoodS s) (hi : i < s.blobs.length) (hn : ¬ Rch s.blobs (rts s) s.blobs[i].dig) : s.blobs[i].pins = 0 := by
 rcases Nat.eq_zero_or_pos s.blobs[i].pins with h | h
 ·exact h
 ·exact absurd (.root (XV (List.getElem_mem hi) h) ⟨_, List.getElem_mem hi, rfl⟩) hn
theorem Qt (hi : i < s.blobs.length) (hp : s.blobs[i].pins = 0) : xF (s.blobs.eraseIdx i) = xF s.blobs := by
 unfold xF
 rw [ka s.blobs i hi (by simp [hp])]
theorem Yg (hi : i < s.blobs.length) (hp : s.blobs[i].pins = 0) : rts { s with blobs := s.blobs.eraseIdx i } = rts s := by
 show vh s.ents ++ xF (s.blobs.eraseIdx i) = _
 rw [Qt hi hp]; rfl
theorem KO (hg : GoodS s) (hi : i < s.blobs.length) {x : List UInt8} (hx : InB s.blobs x) (hne : x ≠ s.blobs[i].dig) : InB (s.blobs.eraseIdx i) x := by
 obtain ⟨b, hb, rfl⟩ := hx
 rcases uQ hg.b.ris hi hb with h | h
 ·subst h; exact absurd rfl hne
 ·exact ⟨b, h, rfl⟩
theorem jN (hg : GoodS s) (hi : i < s.blobs.length) (hn : ¬ Rch s.blobs (rts s) s.blobs[i].dig) : Rch (s.blobs.eraseIdx i) (rts { s with blobs := s.blobs.eraseIdx i }) = Rch s.blobs (rts s) := by
 rw [Yg hi (ut hg hi hn)]
 refine funext fun x => propext ⟨fun h => h.sub hg.b.ris (qI hg.b.ris i) (qU _ _) (fun _ h => h), fun h => h.keepb hg.b.ris (qI hg.b.ris i) (qU _ _) (fun _ h => h) (fun y hy => KO hg hi hy.inB (fun e => hn (e ▸ hy)))⟩
theorem uC (hg : GoodS s) (hi : i < s.blobs.length) (hn : ¬ Rch s.blobs (rts s) s.blobs[i].dig) : GoodS { s with blobs := s.blobs.eraseIdx i } := by
 refine ⟨⟨Nat.le_trans (List.eraseIdx_sublist _ _).length_le hg.b.len, fun b hb => hg.b.one b (qU _ _ b hb), qI hg.b.ris i⟩, hg.e, hg.room, Nat.le_trans ?_ hg.used, hg.clock, fun x hx => ⟨(hg.ent x hx).1, fun p hp => ?_⟩⟩
 ·show usd (s.blobs.eraseIdx i) ≤ usd s.blobs
  exact Xw (List.eraseIdx_sublist s.blobs i)
 ·obtain ⟨b, hb, e1, e2⟩ := (hg.ent x hx).2 p hp
  rcases uQ hg.b.ris hi hb with h | h
  ·subst h
   exact absurd (.root (by rw [e1]; exact jD hx hp) ⟨_, hb, rfl⟩) hn
  ·exact ⟨b, h, e1, e2⟩
theorem KU (hi : i < s.blobs.length) (hm : s.blobs[i].mark = false) : mkd (s.blobs.eraseIdx i) = mkd s.blobs := by
 unfold mkd
 rw [ka s.blobs i hi hm]
end
theorem Zx {s : StoP} {c : ColP} (hg : GoodS s) (hp : c.phase = 2) (h : GoodC s c) : GoodS (zG s c).1 ∧ GoodC (zG s c).1 (zG s c).2.1 ∧ Rch (zG s c).1.blobs (rts (zG s c).1) = Rch s.blobs (rts s) ∧ (zG s c).1.ents = s.ents ∧ (zG s c).1.room = s.room ∧ (zG s c).1.clock = s.clock := by
 rcases zx s c with ⟨_, e⟩ | ⟨i, hi, _, hm, e⟩ | ⟨i, hi, _, hm, e⟩
 ·rw [e]
  exact ⟨hg, ⟨by show 0 ≤ 2; omega, (fun d hd => by cases hd), List.Pairwise.nil, .inl rfl, fun _ => rfl, fun _ => rfl, fun h => (by cases h), fun h => (by cases h), fun h => by cases h⟩, rfl, rfl, rfl, rfl⟩
 ·rw [e]
  exact ⟨hg, ⟨Nat.le_refl _, (fun d hd => by cases hd), List.Pairwise.nil, .inr (by show hexC s.blobs[i].dig = 0; rw [(hg.b.one _ (List.getElem_mem hi)).1]; exact zu _), fun _ => rfl, fun h => absurd rfl h, fun h => (by cases h), fun h => (by cases h), fun _ => h.sw hp⟩, rfl, rfl, rfl, rfl⟩
 ·have hn := Z1 hg hi hm (h.sw hp)
  rw [e]
  refine ⟨uC hg hi hn, ⟨Nat.le_refl _, (fun d hd => by cases hd), List.Pairwise.nil, .inr (by show hexC s.blobs[i].dig = 0; rw [(hg.b.one _ (List.getElem_mem hi)).1]; exact zu _), fun _ => rfl, fun h => absurd rfl h, fun h => (by cases h), fun h => (by cases h), fun _ x hx => ?_⟩, jN hg hi hn, rfl, rfl, rfl⟩
  show x ∈ mkd (s.blobs.eraseIdx i)
  rw [KU hi hm]
  exact h.sw hp x (by rw [← jN hg hi hn]; exact hx)
def unm (bl : List BlobP) : Nat := (bl.filter (fun b => !b.mark)).length
theorem YV (bl : List BlobP) : unm bl ≤ bl.length := List.length_filter_le _ _
theorem kY {p : BlobP → Bool} : ∀ {l : List BlobP} {i : Nat} {y : BlobP} (hi : i < l.length), p l[i] = true → p y = false → ((l.set i y).filter p).length + 1 = (l.filter p).length
 | x :: l, 0, y, _, h1, h2 => by
  rw [List.set_cons_zero, List.filter_cons_of_neg (by simp [h2]), List.filter_cons_of_pos (by simpa using h1)]; rfl
 | x :: l, i + 1, y, hi, h1, h2 => by
  have ih := kY (l := l) (i := i) (y := y) (by simpa using hi) (by simpa using h1) h2
  rw [List.set_cons_succ]
  by_cases hx : p x = true
  ·rw [List.filter_cons_of_pos hx, List.filter_cons_of_pos hx, List.length_cons, List.length_cons, ih]
  ·rw [List.filter_cons_of_neg hx, List.filter_cons_of_neg hx, ih]
def qN (k : Nat) (bl : List BlobP) : Prop := ∀ b ∈ bl, (q9 b.data).1.length ≤ k
theorem kj (bl : List BlobP) : qN 8 bl := fun b _ => kg b.data
theorem Y1 {k : Nat} {bl : List BlobP} (h : qN k bl) (x : List UInt8) : (kids bl x).length ≤ k := by
 unfold kids
 cases hf : bl.findIdx? (fun b => b.dig == x) with
 | none => exact Nat.zero_le _
 | some i =>
  have hi : i < bl.length := (List.findIdx?_eq_some_iff_getElem.1 hf).1
  simp only [List.getElem?_eq_getElem hi, List.length_map]
  exact h _ (List.getElem_mem hi)
theorem qN.eqM {k : Nat} {l m : List BlobP} (h : qN k l) (e : EqM l m) : qN k m := fun b hb => by
 obtain ⟨b', hb', _, e2, _⟩ := e.symm.mem hb
 rw [← e2]; exact h b' hb'
theorem xK {k : Nat} {s : StoP} {c : ColP} (hk : qN k s.blobs) (h : (ze s c).2.phase = 1) : k * unm (ze s c).1.blobs + (ze s c).2.grey.length + 1 ≤ k * unm s.blobs + c.grey.length := by
 rcases zO s c with ⟨_, e⟩ | ⟨d, rest, hc, _, e⟩ | ⟨d, rest, i, hi, hc, _, _, _, e⟩ | ⟨d, rest, i, hi, hc, _, hd, hm, e⟩
 ·rw [e] at h; cases h
 ·rw [e, hc]; simp only [List.length_cons]; omega
 ·rw [e, hc]; simp only [List.length_cons]; omega
 ·rw [e, hc]
  have h1 := kY (p := fun b => !b.mark) (y := { s.blobs[i] with mark := true }) hi (by simp [hm]) (by simp)
  have h2 := jo (rest ++ kids s.blobs d)
  have h3 := Y1 hk d
  rw [List.length_append] at h2
  show k * unm (s.blobs.set i _) + (uni (rest ++ kids s.blobs d)).length + 1 ≤ k * unm s.blobs + (d :: rest).length
  have h4 : unm s.blobs = unm (s.blobs.set i { s.blobs[i] with mark := true }) + 1 := by unfold unm; exact h1.symm
  rw [h4, Nat.mul_add, Nat.mul_one, List.length_cons]
  omega
theorem yS (s : StoP) (c : ColP) : (ze s c).2.phase = 1 ∨ (ze s c).2 = ⟨2, [], []⟩ := by
 rcases zO s c with ⟨_, e⟩ | ⟨_, _, _, _, e⟩ | ⟨_, _, _, _, _, _, _, _, e⟩ | ⟨_, _, _, _, _, _, _, _, e⟩
 ·rw [e]; exact .inr rfl
 ·rw [e]; exact .inl rfl
 ·rw [e]; exact .inl rfl
 ·rw [e]; exact .inl rfl
theorem uo (s : StoP) (c : ColP) : (ze s c).1.blobs.length = s.blobs.length := (zI s c).1.len.symm
def ahead (a : List UInt8) (bl : List BlobP) : Nat := (bl.filter (fun b => Op.bytesLess a b.dig)).length
theorem KZ (a : List UInt8) (bl : List BlobP) : ahead a bl ≤ bl.length := List.length_filter_le _ _
theorem ki {a : List UInt8} {bl : List BlobP} {i : Nat} (hi : i < bl.length) (h : Op.bytesLess a bl[i].dig = true) : ahead bl[i].dig bl + 1 ≤ ahead a bl := by
 refine kK bl (fun x _ hx => qf h hx) ⟨bl[i], List.getElem_mem hi, qO _, h⟩
theorem uc (a : List UInt8) (bl : List BlobP) (i : Nat) : ahead a (bl.eraseIdx i) ≤ ahead a bl := ((List.eraseIdx_sublist bl i).filter _).length_le
theorem Zm {s : StoP} {c : ColP} (h : (zG s c).2.1.phase ≠ 0) : ahead (zG s c).2.1.at_ (zG s c).1.blobs + 1 ≤ ahead c.at_ s.blobs := by
 rcases zx s c with ⟨_, e⟩ | ⟨i, hi, hf, _, e⟩ | ⟨i, hi, hf, _, e⟩
 ·rw [e] at h; exact absurd rfl h
 ·rw [e]
  exact ki hi (List.findIdx?_eq_some_iff_getElem.1 hf).2.1
 ·rw [e]
  have h1 := ki hi (List.findIdx?_eq_some_iff_getElem.1 hf).2.1
  have h2 := uc s.blobs[i].dig s.blobs i
  show ahead s.blobs[i].dig (s.blobs.eraseIdx i) + 1 ≤ _
  omega
theorem jR (s : StoP) (c : ColP) : (zG s c).2.1.phase = 2 ∨ (zG s c).2.1 = ⟨0, [], []⟩ := by
 rcases zx s c with ⟨_, e⟩ | ⟨_, _, _, _, e⟩ | ⟨_, _, _, _, e⟩
 ·rw [e]; exact .inr rfl
 ·rw [e]; exact .inl rfl
 ·rw [e]; exact .inl rfl
def q8 (k : Nat) (s : StoP) (c : ColP) : Nat :=
 if c.phase = 1 then k * unm s.blobs + c.grey.length + s.blobs.length + 2 else if c.phase = 2 then ahead c.at_ s.blobs + 1 else 0
theorem qC {k : Nat} {s : StoP} {c : ColP} (hk : qN k s.blobs) (hp : c.phase = 1 ∨ c.phase = 2) : q8 k (zm s c).1 (zm s c).2.1 + 1 ≤ q8 k s c := by
 unfold zm
 rcases hp with hp | hp
 ·rw [if_pos hp]
  show q8 k (ze s c).1 (ze s c).2 + 1 ≤ _
  have hl := uo s c
  rcases yS s c with h | h
  ·have := xK hk h
   unfold q8
   rw [if_pos h, if_pos hp, hl]; omega
  ·unfold q8
   rw [h, if_neg (by decide), if_pos rfl, if_pos hp]
   have := KZ [] (ze s c).1.blobs
   rw [hl] at this
   show ahead [] _ + 1 + 1 ≤ _
   omega
 ·rw [if_neg (by omega)]
  rcases jR s c with h | h
  ·have := Zm (s := s) (c := c) (by omega)
   unfold q8
   rw [if_neg (by omega), if_pos h, if_neg (by omega), if_pos hp]; omega
  ·unfold q8
   rw [h, if_neg (by decide), if_neg (by decide), if_neg (by omega), if_pos hp]; omega
theorem yf {s : StoP} {c : ColP} (hg : GoodS s) (hc : GoodC s c) (hp : c.phase = 1 ∨ c.phase = 2) : GoodS (zm s c).1 ∧ GoodC (zm s c).1 (zm s c).2.1 ∧ Rch (zm s c).1.blobs (rts (zm s c).1) = Rch s.blobs (rts s) ∧ (zm s c).1.ents = s.ents ∧ (zm s c).1.room = s.room ∧ (zm s c).1.clock = s.clock := by
 unfold zm
 rcases hp with hp | hp
 ·rw [if_pos hp]
  have e := (zI s c).2
  refine ⟨xX c hg, xz hg hp hc, Ko s c, ?_, ?_, ?_⟩ <;> (show _ = _; rw [e])
 ·rw [if_neg (by omega)]
  exact Zx hg hp hc
structure OnlyC (s : StoP) (c : ColP) : Prop where
 mb : ∀ b ∈ s.blobs, b.mark = true → Rch s.blobs (rts s) b.dig
 gr : ∀ x ∈ c.grey, InB s.blobs x → Rch s.blobs (rts s) x
 sw : c.phase = 2 → ∀ b ∈ s.blobs, Op.bytesLess c.at_ b.dig = false → b.mark = true
 en : c.phase = 0 → ∀ b ∈ s.blobs, b.mark = true
theorem Yl {s : StoP} (hg : GoodS s) : OnlyC (qi s) (qE s) := by
 refine ⟨fun b hb hm => ?_, fun x hx hb => .root ?_ hb, fun h => (by cases h), fun h => by cases h⟩
 ·obtain ⟨a, _, rfl⟩ := List.mem_map.1 hb
  cases hm
 ·rw [ZT]; exact k9.1 hx
theorem ju {x : List UInt8} (h : x ≠ []) : Op.bytesLess [] x = true := by
 cases x with
 | nil => exact absurd rfl h
 | cons a x => rw [jn]; exact decide_eq_true (List.nil_lt_cons a x)
theorem ZE {s : StoP} {c : ColP} (hg : GoodS s) (h : OnlyC s c) : OnlyC (ze s c).1 (ze s c).2 := by
 have hdig : ∀ b ∈ s.blobs, b.dig ≠ [] := fun b hb e => by
  have h1 := zZ (zu b.data)
  rw [← (hg.b.one b hb).1, e] at h1
  cases h1
 rcases zO s c with ⟨_, e⟩ | ⟨d, rest, hc, _, e⟩ | ⟨d, rest, i, hi, hc, _, _, _, e⟩ | ⟨d, rest, i, hi, hc, hf, hd, hm, e⟩
 ·rw [e]
  exact ⟨h.mb, (fun x hx => by cases hx), fun _ b hb hl => absurd (ju (hdig b hb)) (by rw [hl]; decide), fun h => by cases h⟩
 ·rw [e]
  exact ⟨h.mb, fun x hx => h.gr x (by rw [hc]; exact List.mem_cons_of_mem _ hx), fun h => (by cases h), fun h => by cases h⟩
 ·rw [e]
  exact ⟨h.mb, fun x hx => h.gr x (by rw [hc]; exact List.mem_cons_of_mem _ hx), fun h => (by cases h), fun h => by cases h⟩
 ·have hE : EqM s.blobs (s.blobs.set i { s.blobs[i] with mark := true }) := ja hi true
  have hR : Rch (s.blobs.set i { s.blobs[i] with mark := true }) (rts { s with blobs := s.blobs.set i { s.blobs[i] with mark := true } }) = Rch s.blobs (rts s) := by rw [xj hE]; exact jh hE
  have hdr : Rch s.blobs (rts s) d := h.gr d (by rw [hc]; exact List.mem_cons_self ..) ⟨_, List.getElem_mem hi, hd⟩
  rw [e]
  refine ⟨fun b hb hmb => ?_, fun x hx hbx => ?_, fun h => (by cases h), fun h => by cases h⟩
  ·show Rch (s.blobs.set i _) (rts _) _
   rw [hR]
   rcases List.mem_or_eq_of_mem_set hb with h2 | h2
   ·exact h.mb b h2 hmb
   ·subst h2; show Rch _ _ s.blobs[i].dig; rw [hd]; exact hdr
  ·show Rch (s.blobs.set i _) (rts _) _
   rw [hR]
   have hbx' := (yk hE).1 hbx
   rcases List.mem_append.1 (k9.1 hx) with h2 | h2
   ·exact h.gr x (by rw [hc]; exact List.mem_cons_of_mem _ h2) hbx'
   ·exact .step hdr h2 hbx'
end Go.Proofs.YtngfnjekjfeacaaGreat
namespace Go.Proofs.YtngfnjekjfeacaaGreat
open Go.RowKit
set_option linter.unusedVariables false
set_option linter.unusedSimpArgs false
def Yj : Nat → StoP → ColP → StoP × List (List UInt8)
 | 0, s, _ => (s, [])
 | n + 1, s, c => if c.phase = 0 then (s, []) else
   ((Yj n (zm s c).1 (zm s c).2.1).1, (if (zm s c).2.2 = [] then [] else [(zm s c).2.2]) ++ (Yj n (zm s c).1 (zm s c).2.1).2)
def kx (s : StoP) (c : ColP) : StoP × List (List UInt8) := Yj (q8 8 s c) s c
theorem K6 (s : StoP) (c : ColP) : (zm s c).2.1.phase ≤ 2 := by
 unfold zm
 split
 ·rcases yS s c with h | h
  ·show (ze s c).2.phase ≤ 2; omega
  ·show (ze s c).2.phase ≤ 2; rw [h]; exact Nat.le_refl _
 ·rcases jR s c with h | h
  ·omega
  ·rw [h]; exact Nat.zero_le _
theorem xw {s : StoP} {c : ColP} (h : c.phase = 0) : ∀ n, Yj n s c = (s, [])
 | 0 => rfl
 | n + 1 => by unfold Yj; rw [if_pos h]
theorem uE : ∀ (n m : Nat) (s : StoP) (c : ColP), c.phase ≤ 2 → q8 8 s c ≤ n → q8 8 s c ≤ m → Yj n s c = Yj m s c
 | n, m, s, c, hp, hn, hm => by
  by_cases h0 : c.phase = 0
  ·rw [xw h0, xw h0]
  ·have hl := qC (k := 8) (c := c) (kj s.blobs) (by omega)
   obtain ⟨n, rfl⟩ : ∃ k, n = k + 1 := ⟨n - 1, by omega⟩
   obtain ⟨m, rfl⟩ : ∃ k, m = k + 1 := ⟨m - 1, by omega⟩
   unfold Yj
   rw [if_neg h0, if_neg h0, uE n m _ _ (K6 s c) (by omega) (by omega)]
theorem xl {s : StoP} {c : ColP} (h : c.phase = 0) : kx s c = (s, []) := xw h _
theorem qS {s : StoP} {c : ColP} (h : c.phase = 1 ∨ c.phase = 2) : kx s c = ((kx (zm s c).1 (zm s c).2.1).1, (if (zm s c).2.2 = [] then [] else [(zm s c).2.2]) ++ (kx (zm s c).1 (zm s c).2.1).2) := by
 have hl := qC (k := 8) (c := c) (kj s.blobs) h
 obtain ⟨n, hn⟩ : ∃ k, q8 8 s c = k + 1 := ⟨q8 8 s c - 1, by omega⟩
 unfold kx
 rw [hn]
 conv => lhs; unfold Yj
 rw [if_neg (by omega), uE n _ _ _ (K6 s c) (by omega) (Nat.le_refl _)]
theorem xm : ∀ (k : Nat) (s : StoP) (c : ColP), RisesBy (·.dig) s.blobs → (∀ b ∈ s.blobs, b.dig ≠ []) → c.phase = 2 → ahead c.at_ s.blobs ≤ k →
  kx s c = ({ s with blobs := s.blobs.filter (fun b => b.mark || !Op.bytesLess c.at_ b.dig) }, (s.blobs.filter (fun b => Op.bytesLess c.at_ b.dig && !b.mark)).map (·.dig))
 | k, s, c, hr, hne, hp, hk => by
  have hT : zm s c = zG s c := by unfold zm; rw [if_neg (by omega)]
  rw [qS (.inr hp), hT]
  rcases zx s c with ⟨hf, e⟩ | ⟨i, hi, hf, hm, e⟩ | ⟨i, hi, hf, hm, e⟩
  ·rw [e, xl rfl]
   have hn := List.findIdx?_eq_none_iff.1 hf
   have h1 : s.blobs.filter (fun b => b.mark || !Op.bytesLess c.at_ b.dig) = s.blobs := List.filter_eq_self.2 fun b hb => by
    have h3 := hn b hb; rw [h3]; cases b.mark <;> rfl
   have h2 : s.blobs.filter (fun b => Op.bytesLess c.at_ b.dig && !b.mark) = [] := List.filter_eq_nil_iff.2 fun b hb => by
    have h3 := hn b hb; rw [h3]; simp
   rw [h1, h2]; rfl
  all_goals
   have hat := (List.findIdx?_eq_some_iff_getElem.1 hf).2.1
   have hlo := (List.findIdx?_eq_some_iff_getElem.1 hf).2.2
   have hdec : s.blobs = s.blobs.take i ++ s.blobs[i] :: s.blobs.drop (i + 1) := by rw [← List.drop_eq_getElem_cons hi, List.take_append_drop]
   have hL1 : ∀ b ∈ s.blobs.take i, Op.bytesLess c.at_ b.dig = false ∧ Op.bytesLess s.blobs[i].dig b.dig = false := fun b hb => by
    obtain ⟨j, hj, rfl⟩ := List.mem_iff_getElem.1 hb
    rw [List.length_take] at hj
    rw [List.getElem_take]
    have h3 := hlo j (by omega)
    refine ⟨by simpa using h3, ?_⟩
    cases h4 : Op.bytesLess s.blobs[i].dig s.blobs[j].dig with
    | false => rfl
    | true => exact absurd (qf hat h4) h3
   have hL2 : ∀ b ∈ s.blobs.drop (i + 1), Op.bytesLess c.at_ b.dig = true ∧ Op.bytesLess s.blobs[i].dig b.dig = true := fun b hb => by
    obtain ⟨j, hj, rfl⟩ := List.mem_iff_getElem.1 hb
    rw [List.length_drop] at hj
    rw [List.getElem_drop]
    have h4 : Op.bytesLess s.blobs[i].dig (s.blobs[i + 1 + j]'(by omega)).dig = true := List.pairwise_iff_getElem.1 hr i (i + 1 + j) hi (by omega) (by omega)
    exact ⟨qf hat h4, h4⟩
   have hirr : Op.bytesLess s.blobs[i].dig s.blobs[i].dig = false := qO _
  ·have hk1 : 1 ≤ k := by have := ki hi hat; omega
   have ih := xm (k - 1) s ⟨2, [], s.blobs[i].dig⟩ hr hne rfl (by
    have := ki hi hat; show ahead s.blobs[i].dig s.blobs ≤ _; omega)
   rw [e]
   show ((kx s ⟨2, [], s.blobs[i].dig⟩).1, (if ([] : List UInt8) = [] then [] else [[]]) ++ (kx s ⟨2, [], s.blobs[i].dig⟩).2) = _
   rw [ih, if_pos rfl, List.nil_append]
   generalize hbi : s.blobs[i] = q at *
   generalize hA : s.blobs.take i = L1 at *
   generalize hB : s.blobs.drop (i + 1) = L2 at *
   simp only [hdec]
   have f1 : ∀ b ∈ L1 ++ q :: L2, (b.mark || !Op.bytesLess q.dig b.dig) = (b.mark || !Op.bytesLess c.at_ b.dig) := fun b hb => by
    rcases List.mem_append.1 hb with h | h
    ·rw [(hL1 b h).1, (hL1 b h).2]
    ·rcases List.mem_cons.1 h with h | h
     ·subst h; rw [hm]; rfl
     ·rw [(hL2 b h).1, (hL2 b h).2]
   have f2 : ∀ b ∈ L1 ++ q :: L2, (Op.bytesLess q.dig b.dig && !b.mark) = (Op.bytesLess c.at_ b.dig && !b.mark) := fun b hb => by
    rcases List.mem_append.1 hb with h | h
    ·rw [(hL1 b h).1, (hL1 b h).2]
    ·rcases List.mem_cons.1 h with h | h
     ·subst h; rw [hm]; simp
     ·rw [(hL2 b h).1, (hL2 b h).2]
   rw [List.filter_congr f1, List.filter_congr f2]
  ·have hk1 : 1 ≤ k := by have := ki hi hat; omega
   have hrl := qI hr i
   have ih := xm (k - 1) { s with blobs := s.blobs.eraseIdx i } ⟨2, [], s.blobs[i].dig⟩ hrl (fun b hb => hne b (qU _ _ b hb)) rfl (by
    have := ki hi hat; have := uc s.blobs[i].dig s.blobs i; show ahead s.blobs[i].dig (s.blobs.eraseIdx i) ≤ _; omega)
   have hn0 := hne _ (List.getElem_mem hi)
   rw [e]
   show ((kx { s with blobs := s.blobs.eraseIdx i } ⟨2, [], s.blobs[i].dig⟩).1, (if s.blobs[i].dig = [] then [] else [s.blobs[i].dig]) ++ (kx { s with blobs := s.blobs.eraseIdx i } ⟨2, [], s.blobs[i].dig⟩).2) = _
   rw [ih, if_neg hn0]
   have hers : s.blobs.eraseIdx i = s.blobs.take i ++ s.blobs.drop (i + 1) := List.eraseIdx_eq_take_drop_succ ..
   simp only [hers]
   clear ih hrl hne hk hers e
   generalize hbi : s.blobs[i] = q at *
   generalize hA : s.blobs.take i = L1 at *
   generalize hB : s.blobs.drop (i + 1) = L2 at *
   simp only [hdec, List.filter_append, List.filter_cons, List.map_append]
   have g1 : L1.filter (fun b => b.mark || !Op.bytesLess q.dig b.dig) = L1.filter (fun b => b.mark || !Op.bytesLess c.at_ b.dig) := List.filter_congr fun b hb => by rw [(hL1 b hb).1, (hL1 b hb).2]
   have g2 : L2.filter (fun b => b.mark || !Op.bytesLess q.dig b.dig) = L2.filter (fun b => b.mark || !Op.bytesLess c.at_ b.dig) := List.filter_congr fun b hb => by rw [(hL2 b hb).1, (hL2 b hb).2]
   have g3 : L1.filter (fun b => Op.bytesLess q.dig b.dig && !b.mark) = [] := List.filter_eq_nil_iff.2 fun b hb => by rw [(hL1 b hb).2]; simp
   have g4 : L1.filter (fun b => Op.bytesLess c.at_ b.dig && !b.mark) = [] := List.filter_eq_nil_iff.2 fun b hb => by rw [(hL1 b hb).1]; simp
   have g5 : L2.filter (fun b => Op.bytesLess q.dig b.dig && !b.mark) = L2.filter (fun b => Op.bytesLess c.at_ b.dig && !b.mark) := List.filter_congr fun b hb => by rw [(hL2 b hb).1, (hL2 b hb).2]
   rw [g1, g2, g3, g4, g5, hm, hat]
   rfl
termination_by k => k
decreasing_by all_goals omega
theorem jA : ∀ (k : Nat) (s : StoP) (c : ColP), GoodS s → GoodC s c → OnlyC s c → c.phase = 1 → q8 8 s c ≤ k →
  ∃ m, EqM s.blobs m ∧ GoodS { s with blobs := m } ∧ GoodC { s with blobs := m } ⟨2, [], []⟩ ∧ OnlyC { s with blobs := m } ⟨2, [], []⟩ ∧ kx s c = kx { s with blobs := m } ⟨2, [], []⟩
 | k, s, c, hg, hc, ho, hp, hk => by
  have hT : zm s c = ((ze s c).1, (ze s c).2, []) := by unfold zm; rw [if_pos hp]
  have hl := qC (k := 8) (kj s.blobs) (.inl hp : c.phase = 1 ∨ c.phase = 2)
  have he : kx s c = kx (ze s c).1 (ze s c).2 := by
   rw [qS (.inl hp), hT]
   show ((kx (ze s c).1 (ze s c).2).1, (if ([] : List UInt8) = [] then [] else [[]]) ++ (kx (ze s c).1 (ze s c).2).2) = _
   rw [if_pos rfl, List.nil_append]
  rw [hT] at hl
  have h1 := xX c hg
  have h2 := xz hg hp hc
  have h3 := ZE hg ho
  have h4 := zI s c
  rcases yS s c with h | h
  ·have hk1 : 1 ≤ k := by omega
   obtain ⟨m, m1, m2, m3, m4, m5⟩ := jA (k - 1) (ze s c).1 (ze s c).2 h1 h2 h3 h (by
    have : q8 8 (ze s c).1 (ze s c).2 + 1 ≤ q8 8 s c := hl
    omega)
   have e : { (ze s c).1 with blobs := m } = { s with blobs := m } := by rw [h4.2]
   rw [e] at m2 m3 m4 m5
   exact ⟨m, h4.1.trans m1, m2, m3, m4, he.trans m5⟩
  ·rw [h] at h2 h3 he
   rw [h4.2] at h1 h2 h3 he
   exact ⟨_, h4.1, h1, h2, h3, he⟩
termination_by k => k
decreasing_by all_goals omega
theorem yp {p q : BlobP → Bool} : ∀ {l m : List BlobP}, EqM l m → (∀ b ∈ l, ∀ b' ∈ m, b'.dig = b.dig → q b' = p b) → EqM (l.filter p) (m.filter q)
 | [], [], _, _ => rfl
 | [], b :: m, h, _ => by cases h
 | a :: l, [], h, _ => by cases h
 | a :: l, b :: m, h, hpq => by
  obtain ⟨h1, h2⟩ := h.cons
  have ih := yp h2 (fun x hx y hy => hpq x (List.mem_cons_of_mem _ hx) y (List.mem_cons_of_mem _ hy))
  have e := hpq a (List.mem_cons_self ..) b (List.mem_cons_self ..) h1.1
  rw [List.filter_cons, List.filter_cons, e]
  split
  ·show _ :: _ = _ :: _
   rw [show NoM a = NoM b from by unfold NoM; rw [h1.1, h1.2.1, h1.2.2], show (l.filter p).map NoM = (m.filter q).map NoM from ih]
  ·exact ih
theorem Y3 {l m : List BlobP} (h : EqM l m) : m.map (·.dig) = l.map (·.dig) := by
 have h3 := congrArg (List.map Prod.fst) h
 simp only [List.map_map] at h3
 exact h3.symm
theorem ZL {s : StoP} (hg : GoodS s) : ∀ b ∈ s.blobs, b.dig ≠ [] := fun b hb e => by
 have h1 := zZ (zu b.data)
 rw [← (hg.b.one b hb).1, e] at h1
 cases h1
theorem XX {s : StoP} (hg : GoodS s) {L : List (List UInt8)} (hL : StrL L (Rch s.blobs (rts s))) :
  ∃ m, EqM (cln s).blobs m ∧ GoodS { s with blobs := m } ∧ kx (qi s) (qE s) = ({ s with blobs := m }, (s.blobs.filter (fun b => !decide (b.dig ∈ L))).map (·.dig)) := by
 obtain ⟨m, m1, m2, m3, m4, m5⟩ := jA _ (qi s) (qE s) (kW hg) (kX hg) (Yl hg) rfl (Nat.le_refl _)
 have hE : EqM s.blobs m := (qF s.blobs).trans m1
 have hmk : ∀ b ∈ m, b.mark = true ↔ Rch s.blobs (rts s) b.dig := fun b hb => by
  have hR : Rch m (rts { qi s with blobs := m }) = Rch s.blobs (rts s) := by
   rw [show rts { qi s with blobs := m } = rts s from xj hE, jh hE]
  refine ⟨fun h => by rw [← hR]; exact m4.mb b hb h, fun h => ?_⟩
  obtain ⟨b', hb', hm, e⟩ := yw.1 (m3.sw rfl _ (by show Rch m (rts { qi s with blobs := m }) _; rw [hR]; exact h))
  have := m2.b.ris.inj hb' hb e
  subst this; exact hm
 have hne := ZL m2
 have hsw := xm _ { qi s with blobs := m } ⟨2, [], []⟩ m2.b.ris hne rfl (Nat.le_refl _)
 have e1 : m.filter (fun b => b.mark || !Op.bytesLess [] b.dig) = m.filter (·.mark) := List.filter_congr fun b hb => by
  rw [ju (hne b hb)]; simp
 have e2 : m.filter (fun b => Op.bytesLess [] b.dig && !b.mark) = m.filter (fun b => !b.mark) := List.filter_congr fun b hb => by
  rw [ju (hne b hb)]; simp
 have hF1 : EqM (cln s).blobs (m.filter (·.mark)) := by
  unfold cln
  refine yp hE fun b hb b' hb' e => ?_
  have := hmk b' hb'
  rw [e] at this
  by_cases h : Rch s.blobs (rts s) b.dig
  ·rw [this.2 h]; exact (@decide_eq_true _ (Classical.propDecidable _) h).symm
  ·rw [@decide_eq_false _ (Classical.propDecidable _) h]
   cases hm : b'.mark with
   | false => rfl
   | true => exact absurd (this.1 hm) h
 have hF2 : (m.filter (fun b => !b.mark)).map (·.dig) = (s.blobs.filter (fun b => !decide (b.dig ∈ L))).map (·.dig) := by
  refine Y3 (yp hE fun b hb b' hb' e => ?_)
  have h1 := hmk b' hb'
  have h2 := hL.mem b.dig
  rw [e] at h1
  by_cases h : Rch s.blobs (rts s) b.dig
  ·rw [h1.2 h, decide_eq_true (h2.2 h)]
  ·rw [decide_eq_false (fun h3 => h (h2.1 h3))]
   cases hm : b'.mark with
   | false => rfl
   | true => exact absurd (h1.1 hm) h
 refine ⟨m.filter (·.mark), hF1, ?_, ?_⟩
 ·exact vP (s := cln s) hF1 (vL hg)
 ·rw [m5, hsw]
  show ({ s with blobs := m.filter (fun b => b.mark || !Op.bytesLess [] b.dig) }, (m.filter (fun b => Op.bytesLess [] b.dig && !b.mark)).map (·.dig)) = _
  rw [e1, e2, hF2]
theorem jJ : ∀ (k : Nat) (s : StoP) (c : ColP), GoodS s → GoodC s c → q8 8 s c ≤ k →
  GoodS (kx s c).1 ∧ Rch (kx s c).1.blobs (rts (kx s c).1) = Rch s.blobs (rts s) ∧ (kx s c).1.ents = s.ents ∧ (kx s c).1.room = s.room ∧ (kx s c).1.clock = s.clock
 | k, s, c, hg, hc, hk => by
  by_cases h0 : c.phase = 0
  ·rw [xl h0]; exact ⟨hg, rfl, rfl, rfl, rfl⟩
  ·have hp : c.phase = 1 ∨ c.phase = 2 := by have := hc.ph; omega
   have hl := qC (k := 8) (kj s.blobs) hp
   obtain ⟨h1, h2, h3, h4, h5, h6⟩ := yf hg hc hp
   have hk1 : 1 ≤ k := by omega
   obtain ⟨k1, k2, k3, k4, k5⟩ := jJ (k - 1) (zm s c).1 (zm s c).2.1 h1 h2 (by omega)
   rw [qS hp]
   exact ⟨k1, k2.trans h3, k3.trans h4, k4.trans h5, k5.trans h6⟩
termination_by k => k
decreasing_by all_goals omega
end Go.Proofs.YtngfnjekjfeacaaGreat
